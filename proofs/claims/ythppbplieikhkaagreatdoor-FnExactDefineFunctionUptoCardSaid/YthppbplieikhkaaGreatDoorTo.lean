/-
  The laws' own functions: to.
-/
import Derived.Test.YthppbplieikhkaaGreatDoorTypes
import Derived.Test.YthppbplieikhkaaGreatDoorCode
set_option linter.unusedVariables false
set_option linter.unusedSimpArgs false
namespace Go.Vx.DfZ
set_option linter.unusedVariables false
set_option linter.unusedSimpArgs false
set_option maxRecDepth 4000
set_option maxHeartbeats 4000000
theorem zpb {R : Type} (e : En R) (sto : List (List D)) (k : List Fr) : ∀ (rest pre : List ByteArray) (i : Int), i = pre.length → pre.length + rest.length ≤ 1048576 → lsum ByteArray.size rest ≤ 1048576 →
  go T e zkq (.lp zmB :: .bl 0 :: .sq (.clr [2,4,5,6,7,8,9,10,11,12,13,14,15,16,17,18,19,20]) :: k) ⟨[.d (.sl false 1 (pre.map D.str ++ rest.map D.str)), Z, Z, .d (.sl true 1 (pre.map D.str ++ zdf (.str .empty) rest.length)), .d (.int .i64 i), Z, Z, Z, Z, Z, Z, Z, Z, Z, Z, Z, Z, Z, Z, Z, Z, Z], sto⟩ = bk T e k ⟨[.d (.sl false 1 (pre.map D.str ++ rest.map D.str)), Z, Z, .d (.sl true 1 (pre.map D.str ++ rest.map D.str)), Z, Z, Z, Z, Z, Z, Z, Z, Z, Z, Z, Z, Z, Z, Z, Z, Z, Z], sto⟩ := by
 intro rest
 induction rest with
 | nil =>
  intro pre i hi h1 h2
  have ht : i.toNat = pre.length := by omega
  unfold zkq
  simp (maxSteps := 9999999) (disch := omega) only [vx, px, ty, ↓reduceIte, seval, fx, zts]
 | cons x rest ih =>
  intro pre i hi h1 h2
  have ht : i.toNat = pre.length := by omega
  rw [zao] at h2
  rw [List.length_cons] at h1
  unfold zkq
  simp (maxSteps := 9999999) (disch := omega) only [vx, px, ty, ↓reduceIte, seval, fx, zts, ht, List.map_cons, ifT]
  have h := ih (pre ++ [x]) (i + 1) (by simp; omega) (by simp; omega) (by omega)
  simp only [zbl] at h
  exact h
theorem zkv (xs : List ByteArray) (sto : List (List D)) (h : xs.length ≤ 1048576) (h2 : lsum ByteArray.size xs ≤ 1048576) : zab T 109 [.sl false 1 (xs.map D.str)] sto = some (.sl true 1 (xs.map D.str), [], sto) := by
 have hm : xs.length ≤ xs.length ∧ xs.length ≤ most := ⟨Nat.le_refl _, by unfold most; omega⟩
 rw [zae T (g := v109) rfl rfl rfl _ _ rfl]
 simp (maxSteps := 9999999) (disch := omega) only [vx, px, ty, ↓reduceIte, seval, fx, v109, zvv, zts, hm, ifT]
 have hl := fun k => zpb (enF [.tmp 2] []) sto k xs [] 0 rfl (by simp; omega) h2
 simp only [List.map_nil, List.nil_append] at hl
 rw [hl]
 simp (maxSteps := 9999999) (disch := omega) only [vx, px, ty, ↓reduceIte, seval, fx]
theorem zty (x : TValue) (sto : List (List D)) (h : TValue.n x ≤ 1048576) : zab T 108 [D.agg [D.int .i64 x.Kind, D.int .i64 x.Num, D.str x.Text, D.int .i64 x.Ref]] sto = some (D.agg [D.int .i64 x.Kind, D.int .i64 x.Num, D.str x.Text, D.int .i64 x.Ref], [], sto) := by
 simp only [TValue.n] at h
 rw [zae T (g := v108) rfl rfl rfl _ _ rfl]
 simp (maxSteps := 9999999) (disch := omega) only [vx, px, ty, ↓reduceIte, seval, fx, v108, zvu]
theorem zpc (x : TBinding) (sto : List (List D)) (h : TBinding.n x ≤ 1048576) : zab T 65 [D.agg [D.str x.Name, D.int .i64 x.Value.Kind, D.int .i64 x.Value.Num, D.str x.Value.Text, D.int .i64 x.Value.Ref]] sto = some (D.agg [D.str x.Name, D.int .i64 x.Value.Kind, D.int .i64 x.Value.Num, D.str x.Value.Text, D.int .i64 x.Value.Ref], [], sto) := by
 simp only [TBinding.n] at h
 rw [zae T (g := v65) rfl rfl rfl _ _ rfl]
 simp (maxSteps := 9999999) (disch := omega) only [vx, px, ty, ↓reduceIte, seval, fx, v65, zyI, zty]
theorem zoe {R : Type} (e : En R) (sto : List (List D)) (k : List Fr) : ∀ (rest pre : List TBinding) (i : Int), i = pre.length → pre.length + rest.length ≤ 1048576 → lsum TBinding.n rest ≤ 1048576 →
  go T e znM (.lp zqg :: .bl 0 :: .sq (.clr [2,4,5,6,7,8,9,10,11,12,13,14,15,16,17,18,19,20,21]) :: k) ⟨[.d (.sl false 5 (pre.map (TBinding.e false) ++ rest.map (TBinding.e false))), Z, Z, .d (.sl true 5 (pre.map (TBinding.e false) ++ zdf (.agg [.str .empty, .int .i64 0, .int .i64 0, .str .empty, .int .i64 0]) rest.length)), .d (.int .i64 i), Z, Z, Z, Z, Z, Z, Z, Z, Z, Z, Z, Z, Z, Z, Z, Z, Z, Z], sto⟩ = bk T e k ⟨[.d (.sl false 5 (pre.map (TBinding.e false) ++ rest.map (TBinding.e false))), Z, Z, .d (.sl true 5 (pre.map (TBinding.e false) ++ rest.map (TBinding.e false))), Z, Z, Z, Z, Z, Z, Z, Z, Z, Z, Z, Z, Z, Z, Z, Z, Z, Z, Z], sto⟩ := by
 intro rest
 induction rest with
 | nil =>
  intro pre i hi h1 h2
  have ht : i.toNat = pre.length := by omega
  unfold znM
  simp (maxSteps := 9999999) (disch := omega) only [vx, px, ty, ↓reduceIte, seval, fx, zwz]
 | cons x rest ih =>
  intro pre i hi h1 h2
  have ht : i.toNat = pre.length := by omega
  rw [zao] at h2
  rw [List.length_cons] at h1
  unfold znM
  simp (maxSteps := 9999999) (disch := omega) only [vx, px, ty, ↓reduceIte, seval, fx, zwz, ht, List.map_cons, ifT, zpc]
  have h := ih (pre ++ [x]) (i + 1) (by simp; omega) (by simp; omega) (by omega)
  simp only [zbl] at h
  exact h
theorem zof (xs : List TBinding) (sto : List (List D)) (h : xs.length ≤ 1048576) (h2 : lsum TBinding.n xs ≤ 1048576) : zab T 27 [.sl false 5 (xs.map (TBinding.e false))] sto = some (.sl true 5 (xs.map (TBinding.e false)), [], sto) := by
 have hm : xs.length ≤ xs.length ∧ xs.length ≤ most := ⟨Nat.le_refl _, by unfold most; omega⟩
 rw [zae T (g := v27) rfl rfl rfl _ _ rfl]
 simp (maxSteps := 9999999) (disch := omega) only [vx, px, ty, ↓reduceIte, seval, fx, v27, zyf, zwz, hm, ifT]
 have hl := fun k => zoe (enF [.tmp 2] []) sto k xs [] 0 rfl (by simp; omega) h2
 simp only [List.map_nil, List.nil_append] at hl
 rw [hl]
 simp (maxSteps := 9999999) (disch := omega) only [vx, px, ty, ↓reduceIte, seval, fx]
theorem zog (x : TFunction) (sto : List (List D)) (h : TFunction.n x ≤ 1048576) : zab T 66 [D.agg [D.str x.Name, D.sl false 1 (List.map D.str x.Params), D.sl false 1 (List.map D.str x.Locals), D.str x.Label]] sto = some (D.agg [D.str x.Name, D.sl true 1 (List.map D.str x.Params), D.sl true 1 (List.map D.str x.Locals), D.str x.Label], [], sto) := by
 simp only [TFunction.n] at h
 rw [zae T (g := v66) rfl rfl rfl _ _ rfl]
 simp (maxSteps := 9999999) (disch := omega) only [vx, px, ty, ↓reduceIte, seval, fx, v66, zyJ, zkv]
theorem zmL {R : Type} (e : En R) (sto : List (List D)) (k : List Fr) : ∀ (rest pre : List TFunction) (i : Int), i = pre.length → pre.length + rest.length ≤ 1048576 → lsum TFunction.n rest ≤ 1048576 →
  go T e znN (.lp zqh :: .bl 0 :: .sq (.clr [2,4,5,6,7,8,9,10,11,12,13,14,15,16,17,18,19,20,21]) :: k) ⟨[.d (.sl false 4 (pre.map (TFunction.e false) ++ rest.map (TFunction.e false))), Z, Z, .d (.sl true 4 (pre.map (TFunction.e true) ++ zdf (.agg [.str .empty, .sl true 1 [], .sl true 1 [], .str .empty]) rest.length)), .d (.int .i64 i), Z, Z, Z, Z, Z, Z, Z, Z, Z, Z, Z, Z, Z, Z, Z, Z, Z, Z], sto⟩ = bk T e k ⟨[.d (.sl false 4 (pre.map (TFunction.e false) ++ rest.map (TFunction.e false))), Z, Z, .d (.sl true 4 (pre.map (TFunction.e true) ++ rest.map (TFunction.e true))), Z, Z, Z, Z, Z, Z, Z, Z, Z, Z, Z, Z, Z, Z, Z, Z, Z, Z, Z], sto⟩ := by
 intro rest
 induction rest with
 | nil =>
  intro pre i hi h1 h2
  have ht : i.toNat = pre.length := by omega
  unfold znN
  simp (maxSteps := 9999999) (disch := omega) only [vx, px, ty, ↓reduceIte, seval, fx, zwA]
 | cons x rest ih =>
  intro pre i hi h1 h2
  have ht : i.toNat = pre.length := by omega
  rw [zao] at h2
  rw [List.length_cons] at h1
  unfold znN
  simp (maxSteps := 9999999) (disch := omega) only [vx, px, ty, ↓reduceIte, seval, fx, zwA, ht, List.map_cons, ifT, zog]
  have h := ih (pre ++ [x]) (i + 1) (by simp; omega) (by simp; omega) (by omega)
  simp only [zbl] at h
  exact h
theorem zmM (xs : List TFunction) (sto : List (List D)) (h : xs.length ≤ 1048576) (h2 : lsum TFunction.n xs ≤ 1048576) : zab T 28 [.sl false 4 (xs.map (TFunction.e false))] sto = some (.sl true 4 (xs.map (TFunction.e true)), [], sto) := by
 have hm : xs.length ≤ xs.length ∧ xs.length ≤ most := ⟨Nat.le_refl _, by unfold most; omega⟩
 rw [zae T (g := v28) rfl rfl rfl _ _ rfl]
 simp (maxSteps := 9999999) (disch := omega) only [vx, px, ty, ↓reduceIte, seval, fx, v28, zyg, zwA, hm, ifT]
 have hl := fun k => zmL (enF [.tmp 2] []) sto k xs [] 0 rfl (by simp; omega) h2
 simp only [List.map_nil, List.nil_append] at hl
 rw [hl]
 simp (maxSteps := 9999999) (disch := omega) only [vx, px, ty, ↓reduceIte, seval, fx]
theorem zlm (x : TRecordType) (sto : List (List D)) (h : TRecordType.n x ≤ 1048576) : zab T 67 [D.agg [D.str x.Name, D.sl false 1 (List.map D.str x.Fields)]] sto = some (D.agg [D.str x.Name, D.sl true 1 (List.map D.str x.Fields)], [], sto) := by
 simp only [TRecordType.n] at h
 rw [zae T (g := v67) rfl rfl rfl _ _ rfl]
 simp (maxSteps := 9999999) (disch := omega) only [vx, px, ty, ↓reduceIte, seval, fx, v67, zyK, zkv]
theorem zkw {R : Type} (e : En R) (sto : List (List D)) (k : List Fr) : ∀ (rest pre : List TRecordType) (i : Int), i = pre.length → pre.length + rest.length ≤ 1048576 → lsum TRecordType.n rest ≤ 1048576 →
  go T e znO (.lp zqi :: .bl 0 :: .sq (.clr [2,4,5,6,7,8,9,10,11,12,13,14,15,16,17,18,19,20,21]) :: k) ⟨[.d (.sl false 2 (pre.map (TRecordType.e false) ++ rest.map (TRecordType.e false))), Z, Z, .d (.sl true 2 (pre.map (TRecordType.e true) ++ zdf (.agg [.str .empty, .sl true 1 []]) rest.length)), .d (.int .i64 i), Z, Z, Z, Z, Z, Z, Z, Z, Z, Z, Z, Z, Z, Z, Z, Z, Z, Z], sto⟩ = bk T e k ⟨[.d (.sl false 2 (pre.map (TRecordType.e false) ++ rest.map (TRecordType.e false))), Z, Z, .d (.sl true 2 (pre.map (TRecordType.e true) ++ rest.map (TRecordType.e true))), Z, Z, Z, Z, Z, Z, Z, Z, Z, Z, Z, Z, Z, Z, Z, Z, Z, Z, Z], sto⟩ := by
 intro rest
 induction rest with
 | nil =>
  intro pre i hi h1 h2
  have ht : i.toNat = pre.length := by omega
  unfold znO
  simp (maxSteps := 9999999) (disch := omega) only [vx, px, ty, ↓reduceIte, seval, fx, zwB]
 | cons x rest ih =>
  intro pre i hi h1 h2
  have ht : i.toNat = pre.length := by omega
  rw [zao] at h2
  rw [List.length_cons] at h1
  unfold znO
  simp (maxSteps := 9999999) (disch := omega) only [vx, px, ty, ↓reduceIte, seval, fx, zwB, ht, List.map_cons, ifT, zlm]
  have h := ih (pre ++ [x]) (i + 1) (by simp; omega) (by simp; omega) (by omega)
  simp only [zbl] at h
  exact h
theorem zkx (xs : List TRecordType) (sto : List (List D)) (h : xs.length ≤ 1048576) (h2 : lsum TRecordType.n xs ≤ 1048576) : zab T 29 [.sl false 2 (xs.map (TRecordType.e false))] sto = some (.sl true 2 (xs.map (TRecordType.e true)), [], sto) := by
 have hm : xs.length ≤ xs.length ∧ xs.length ≤ most := ⟨Nat.le_refl _, by unfold most; omega⟩
 rw [zae T (g := v29) rfl rfl rfl _ _ rfl]
 simp (maxSteps := 9999999) (disch := omega) only [vx, px, ty, ↓reduceIte, seval, fx, v29, zyh, zwB, hm, ifT]
 have hl := fun k => zkw (enF [.tmp 2] []) sto k xs [] 0 rfl (by simp; omega) h2
 simp only [List.map_nil, List.nil_append] at hl
 rw [hl]
 simp (maxSteps := 9999999) (disch := omega) only [vx, px, ty, ↓reduceIte, seval, fx]
theorem zoh (x : TScope) (sto : List (List D)) (h : TScope.n x ≤ 1048576) : zab T 8 [D.agg [D.sl false 5 (List.map (TBinding.e false) x.Vars), D.sl false 4 (List.map (TFunction.e false) x.Functions), D.sl false 2 (List.map (TRecordType.e false) x.Types)]] sto = some (D.agg [D.sl true 5 (List.map (TBinding.e false) x.Vars), D.sl true 4 (List.map (TFunction.e true) x.Functions), D.sl true 2 (List.map (TRecordType.e true) x.Types)], [], sto) := by
 simp only [TScope.n] at h
 rw [zae T (g := v8) rfl rfl rfl _ _ rfl]
 simp (maxSteps := 9999999) (disch := omega) only [vx, px, ty, ↓reduceIte, seval, fx, v8, v8_b, zof, zmM, zkx]
end Go.Vx.DfZ
