/-
  The laws' own functions: sz.
-/
import Derived.Test.YthppbplieikhkaaGreatDoorTypes
import Derived.Test.YthppbplieikhkaaGreatDoorCode
set_option linter.unusedVariables false
set_option linter.unusedSimpArgs false
namespace Go.Vx.DfZ
set_option linter.unusedVariables false
set_option linter.unusedSimpArgs false
set_option maxRecDepth 4000
set_option maxHeartbeats 4000000
theorem zoZ {R : Type} (e : En R) (sto : List (List D)) (k : List Fr) : ∀ (rest pre : List ByteArray) (i left : Int), i = pre.length → pre.length + rest.length ≤ 1048576 → ((lsum ByteArray.size rest : Nat) : Int) ≤ left → left ≤ 1048576 →
  go T e zkp (.lp zmy :: .bl 0 :: .sq (.clr [4,5,6,7,8,9,10,11,12,13,14,15,16,17,18,19,20,21,22,23,24,25,26]) :: k) ⟨[.d (.sl false 1 (pre.map D.str ++ rest.map D.str)), .d (.int .i64 left), Z, Z, Z, .d (.int .i64 i), Z, Z, Z, Z, Z, Z, Z, Z, Z, Z, Z, Z, Z, Z, Z, Z, Z, Z, Z, Z, Z, Z], sto⟩ = bk T e k ⟨[.d (.sl false 1 (pre.map D.str ++ rest.map D.str)), .d (.int .i64 (left - (lsum ByteArray.size rest : Nat))), Z, Z, Z, Z, Z, Z, Z, Z, Z, Z, Z, Z, Z, Z, Z, Z, Z, Z, Z, Z, Z, Z, Z, Z, Z, Z], sto⟩ := by
 intro rest
 induction rest with
 | nil =>
  intro pre i left hi h1 h2 h3
  have hR : left - ((lsum ByteArray.size ([] : List ByteArray) : Nat) : Int) = left := by simp [zeG]
  have ht : i.toNat = pre.length := by omega
  rw [hR]
  unfold zkp
  simp (maxSteps := 9999999) (disch := omega) only [vx, px, ty, ↓reduceIte, seval, fx, ztr]
 | cons x rest ih =>
  intro pre i left hi h1 h2 h3
  have hR : left - ((lsum ByteArray.size (x :: rest) : Nat) : Int) = left - (ByteArray.size x : Nat) - (lsum ByteArray.size rest : Nat) := by rw [zao]; omega
  have ht : i.toNat = pre.length := by omega
  rw [zao] at h2
  rw [List.length_cons] at h1
  rw [hR]
  unfold zkp
  simp (maxSteps := 9999999) (disch := omega) only [vx, px, ty, ↓reduceIte, seval, fx, ztr, ht, List.map_cons, ifT]
  have h := ih (pre ++ [x]) (i + 1) (left - (ByteArray.size x : Nat)) (by simp; omega) (by simp; omega) (by omega) (by omega)
  simp only [zbl] at h
  exact h
theorem zks (xs : List ByteArray) (left : Int) (sto : List (List D)) (h : ((xs.length + lsum ByteArray.size xs : Nat) : Int) ≤ left) (h2 : left ≤ 1048576) : zab T 106 [.sl false 1 (xs.map D.str), .int .i64 left] sto = some (.int .i64 (left - ((xs.length + lsum ByteArray.size xs : Nat) : Int)), [], sto) := by
 rw [zae T (g := v106) rfl rfl rfl _ _ rfl]
 simp (maxSteps := 9999999) (disch := omega) only [vx, px, ty, ↓reduceIte, seval, fx, v106, zvr, ztr]
 have hl := fun k => zoZ (enF [.tmp 4] []) sto k xs [] 0 (left - xs.length) rfl (by simp; omega) (by omega) (by omega)
 simp only [List.map_nil, List.nil_append] at hl
 rw [hl]
 simp (maxSteps := 9999999) (disch := omega) only [vx, px, ty, ↓reduceIte, seval, fx]
 try exact congrArg (fun z => some (D.int .i64 z, ([] : List D), sto)) (by omega)
theorem ztx (x : TValue) (left : Int) (sto : List (List D)) (h : ((TValue.n x : Nat) : Int) ≤ left) (h2 : left ≤ 1048576) : zab T 105 [D.agg [D.int .i64 x.Kind, D.int .i64 x.Num, D.str x.Text, D.int .i64 x.Ref], .int .i64 left] sto = some (.int .i64 (left - (TValue.n x : Nat)), [], sto) := by
 simp only [TValue.n] at h ⊢
 rw [zae T (g := v105) rfl rfl rfl _ _ rfl]
 simp (maxSteps := 9999999) (disch := omega) only [vx, px, ty, ↓reduceIte, seval, fx, v105, zvq]
 try exact congrArg (fun z => some (D.int .i64 z, ([] : List D), sto)) (by omega)
theorem zpa (x : TBinding) (left : Int) (sto : List (List D)) (h : ((TBinding.n x : Nat) : Int) ≤ left) (h2 : left ≤ 1048576) : zab T 57 [D.agg [D.str x.Name, D.int .i64 x.Value.Kind, D.int .i64 x.Value.Num, D.str x.Value.Text, D.int .i64 x.Value.Ref], .int .i64 left] sto = some (.int .i64 (left - (TBinding.n x : Nat)), [], sto) := by
 simp only [TBinding.n] at h ⊢
 rw [zae T (g := v57) rfl rfl rfl _ _ rfl]
 simp (maxSteps := 9999999) (disch := omega) only [vx, px, ty, ↓reduceIte, seval, fx, v57, zyz, ztx]
 try exact congrArg (fun z => some (D.int .i64 z, ([] : List D), sto)) (by omega)
theorem zoa {R : Type} (e : En R) (sto : List (List D)) (k : List Fr) : ∀ (rest pre : List TBinding) (i left : Int), i = pre.length → pre.length + rest.length ≤ 1048576 → ((lsum TBinding.n rest : Nat) : Int) ≤ left → left ≤ 1048576 →
  go T e znJ (.lp zpX :: .bl 0 :: .sq (.clr [4,5,6,7,8,9,10,11,12,13,14,15,16,17,18,19,20,21,22,23,24,25]) :: k) ⟨[.d (.sl false 5 (pre.map (TBinding.e false) ++ rest.map (TBinding.e false))), .d (.int .i64 left), Z, Z, Z, .d (.int .i64 i), Z, Z, Z, Z, Z, Z, Z, Z, Z, Z, Z, Z, Z, Z, Z, Z, Z, Z, Z, Z, Z], sto⟩ = bk T e k ⟨[.d (.sl false 5 (pre.map (TBinding.e false) ++ rest.map (TBinding.e false))), .d (.int .i64 (left - (lsum TBinding.n rest : Nat))), Z, Z, Z, Z, Z, Z, Z, Z, Z, Z, Z, Z, Z, Z, Z, Z, Z, Z, Z, Z, Z, Z, Z, Z, Z], sto⟩ := by
 intro rest
 induction rest with
 | nil =>
  intro pre i left hi h1 h2 h3
  have hR : left - ((lsum TBinding.n ([] : List TBinding) : Nat) : Int) = left := by simp [zeG]
  have ht : i.toNat = pre.length := by omega
  rw [hR]
  unfold znJ
  simp (maxSteps := 9999999) (disch := omega) only [vx, px, ty, ↓reduceIte, seval, fx, zww]
 | cons x rest ih =>
  intro pre i left hi h1 h2 h3
  have hR : left - ((lsum TBinding.n (x :: rest) : Nat) : Int) = left - (TBinding.n x : Nat) - (lsum TBinding.n rest : Nat) := by rw [zao]; omega
  have ht : i.toNat = pre.length := by omega
  rw [zao] at h2
  rw [List.length_cons] at h1
  rw [hR]
  unfold znJ
  simp (maxSteps := 9999999) (disch := omega) only [vx, px, ty, ↓reduceIte, seval, fx, zww, ht, List.map_cons, ifT, zpa]
  have h := ih (pre ++ [x]) (i + 1) (left - (TBinding.n x : Nat)) (by simp; omega) (by simp; omega) (by omega) (by omega)
  simp only [zbl] at h
  exact h
theorem zob (xs : List TBinding) (left : Int) (sto : List (List D)) (h : ((xs.length + lsum TBinding.n xs : Nat) : Int) ≤ left) (h2 : left ≤ 1048576) : zab T 21 [.sl false 5 (xs.map (TBinding.e false)), .int .i64 left] sto = some (.int .i64 (left - ((xs.length + lsum TBinding.n xs : Nat) : Int)), [], sto) := by
 rw [zae T (g := v21) rfl rfl rfl _ _ rfl]
 simp (maxSteps := 9999999) (disch := omega) only [vx, px, ty, ↓reduceIte, seval, fx, v21, zxZ, zww]
 have hl := fun k => zoa (enF [.tmp 4] []) sto k xs [] 0 (left - xs.length) rfl (by simp; omega) (by omega) (by omega)
 simp only [List.map_nil, List.nil_append] at hl
 rw [hl]
 simp (maxSteps := 9999999) (disch := omega) only [vx, px, ty, ↓reduceIte, seval, fx]
 try exact congrArg (fun z => some (D.int .i64 z, ([] : List D), sto)) (by omega)
theorem zoc (x : TFunction) (left : Int) (sto : List (List D)) (h : ((TFunction.n x : Nat) : Int) ≤ left) (h2 : left ≤ 1048576) : zab T 58 [D.agg [D.str x.Name, D.sl false 1 (List.map D.str x.Params), D.sl false 1 (List.map D.str x.Locals), D.str x.Label], .int .i64 left] sto = some (.int .i64 (left - (TFunction.n x : Nat)), [], sto) := by
 simp only [TFunction.n] at h ⊢
 rw [zae T (g := v58) rfl rfl rfl _ _ rfl]
 simp (maxSteps := 9999999) (disch := omega) only [vx, px, ty, ↓reduceIte, seval, fx, v58, zyA, zks]
 try exact congrArg (fun z => some (D.int .i64 z, ([] : List D), sto)) (by omega)
theorem zmJ {R : Type} (e : En R) (sto : List (List D)) (k : List Fr) : ∀ (rest pre : List TFunction) (i left : Int), i = pre.length → pre.length + rest.length ≤ 1048576 → ((lsum TFunction.n rest : Nat) : Int) ≤ left → left ≤ 1048576 →
  go T e znK (.lp zpY :: .bl 0 :: .sq (.clr [4,5,6,7,8,9,10,11,12,13,14,15,16,17,18,19,20,21,22,23,24,25]) :: k) ⟨[.d (.sl false 4 (pre.map (TFunction.e false) ++ rest.map (TFunction.e false))), .d (.int .i64 left), Z, Z, Z, .d (.int .i64 i), Z, Z, Z, Z, Z, Z, Z, Z, Z, Z, Z, Z, Z, Z, Z, Z, Z, Z, Z, Z, Z], sto⟩ = bk T e k ⟨[.d (.sl false 4 (pre.map (TFunction.e false) ++ rest.map (TFunction.e false))), .d (.int .i64 (left - (lsum TFunction.n rest : Nat))), Z, Z, Z, Z, Z, Z, Z, Z, Z, Z, Z, Z, Z, Z, Z, Z, Z, Z, Z, Z, Z, Z, Z, Z, Z], sto⟩ := by
 intro rest
 induction rest with
 | nil =>
  intro pre i left hi h1 h2 h3
  have hR : left - ((lsum TFunction.n ([] : List TFunction) : Nat) : Int) = left := by simp [zeG]
  have ht : i.toNat = pre.length := by omega
  rw [hR]
  unfold znK
  simp (maxSteps := 9999999) (disch := omega) only [vx, px, ty, ↓reduceIte, seval, fx, zwx]
 | cons x rest ih =>
  intro pre i left hi h1 h2 h3
  have hR : left - ((lsum TFunction.n (x :: rest) : Nat) : Int) = left - (TFunction.n x : Nat) - (lsum TFunction.n rest : Nat) := by rw [zao]; omega
  have ht : i.toNat = pre.length := by omega
  rw [zao] at h2
  rw [List.length_cons] at h1
  rw [hR]
  unfold znK
  simp (maxSteps := 9999999) (disch := omega) only [vx, px, ty, ↓reduceIte, seval, fx, zwx, ht, List.map_cons, ifT, zoc]
  have h := ih (pre ++ [x]) (i + 1) (left - (TFunction.n x : Nat)) (by simp; omega) (by simp; omega) (by omega) (by omega)
  simp only [zbl] at h
  exact h
theorem zmK (xs : List TFunction) (left : Int) (sto : List (List D)) (h : ((xs.length + lsum TFunction.n xs : Nat) : Int) ≤ left) (h2 : left ≤ 1048576) : zab T 22 [.sl false 4 (xs.map (TFunction.e false)), .int .i64 left] sto = some (.int .i64 (left - ((xs.length + lsum TFunction.n xs : Nat) : Int)), [], sto) := by
 rw [zae T (g := v22) rfl rfl rfl _ _ rfl]
 simp (maxSteps := 9999999) (disch := omega) only [vx, px, ty, ↓reduceIte, seval, fx, v22, zya, zwx]
 have hl := fun k => zmJ (enF [.tmp 4] []) sto k xs [] 0 (left - xs.length) rfl (by simp; omega) (by omega) (by omega)
 simp only [List.map_nil, List.nil_append] at hl
 rw [hl]
 simp (maxSteps := 9999999) (disch := omega) only [vx, px, ty, ↓reduceIte, seval, fx]
 try exact congrArg (fun z => some (D.int .i64 z, ([] : List D), sto)) (by omega)
theorem zll (x : TRecordType) (left : Int) (sto : List (List D)) (h : ((TRecordType.n x : Nat) : Int) ≤ left) (h2 : left ≤ 1048576) : zab T 59 [D.agg [D.str x.Name, D.sl false 1 (List.map D.str x.Fields)], .int .i64 left] sto = some (.int .i64 (left - (TRecordType.n x : Nat)), [], sto) := by
 simp only [TRecordType.n] at h ⊢
 rw [zae T (g := v59) rfl rfl rfl _ _ rfl]
 simp (maxSteps := 9999999) (disch := omega) only [vx, px, ty, ↓reduceIte, seval, fx, v59, zyB, zks]
 try exact congrArg (fun z => some (D.int .i64 z, ([] : List D), sto)) (by omega)
theorem zkt {R : Type} (e : En R) (sto : List (List D)) (k : List Fr) : ∀ (rest pre : List TRecordType) (i left : Int), i = pre.length → pre.length + rest.length ≤ 1048576 → ((lsum TRecordType.n rest : Nat) : Int) ≤ left → left ≤ 1048576 →
  go T e znL (.lp zpZ :: .bl 0 :: .sq (.clr [4,5,6,7,8,9,10,11,12,13,14,15,16,17,18,19,20,21,22,23,24,25]) :: k) ⟨[.d (.sl false 2 (pre.map (TRecordType.e false) ++ rest.map (TRecordType.e false))), .d (.int .i64 left), Z, Z, Z, .d (.int .i64 i), Z, Z, Z, Z, Z, Z, Z, Z, Z, Z, Z, Z, Z, Z, Z, Z, Z, Z, Z, Z, Z], sto⟩ = bk T e k ⟨[.d (.sl false 2 (pre.map (TRecordType.e false) ++ rest.map (TRecordType.e false))), .d (.int .i64 (left - (lsum TRecordType.n rest : Nat))), Z, Z, Z, Z, Z, Z, Z, Z, Z, Z, Z, Z, Z, Z, Z, Z, Z, Z, Z, Z, Z, Z, Z, Z, Z], sto⟩ := by
 intro rest
 induction rest with
 | nil =>
  intro pre i left hi h1 h2 h3
  have hR : left - ((lsum TRecordType.n ([] : List TRecordType) : Nat) : Int) = left := by simp [zeG]
  have ht : i.toNat = pre.length := by omega
  rw [hR]
  unfold znL
  simp (maxSteps := 9999999) (disch := omega) only [vx, px, ty, ↓reduceIte, seval, fx, zwy]
 | cons x rest ih =>
  intro pre i left hi h1 h2 h3
  have hR : left - ((lsum TRecordType.n (x :: rest) : Nat) : Int) = left - (TRecordType.n x : Nat) - (lsum TRecordType.n rest : Nat) := by rw [zao]; omega
  have ht : i.toNat = pre.length := by omega
  rw [zao] at h2
  rw [List.length_cons] at h1
  rw [hR]
  unfold znL
  simp (maxSteps := 9999999) (disch := omega) only [vx, px, ty, ↓reduceIte, seval, fx, zwy, ht, List.map_cons, ifT, zll]
  have h := ih (pre ++ [x]) (i + 1) (left - (TRecordType.n x : Nat)) (by simp; omega) (by simp; omega) (by omega) (by omega)
  simp only [zbl] at h
  exact h
theorem zku (xs : List TRecordType) (left : Int) (sto : List (List D)) (h : ((xs.length + lsum TRecordType.n xs : Nat) : Int) ≤ left) (h2 : left ≤ 1048576) : zab T 23 [.sl false 2 (xs.map (TRecordType.e false)), .int .i64 left] sto = some (.int .i64 (left - ((xs.length + lsum TRecordType.n xs : Nat) : Int)), [], sto) := by
 rw [zae T (g := v23) rfl rfl rfl _ _ rfl]
 simp (maxSteps := 9999999) (disch := omega) only [vx, px, ty, ↓reduceIte, seval, fx, v23, zyb, zwy]
 have hl := fun k => zkt (enF [.tmp 4] []) sto k xs [] 0 (left - xs.length) rfl (by simp; omega) (by omega) (by omega)
 simp only [List.map_nil, List.nil_append] at hl
 rw [hl]
 simp (maxSteps := 9999999) (disch := omega) only [vx, px, ty, ↓reduceIte, seval, fx]
 try exact congrArg (fun z => some (D.int .i64 z, ([] : List D), sto)) (by omega)
theorem zod (x : TScope) (left : Int) (sto : List (List D)) (h : ((TScope.n x : Nat) : Int) ≤ left) (h2 : left ≤ 1048576) : zab T 6 [D.agg [D.sl false 5 (List.map (TBinding.e false) x.Vars), D.sl false 4 (List.map (TFunction.e false) x.Functions), D.sl false 2 (List.map (TRecordType.e false) x.Types)], .int .i64 left] sto = some (.int .i64 (left - (TScope.n x : Nat)), [], sto) := by
 simp only [TScope.n] at h ⊢
 rw [zae T (g := v6) rfl rfl rfl _ _ rfl]
 simp (maxSteps := 9999999) (disch := omega) only [vx, px, ty, ↓reduceIte, seval, fx, v6, v6_b, zob, zmK, zku]
 try exact congrArg (fun z => some (D.int .i64 z, ([] : List D), sto)) (by omega)
end Go.Vx.DfZ
