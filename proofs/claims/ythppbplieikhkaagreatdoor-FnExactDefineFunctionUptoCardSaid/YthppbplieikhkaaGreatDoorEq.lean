/-
  The laws' own functions: eq.
-/
import Derived.Test.YthppbplieikhkaaGreatDoorTypes
import Derived.Test.YthppbplieikhkaaGreatDoorCode
set_option linter.unusedVariables false
set_option linter.unusedSimpArgs false
namespace Go.Vx.DfZ
set_option linter.unusedVariables false
set_option linter.unusedSimpArgs false
set_option maxRecDepth 4000
set_option maxHeartbeats 4000000
theorem zpd {R : Type} (e : En R) (sto : List (List D)) (k : List Fr) : ∀ (rest pre : List ByteArray) (i : Int), i = pre.length → pre.length + rest.length ≤ 34359738368 → lsum ByteArray.size rest ≤ 34359738368 →
  go T e zkr (.lp zmG :: .bl 0 :: .sq (.clr [4,5,6,7,8,9,10,11,12,13,14,15,16,17,18,19,20,21,22,23,24,25]) :: k) ⟨[.d (.sl false 1 (pre.map D.str ++ rest.map D.str)), .d (.sl false 1 (pre.map D.str ++ rest.map D.str)), Z, Z, Z, .d (.int .i64 i), Z, Z, Z, Z, Z, Z, Z, Z, Z, Z, Z, Z, Z, Z, Z, Z, Z, Z, Z, Z], sto⟩ = bk T e k ⟨[.d (.sl false 1 (pre.map D.str ++ rest.map D.str)), .d (.sl false 1 (pre.map D.str ++ rest.map D.str)), Z, Z, Z, Z, Z, Z, Z, Z, Z, Z, Z, Z, Z, Z, Z, Z, Z, Z, Z, Z, Z, Z, Z, Z], sto⟩ := by
 intro rest
 induction rest with
 | nil =>
  intro pre i hi h1 h2
  have ht : i.toNat = pre.length := by omega
  unfold zkr
  simp (maxSteps := 9999999) (disch := omega) only [vx, px, ty, ↓reduceIte, seval, fx, ztu]
 | cons x rest ih =>
  intro pre i hi h1 h2
  have ht : i.toNat = pre.length := by omega
  rw [zao] at h2
  rw [List.length_cons] at h1
  unfold zkr
  simp (maxSteps := 9999999) (disch := omega) only [vx, px, ty, ↓reduceIte, seval, fx, vxd, Nat.reduceBNe, ztu, ht, List.map_cons, ifT]
  have h := ih (pre ++ [x]) (i + 1) (by simp; omega) (by simp; omega) (by omega)
  simp only [zbl] at h
  exact h
theorem zky (xs : List ByteArray) (sto : List (List D)) (h : xs.length ≤ 34359738368) (h2 : lsum ByteArray.size xs ≤ 34359738368) : zab T 121 [.sl false 1 (xs.map D.str), .sl false 1 (xs.map D.str)] sto = some (.bool true, [], sto) := by
 rw [zae T (g := v121) rfl rfl rfl _ _ rfl]
 simp (maxSteps := 9999999) (disch := omega) only [vx, px, ty, ↓reduceIte, seval, fx, v121, zvH, ztu]
 have hl := fun k => zpd (enF [.tmp 4] []) sto k xs [] 0 rfl (by simp; omega) h2
 simp only [List.map_nil, List.nil_append] at hl
 rw [hl]
 simp (maxSteps := 9999999) (disch := omega) only [vx, px, ty, ↓reduceIte, seval, fx]
theorem ztz (x : TValue) (sto : List (List D)) (h : TValue.n x ≤ 34359738368) : zab T 120 [D.agg [D.int .i64 x.Kind, D.int .i64 x.Num, D.str x.Text, D.int .i64 x.Ref], D.agg [D.int .i64 x.Kind, D.int .i64 x.Num, D.str x.Text, D.int .i64 x.Ref]] sto = some (.bool true, [], sto) := by
 simp only [TValue.n] at h
 rw [zae T (g := v120) rfl rfl rfl _ _ rfl]
 simp (maxSteps := 9999999) (disch := omega) only [vx, px, ty, ↓reduceIte, seval, fx, v120, zvG]
theorem zpe (x : TBinding) (sto : List (List D)) (h : TBinding.n x ≤ 34359738368) : zab T 84 [D.agg [D.str x.Name, D.int .i64 x.Value.Kind, D.int .i64 x.Value.Num, D.str x.Value.Text, D.int .i64 x.Value.Ref], D.agg [D.str x.Name, D.int .i64 x.Value.Kind, D.int .i64 x.Value.Num, D.str x.Value.Text, D.int .i64 x.Value.Ref]] sto = some (.bool true, [], sto) := by
 simp only [TBinding.n] at h
 rw [zae T (g := v84) rfl rfl rfl _ _ rfl]
 simp (maxSteps := 9999999) (disch := omega) only [vx, px, ty, ↓reduceIte, seval, fx, v84, zze, ztz]
theorem zoi {R : Type} (e : En R) (sto : List (List D)) (k : List Fr) : ∀ (rest pre : List TBinding) (i : Int), i = pre.length → pre.length + rest.length ≤ 34359738368 → lsum TBinding.n rest ≤ 34359738368 →
  go T e znP (.lp zqn :: .bl 0 :: .sq (.clr [4,5,6,7,8,9,10,11,12,13,14,15,16,17,18,19,20,21,22,23,24,25,26]) :: k) ⟨[.d (.sl false 5 (pre.map (TBinding.e false) ++ rest.map (TBinding.e false))), .d (.sl false 5 (pre.map (TBinding.e false) ++ rest.map (TBinding.e false))), Z, Z, Z, .d (.int .i64 i), Z, Z, Z, Z, Z, Z, Z, Z, Z, Z, Z, Z, Z, Z, Z, Z, Z, Z, Z, Z, Z], sto⟩ = bk T e k ⟨[.d (.sl false 5 (pre.map (TBinding.e false) ++ rest.map (TBinding.e false))), .d (.sl false 5 (pre.map (TBinding.e false) ++ rest.map (TBinding.e false))), Z, Z, Z, Z, Z, Z, Z, Z, Z, Z, Z, Z, Z, Z, Z, Z, Z, Z, Z, Z, Z, Z, Z, Z, Z], sto⟩ := by
 intro rest
 induction rest with
 | nil =>
  intro pre i hi h1 h2
  have ht : i.toNat = pre.length := by omega
  unfold znP
  simp (maxSteps := 9999999) (disch := omega) only [vx, px, ty, ↓reduceIte, seval, fx, zwC]
 | cons x rest ih =>
  intro pre i hi h1 h2
  have ht : i.toNat = pre.length := by omega
  rw [zao] at h2
  rw [List.length_cons] at h1
  unfold znP
  simp (maxSteps := 9999999) (disch := omega) only [vx, px, ty, ↓reduceIte, seval, fx, vxd, Nat.reduceBNe, zwC, ht, List.map_cons, ifT, zpe]
  have h := ih (pre ++ [x]) (i + 1) (by simp; omega) (by simp; omega) (by omega)
  simp only [zbl] at h
  exact h
theorem zoj (xs : List TBinding) (sto : List (List D)) (h : xs.length ≤ 34359738368) (h2 : lsum TBinding.n xs ≤ 34359738368) : zab T 33 [.sl false 5 (xs.map (TBinding.e false)), .sl false 5 (xs.map (TBinding.e false))] sto = some (.bool true, [], sto) := by
 rw [zae T (g := v33) rfl rfl rfl _ _ rfl]
 simp (maxSteps := 9999999) (disch := omega) only [vx, px, ty, ↓reduceIte, seval, fx, v33, zyk, zwC]
 have hl := fun k => zoi (enF [.tmp 4] []) sto k xs [] 0 rfl (by simp; omega) h2
 simp only [List.map_nil, List.nil_append] at hl
 rw [hl]
 simp (maxSteps := 9999999) (disch := omega) only [vx, px, ty, ↓reduceIte, seval, fx]
theorem zok (x : TFunction) (sto : List (List D)) (h : TFunction.n x ≤ 34359738368) : zab T 85 [D.agg [D.str x.Name, D.sl false 1 (List.map D.str x.Params), D.sl false 1 (List.map D.str x.Locals), D.str x.Label], D.agg [D.str x.Name, D.sl false 1 (List.map D.str x.Params), D.sl false 1 (List.map D.str x.Locals), D.str x.Label]] sto = some (.bool true, [], sto) := by
 simp only [TFunction.n] at h
 rw [zae T (g := v85) rfl rfl rfl _ _ rfl]
 simp (maxSteps := 9999999) (disch := omega) only [vx, px, ty, ↓reduceIte, seval, fx, v85, zzf, zky]
theorem zmN {R : Type} (e : En R) (sto : List (List D)) (k : List Fr) : ∀ (rest pre : List TFunction) (i : Int), i = pre.length → pre.length + rest.length ≤ 34359738368 → lsum TFunction.n rest ≤ 34359738368 →
  go T e znQ (.lp zqo :: .bl 0 :: .sq (.clr [4,5,6,7,8,9,10,11,12,13,14,15,16,17,18,19,20,21,22,23,24,25,26]) :: k) ⟨[.d (.sl false 4 (pre.map (TFunction.e false) ++ rest.map (TFunction.e false))), .d (.sl false 4 (pre.map (TFunction.e false) ++ rest.map (TFunction.e false))), Z, Z, Z, .d (.int .i64 i), Z, Z, Z, Z, Z, Z, Z, Z, Z, Z, Z, Z, Z, Z, Z, Z, Z, Z, Z, Z, Z], sto⟩ = bk T e k ⟨[.d (.sl false 4 (pre.map (TFunction.e false) ++ rest.map (TFunction.e false))), .d (.sl false 4 (pre.map (TFunction.e false) ++ rest.map (TFunction.e false))), Z, Z, Z, Z, Z, Z, Z, Z, Z, Z, Z, Z, Z, Z, Z, Z, Z, Z, Z, Z, Z, Z, Z, Z, Z], sto⟩ := by
 intro rest
 induction rest with
 | nil =>
  intro pre i hi h1 h2
  have ht : i.toNat = pre.length := by omega
  unfold znQ
  simp (maxSteps := 9999999) (disch := omega) only [vx, px, ty, ↓reduceIte, seval, fx, zwD]
 | cons x rest ih =>
  intro pre i hi h1 h2
  have ht : i.toNat = pre.length := by omega
  rw [zao] at h2
  rw [List.length_cons] at h1
  unfold znQ
  simp (maxSteps := 9999999) (disch := omega) only [vx, px, ty, ↓reduceIte, seval, fx, vxd, Nat.reduceBNe, zwD, ht, List.map_cons, ifT, zok]
  have h := ih (pre ++ [x]) (i + 1) (by simp; omega) (by simp; omega) (by omega)
  simp only [zbl] at h
  exact h
theorem zmO (xs : List TFunction) (sto : List (List D)) (h : xs.length ≤ 34359738368) (h2 : lsum TFunction.n xs ≤ 34359738368) : zab T 34 [.sl false 4 (xs.map (TFunction.e false)), .sl false 4 (xs.map (TFunction.e false))] sto = some (.bool true, [], sto) := by
 rw [zae T (g := v34) rfl rfl rfl _ _ rfl]
 simp (maxSteps := 9999999) (disch := omega) only [vx, px, ty, ↓reduceIte, seval, fx, v34, zyl, zwD]
 have hl := fun k => zmN (enF [.tmp 4] []) sto k xs [] 0 rfl (by simp; omega) h2
 simp only [List.map_nil, List.nil_append] at hl
 rw [hl]
 simp (maxSteps := 9999999) (disch := omega) only [vx, px, ty, ↓reduceIte, seval, fx]
theorem zln (x : TRecordType) (sto : List (List D)) (h : TRecordType.n x ≤ 34359738368) : zab T 86 [D.agg [D.str x.Name, D.sl false 1 (List.map D.str x.Fields)], D.agg [D.str x.Name, D.sl false 1 (List.map D.str x.Fields)]] sto = some (.bool true, [], sto) := by
 simp only [TRecordType.n] at h
 rw [zae T (g := v86) rfl rfl rfl _ _ rfl]
 simp (maxSteps := 9999999) (disch := omega) only [vx, px, ty, ↓reduceIte, seval, fx, v86, zzg, zky]
theorem zkz {R : Type} (e : En R) (sto : List (List D)) (k : List Fr) : ∀ (rest pre : List TRecordType) (i : Int), i = pre.length → pre.length + rest.length ≤ 34359738368 → lsum TRecordType.n rest ≤ 34359738368 →
  go T e znR (.lp zqp :: .bl 0 :: .sq (.clr [4,5,6,7,8,9,10,11,12,13,14,15,16,17,18,19,20,21,22,23,24,25,26]) :: k) ⟨[.d (.sl false 2 (pre.map (TRecordType.e false) ++ rest.map (TRecordType.e false))), .d (.sl false 2 (pre.map (TRecordType.e false) ++ rest.map (TRecordType.e false))), Z, Z, Z, .d (.int .i64 i), Z, Z, Z, Z, Z, Z, Z, Z, Z, Z, Z, Z, Z, Z, Z, Z, Z, Z, Z, Z, Z], sto⟩ = bk T e k ⟨[.d (.sl false 2 (pre.map (TRecordType.e false) ++ rest.map (TRecordType.e false))), .d (.sl false 2 (pre.map (TRecordType.e false) ++ rest.map (TRecordType.e false))), Z, Z, Z, Z, Z, Z, Z, Z, Z, Z, Z, Z, Z, Z, Z, Z, Z, Z, Z, Z, Z, Z, Z, Z, Z], sto⟩ := by
 intro rest
 induction rest with
 | nil =>
  intro pre i hi h1 h2
  have ht : i.toNat = pre.length := by omega
  unfold znR
  simp (maxSteps := 9999999) (disch := omega) only [vx, px, ty, ↓reduceIte, seval, fx, zwE]
 | cons x rest ih =>
  intro pre i hi h1 h2
  have ht : i.toNat = pre.length := by omega
  rw [zao] at h2
  rw [List.length_cons] at h1
  unfold znR
  simp (maxSteps := 9999999) (disch := omega) only [vx, px, ty, ↓reduceIte, seval, fx, vxd, Nat.reduceBNe, zwE, ht, List.map_cons, ifT, zln]
  have h := ih (pre ++ [x]) (i + 1) (by simp; omega) (by simp; omega) (by omega)
  simp only [zbl] at h
  exact h
theorem zkA (xs : List TRecordType) (sto : List (List D)) (h : xs.length ≤ 34359738368) (h2 : lsum TRecordType.n xs ≤ 34359738368) : zab T 35 [.sl false 2 (xs.map (TRecordType.e false)), .sl false 2 (xs.map (TRecordType.e false))] sto = some (.bool true, [], sto) := by
 rw [zae T (g := v35) rfl rfl rfl _ _ rfl]
 simp (maxSteps := 9999999) (disch := omega) only [vx, px, ty, ↓reduceIte, seval, fx, v35, zym, zwE]
 have hl := fun k => zkz (enF [.tmp 4] []) sto k xs [] 0 rfl (by simp; omega) h2
 simp only [List.map_nil, List.nil_append] at hl
 rw [hl]
 simp (maxSteps := 9999999) (disch := omega) only [vx, px, ty, ↓reduceIte, seval, fx]
theorem zis (x : TScope) (sto : List (List D)) (h : TScope.n x ≤ 34359738368) : zab T 10 [D.agg [D.sl false 5 (List.map (TBinding.e false) x.Vars), D.sl false 4 (List.map (TFunction.e false) x.Functions), D.sl false 2 (List.map (TRecordType.e false) x.Types)], D.agg [D.sl false 5 (List.map (TBinding.e false) x.Vars), D.sl false 4 (List.map (TFunction.e false) x.Functions), D.sl false 2 (List.map (TRecordType.e false) x.Types)]] sto = some (.bool true, [], sto) := by
 simp only [TScope.n] at h
 rw [zae T (g := v10) rfl rfl rfl _ _ rfl]
 simp (maxSteps := 9999999) (disch := omega) only [vx, px, ty, ↓reduceIte, seval, fx, v10, zxU, zoj, zmO, zkA]
end Go.Vx.DfZ
