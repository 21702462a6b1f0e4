/-
  The laws' own functions: eq.
-/
import Derived.Test.YtnaaflejkfaiaaaGreatTypes
import Derived.Test.YtnaaflejkfaiaaaGreatCode
set_option linter.unusedVariables false
set_option linter.unusedSimpArgs false
namespace Go.Vx.NmZ
set_option linter.unusedVariables false
set_option linter.unusedSimpArgs false
set_option maxRecDepth 4000
set_option maxHeartbeats 4000000
theorem zsi {R : Type} (e : En R) (sto : List (List D)) (k : List Fr) : ∀ (rest pre : List ByteArray) (i : Int), i = pre.length → pre.length + rest.length ≤ 34359738368 → lsum ByteArray.size rest ≤ 34359738368 →
  go T e zqP (.lp ztd :: .bl 0 :: .sq (.clr [4,5,6,7,8,9,10,11,12,13,14,15,16,17,18,19,20,21,22,23,24,25]) :: k) ⟨[.d (.sl false 1 (pre.map D.str ++ rest.map D.str)), .d (.sl false 1 (pre.map D.str ++ rest.map D.str)), Z, Z, Z, .d (.int .i64 i), Z, Z, Z, Z, Z, Z, Z, Z, Z, Z, Z, Z, Z, Z, Z, Z, Z, Z, Z, Z], sto⟩ = bk T e k ⟨[.d (.sl false 1 (pre.map D.str ++ rest.map D.str)), .d (.sl false 1 (pre.map D.str ++ rest.map D.str)), Z, Z, Z, Z, Z, Z, Z, Z, Z, Z, Z, Z, Z, Z, Z, Z, Z, Z, Z, Z, Z, Z, Z, Z], sto⟩ := by
 intro rest
 induction rest with
 | nil =>
  intro pre i hi h1 h2
  have ht : i.toNat = pre.length := by omega
  unfold zqP
  simp (maxSteps := 9999999) (disch := omega) only [vx, px, ty, ↓reduceIte, seval, fx, zAj]
 | cons x rest ih =>
  intro pre i hi h1 h2
  have ht : i.toNat = pre.length := by omega
  rw [zar] at h2
  rw [List.length_cons] at h1
  unfold zqP
  simp (maxSteps := 9999999) (disch := omega) only [vx, px, ty, ↓reduceIte, seval, fx, vxd, Nat.reduceBNe, zAj, ht, List.map_cons, ifT]
  have h := ih (pre ++ [x]) (i + 1) (by simp; omega) (by simp; omega) (by omega)
  simp only [zaL] at h
  exact h
theorem zfK (xs : List ByteArray) (sto : List (List D)) (h : xs.length ≤ 34359738368) (h2 : lsum ByteArray.size xs ≤ 34359738368) : zab T 13 [.sl false 1 (xs.map D.str), .sl false 1 (xs.map D.str)] sto = some (.bool true, [], sto) := by
 rw [zag T (g := v13) rfl rfl rfl _ _ rfl]
 simp (maxSteps := 9999999) (disch := omega) only [vx, px, ty, ↓reduceIte, seval, fx, v13, zBu, zAj]
 have hl := fun k => zsi (enF [.tmp 4] []) sto k xs [] 0 rfl (by simp; omega) h2
 simp only [List.map_nil, List.nil_append] at hl
 rw [hl]
 simp (maxSteps := 9999999) (disch := omega) only [vx, px, ty, ↓reduceIte, seval, fx]
theorem zmH (x : TValue) (sto : List (List D)) (h : TValue.n x ≤ 34359738368) : zab T 79 [D.agg [D.int .i64 x.Kind, D.int .i64 x.Num, D.str x.Text, D.int .i64 x.Ref], D.agg [D.int .i64 x.Kind, D.int .i64 x.Num, D.str x.Text, D.int .i64 x.Ref]] sto = some (.bool true, [], sto) := by
 simp only [TValue.n] at h
 rw [zag T (g := v79) rfl rfl rfl _ _ rfl]
 simp (maxSteps := 9999999) (disch := omega) only [vx, px, ty, ↓reduceIte, seval, fx, v79, zBJ]
theorem zub {R : Type} (e : En R) (sto : List (List D)) (k : List Fr) : ∀ (rest pre : List TValue) (i : Int), i = pre.length → pre.length + rest.length ≤ 34359738368 → lsum TValue.n rest ≤ 34359738368 →
  go T e zmD (.lp zoN :: .bl 0 :: .sq (.clr [4,5,6,7,8,9,10,11,12,13,14,15,16,17,18,19,20,21,22,23,24,25,26]) :: k) ⟨[.d (.sl false 4 (pre.map (TValue.e false) ++ rest.map (TValue.e false))), .d (.sl false 4 (pre.map (TValue.e false) ++ rest.map (TValue.e false))), Z, Z, Z, .d (.int .i64 i), Z, Z, Z, Z, Z, Z, Z, Z, Z, Z, Z, Z, Z, Z, Z, Z, Z, Z, Z, Z, Z], sto⟩ = bk T e k ⟨[.d (.sl false 4 (pre.map (TValue.e false) ++ rest.map (TValue.e false))), .d (.sl false 4 (pre.map (TValue.e false) ++ rest.map (TValue.e false))), Z, Z, Z, Z, Z, Z, Z, Z, Z, Z, Z, Z, Z, Z, Z, Z, Z, Z, Z, Z, Z, Z, Z, Z, Z], sto⟩ := by
 intro rest
 induction rest with
 | nil =>
  intro pre i hi h1 h2
  have ht : i.toNat = pre.length := by omega
  unfold zmD
  simp (maxSteps := 9999999) (disch := omega) only [vx, px, ty, ↓reduceIte, seval, fx, zvI]
 | cons x rest ih =>
  intro pre i hi h1 h2
  have ht : i.toNat = pre.length := by omega
  rw [zar] at h2
  rw [List.length_cons] at h1
  unfold zmD
  simp (maxSteps := 9999999) (disch := omega) only [vx, px, ty, ↓reduceIte, seval, fx, vxd, Nat.reduceBNe, zvI, ht, List.map_cons, ifT, zmH]
  have h := ih (pre ++ [x]) (i + 1) (by simp; omega) (by simp; omega) (by omega)
  simp only [zaL] at h
  exact h
theorem zuc (xs : List TValue) (sto : List (List D)) (h : xs.length ≤ 34359738368) (h2 : lsum TValue.n xs ≤ 34359738368) : zab T 138 [.sl false 4 (xs.map (TValue.e false)), .sl false 4 (xs.map (TValue.e false))] sto = some (.bool true, [], sto) := by
 rw [zag T (g := v138) rfl rfl rfl _ _ rfl]
 simp (maxSteps := 9999999) (disch := omega) only [vx, px, ty, ↓reduceIte, seval, fx, v138, zxN, zvI]
 have hl := fun k => zub (enF [.tmp 4] []) sto k xs [] 0 rfl (by simp; omega) h2
 simp only [List.map_nil, List.nil_append] at hl
 rw [hl]
 simp (maxSteps := 9999999) (disch := omega) only [vx, px, ty, ↓reduceIte, seval, fx]
theorem zud (x : TObject) (sto : List (List D)) (h : TObject.n x ≤ 34359738368) : zab T 190 [D.agg [D.int .i64 x.Id, D.int .i64 x.Kind, D.str x.Name, D.int .i64 x.Low, D.sl false 4 (List.map (TValue.e false) x.Keys), D.sl false 4 (List.map (TValue.e false) x.Vals), D.int .i64 x.Default.Kind, D.int .i64 x.Default.Num, D.str x.Default.Text, D.int .i64 x.Default.Ref], D.agg [D.int .i64 x.Id, D.int .i64 x.Kind, D.str x.Name, D.int .i64 x.Low, D.sl false 4 (List.map (TValue.e false) x.Keys), D.sl false 4 (List.map (TValue.e false) x.Vals), D.int .i64 x.Default.Kind, D.int .i64 x.Default.Num, D.str x.Default.Text, D.int .i64 x.Default.Ref]] sto = some (.bool true, [], sto) := by
 simp only [TObject.n] at h
 rw [zag T (g := v190) rfl rfl rfl _ _ rfl]
 simp (maxSteps := 9999999) (disch := omega) only [vx, px, ty, ↓reduceIte, seval, fx, v190, zyE, zmH, zuc]
theorem zsj {R : Type} (e : En R) (sto : List (List D)) (k : List Fr) : ∀ (rest pre : List TObject) (i : Int), i = pre.length → pre.length + rest.length ≤ 34359738368 → lsum TObject.n rest ≤ 34359738368 →
  go T e zmq (.lp zow :: .bl 0 :: .sq (.clr [4,5,6,7,8,9,10,11,12,13,14,15,16,17,18,19,20,21,22,23,24,25,26]) :: k) ⟨[.d (.sl false 10 (pre.map (TObject.e false) ++ rest.map (TObject.e false))), .d (.sl false 10 (pre.map (TObject.e false) ++ rest.map (TObject.e false))), Z, Z, Z, .d (.int .i64 i), Z, Z, Z, Z, Z, Z, Z, Z, Z, Z, Z, Z, Z, Z, Z, Z, Z, Z, Z, Z, Z], sto⟩ = bk T e k ⟨[.d (.sl false 10 (pre.map (TObject.e false) ++ rest.map (TObject.e false))), .d (.sl false 10 (pre.map (TObject.e false) ++ rest.map (TObject.e false))), Z, Z, Z, Z, Z, Z, Z, Z, Z, Z, Z, Z, Z, Z, Z, Z, Z, Z, Z, Z, Z, Z, Z, Z, Z], sto⟩ := by
 intro rest
 induction rest with
 | nil =>
  intro pre i hi h1 h2
  have ht : i.toNat = pre.length := by omega
  unfold zmq
  simp (maxSteps := 9999999) (disch := omega) only [vx, px, ty, ↓reduceIte, seval, fx, zvu]
 | cons x rest ih =>
  intro pre i hi h1 h2
  have ht : i.toNat = pre.length := by omega
  rw [zar] at h2
  rw [List.length_cons] at h1
  unfold zmq
  simp (maxSteps := 9999999) (disch := omega) only [vx, px, ty, ↓reduceIte, seval, fx, vxd, Nat.reduceBNe, zvu, ht, List.map_cons, ifT, zud]
  have h := ih (pre ++ [x]) (i + 1) (by simp; omega) (by simp; omega) (by omega)
  simp only [zaL] at h
  exact h
theorem zsk (xs : List TObject) (sto : List (List D)) (h : xs.length ≤ 34359738368) (h2 : lsum TObject.n xs ≤ 34359738368) : zab T 102 [.sl false 10 (xs.map (TObject.e false)), .sl false 10 (xs.map (TObject.e false))] sto = some (.bool true, [], sto) := by
 rw [zag T (g := v102) rfl rfl rfl _ _ rfl]
 simp (maxSteps := 9999999) (disch := omega) only [vx, px, ty, ↓reduceIte, seval, fx, v102, zxw, zvu]
 have hl := fun k => zsj (enF [.tmp 4] []) sto k xs [] 0 rfl (by simp; omega) h2
 simp only [List.map_nil, List.nil_append] at hl
 rw [hl]
 simp (maxSteps := 9999999) (disch := omega) only [vx, px, ty, ↓reduceIte, seval, fx]
theorem zwN (x : THeap) (sto : List (List D)) (h : THeap.n x ≤ 34359738368) : zab T 40 [D.agg [D.int .i64 x.Next, D.sl false 10 (List.map (TObject.e false) x.Objects)], D.agg [D.int .i64 x.Next, D.sl false 10 (List.map (TObject.e false) x.Objects)]] sto = some (.bool true, [], sto) := by
 simp only [THeap.n] at h
 rw [zag T (g := v40) rfl rfl rfl _ _ rfl]
 simp (maxSteps := 9999999) (disch := omega) only [vx, px, ty, ↓reduceIte, seval, fx, v40, zBA, zsk]
theorem zsl (x : TBinding) (sto : List (List D)) (h : TBinding.n x ≤ 34359738368) : zab T 137 [D.agg [D.str x.Name, D.int .i64 x.Value.Kind, D.int .i64 x.Value.Num, D.str x.Value.Text, D.int .i64 x.Value.Ref], D.agg [D.str x.Name, D.int .i64 x.Value.Kind, D.int .i64 x.Value.Num, D.str x.Value.Text, D.int .i64 x.Value.Ref]] sto = some (.bool true, [], sto) := by
 simp only [TBinding.n] at h
 rw [zag T (g := v137) rfl rfl rfl _ _ rfl]
 simp (maxSteps := 9999999) (disch := omega) only [vx, px, ty, ↓reduceIte, seval, fx, v137, zxM, zmH]
theorem zqU {R : Type} (e : En R) (sto : List (List D)) (k : List Fr) : ∀ (rest pre : List TBinding) (i : Int), i = pre.length → pre.length + rest.length ≤ 34359738368 → lsum TBinding.n rest ≤ 34359738368 →
  go T e zqR (.lp ztg :: .bl 0 :: .sq (.clr [4,5,6,7,8,9,10,11,12,13,14,15,16,17,18,19,20,21,22,23,24,25,26]) :: k) ⟨[.d (.sl false 5 (pre.map (TBinding.e false) ++ rest.map (TBinding.e false))), .d (.sl false 5 (pre.map (TBinding.e false) ++ rest.map (TBinding.e false))), Z, Z, Z, .d (.int .i64 i), Z, Z, Z, Z, Z, Z, Z, Z, Z, Z, Z, Z, Z, Z, Z, Z, Z, Z, Z, Z, Z], sto⟩ = bk T e k ⟨[.d (.sl false 5 (pre.map (TBinding.e false) ++ rest.map (TBinding.e false))), .d (.sl false 5 (pre.map (TBinding.e false) ++ rest.map (TBinding.e false))), Z, Z, Z, Z, Z, Z, Z, Z, Z, Z, Z, Z, Z, Z, Z, Z, Z, Z, Z, Z, Z, Z, Z, Z, Z], sto⟩ := by
 intro rest
 induction rest with
 | nil =>
  intro pre i hi h1 h2
  have ht : i.toNat = pre.length := by omega
  unfold zqR
  simp (maxSteps := 9999999) (disch := omega) only [vx, px, ty, ↓reduceIte, seval, fx, zAm]
 | cons x rest ih =>
  intro pre i hi h1 h2
  have ht : i.toNat = pre.length := by omega
  rw [zar] at h2
  rw [List.length_cons] at h1
  unfold zqR
  simp (maxSteps := 9999999) (disch := omega) only [vx, px, ty, ↓reduceIte, seval, fx, vxd, Nat.reduceBNe, zAm, ht, List.map_cons, ifT, zsl]
  have h := ih (pre ++ [x]) (i + 1) (by simp; omega) (by simp; omega) (by omega)
  simp only [zaL] at h
  exact h
theorem zqV (xs : List TBinding) (sto : List (List D)) (h : xs.length ≤ 34359738368) (h2 : lsum TBinding.n xs ≤ 34359738368) : zab T 62 [.sl false 5 (xs.map (TBinding.e false)), .sl false 5 (xs.map (TBinding.e false))] sto = some (.bool true, [], sto) := by
 rw [zag T (g := v62) rfl rfl rfl _ _ rfl]
 simp (maxSteps := 9999999) (disch := omega) only [vx, px, ty, ↓reduceIte, seval, fx, v62, zBG, zAm]
 have hl := fun k => zqU (enF [.tmp 4] []) sto k xs [] 0 rfl (by simp; omega) h2
 simp only [List.map_nil, List.nil_append] at hl
 rw [hl]
 simp (maxSteps := 9999999) (disch := omega) only [vx, px, ty, ↓reduceIte, seval, fx]
theorem zqW (x : TFunction) (sto : List (List D)) (h : TFunction.n x ≤ 34359738368) : zab T 191 [D.agg [D.str x.Name, D.sl false 1 (List.map D.str x.Params), D.sl false 1 (List.map D.str x.Locals), D.str x.Label], D.agg [D.str x.Name, D.sl false 1 (List.map D.str x.Params), D.sl false 1 (List.map D.str x.Locals), D.str x.Label]] sto = some (.bool true, [], sto) := by
 simp only [TFunction.n] at h
 rw [zag T (g := v191) rfl rfl rfl _ _ rfl]
 simp (maxSteps := 9999999) (disch := omega) only [vx, px, ty, ↓reduceIte, seval, fx, v191, zyF, zfK]
theorem zpO {R : Type} (e : En R) (sto : List (List D)) (k : List Fr) : ∀ (rest pre : List TFunction) (i : Int), i = pre.length → pre.length + rest.length ≤ 34359738368 → lsum TFunction.n rest ≤ 34359738368 →
  go T e zmr (.lp zox :: .bl 0 :: .sq (.clr [4,5,6,7,8,9,10,11,12,13,14,15,16,17,18,19,20,21,22,23,24,25,26]) :: k) ⟨[.d (.sl false 4 (pre.map (TFunction.e false) ++ rest.map (TFunction.e false))), .d (.sl false 4 (pre.map (TFunction.e false) ++ rest.map (TFunction.e false))), Z, Z, Z, .d (.int .i64 i), Z, Z, Z, Z, Z, Z, Z, Z, Z, Z, Z, Z, Z, Z, Z, Z, Z, Z, Z, Z, Z], sto⟩ = bk T e k ⟨[.d (.sl false 4 (pre.map (TFunction.e false) ++ rest.map (TFunction.e false))), .d (.sl false 4 (pre.map (TFunction.e false) ++ rest.map (TFunction.e false))), Z, Z, Z, Z, Z, Z, Z, Z, Z, Z, Z, Z, Z, Z, Z, Z, Z, Z, Z, Z, Z, Z, Z, Z, Z], sto⟩ := by
 intro rest
 induction rest with
 | nil =>
  intro pre i hi h1 h2
  have ht : i.toNat = pre.length := by omega
  unfold zmr
  simp (maxSteps := 9999999) (disch := omega) only [vx, px, ty, ↓reduceIte, seval, fx, zvv]
 | cons x rest ih =>
  intro pre i hi h1 h2
  have ht : i.toNat = pre.length := by omega
  rw [zar] at h2
  rw [List.length_cons] at h1
  unfold zmr
  simp (maxSteps := 9999999) (disch := omega) only [vx, px, ty, ↓reduceIte, seval, fx, vxd, Nat.reduceBNe, zvv, ht, List.map_cons, ifT, zqW]
  have h := ih (pre ++ [x]) (i + 1) (by simp; omega) (by simp; omega) (by omega)
  simp only [zaL] at h
  exact h
theorem zpP (xs : List TFunction) (sto : List (List D)) (h : xs.length ≤ 34359738368) (h2 : lsum TFunction.n xs ≤ 34359738368) : zab T 103 [.sl false 4 (xs.map (TFunction.e false)), .sl false 4 (xs.map (TFunction.e false))] sto = some (.bool true, [], sto) := by
 rw [zag T (g := v103) rfl rfl rfl _ _ rfl]
 simp (maxSteps := 9999999) (disch := omega) only [vx, px, ty, ↓reduceIte, seval, fx, v103, zxx, zvv]
 have hl := fun k => zpO (enF [.tmp 4] []) sto k xs [] 0 rfl (by simp; omega) h2
 simp only [List.map_nil, List.nil_append] at hl
 rw [hl]
 simp (maxSteps := 9999999) (disch := omega) only [vx, px, ty, ↓reduceIte, seval, fx]
theorem znl (x : TRecordType) (sto : List (List D)) (h : TRecordType.n x ≤ 34359738368) : zab T 192 [D.agg [D.str x.Name, D.sl false 1 (List.map D.str x.Fields)], D.agg [D.str x.Name, D.sl false 1 (List.map D.str x.Fields)]] sto = some (.bool true, [], sto) := by
 simp only [TRecordType.n] at h
 rw [zag T (g := v192) rfl rfl rfl _ _ rfl]
 simp (maxSteps := 9999999) (disch := omega) only [vx, px, ty, ↓reduceIte, seval, fx, v192, zyG, zfK]
theorem zmI {R : Type} (e : En R) (sto : List (List D)) (k : List Fr) : ∀ (rest pre : List TRecordType) (i : Int), i = pre.length → pre.length + rest.length ≤ 34359738368 → lsum TRecordType.n rest ≤ 34359738368 →
  go T e zms (.lp zoy :: .bl 0 :: .sq (.clr [4,5,6,7,8,9,10,11,12,13,14,15,16,17,18,19,20,21,22,23,24,25,26]) :: k) ⟨[.d (.sl false 2 (pre.map (TRecordType.e false) ++ rest.map (TRecordType.e false))), .d (.sl false 2 (pre.map (TRecordType.e false) ++ rest.map (TRecordType.e false))), Z, Z, Z, .d (.int .i64 i), Z, Z, Z, Z, Z, Z, Z, Z, Z, Z, Z, Z, Z, Z, Z, Z, Z, Z, Z, Z, Z], sto⟩ = bk T e k ⟨[.d (.sl false 2 (pre.map (TRecordType.e false) ++ rest.map (TRecordType.e false))), .d (.sl false 2 (pre.map (TRecordType.e false) ++ rest.map (TRecordType.e false))), Z, Z, Z, Z, Z, Z, Z, Z, Z, Z, Z, Z, Z, Z, Z, Z, Z, Z, Z, Z, Z, Z, Z, Z, Z], sto⟩ := by
 intro rest
 induction rest with
 | nil =>
  intro pre i hi h1 h2
  have ht : i.toNat = pre.length := by omega
  unfold zms
  simp (maxSteps := 9999999) (disch := omega) only [vx, px, ty, ↓reduceIte, seval, fx, zvw]
 | cons x rest ih =>
  intro pre i hi h1 h2
  have ht : i.toNat = pre.length := by omega
  rw [zar] at h2
  rw [List.length_cons] at h1
  unfold zms
  simp (maxSteps := 9999999) (disch := omega) only [vx, px, ty, ↓reduceIte, seval, fx, vxd, Nat.reduceBNe, zvw, ht, List.map_cons, ifT, znl]
  have h := ih (pre ++ [x]) (i + 1) (by simp; omega) (by simp; omega) (by omega)
  simp only [zaL] at h
  exact h
theorem zmJ (xs : List TRecordType) (sto : List (List D)) (h : xs.length ≤ 34359738368) (h2 : lsum TRecordType.n xs ≤ 34359738368) : zab T 104 [.sl false 2 (xs.map (TRecordType.e false)), .sl false 2 (xs.map (TRecordType.e false))] sto = some (.bool true, [], sto) := by
 rw [zag T (g := v104) rfl rfl rfl _ _ rfl]
 simp (maxSteps := 9999999) (disch := omega) only [vx, px, ty, ↓reduceIte, seval, fx, v104, zxy, zvw]
 have hl := fun k => zmI (enF [.tmp 4] []) sto k xs [] 0 rfl (by simp; omega) h2
 simp only [List.map_nil, List.nil_append] at hl
 rw [hl]
 simp (maxSteps := 9999999) (disch := omega) only [vx, px, ty, ↓reduceIte, seval, fx]
theorem zvW (x : TScope) (sto : List (List D)) (h : TScope.n x ≤ 34359738368) : zab T 41 [D.agg [D.sl false 5 (List.map (TBinding.e false) x.Vars), D.sl false 4 (List.map (TFunction.e false) x.Functions), D.sl false 2 (List.map (TRecordType.e false) x.Types)], D.agg [D.sl false 5 (List.map (TBinding.e false) x.Vars), D.sl false 4 (List.map (TFunction.e false) x.Functions), D.sl false 2 (List.map (TRecordType.e false) x.Types)]] sto = some (.bool true, [], sto) := by
 simp only [TScope.n] at h
 rw [zag T (g := v41) rfl rfl rfl _ _ rfl]
 simp (maxSteps := 9999999) (disch := omega) only [vx, px, ty, ↓reduceIte, seval, fx, v41, zBB, zqV, zpP, zmJ]
theorem zwO (x : TFile) (sto : List (List D)) (h : TFile.n x ≤ 34359738368) : zab T 193 [D.agg [D.str x.Name, D.sl false 1 (List.map D.str x.Lines), D.int .i64 x.Mode, D.int .i64 x.At], D.agg [D.str x.Name, D.sl false 1 (List.map D.str x.Lines), D.int .i64 x.Mode, D.int .i64 x.At]] sto = some (.bool true, [], sto) := by
 simp only [TFile.n] at h
 rw [zag T (g := v193) rfl rfl rfl _ _ rfl]
 simp (maxSteps := 9999999) (disch := omega) only [vx, px, ty, ↓reduceIte, seval, fx, v193, zyH, zfK]
theorem zvX {R : Type} (e : En R) (sto : List (List D)) (k : List Fr) : ∀ (rest pre : List TFile) (i : Int), i = pre.length → pre.length + rest.length ≤ 34359738368 → lsum TFile.n rest ≤ 34359738368 →
  go T e zmt (.lp zoz :: .bl 0 :: .sq (.clr [4,5,6,7,8,9,10,11,12,13,14,15,16,17,18,19,20,21,22,23,24,25,26]) :: k) ⟨[.d (.sl false 4 (pre.map (TFile.e false) ++ rest.map (TFile.e false))), .d (.sl false 4 (pre.map (TFile.e false) ++ rest.map (TFile.e false))), Z, Z, Z, .d (.int .i64 i), Z, Z, Z, Z, Z, Z, Z, Z, Z, Z, Z, Z, Z, Z, Z, Z, Z, Z, Z, Z, Z], sto⟩ = bk T e k ⟨[.d (.sl false 4 (pre.map (TFile.e false) ++ rest.map (TFile.e false))), .d (.sl false 4 (pre.map (TFile.e false) ++ rest.map (TFile.e false))), Z, Z, Z, Z, Z, Z, Z, Z, Z, Z, Z, Z, Z, Z, Z, Z, Z, Z, Z, Z, Z, Z, Z, Z, Z], sto⟩ := by
 intro rest
 induction rest with
 | nil =>
  intro pre i hi h1 h2
  have ht : i.toNat = pre.length := by omega
  unfold zmt
  simp (maxSteps := 9999999) (disch := omega) only [vx, px, ty, ↓reduceIte, seval, fx, zvx]
 | cons x rest ih =>
  intro pre i hi h1 h2
  have ht : i.toNat = pre.length := by omega
  rw [zar] at h2
  rw [List.length_cons] at h1
  unfold zmt
  simp (maxSteps := 9999999) (disch := omega) only [vx, px, ty, ↓reduceIte, seval, fx, vxd, Nat.reduceBNe, zvx, ht, List.map_cons, ifT, zwO]
  have h := ih (pre ++ [x]) (i + 1) (by simp; omega) (by simp; omega) (by omega)
  simp only [zaL] at h
  exact h
theorem zvY (xs : List TFile) (sto : List (List D)) (h : xs.length ≤ 34359738368) (h2 : lsum TFile.n xs ≤ 34359738368) : zab T 105 [.sl false 4 (xs.map (TFile.e false)), .sl false 4 (xs.map (TFile.e false))] sto = some (.bool true, [], sto) := by
 rw [zag T (g := v105) rfl rfl rfl _ _ rfl]
 simp (maxSteps := 9999999) (disch := omega) only [vx, px, ty, ↓reduceIte, seval, fx, v105, zxz, zvx]
 have hl := fun k => zvX (enF [.tmp 4] []) sto k xs [] 0 rfl (by simp; omega) h2
 simp only [List.map_nil, List.nil_append] at hl
 rw [hl]
 simp (maxSteps := 9999999) (disch := omega) only [vx, px, ty, ↓reduceIte, seval, fx]
theorem zsm (x : TConsole) (sto : List (List D)) (h : TConsole.n x ≤ 34359738368) : zab T 42 [D.agg [D.sl false 1 (List.map D.str x.Input), D.int .i64 x.At, D.sl false 1 (List.map D.str x.Output), D.sl false 4 (List.map (TFile.e false) x.Files), D.sl false 1 (List.map D.str x.Trace)], D.agg [D.sl false 1 (List.map D.str x.Input), D.int .i64 x.At, D.sl false 1 (List.map D.str x.Output), D.sl false 4 (List.map (TFile.e false) x.Files), D.sl false 1 (List.map D.str x.Trace)]] sto = some (.bool true, [], sto) := by
 simp only [TConsole.n] at h
 rw [zag T (g := v42) rfl rfl rfl _ _ rfl]
 simp (maxSteps := 9999999) (disch := omega) only [vx, px, ty, ↓reduceIte, seval, fx, v42, zBC, zvY, zfK]
theorem zue (x : TMemory) (sto : List (List D)) (h : TMemory.n x ≤ 34359738368) : zab T 12 [D.agg [D.int .i64 x.Heap.Next, D.sl false 10 (List.map (TObject.e false) x.Heap.Objects), D.sl false 5 (List.map (TBinding.e false) x.Scope.Vars), D.sl false 4 (List.map (TFunction.e false) x.Scope.Functions), D.sl false 2 (List.map (TRecordType.e false) x.Scope.Types), D.sl false 1 (List.map D.str x.Console.Input), D.int .i64 x.Console.At, D.sl false 1 (List.map D.str x.Console.Output), D.sl false 4 (List.map (TFile.e false) x.Console.Files), D.sl false 1 (List.map D.str x.Console.Trace)], D.agg [D.int .i64 x.Heap.Next, D.sl false 10 (List.map (TObject.e false) x.Heap.Objects), D.sl false 5 (List.map (TBinding.e false) x.Scope.Vars), D.sl false 4 (List.map (TFunction.e false) x.Scope.Functions), D.sl false 2 (List.map (TRecordType.e false) x.Scope.Types), D.sl false 1 (List.map D.str x.Console.Input), D.int .i64 x.Console.At, D.sl false 1 (List.map D.str x.Console.Output), D.sl false 4 (List.map (TFile.e false) x.Console.Files), D.sl false 1 (List.map D.str x.Console.Trace)]] sto = some (.bool true, [], sto) := by
 simp only [TMemory.n] at h
 rw [zag T (g := v12) rfl rfl rfl _ _ rfl]
 simp (maxSteps := 9999999) (disch := omega) only [vx, px, ty, ↓reduceIte, seval, fx, v12, zBt, zsm, zwN, zvW]
end Go.Vx.NmZ
