/-
  The laws' own functions: sz.
-/
import Derived.Test.YthppbplieikhkaaGreatDoorTypes
import Derived.Test.YthppbplieikhkaaGreatDoorCode
set_option linter.unusedVariables false
set_option linter.unusedSimpArgs false
namespace Go.Vx.DtZ
set_option linter.unusedVariables false
set_option linter.unusedSimpArgs false
set_option maxRecDepth 4000
set_option maxHeartbeats 4000000
theorem zoK {R : Type} (e : En R) (sto : List (List D)) (k : List Fr) : ∀ (rest pre : List ByteArray) (i left : Int), i = pre.length → pre.length + rest.length ≤ 1048576 → ((lsum ByteArray.size rest : Nat) : Int) ≤ left → left ≤ 1048576 →
  go T e zjS (.lp zmg :: .bl 0 :: .sq (.clr [4,5,6,7,8,9,10,11,12,13,14,15,16,17,18,19,20,21,22,23,24,25,26]) :: k) ⟨[.d (.sl false 1 (pre.map D.str ++ rest.map D.str)), .d (.int .i64 left), Z, Z, Z, .d (.int .i64 i), Z, Z, Z, Z, Z, Z, Z, Z, Z, Z, Z, Z, Z, Z, Z, Z, Z, Z, Z, Z, Z, Z], sto⟩ = bk T e k ⟨[.d (.sl false 1 (pre.map D.str ++ rest.map D.str)), .d (.int .i64 (left - (lsum ByteArray.size rest : Nat))), Z, Z, Z, Z, Z, Z, Z, Z, Z, Z, Z, Z, Z, Z, Z, Z, Z, Z, Z, Z, Z, Z, Z, Z, Z, Z], sto⟩ := by
 intro rest
 induction rest with
 | nil =>
  intro pre i left hi h1 h2 h3
  have hR : left - ((lsum ByteArray.size ([] : List ByteArray) : Nat) : Int) = left := by simp [zet]
  have ht : i.toNat = pre.length := by omega
  rw [hR]
  unfold zjS
  simp (maxSteps := 9999999) (disch := omega) only [vx, px, ty, ↓reduceIte, seval, fx, zsS]
 | cons x rest ih =>
  intro pre i left hi h1 h2 h3
  have hR : left - ((lsum ByteArray.size (x :: rest) : Nat) : Int) = left - (ByteArray.size x : Nat) - (lsum ByteArray.size rest : Nat) := by rw [zao]; omega
  have ht : i.toNat = pre.length := by omega
  rw [zao] at h2
  rw [List.length_cons] at h1
  rw [hR]
  unfold zjS
  simp (maxSteps := 9999999) (disch := omega) only [vx, px, ty, ↓reduceIte, seval, fx, zsS, ht, List.map_cons, ifT]
  have h := ih (pre ++ [x]) (i + 1) (left - (ByteArray.size x : Nat)) (by simp; omega) (by simp; omega) (by omega) (by omega)
  simp only [zbh] at h
  exact h
theorem zjV (xs : List ByteArray) (left : Int) (sto : List (List D)) (h : ((xs.length + lsum ByteArray.size xs : Nat) : Int) ≤ left) (h2 : left ≤ 1048576) : zac T 106 [.sl false 1 (xs.map D.str), .int .i64 left] sto = some (.int .i64 (left - ((xs.length + lsum ByteArray.size xs : Nat) : Int)), [], sto) := by
 rw [zag T (g := v106) rfl rfl rfl _ _ rfl]
 simp (maxSteps := 9999999) (disch := omega) only [vx, px, ty, ↓reduceIte, seval, fx, v106, zuQ, zsS]
 have hl := fun k => zoK (enF [.tmp 4] []) sto k xs [] 0 (left - xs.length) rfl (by simp; omega) (by omega) (by omega)
 simp only [List.map_nil, List.nil_append] at hl
 rw [hl]
 simp (maxSteps := 9999999) (disch := omega) only [vx, px, ty, ↓reduceIte, seval, fx]
 try exact congrArg (fun z => some (D.int .i64 z, ([] : List D), sto)) (by omega)
theorem zsY (x : TValue) (left : Int) (sto : List (List D)) (h : ((TValue.n x : Nat) : Int) ≤ left) (h2 : left ≤ 1048576) : zac T 105 [D.agg [D.int .i64 x.Kind, D.int .i64 x.Num, D.str x.Text, D.int .i64 x.Ref], .int .i64 left] sto = some (.int .i64 (left - (TValue.n x : Nat)), [], sto) := by
 simp only [TValue.n] at h ⊢
 rw [zag T (g := v105) rfl rfl rfl _ _ rfl]
 simp (maxSteps := 9999999) (disch := omega) only [vx, px, ty, ↓reduceIte, seval, fx, v105, zuP]
 try exact congrArg (fun z => some (D.int .i64 z, ([] : List D), sto)) (by omega)
theorem zoL (x : TBinding) (left : Int) (sto : List (List D)) (h : ((TBinding.n x : Nat) : Int) ≤ left) (h2 : left ≤ 1048576) : zac T 57 [D.agg [D.str x.Name, D.int .i64 x.Value.Kind, D.int .i64 x.Value.Num, D.str x.Value.Text, D.int .i64 x.Value.Ref], .int .i64 left] sto = some (.int .i64 (left - (TBinding.n x : Nat)), [], sto) := by
 simp only [TBinding.n] at h ⊢
 rw [zag T (g := v57) rfl rfl rfl _ _ rfl]
 simp (maxSteps := 9999999) (disch := omega) only [vx, px, ty, ↓reduceIte, seval, fx, v57, zya, zsY]
 try exact congrArg (fun z => some (D.int .i64 z, ([] : List D), sto)) (by omega)
theorem znI {R : Type} (e : En R) (sto : List (List D)) (k : List Fr) : ∀ (rest pre : List TBinding) (i left : Int), i = pre.length → pre.length + rest.length ≤ 1048576 → ((lsum TBinding.n rest : Nat) : Int) ≤ left → left ≤ 1048576 →
  go T e znr (.lp zpE :: .bl 0 :: .sq (.clr [4,5,6,7,8,9,10,11,12,13,14,15,16,17,18,19,20,21,22,23,24,25]) :: k) ⟨[.d (.sl false 5 (pre.map (TBinding.e false) ++ rest.map (TBinding.e false))), .d (.int .i64 left), Z, Z, Z, .d (.int .i64 i), Z, Z, Z, Z, Z, Z, Z, Z, Z, Z, Z, Z, Z, Z, Z, Z, Z, Z, Z, Z, Z], sto⟩ = bk T e k ⟨[.d (.sl false 5 (pre.map (TBinding.e false) ++ rest.map (TBinding.e false))), .d (.int .i64 (left - (lsum TBinding.n rest : Nat))), Z, Z, Z, Z, Z, Z, Z, Z, Z, Z, Z, Z, Z, Z, Z, Z, Z, Z, Z, Z, Z, Z, Z, Z, Z], sto⟩ := by
 intro rest
 induction rest with
 | nil =>
  intro pre i left hi h1 h2 h3
  have hR : left - ((lsum TBinding.n ([] : List TBinding) : Nat) : Int) = left := by simp [zet]
  have ht : i.toNat = pre.length := by omega
  rw [hR]
  unfold znr
  simp (maxSteps := 9999999) (disch := omega) only [vx, px, ty, ↓reduceIte, seval, fx, zvY]
 | cons x rest ih =>
  intro pre i left hi h1 h2 h3
  have hR : left - ((lsum TBinding.n (x :: rest) : Nat) : Int) = left - (TBinding.n x : Nat) - (lsum TBinding.n rest : Nat) := by rw [zao]; omega
  have ht : i.toNat = pre.length := by omega
  rw [zao] at h2
  rw [List.length_cons] at h1
  rw [hR]
  unfold znr
  simp (maxSteps := 9999999) (disch := omega) only [vx, px, ty, ↓reduceIte, seval, fx, zvY, ht, List.map_cons, ifT, zoL]
  have h := ih (pre ++ [x]) (i + 1) (left - (TBinding.n x : Nat)) (by simp; omega) (by simp; omega) (by omega) (by omega)
  simp only [zbh] at h
  exact h
theorem znJ (xs : List TBinding) (left : Int) (sto : List (List D)) (h : ((xs.length + lsum TBinding.n xs : Nat) : Int) ≤ left) (h2 : left ≤ 1048576) : zac T 21 [.sl false 5 (xs.map (TBinding.e false)), .int .i64 left] sto = some (.int .i64 (left - ((xs.length + lsum TBinding.n xs : Nat) : Int)), [], sto) := by
 rw [zag T (g := v21) rfl rfl rfl _ _ rfl]
 simp (maxSteps := 9999999) (disch := omega) only [vx, px, ty, ↓reduceIte, seval, fx, v21, zxA, zvY]
 have hl := fun k => znI (enF [.tmp 4] []) sto k xs [] 0 (left - xs.length) rfl (by simp; omega) (by omega) (by omega)
 simp only [List.map_nil, List.nil_append] at hl
 rw [hl]
 simp (maxSteps := 9999999) (disch := omega) only [vx, px, ty, ↓reduceIte, seval, fx]
 try exact congrArg (fun z => some (D.int .i64 z, ([] : List D), sto)) (by omega)
theorem znK (x : TFunction) (left : Int) (sto : List (List D)) (h : ((TFunction.n x : Nat) : Int) ≤ left) (h2 : left ≤ 1048576) : zac T 58 [D.agg [D.str x.Name, D.sl false 1 (List.map D.str x.Params), D.sl false 1 (List.map D.str x.Locals), D.str x.Label], .int .i64 left] sto = some (.int .i64 (left - (TFunction.n x : Nat)), [], sto) := by
 simp only [TFunction.n] at h ⊢
 rw [zag T (g := v58) rfl rfl rfl _ _ rfl]
 simp (maxSteps := 9999999) (disch := omega) only [vx, px, ty, ↓reduceIte, seval, fx, v58, zyb, zjV]
 try exact congrArg (fun z => some (D.int .i64 z, ([] : List D), sto)) (by omega)
theorem zmr {R : Type} (e : En R) (sto : List (List D)) (k : List Fr) : ∀ (rest pre : List TFunction) (i left : Int), i = pre.length → pre.length + rest.length ≤ 1048576 → ((lsum TFunction.n rest : Nat) : Int) ≤ left → left ≤ 1048576 →
  go T e zns (.lp zpF :: .bl 0 :: .sq (.clr [4,5,6,7,8,9,10,11,12,13,14,15,16,17,18,19,20,21,22,23,24,25]) :: k) ⟨[.d (.sl false 4 (pre.map (TFunction.e false) ++ rest.map (TFunction.e false))), .d (.int .i64 left), Z, Z, Z, .d (.int .i64 i), Z, Z, Z, Z, Z, Z, Z, Z, Z, Z, Z, Z, Z, Z, Z, Z, Z, Z, Z, Z, Z], sto⟩ = bk T e k ⟨[.d (.sl false 4 (pre.map (TFunction.e false) ++ rest.map (TFunction.e false))), .d (.int .i64 (left - (lsum TFunction.n rest : Nat))), Z, Z, Z, Z, Z, Z, Z, Z, Z, Z, Z, Z, Z, Z, Z, Z, Z, Z, Z, Z, Z, Z, Z, Z, Z], sto⟩ := by
 intro rest
 induction rest with
 | nil =>
  intro pre i left hi h1 h2 h3
  have hR : left - ((lsum TFunction.n ([] : List TFunction) : Nat) : Int) = left := by simp [zet]
  have ht : i.toNat = pre.length := by omega
  rw [hR]
  unfold zns
  simp (maxSteps := 9999999) (disch := omega) only [vx, px, ty, ↓reduceIte, seval, fx, zvZ]
 | cons x rest ih =>
  intro pre i left hi h1 h2 h3
  have hR : left - ((lsum TFunction.n (x :: rest) : Nat) : Int) = left - (TFunction.n x : Nat) - (lsum TFunction.n rest : Nat) := by rw [zao]; omega
  have ht : i.toNat = pre.length := by omega
  rw [zao] at h2
  rw [List.length_cons] at h1
  rw [hR]
  unfold zns
  simp (maxSteps := 9999999) (disch := omega) only [vx, px, ty, ↓reduceIte, seval, fx, zvZ, ht, List.map_cons, ifT, znK]
  have h := ih (pre ++ [x]) (i + 1) (left - (TFunction.n x : Nat)) (by simp; omega) (by simp; omega) (by omega) (by omega)
  simp only [zbh] at h
  exact h
theorem zms (xs : List TFunction) (left : Int) (sto : List (List D)) (h : ((xs.length + lsum TFunction.n xs : Nat) : Int) ≤ left) (h2 : left ≤ 1048576) : zac T 22 [.sl false 4 (xs.map (TFunction.e false)), .int .i64 left] sto = some (.int .i64 (left - ((xs.length + lsum TFunction.n xs : Nat) : Int)), [], sto) := by
 rw [zag T (g := v22) rfl rfl rfl _ _ rfl]
 simp (maxSteps := 9999999) (disch := omega) only [vx, px, ty, ↓reduceIte, seval, fx, v22, zxB, zvZ]
 have hl := fun k => zmr (enF [.tmp 4] []) sto k xs [] 0 (left - xs.length) rfl (by simp; omega) (by omega) (by omega)
 simp only [List.map_nil, List.nil_append] at hl
 rw [hl]
 simp (maxSteps := 9999999) (disch := omega) only [vx, px, ty, ↓reduceIte, seval, fx]
 try exact congrArg (fun z => some (D.int .i64 z, ([] : List D), sto)) (by omega)
theorem zkR (x : TRecordType) (left : Int) (sto : List (List D)) (h : ((TRecordType.n x : Nat) : Int) ≤ left) (h2 : left ≤ 1048576) : zac T 59 [D.agg [D.str x.Name, D.sl false 1 (List.map D.str x.Fields)], .int .i64 left] sto = some (.int .i64 (left - (TRecordType.n x : Nat)), [], sto) := by
 simp only [TRecordType.n] at h ⊢
 rw [zag T (g := v59) rfl rfl rfl _ _ rfl]
 simp (maxSteps := 9999999) (disch := omega) only [vx, px, ty, ↓reduceIte, seval, fx, v59, zyc, zjV]
 try exact congrArg (fun z => some (D.int .i64 z, ([] : List D), sto)) (by omega)
theorem zjW {R : Type} (e : En R) (sto : List (List D)) (k : List Fr) : ∀ (rest pre : List TRecordType) (i left : Int), i = pre.length → pre.length + rest.length ≤ 1048576 → ((lsum TRecordType.n rest : Nat) : Int) ≤ left → left ≤ 1048576 →
  go T e znt (.lp zpG :: .bl 0 :: .sq (.clr [4,5,6,7,8,9,10,11,12,13,14,15,16,17,18,19,20,21,22,23,24,25]) :: k) ⟨[.d (.sl false 2 (pre.map (TRecordType.e false) ++ rest.map (TRecordType.e false))), .d (.int .i64 left), Z, Z, Z, .d (.int .i64 i), Z, Z, Z, Z, Z, Z, Z, Z, Z, Z, Z, Z, Z, Z, Z, Z, Z, Z, Z, Z, Z], sto⟩ = bk T e k ⟨[.d (.sl false 2 (pre.map (TRecordType.e false) ++ rest.map (TRecordType.e false))), .d (.int .i64 (left - (lsum TRecordType.n rest : Nat))), Z, Z, Z, Z, Z, Z, Z, Z, Z, Z, Z, Z, Z, Z, Z, Z, Z, Z, Z, Z, Z, Z, Z, Z, Z], sto⟩ := by
 intro rest
 induction rest with
 | nil =>
  intro pre i left hi h1 h2 h3
  have hR : left - ((lsum TRecordType.n ([] : List TRecordType) : Nat) : Int) = left := by simp [zet]
  have ht : i.toNat = pre.length := by omega
  rw [hR]
  unfold znt
  simp (maxSteps := 9999999) (disch := omega) only [vx, px, ty, ↓reduceIte, seval, fx, zwa]
 | cons x rest ih =>
  intro pre i left hi h1 h2 h3
  have hR : left - ((lsum TRecordType.n (x :: rest) : Nat) : Int) = left - (TRecordType.n x : Nat) - (lsum TRecordType.n rest : Nat) := by rw [zao]; omega
  have ht : i.toNat = pre.length := by omega
  rw [zao] at h2
  rw [List.length_cons] at h1
  rw [hR]
  unfold znt
  simp (maxSteps := 9999999) (disch := omega) only [vx, px, ty, ↓reduceIte, seval, fx, zwa, ht, List.map_cons, ifT, zkR]
  have h := ih (pre ++ [x]) (i + 1) (left - (TRecordType.n x : Nat)) (by simp; omega) (by simp; omega) (by omega) (by omega)
  simp only [zbh] at h
  exact h
theorem zjX (xs : List TRecordType) (left : Int) (sto : List (List D)) (h : ((xs.length + lsum TRecordType.n xs : Nat) : Int) ≤ left) (h2 : left ≤ 1048576) : zac T 23 [.sl false 2 (xs.map (TRecordType.e false)), .int .i64 left] sto = some (.int .i64 (left - ((xs.length + lsum TRecordType.n xs : Nat) : Int)), [], sto) := by
 rw [zag T (g := v23) rfl rfl rfl _ _ rfl]
 simp (maxSteps := 9999999) (disch := omega) only [vx, px, ty, ↓reduceIte, seval, fx, v23, zxC, zwa]
 have hl := fun k => zjW (enF [.tmp 4] []) sto k xs [] 0 (left - xs.length) rfl (by simp; omega) (by omega) (by omega)
 simp only [List.map_nil, List.nil_append] at hl
 rw [hl]
 simp (maxSteps := 9999999) (disch := omega) only [vx, px, ty, ↓reduceIte, seval, fx]
 try exact congrArg (fun z => some (D.int .i64 z, ([] : List D), sto)) (by omega)
theorem znL (x : TScope) (left : Int) (sto : List (List D)) (h : ((TScope.n x : Nat) : Int) ≤ left) (h2 : left ≤ 1048576) : zac T 6 [D.agg [D.sl false 5 (List.map (TBinding.e false) x.Vars), D.sl false 4 (List.map (TFunction.e false) x.Functions), D.sl false 2 (List.map (TRecordType.e false) x.Types)], .int .i64 left] sto = some (.int .i64 (left - (TScope.n x : Nat)), [], sto) := by
 simp only [TScope.n] at h ⊢
 rw [zag T (g := v6) rfl rfl rfl _ _ rfl]
 simp (maxSteps := 9999999) (disch := omega) only [vx, px, ty, ↓reduceIte, seval, fx, v6, v6_b, znJ, zms, zjX]
 try exact congrArg (fun z => some (D.int .i64 z, ([] : List D), sto)) (by omega)
end Go.Vx.DtZ
