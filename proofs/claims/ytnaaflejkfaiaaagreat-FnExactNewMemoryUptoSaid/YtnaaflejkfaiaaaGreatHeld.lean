/-
  The laws' own functions: held.
-/
import Derived.Test.YtnaaflejkfaiaaaGreatTypes
import Derived.Test.YtnaaflejkfaiaaaGreatCode
import Derived.Test.YtnaaflejkfaiaaaGreatMark
set_option linter.unusedVariables false
set_option linter.unusedSimpArgs false
namespace Go.Vx.NmZ
set_option linter.unusedVariables false
set_option linter.unusedSimpArgs false
set_option maxRecDepth 4000
set_option maxHeartbeats 4000000
theorem zpU {R : Type} (e : En R) (sto : List (List D)) (k : List Fr) : ∀ (rest pre : List ByteArray) (i q : Int), i = pre.length → pre.length + rest.length ≤ 34359738368 → lsum ByteArray.size rest ≤ 34359738368 → 0 ≤ q → q + ((lsum (fun _ => 1) rest : Nat) : Int) ≤ 1099511627776 →
  go T e zmB (.lp zoH :: .bl 0 :: .sq (.clr [4,5,6,7,8,9,10,11,12,13,14,15,16,17,18,19,20]) :: k) ⟨[.d (.sl false 1 (pre.map D.str ++ (mkL (fun _ k => mt k) (fun _ k => k + 1) rest q).map D.str)), .d (.int .i64 q), Z, Z, Z, .d (.int .i64 i), Z, Z, Z, Z, Z, Z, Z, Z, Z, Z, Z, Z, Z, Z, Z, Z], sto⟩ = bk T e k ⟨[.d (.sl false 1 (pre.map D.str ++ (mkL (fun _ k => mt k) (fun _ k => k + 1) rest q).map D.str)), .d (.int .i64 (zaa (fun _ k => k + 1) rest q)), Z, Z, Z, Z, Z, Z, Z, Z, Z, Z, Z, Z, Z, Z, Z, Z, Z, Z, Z, Z], sto⟩ := by
 intro rest
 induction rest with
 | nil =>
  intro pre i q hi h1 h2 h3 h4
  have ht : i.toNat = pre.length := by omega
  unfold zmB
  simp (maxSteps := 9999999) (disch := omega) only [vx, px, ty, ↓reduceIte, seval, fx, zvF, mkL, zaa]
 | cons x rest ih =>
  intro pre i q hi h1 h2 h3 h4
  have ht : i.toNat = pre.length := by omega
  simp only [zar] at h2 h4
  rw [List.length_cons] at h1
  have h := ih (pre ++ [mt q]) (i + 1) (q + 1) (by simp; omega) (by simp; omega) (by omega) (by omega) (by omega)
  simp only [zaL] at h
  simp only [mkL, zaa, List.map_cons]
  unfold zmB
  simp (maxSteps := 9999999) (disch := omega) only [vx, px, ty, ↓reduceIte, seval, fx, vxd, Nat.reduceBNe, zvF, ht, ifT, zaY]
  exact h
theorem zfx (xs : List ByteArray) (q : Int) (sto : List (List D)) (h : xs.length ≤ 34359738368) (h2 : lsum ByteArray.size xs ≤ 34359738368) (h3 : 0 ≤ q) (h4 : q + ((lsum (fun _ => 1) xs : Nat) : Int) ≤ 1099511627776) : zab T 113 [.sl false 1 ((mkL (fun _ k => mt k) (fun _ k => k + 1) xs q).map D.str), .int .i64 q] sto = some (.int .i64 (zaa (fun _ k => k + 1) xs q), [], sto) := by
 rw [zag T (g := v113) rfl rfl rfl _ _ rfl]
 simp (maxSteps := 9999999) (disch := omega) only [vx, px, ty, ↓reduceIte, seval, fx, v113, zxH, zvF]
 have hl := fun k => zpU (enF [.tmp 4] []) sto k xs [] 0 q rfl (by simp; omega) h2 h3 h4
 simp only [List.map_nil, List.nil_append] at hl
 rw [hl]
 simp (maxSteps := 9999999) (disch := omega) only [vx, px, ty, ↓reduceIte, seval, fx]
theorem zra {R : Type} (e : En R) (sto : List (List D)) (k : List Fr) : ∀ (rest pre : List TValue) (i q : Int), i = pre.length → pre.length + rest.length ≤ 34359738368 → lsum TValue.n rest ≤ 34359738368 → 0 ≤ q → q + ((lsum TValue.m rest : Nat) : Int) ≤ 1099511627776 →
  go T e zmF (.lp zoP :: .bl 0 :: .sq (.clr [4,5,6,7,8,9,10,11,12,13,14,15,16,17,18,19,20,21,22,23,24,25,26,27,28,29,30,31,32,33,34,35,36,37,38,39,40,41,42,43,44,45,46,47,48]) :: k) ⟨[.d (.sl false 4 (pre.map (TValue.e false) ++ (mkL TValue.mk_ TValue.nx rest q).map (TValue.e false))), .d (.int .i64 q), Z, Z, Z, .d (.int .i64 i), Z, Z, Z, Z, Z, Z, Z, Z, Z, Z, Z, Z, Z, Z, Z, Z, Z, Z, Z, Z, Z, Z, Z, Z, Z, Z, Z, Z, Z, Z, Z, Z, Z, Z, Z, Z, Z, Z, Z, Z, Z, Z, Z, Z], sto⟩ = bk T e k ⟨[.d (.sl false 4 (pre.map (TValue.e false) ++ (mkL TValue.mk_ TValue.nx rest q).map (TValue.e false))), .d (.int .i64 (zaa TValue.nx rest q)), Z, Z, Z, Z, Z, Z, Z, Z, Z, Z, Z, Z, Z, Z, Z, Z, Z, Z, Z, Z, Z, Z, Z, Z, Z, Z, Z, Z, Z, Z, Z, Z, Z, Z, Z, Z, Z, Z, Z, Z, Z, Z, Z, Z, Z, Z, Z, Z], sto⟩ := by
 intro rest
 induction rest with
 | nil =>
  intro pre i q hi h1 h2 h3 h4
  have ht : i.toNat = pre.length := by omega
  unfold zmF
  simp (maxSteps := 9999999) (disch := omega) only [vx, px, ty, ↓reduceIte, seval, fx, zvK, mkL, zaa]
 | cons x rest ih =>
  intro pre i q hi h1 h2 h3 h4
  have ht : i.toNat = pre.length := by omega
  simp only [zar, TValue.m, TValue.n] at h2 h4
  rw [List.length_cons] at h1
  have hnx := TValue.nxm x q
  have h := ih (pre ++ [TValue.mk_ x q]) (i + 1) (TValue.nx x q) (by simp; omega) (by simp; omega) (by omega) (by omega) (by simp only [hnx, TValue.m]; omega)
  simp only [zaL] at h
  simp only [mkL, zaa, List.map_cons]
  unfold zmF
  simp (maxSteps := 9999999) (disch := omega) only [vx, px, ty, ↓reduceIte, seval, fx, vxd, Nat.reduceBNe, zvK, ht, ifT, zaY, TValue.mk_]
  exact h
theorem zrb (xs : List TValue) (q : Int) (sto : List (List D)) (h : xs.length ≤ 34359738368) (h2 : lsum TValue.n xs ≤ 34359738368) (h3 : 0 ≤ q) (h4 : q + ((lsum TValue.m xs : Nat) : Int) ≤ 1099511627776) : zab T 143 [.sl false 4 ((mkL TValue.mk_ TValue.nx xs q).map (TValue.e false)), .int .i64 q] sto = some (.int .i64 (zaa TValue.nx xs q), [], sto) := by
 rw [zag T (g := v143) rfl rfl rfl _ _ rfl]
 simp (maxSteps := 9999999) (disch := omega) only [vx, px, ty, ↓reduceIte, seval, fx, v143, zxP, zvK]
 have hl := fun k => zra (enF [.tmp 4] []) sto k xs [] 0 q rfl (by simp; omega) h2 h3 h4
 simp only [List.map_nil, List.nil_append] at hl
 rw [hl]
 simp (maxSteps := 9999999) (disch := omega) only [vx, px, ty, ↓reduceIte, seval, fx]
theorem zpV {R : Type} (e : En R) (sto : List (List D)) (k : List Fr) : ∀ (rest pre : List TObject) (i q : Int), i = pre.length → pre.length + rest.length ≤ 34359738368 → lsum TObject.n rest ≤ 34359738368 → 0 ≤ q → q + ((lsum TObject.m rest : Nat) : Int) ≤ 1099511627776 →
  go T e zmy (.lp zoE :: .bl 0 :: .sq (.clr [4,5,6,7,8,9,10,11,12,13,14,15,16,17,18,19,20,21,22,23,24,25,26,27,28,29,30,31,32,33,34,35,36,37,38,39,40,41,42,43,44,45,46,47,48,49,50,51,52,53,54,55,56,57,58,59,60,61,62,63,64,65,66,67,68,69,70,71,72,73,74,75,76,77,78,79,80,81,82,83,84,85,86,87,88,89,90,91,92,93,94,95,96,97,98,99,100,101,102,103,104,105,106,107]) :: k) ⟨[.d (.sl false 10 (pre.map (TObject.e false) ++ (mkL TObject.mk_ TObject.nx rest q).map (TObject.e false))), .d (.int .i64 q), Z, Z, Z, .d (.int .i64 i), Z, Z, Z, Z, Z, Z, Z, Z, Z, Z, Z, Z, Z, Z, Z, Z, Z, Z, Z, Z, Z, Z, Z, Z, Z, Z, Z, Z, Z, Z, Z, Z, Z, Z, Z, Z, Z, Z, Z, Z, Z, Z, Z, Z, Z, Z, Z, Z, Z, Z, Z, Z, Z, Z, Z, Z, Z, Z, Z, Z, Z, Z, Z, Z, Z, Z, Z, Z, Z, Z, Z, Z, Z, Z, Z, Z, Z, Z, Z, Z, Z, Z, Z, Z, Z, Z, Z, Z, Z, Z, Z, Z, Z, Z, Z, Z, Z, Z, Z, Z, Z, Z, Z], sto⟩ = bk T e k ⟨[.d (.sl false 10 (pre.map (TObject.e false) ++ (mkL TObject.mk_ TObject.nx rest q).map (TObject.e false))), .d (.int .i64 (zaa TObject.nx rest q)), Z, Z, Z, Z, Z, Z, Z, Z, Z, Z, Z, Z, Z, Z, Z, Z, Z, Z, Z, Z, Z, Z, Z, Z, Z, Z, Z, Z, Z, Z, Z, Z, Z, Z, Z, Z, Z, Z, Z, Z, Z, Z, Z, Z, Z, Z, Z, Z, Z, Z, Z, Z, Z, Z, Z, Z, Z, Z, Z, Z, Z, Z, Z, Z, Z, Z, Z, Z, Z, Z, Z, Z, Z, Z, Z, Z, Z, Z, Z, Z, Z, Z, Z, Z, Z, Z, Z, Z, Z, Z, Z, Z, Z, Z, Z, Z, Z, Z, Z, Z, Z, Z, Z, Z, Z, Z, Z], sto⟩ := by
 intro rest
 induction rest with
 | nil =>
  intro pre i q hi h1 h2 h3 h4
  have ht : i.toNat = pre.length := by omega
  unfold zmy
  simp (maxSteps := 9999999) (disch := omega) only [vx, px, ty, ↓reduceIte, seval, fx, zvC, mkL, zaa]
 | cons x rest ih =>
  intro pre i q hi h1 h2 h3 h4
  have ht : i.toNat = pre.length := by omega
  simp only [zar, TObject.m, TObject.n, TValue.m, TValue.n] at h2 h4
  rw [List.length_cons] at h1
  have hf0 := zau TValue.nxm x.Keys (q + 1 + 1 + 1 + 1)
  have hf1 := zau TValue.nxm x.Vals (zaa TValue.nx x.Keys (q + 1 + 1 + 1 + 1))
  have hnx := TObject.nxm x q
  have h := ih (pre ++ [TObject.mk_ x q]) (i + 1) (TObject.nx x q) (by simp; omega) (by simp; omega) (by omega) (by omega) (by simp only [hnx, TObject.m, TValue.m, TValue.n]; omega)
  simp only [zaL] at h
  simp only [mkL, zaa, List.map_cons]
  unfold zmy
  simp (maxSteps := 9999999) (disch := omega) only [vx, px, ty, ↓reduceIte, seval, fx, vxd, Nat.reduceBNe, zvC, ht, ifT, zrb, zaY, TObject.mk_, TValue.mk_]
  exact h
theorem zpW (xs : List TObject) (q : Int) (sto : List (List D)) (h : xs.length ≤ 34359738368) (h2 : lsum TObject.n xs ≤ 34359738368) (h3 : 0 ≤ q) (h4 : q + ((lsum TObject.m xs : Nat) : Int) ≤ 1099511627776) : zab T 110 [.sl false 10 ((mkL TObject.mk_ TObject.nx xs q).map (TObject.e false)), .int .i64 q] sto = some (.int .i64 (zaa TObject.nx xs q), [], sto) := by
 rw [zag T (g := v110) rfl rfl rfl _ _ rfl]
 simp (maxSteps := 9999999) (disch := omega) only [vx, px, ty, ↓reduceIte, seval, fx, v110, zxE, zvC]
 have hl := fun k => zpV (enF [.tmp 4] []) sto k xs [] 0 q rfl (by simp; omega) h2 h3 h4
 simp only [List.map_nil, List.nil_append] at hl
 rw [hl]
 simp (maxSteps := 9999999) (disch := omega) only [vx, px, ty, ↓reduceIte, seval, fx]
theorem zuh (x : THeap) (q : Int) (sto : List (List D)) (h : THeap.n x ≤ 34359738368) (h3 : 0 ≤ q) (h4 : q + ((lsum TObject.m x.Objects : Nat) : Int) ≤ 1099511627776) : zab T 47 [D.agg [D.int .i64 x.Next, D.sl false 10 (List.map (TObject.e false) (mkL TObject.mk_ TObject.nx x.Objects (q)))], .int .i64 q] sto = some (.int .i64 (zaa TObject.nx x.Objects (q)), [], sto) := by
 simp only [THeap.n] at h
 have hfObjectsx := zau TObject.nxm x.Objects (q)
 rw [zag T (g := v47) rfl rfl rfl _ _ rfl]
 simp (maxSteps := 9999999) (disch := omega) only [vx, px, ty, ↓reduceIte, seval, fx, v47, zBD, zpW]
theorem zno {R : Type} (e : En R) (sto : List (List D)) (k : List Fr) : ∀ (rest pre : List TBinding) (i q : Int), i = pre.length → pre.length + rest.length ≤ 34359738368 → lsum TBinding.n rest ≤ 34359738368 → 0 ≤ q → q + ((lsum TBinding.m rest : Nat) : Int) ≤ 1099511627776 →
  go T e zqT (.lp zti :: .bl 0 :: .sq (.clr [4,5,6,7,8,9,10,11,12,13,14,15,16,17,18,19,20,21,22,23,24,25,26,27,28,29,30,31,32,33,34,35,36,37,38,39,40,41,42,43,44,45,46,47,48,49,50,51,52,53,54,55,56,57,58,59,60,61,62]) :: k) ⟨[.d (.sl false 5 (pre.map (TBinding.e false) ++ (mkL TBinding.mk_ TBinding.nx rest q).map (TBinding.e false))), .d (.int .i64 q), Z, Z, Z, .d (.int .i64 i), Z, Z, Z, Z, Z, Z, Z, Z, Z, Z, Z, Z, Z, Z, Z, Z, Z, Z, Z, Z, Z, Z, Z, Z, Z, Z, Z, Z, Z, Z, Z, Z, Z, Z, Z, Z, Z, Z, Z, Z, Z, Z, Z, Z, Z, Z, Z, Z, Z, Z, Z, Z, Z, Z, Z, Z, Z, Z], sto⟩ = bk T e k ⟨[.d (.sl false 5 (pre.map (TBinding.e false) ++ (mkL TBinding.mk_ TBinding.nx rest q).map (TBinding.e false))), .d (.int .i64 (zaa TBinding.nx rest q)), Z, Z, Z, Z, Z, Z, Z, Z, Z, Z, Z, Z, Z, Z, Z, Z, Z, Z, Z, Z, Z, Z, Z, Z, Z, Z, Z, Z, Z, Z, Z, Z, Z, Z, Z, Z, Z, Z, Z, Z, Z, Z, Z, Z, Z, Z, Z, Z, Z, Z, Z, Z, Z, Z, Z, Z, Z, Z, Z, Z, Z, Z], sto⟩ := by
 intro rest
 induction rest with
 | nil =>
  intro pre i q hi h1 h2 h3 h4
  have ht : i.toNat = pre.length := by omega
  unfold zqT
  simp (maxSteps := 9999999) (disch := omega) only [vx, px, ty, ↓reduceIte, seval, fx, zAo, mkL, zaa]
 | cons x rest ih =>
  intro pre i q hi h1 h2 h3 h4
  have ht : i.toNat = pre.length := by omega
  simp only [zar, TBinding.m, TBinding.n, TValue.m, TValue.n] at h2 h4
  rw [List.length_cons] at h1
  have hnx := TBinding.nxm x q
  have h := ih (pre ++ [TBinding.mk_ x q]) (i + 1) (TBinding.nx x q) (by simp; omega) (by simp; omega) (by omega) (by omega) (by simp only [hnx, TBinding.m, TValue.m, TValue.n]; omega)
  simp only [zaL] at h
  simp only [mkL, zaa, List.map_cons]
  unfold zqT
  simp (maxSteps := 9999999) (disch := omega) only [vx, px, ty, ↓reduceIte, seval, fx, vxd, Nat.reduceBNe, zAo, ht, ifT, zaY, TBinding.mk_, TValue.mk_]
  exact h
theorem znp (xs : List TBinding) (q : Int) (sto : List (List D)) (h : xs.length ≤ 34359738368) (h2 : lsum TBinding.n xs ≤ 34359738368) (h3 : 0 ≤ q) (h4 : q + ((lsum TBinding.m xs : Nat) : Int) ≤ 1099511627776) : zab T 69 [.sl false 5 ((mkL TBinding.mk_ TBinding.nx xs q).map (TBinding.e false)), .int .i64 q] sto = some (.int .i64 (zaa TBinding.nx xs q), [], sto) := by
 rw [zag T (g := v69) rfl rfl rfl _ _ rfl]
 simp (maxSteps := 9999999) (disch := omega) only [vx, px, ty, ↓reduceIte, seval, fx, v69, zBI, zAo]
 have hl := fun k => zno (enF [.tmp 4] []) sto k xs [] 0 q rfl (by simp; omega) h2 h3 h4
 simp only [List.map_nil, List.nil_append] at hl
 rw [hl]
 simp (maxSteps := 9999999) (disch := omega) only [vx, px, ty, ↓reduceIte, seval, fx]
theorem zmM {R : Type} (e : En R) (sto : List (List D)) (k : List Fr) : ∀ (rest pre : List TFunction) (i q : Int), i = pre.length → pre.length + rest.length ≤ 34359738368 → lsum TFunction.n rest ≤ 34359738368 → 0 ≤ q → q + ((lsum TFunction.m rest : Nat) : Int) ≤ 1099511627776 →
  go T e zmz (.lp zoF :: .bl 0 :: .sq (.clr [4,5,6,7,8,9,10,11,12,13,14,15,16,17,18,19,20,21,22,23,24,25,26,27,28,29,30,31,32,33,34,35,36,37,38,39,40,41,42,43,44,45,46,47,48,49]) :: k) ⟨[.d (.sl false 4 (pre.map (TFunction.e false) ++ (mkL TFunction.mk_ TFunction.nx rest q).map (TFunction.e false))), .d (.int .i64 q), Z, Z, Z, .d (.int .i64 i), Z, Z, Z, Z, Z, Z, Z, Z, Z, Z, Z, Z, Z, Z, Z, Z, Z, Z, Z, Z, Z, Z, Z, Z, Z, Z, Z, Z, Z, Z, Z, Z, Z, Z, Z, Z, Z, Z, Z, Z, Z, Z, Z, Z, Z], sto⟩ = bk T e k ⟨[.d (.sl false 4 (pre.map (TFunction.e false) ++ (mkL TFunction.mk_ TFunction.nx rest q).map (TFunction.e false))), .d (.int .i64 (zaa TFunction.nx rest q)), Z, Z, Z, Z, Z, Z, Z, Z, Z, Z, Z, Z, Z, Z, Z, Z, Z, Z, Z, Z, Z, Z, Z, Z, Z, Z, Z, Z, Z, Z, Z, Z, Z, Z, Z, Z, Z, Z, Z, Z, Z, Z, Z, Z, Z, Z, Z, Z, Z], sto⟩ := by
 intro rest
 induction rest with
 | nil =>
  intro pre i q hi h1 h2 h3 h4
  have ht : i.toNat = pre.length := by omega
  unfold zmz
  simp (maxSteps := 9999999) (disch := omega) only [vx, px, ty, ↓reduceIte, seval, fx, zvD, mkL, zaa]
 | cons x rest ih =>
  intro pre i q hi h1 h2 h3 h4
  have ht : i.toNat = pre.length := by omega
  simp only [zar, TFunction.m, TFunction.n] at h2 h4
  rw [List.length_cons] at h1
  have hf0 := zaq x.Params (q + 1)
  have hf1 := zaq x.Locals (zaa (fun _ k => k + 1) x.Params (q + 1))
  have hnx := TFunction.nxm x q
  have h := ih (pre ++ [TFunction.mk_ x q]) (i + 1) (TFunction.nx x q) (by simp; omega) (by simp; omega) (by omega) (by omega) (by simp only [hnx, TFunction.m]; omega)
  simp only [zaL] at h
  simp only [mkL, zaa, List.map_cons]
  unfold zmz
  simp (maxSteps := 9999999) (disch := omega) only [vx, px, ty, ↓reduceIte, seval, fx, vxd, Nat.reduceBNe, zvD, ht, ifT, zfx, zaY, TFunction.mk_]
  exact h
theorem zmN (xs : List TFunction) (q : Int) (sto : List (List D)) (h : xs.length ≤ 34359738368) (h2 : lsum TFunction.n xs ≤ 34359738368) (h3 : 0 ≤ q) (h4 : q + ((lsum TFunction.m xs : Nat) : Int) ≤ 1099511627776) : zab T 111 [.sl false 4 ((mkL TFunction.mk_ TFunction.nx xs q).map (TFunction.e false)), .int .i64 q] sto = some (.int .i64 (zaa TFunction.nx xs q), [], sto) := by
 rw [zag T (g := v111) rfl rfl rfl _ _ rfl]
 simp (maxSteps := 9999999) (disch := omega) only [vx, px, ty, ↓reduceIte, seval, fx, v111, zxF, zvD]
 have hl := fun k => zmM (enF [.tmp 4] []) sto k xs [] 0 q rfl (by simp; omega) h2 h3 h4
 simp only [List.map_nil, List.nil_append] at hl
 rw [hl]
 simp (maxSteps := 9999999) (disch := omega) only [vx, px, ty, ↓reduceIte, seval, fx]
theorem zkx {R : Type} (e : En R) (sto : List (List D)) (k : List Fr) : ∀ (rest pre : List TRecordType) (i q : Int), i = pre.length → pre.length + rest.length ≤ 34359738368 → lsum TRecordType.n rest ≤ 34359738368 → 0 ≤ q → q + ((lsum TRecordType.m rest : Nat) : Int) ≤ 1099511627776 →
  go T e zmA (.lp zoG :: .bl 0 :: .sq (.clr [4,5,6,7,8,9,10,11,12,13,14,15,16,17,18,19,20,21,22,23,24,25,26,27,28,29,30]) :: k) ⟨[.d (.sl false 2 (pre.map (TRecordType.e false) ++ (mkL TRecordType.mk_ TRecordType.nx rest q).map (TRecordType.e false))), .d (.int .i64 q), Z, Z, Z, .d (.int .i64 i), Z, Z, Z, Z, Z, Z, Z, Z, Z, Z, Z, Z, Z, Z, Z, Z, Z, Z, Z, Z, Z, Z, Z, Z, Z, Z], sto⟩ = bk T e k ⟨[.d (.sl false 2 (pre.map (TRecordType.e false) ++ (mkL TRecordType.mk_ TRecordType.nx rest q).map (TRecordType.e false))), .d (.int .i64 (zaa TRecordType.nx rest q)), Z, Z, Z, Z, Z, Z, Z, Z, Z, Z, Z, Z, Z, Z, Z, Z, Z, Z, Z, Z, Z, Z, Z, Z, Z, Z, Z, Z, Z, Z], sto⟩ := by
 intro rest
 induction rest with
 | nil =>
  intro pre i q hi h1 h2 h3 h4
  have ht : i.toNat = pre.length := by omega
  unfold zmA
  simp (maxSteps := 9999999) (disch := omega) only [vx, px, ty, ↓reduceIte, seval, fx, zvE, mkL, zaa]
 | cons x rest ih =>
  intro pre i q hi h1 h2 h3 h4
  have ht : i.toNat = pre.length := by omega
  simp only [zar, TRecordType.m, TRecordType.n] at h2 h4
  rw [List.length_cons] at h1
  have hf0 := zaq x.Fields (q + 1)
  have hnx := TRecordType.nxm x q
  have h := ih (pre ++ [TRecordType.mk_ x q]) (i + 1) (TRecordType.nx x q) (by simp; omega) (by simp; omega) (by omega) (by omega) (by simp only [hnx, TRecordType.m]; omega)
  simp only [zaL] at h
  simp only [mkL, zaa, List.map_cons]
  unfold zmA
  simp (maxSteps := 9999999) (disch := omega) only [vx, px, ty, ↓reduceIte, seval, fx, vxd, Nat.reduceBNe, zvE, ht, ifT, zfx, zaY, TRecordType.mk_]
  exact h
theorem zky (xs : List TRecordType) (q : Int) (sto : List (List D)) (h : xs.length ≤ 34359738368) (h2 : lsum TRecordType.n xs ≤ 34359738368) (h3 : 0 ≤ q) (h4 : q + ((lsum TRecordType.m xs : Nat) : Int) ≤ 1099511627776) : zab T 112 [.sl false 2 ((mkL TRecordType.mk_ TRecordType.nx xs q).map (TRecordType.e false)), .int .i64 q] sto = some (.int .i64 (zaa TRecordType.nx xs q), [], sto) := by
 rw [zag T (g := v112) rfl rfl rfl _ _ rfl]
 simp (maxSteps := 9999999) (disch := omega) only [vx, px, ty, ↓reduceIte, seval, fx, v112, zxG, zvE]
 have hl := fun k => zkx (enF [.tmp 4] []) sto k xs [] 0 q rfl (by simp; omega) h2 h3 h4
 simp only [List.map_nil, List.nil_append] at hl
 rw [hl]
 simp (maxSteps := 9999999) (disch := omega) only [vx, px, ty, ↓reduceIte, seval, fx]
theorem zsq (x : TScope) (q : Int) (sto : List (List D)) (h : TScope.n x ≤ 34359738368) (h3 : 0 ≤ q) (h4 : q + ((lsum TBinding.m x.Vars + lsum TFunction.m x.Functions + lsum TRecordType.m x.Types : Nat) : Int) ≤ 1099511627776) : zab T 48 [D.agg [D.sl false 5 (List.map (TBinding.e false) (mkL TBinding.mk_ TBinding.nx x.Vars (q))), D.sl false 4 (List.map (TFunction.e false) (mkL TFunction.mk_ TFunction.nx x.Functions (zaa TBinding.nx x.Vars (q)))), D.sl false 2 (List.map (TRecordType.e false) (mkL TRecordType.mk_ TRecordType.nx x.Types (zaa TFunction.nx x.Functions (zaa TBinding.nx x.Vars (q)))))], .int .i64 q] sto = some (.int .i64 (zaa TRecordType.nx x.Types (zaa TFunction.nx x.Functions (zaa TBinding.nx x.Vars (q)))), [], sto) := by
 simp only [TScope.n] at h
 have hfVarsx := zau TBinding.nxm x.Vars (q)
 have hfFunctionsx := zau TFunction.nxm x.Functions (zaa TBinding.nx x.Vars (q))
 have hfTypesx := zau TRecordType.nxm x.Types (zaa TFunction.nx x.Functions (zaa TBinding.nx x.Vars (q)))
 rw [zag T (g := v48) rfl rfl rfl _ _ rfl]
 simp (maxSteps := 9999999) (disch := omega) only [vx, px, ty, ↓reduceIte, seval, fx, v48, zBE, znp, zmN, zky]
theorem zsr {R : Type} (e : En R) (sto : List (List D)) (k : List Fr) : ∀ (rest pre : List TFile) (i q : Int), i = pre.length → pre.length + rest.length ≤ 34359738368 → lsum TFile.n rest ≤ 34359738368 → 0 ≤ q → q + ((lsum TFile.m rest : Nat) : Int) ≤ 1099511627776 →
  go T e zmC (.lp zoI :: .bl 0 :: .sq (.clr [4,5,6,7,8,9,10,11,12,13,14,15,16,17,18,19,20,21,22,23,24,25,26,27,28,29,30,31,32,33,34,35,36,37,38,39,40,41,42,43,44,45,46,47,48]) :: k) ⟨[.d (.sl false 4 (pre.map (TFile.e false) ++ (mkL TFile.mk_ TFile.nx rest q).map (TFile.e false))), .d (.int .i64 q), Z, Z, Z, .d (.int .i64 i), Z, Z, Z, Z, Z, Z, Z, Z, Z, Z, Z, Z, Z, Z, Z, Z, Z, Z, Z, Z, Z, Z, Z, Z, Z, Z, Z, Z, Z, Z, Z, Z, Z, Z, Z, Z, Z, Z, Z, Z, Z, Z, Z, Z], sto⟩ = bk T e k ⟨[.d (.sl false 4 (pre.map (TFile.e false) ++ (mkL TFile.mk_ TFile.nx rest q).map (TFile.e false))), .d (.int .i64 (zaa TFile.nx rest q)), Z, Z, Z, Z, Z, Z, Z, Z, Z, Z, Z, Z, Z, Z, Z, Z, Z, Z, Z, Z, Z, Z, Z, Z, Z, Z, Z, Z, Z, Z, Z, Z, Z, Z, Z, Z, Z, Z, Z, Z, Z, Z, Z, Z, Z, Z, Z, Z], sto⟩ := by
 intro rest
 induction rest with
 | nil =>
  intro pre i q hi h1 h2 h3 h4
  have ht : i.toNat = pre.length := by omega
  unfold zmC
  simp (maxSteps := 9999999) (disch := omega) only [vx, px, ty, ↓reduceIte, seval, fx, zvG, mkL, zaa]
 | cons x rest ih =>
  intro pre i q hi h1 h2 h3 h4
  have ht : i.toNat = pre.length := by omega
  simp only [zar, TFile.m, TFile.n] at h2 h4
  rw [List.length_cons] at h1
  have hf0 := zaq x.Lines (q + 1)
  have hnx := TFile.nxm x q
  have h := ih (pre ++ [TFile.mk_ x q]) (i + 1) (TFile.nx x q) (by simp; omega) (by simp; omega) (by omega) (by omega) (by simp only [hnx, TFile.m]; omega)
  simp only [zaL] at h
  simp only [mkL, zaa, List.map_cons]
  unfold zmC
  simp (maxSteps := 9999999) (disch := omega) only [vx, px, ty, ↓reduceIte, seval, fx, vxd, Nat.reduceBNe, zvG, ht, ifT, zfx, zaY, TFile.mk_]
  exact h
theorem zss (xs : List TFile) (q : Int) (sto : List (List D)) (h : xs.length ≤ 34359738368) (h2 : lsum TFile.n xs ≤ 34359738368) (h3 : 0 ≤ q) (h4 : q + ((lsum TFile.m xs : Nat) : Int) ≤ 1099511627776) : zab T 114 [.sl false 4 ((mkL TFile.mk_ TFile.nx xs q).map (TFile.e false)), .int .i64 q] sto = some (.int .i64 (zaa TFile.nx xs q), [], sto) := by
 rw [zag T (g := v114) rfl rfl rfl _ _ rfl]
 simp (maxSteps := 9999999) (disch := omega) only [vx, px, ty, ↓reduceIte, seval, fx, v114, zxI, zvG]
 have hl := fun k => zsr (enF [.tmp 4] []) sto k xs [] 0 q rfl (by simp; omega) h2 h3 h4
 simp only [List.map_nil, List.nil_append] at hl
 rw [hl]
 simp (maxSteps := 9999999) (disch := omega) only [vx, px, ty, ↓reduceIte, seval, fx]
theorem zpX (x : TConsole) (q : Int) (sto : List (List D)) (h : TConsole.n x ≤ 34359738368) (h3 : 0 ≤ q) (h4 : q + ((lsum (fun _ => 1) x.Input + lsum (fun _ => 1) x.Output + lsum TFile.m x.Files + lsum (fun _ => 1) x.Trace : Nat) : Int) ≤ 1099511627776) : zab T 49 [D.agg [D.sl false 1 (List.map D.str (mkL (fun _ k => mt k) (fun _ k => k + 1) x.Input (q))), D.int .i64 x.At, D.sl false 1 (List.map D.str (mkL (fun _ k => mt k) (fun _ k => k + 1) x.Output (zaa (fun _ k => k + 1) x.Input (q)))), D.sl false 4 (List.map (TFile.e false) (mkL TFile.mk_ TFile.nx x.Files (zaa (fun _ k => k + 1) x.Output (zaa (fun _ k => k + 1) x.Input (q))))), D.sl false 1 (List.map D.str (mkL (fun _ k => mt k) (fun _ k => k + 1) x.Trace (zaa TFile.nx x.Files (zaa (fun _ k => k + 1) x.Output (zaa (fun _ k => k + 1) x.Input (q))))))], .int .i64 q] sto = some (.int .i64 (zaa (fun _ k => k + 1) x.Trace (zaa TFile.nx x.Files (zaa (fun _ k => k + 1) x.Output (zaa (fun _ k => k + 1) x.Input (q))))), [], sto) := by
 simp only [TConsole.n] at h
 have hfInputx := zaq x.Input (q)
 have hfOutputx := zaq x.Output (zaa (fun _ k => k + 1) x.Input (q))
 have hfFilesx := zau TFile.nxm x.Files (zaa (fun _ k => k + 1) x.Output (zaa (fun _ k => k + 1) x.Input (q)))
 have hfTracex := zaq x.Trace (zaa TFile.nx x.Files (zaa (fun _ k => k + 1) x.Output (zaa (fun _ k => k + 1) x.Input (q))))
 rw [zag T (g := v49) rfl rfl rfl _ _ rfl]
 simp (maxSteps := 9999999) (disch := omega) only [vx, px, ty, ↓reduceIte, seval, fx, v49, zBF, zss, zfx]
theorem zrc (x : TMemory) (q : Int) (sto : List (List D)) (h : TMemory.n x ≤ 34359738368) (h3 : 0 ≤ q) (h4 : q + ((lsum TObject.m x.Heap.Objects + lsum TBinding.m x.Scope.Vars + lsum TFunction.m x.Scope.Functions + lsum TRecordType.m x.Scope.Types + lsum (fun _ => 1) x.Console.Input + lsum (fun _ => 1) x.Console.Output + lsum TFile.m x.Console.Files + lsum (fun _ => 1) x.Console.Trace : Nat) : Int) ≤ 1099511627776) : zab T 16 [D.agg [D.int .i64 x.Heap.Next, D.sl false 10 (List.map (TObject.e false) (mkL TObject.mk_ TObject.nx x.Heap.Objects (q))), D.sl false 5 (List.map (TBinding.e false) (mkL TBinding.mk_ TBinding.nx x.Scope.Vars (zaa TObject.nx x.Heap.Objects (q)))), D.sl false 4 (List.map (TFunction.e false) (mkL TFunction.mk_ TFunction.nx x.Scope.Functions (zaa TBinding.nx x.Scope.Vars (zaa TObject.nx x.Heap.Objects (q))))), D.sl false 2 (List.map (TRecordType.e false) (mkL TRecordType.mk_ TRecordType.nx x.Scope.Types (zaa TFunction.nx x.Scope.Functions (zaa TBinding.nx x.Scope.Vars (zaa TObject.nx x.Heap.Objects (q)))))), D.sl false 1 (List.map D.str (mkL (fun _ k => mt k) (fun _ k => k + 1) x.Console.Input (zaa TRecordType.nx x.Scope.Types (zaa TFunction.nx x.Scope.Functions (zaa TBinding.nx x.Scope.Vars (zaa TObject.nx x.Heap.Objects (q))))))), D.int .i64 x.Console.At, D.sl false 1 (List.map D.str (mkL (fun _ k => mt k) (fun _ k => k + 1) x.Console.Output (zaa (fun _ k => k + 1) x.Console.Input (zaa TRecordType.nx x.Scope.Types (zaa TFunction.nx x.Scope.Functions (zaa TBinding.nx x.Scope.Vars (zaa TObject.nx x.Heap.Objects (q)))))))), D.sl false 4 (List.map (TFile.e false) (mkL TFile.mk_ TFile.nx x.Console.Files (zaa (fun _ k => k + 1) x.Console.Output (zaa (fun _ k => k + 1) x.Console.Input (zaa TRecordType.nx x.Scope.Types (zaa TFunction.nx x.Scope.Functions (zaa TBinding.nx x.Scope.Vars (zaa TObject.nx x.Heap.Objects (q))))))))), D.sl false 1 (List.map D.str (mkL (fun _ k => mt k) (fun _ k => k + 1) x.Console.Trace (zaa TFile.nx x.Console.Files (zaa (fun _ k => k + 1) x.Console.Output (zaa (fun _ k => k + 1) x.Console.Input (zaa TRecordType.nx x.Scope.Types (zaa TFunction.nx x.Scope.Functions (zaa TBinding.nx x.Scope.Vars (zaa TObject.nx x.Heap.Objects (q))))))))))], .int .i64 q] sto = some (.int .i64 (zaa (fun _ k => k + 1) x.Console.Trace (zaa TFile.nx x.Console.Files (zaa (fun _ k => k + 1) x.Console.Output (zaa (fun _ k => k + 1) x.Console.Input (zaa TRecordType.nx x.Scope.Types (zaa TFunction.nx x.Scope.Functions (zaa TBinding.nx x.Scope.Vars (zaa TObject.nx x.Heap.Objects (q))))))))), [], sto) := by
 simp only [TMemory.n] at h
 have hfObjectsx_Heap := zau TObject.nxm x.Heap.Objects (q)
 have hfVarsx_Scope := zau TBinding.nxm x.Scope.Vars (zaa TObject.nx x.Heap.Objects (q))
 have hfFunctionsx_Scope := zau TFunction.nxm x.Scope.Functions (zaa TBinding.nx x.Scope.Vars (zaa TObject.nx x.Heap.Objects (q)))
 have hfTypesx_Scope := zau TRecordType.nxm x.Scope.Types (zaa TFunction.nx x.Scope.Functions (zaa TBinding.nx x.Scope.Vars (zaa TObject.nx x.Heap.Objects (q))))
 have hfInputx_Console := zaq x.Console.Input (zaa TRecordType.nx x.Scope.Types (zaa TFunction.nx x.Scope.Functions (zaa TBinding.nx x.Scope.Vars (zaa TObject.nx x.Heap.Objects (q)))))
 have hfOutputx_Console := zaq x.Console.Output (zaa (fun _ k => k + 1) x.Console.Input (zaa TRecordType.nx x.Scope.Types (zaa TFunction.nx x.Scope.Functions (zaa TBinding.nx x.Scope.Vars (zaa TObject.nx x.Heap.Objects (q))))))
 have hfFilesx_Console := zau TFile.nxm x.Console.Files (zaa (fun _ k => k + 1) x.Console.Output (zaa (fun _ k => k + 1) x.Console.Input (zaa TRecordType.nx x.Scope.Types (zaa TFunction.nx x.Scope.Functions (zaa TBinding.nx x.Scope.Vars (zaa TObject.nx x.Heap.Objects (q)))))))
 have hfTracex_Console := zaq x.Console.Trace (zaa TFile.nx x.Console.Files (zaa (fun _ k => k + 1) x.Console.Output (zaa (fun _ k => k + 1) x.Console.Input (zaa TRecordType.nx x.Scope.Types (zaa TFunction.nx x.Scope.Functions (zaa TBinding.nx x.Scope.Vars (zaa TObject.nx x.Heap.Objects (q))))))))
 rw [zag T (g := v16) rfl rfl rfl _ _ rfl]
 simp (maxSteps := 9999999) (disch := omega) only [vx, px, ty, ↓reduceIte, seval, fx, v16, zBw, zpX, zuh, zsq]
end Go.Vx.NmZ
