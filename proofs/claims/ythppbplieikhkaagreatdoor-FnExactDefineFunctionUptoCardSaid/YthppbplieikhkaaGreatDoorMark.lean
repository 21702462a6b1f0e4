/-
  The laws' own functions: mark.
-/
import Derived.Test.YthppbplieikhkaaGreatDoorTypes
import Derived.Test.YthppbplieikhkaaGreatDoorCode
set_option linter.unusedVariables false
set_option linter.unusedSimpArgs false
namespace Go.Vx.DfZ
set_option linter.unusedVariables false
set_option linter.unusedSimpArgs false
set_option maxRecDepth 4000
set_option maxHeartbeats 4000000
theorem zrA {R : Type} (e : En R) (sto : List (List D)) (k : List Fr) : ∀ (f q : Nat) (acc : ByteArray), q ≤ f → acc.size + q ≤ 4611686018427387904 →
  go T e zlY (.lp zqM :: .bl 0 :: .sq (.clr [2,4,5,6,7,8,9,10,11,12,13,14,15,16,17]) :: k) ⟨[.d (.int .i64 q), Z, Z, .d (.str acc), Z, Z, Z, Z, Z, Z, Z, Z, Z, Z, Z, Z, Z, Z, Z, Z], sto⟩ = bk T e k ⟨[.d (.int .i64 0), Z, Z, .d (.str (digs f q acc)), Z, Z, Z, Z, Z, Z, Z, Z, Z, Z, Z, Z, Z, Z, Z, Z], sto⟩ := by
 intro f
 induction f with
 | zero =>
  intro q acc h1 h2
  obtain rfl : q = 0 := by omega
  unfold zlY
  simp (maxSteps := 9999999) (disch := omega) only [vx, px, ty, ↓reduceIte, seval, fx, ztp, digs]
  try rfl
 | succ f ih =>
  intro q acc h1 h2
  by_cases hq : q = 0
  ·subst hq
   unfold zlY
   simp (maxSteps := 9999999) (disch := omega) only [vx, px, ty, ↓reduceIte, seval, fx, ztp, digs]
   try rfl
  ·have e1 : ((q : Int)).tmod 10 = ((q % 10 : Nat) : Int) := rfl
   have e2 : ((q : Int)).tdiv 10 = ((q / 10 : Nat) : Int) := rfl
   have e3 : IntKind.wrap .u8 (48 + ((q % 10 : Nat) : Int)) = ((48 + q % 10 : Nat) : Int) := by
    simp only [IntKind.wrap, IntKind.signed, IntKind.bits]; simp; omega
   have e4 : (((48 + q % 10 : Nat) : Int)).toNat.toUInt8 = (48 + q % 10).toUInt8 := by rw [Int.toNat_natCast]
   have e5 : ((⟨#[(48 + q % 10).toUInt8]⟩ : ByteArray)).size = 1 := rfl
   have e6 : (⟨#[(48 + q % 10).toUInt8]⟩ : ByteArray).size + acc.size ≤ zgt := by rw [e5]; unfold zgt; omega
   have e7 : (⟨#[(48 + q % 10).toUInt8]⟩ ++ acc : ByteArray).size = 1 + acc.size := by rw [ByteArray.size_append]; rfl
   have h := ih (q / 10) (⟨#[(48 + q % 10).toUInt8]⟩ ++ acc) (by omega) (by rw [e7]; omega)
   unfold zlY
   simp (maxSteps := 9999999) (disch := omega) only [vx, px, ty, ↓reduceIte, seval, fx, ztp, digs, e1, e2, e3, hq, zia, e4, e6, ifF, ifT]
   exact h
theorem zdy (k : Int) (sto : List (List D)) (h : 0 ≤ k) (h2 : k ≤ 1099511627776) : zab T 87 [.int .i64 k] sto = some (.str (mt k), [], sto) := by
 by_cases hk : k ≤ 0
 ·obtain rfl : k = 0 := by omega
  rw [zae T (g := v87) rfl rfl rfl _ _ rfl]
  simp (maxSteps := 9999999) (disch := omega) only [vx, px, ty, ↓reduceIte, seval, fx, v87, zwN, ztp]
  rfl
 ·have hl := fun kk => zrA (enF [.tmp 2] []) sto kk k.toNat k.toNat ⟨#[]⟩ (Nat.le_refl _) (by have : (⟨#[]⟩ : ByteArray).size = 0 := rfl; omega)
  have ek : ((k.toNat : Nat) : Int) = k := by omega
  rw [ek] at hl
  have hd : ∀ (f q : Nat) (acc : ByteArray), q ≤ f → (digs f q acc).size ≤ acc.size + q := by
   intro f
   induction f with
   | zero => intro q acc _; simp [digs]
   | succ f ih =>
    intro q acc hq
    simp only [digs]
    split
    ·omega
    ·rename_i hne
     have := ih (q / 10) (⟨#[(48 + q % 10).toUInt8]⟩ ++ acc) (by omega)
     have e7 : (⟨#[(48 + q % 10).toUInt8]⟩ ++ acc : ByteArray).size = 1 + acc.size := by rw [ByteArray.size_append]; rfl
     omega
  have hs := hd k.toNat k.toNat ⟨#[]⟩ (Nat.le_refl _)
  have hz : (⟨#[]⟩ : ByteArray).size = 0 := rfl
  have hm : (⟨#[109]⟩ : ByteArray).size + (digs k.toNat k.toNat ⟨#[]⟩).size ≤ zgt := by
   have : (⟨#[109]⟩ : ByteArray).size = 1 := rfl
   rw [this]; unfold zgt; omega
  rw [zae T (g := v87) rfl rfl rfl _ _ rfl]
  simp (maxSteps := 9999999) (disch := omega) only [vx, px, ty, ↓reduceIte, seval, fx, v87, zwN, ztp]
  rw [hl]
  simp (maxSteps := 9999999) (disch := omega) only [vx, px, ty, ↓reduceIte, seval, fx, hm, mt, hk, ifF]
theorem zmP {R : Type} (e : En R) (sto : List (List D)) (k : List Fr) : ∀ (rest pre : List ByteArray) (i q : Int), i = pre.length → pre.length + rest.length ≤ 34359738368 → lsum ByteArray.size rest ≤ 34359738368 → 0 ≤ q → q + ((lsum (fun _ => 1) rest : Nat) : Int) ≤ 1099511627776 →
  go T e znY (.lp zqN :: .bl 0 :: .sq (.clr [4,5,6,7,8,9,10,11,12,13,14,15,16,17,18]) :: k) ⟨[.d (.sl true 1 (pre.map D.str ++ rest.map D.str)), .d (.int .i64 q), Z, Z, Z, .d (.int .i64 i), Z, Z, Z, Z, Z, Z, Z, Z, Z, Z, Z, Z, Z, Z], sto⟩ = bk T e k ⟨[.d (.sl true 1 (pre.map D.str ++ (mkL (fun _ k => mt k) (fun _ k => k + 1) rest q).map D.str)), .d (.int .i64 (zas (fun _ k => k + 1) rest q)), Z, Z, Z, Z, Z, Z, Z, Z, Z, Z, Z, Z, Z, Z, Z, Z, Z, Z], sto⟩ := by
 intro rest
 induction rest with
 | nil =>
  intro pre i q hi h1 h2 h3 h4
  have ht : i.toNat = pre.length := by omega
  unfold znY
  simp (maxSteps := 9999999) (disch := omega) only [vx, px, ty, ↓reduceIte, seval, fx, zwO, mkL, zas]
 | cons x rest ih =>
  intro pre i q hi h1 h2 h3 h4
  have ht : i.toNat = pre.length := by omega
  simp only [zao] at h2 h4
  rw [List.length_cons] at h1
  have h := ih (pre ++ [mt q]) (i + 1) (q + 1) (by simp; omega) (by simp; omega) (by omega) (by omega) (by omega)
  simp only [zbl] at h
  simp only [mkL, zas, List.map_cons]
  unfold znY
  simp (maxSteps := 9999999) (disch := omega) only [vx, px, ty, ↓reduceIte, seval, fx, vxd, Nat.reduceBNe, zwO, ht, ifT, zdy]
  exact h
theorem zit (xs : List ByteArray) (q : Int) (sto : List (List D)) (h : xs.length ≤ 34359738368) (h2 : lsum ByteArray.size xs ≤ 34359738368) (h3 : 0 ≤ q) (h4 : q + ((lsum (fun _ => 1) xs : Nat) : Int) ≤ 1099511627776) : zab T 88 [.sl true 1 (xs.map D.str), .int .i64 q] sto = some (.int .i64 (zas (fun _ k => k + 1) xs q), [.sl true 1 ((mkL (fun _ k => mt k) (fun _ k => k + 1) xs q).map D.str)], sto) := by
 rw [zae T (g := v88) rfl rfl rfl _ _ rfl]
 simp (maxSteps := 9999999) (disch := omega) only [vx, px, ty, ↓reduceIte, seval, fx, v88, zzh, zwO]
 have hl := fun k => zmP (enF [.tmp 4] [0]) sto k xs [] 0 q rfl (by simp; omega) h2 h3 h4
 simp only [List.map_nil, List.nil_append] at hl
 rw [hl]
 simp (maxSteps := 9999999) (disch := omega) only [vx, px, ty, ↓reduceIte, seval, fx]
theorem zlo {R : Type} (e : En R) (sto : List (List D)) (k : List Fr) : ∀ (rest pre : List TBinding) (i q : Int), i = pre.length → pre.length + rest.length ≤ 34359738368 → lsum TBinding.n rest ≤ 34359738368 → 0 ≤ q → q + ((lsum TBinding.m rest : Nat) : Int) ≤ 1099511627776 →
  go T e znS (.lp zqq :: .bl 0 :: .sq (.clr [4,5,6,7,8,9,10,11,12,13,14,15,16,17,18,19,20,21,22,23,24,25,26,27,28,29,30,31,32,33,34,35,36,37,38,39,40,41,42,43,44,45,46,47,48,49,50,51,52]) :: k) ⟨[.d (.sl true 5 (pre.map (TBinding.e false) ++ rest.map (TBinding.e false))), .d (.int .i64 q), Z, Z, Z, .d (.int .i64 i), Z, Z, Z, Z, Z, Z, Z, Z, Z, Z, Z, Z, Z, Z, Z, Z, Z, Z, Z, Z, Z, Z, Z, Z, Z, Z, Z, Z, Z, Z, Z, Z, Z, Z, Z, Z, Z, Z, Z, Z, Z, Z, Z, Z, Z, Z, Z, Z], sto⟩ = bk T e k ⟨[.d (.sl true 5 (pre.map (TBinding.e false) ++ (mkL TBinding.mk_ TBinding.nx rest q).map (TBinding.e false))), .d (.int .i64 (zas TBinding.nx rest q)), Z, Z, Z, Z, Z, Z, Z, Z, Z, Z, Z, Z, Z, Z, Z, Z, Z, Z, Z, Z, Z, Z, Z, Z, Z, Z, Z, Z, Z, Z, Z, Z, Z, Z, Z, Z, Z, Z, Z, Z, Z, Z, Z, Z, Z, Z, Z, Z, Z, Z, Z, Z], sto⟩ := by
 intro rest
 induction rest with
 | nil =>
  intro pre i q hi h1 h2 h3 h4
  have ht : i.toNat = pre.length := by omega
  unfold znS
  simp (maxSteps := 9999999) (disch := omega) only [vx, px, ty, ↓reduceIte, seval, fx, zwF, mkL, zas]
 | cons x rest ih =>
  intro pre i q hi h1 h2 h3 h4
  have ht : i.toNat = pre.length := by omega
  simp only [zao, TBinding.m, TBinding.n, TValue.m, TValue.n] at h2 h4
  rw [List.length_cons] at h1
  have hnx := TBinding.nxm x q
  have h := ih (pre ++ [TBinding.mk_ x q]) (i + 1) (TBinding.nx x q) (by simp; omega) (by simp; omega) (by omega) (by omega) (by simp only [hnx, TBinding.m, TValue.m, TValue.n]; omega)
  simp only [zbl] at h
  simp only [mkL, zas, List.map_cons]
  unfold znS
  simp (maxSteps := 9999999) (disch := omega) only [vx, px, ty, ↓reduceIte, seval, fx, vxd, Nat.reduceBNe, zwF, ht, ifT, zdy]
  exact h
theorem zlp (xs : List TBinding) (q : Int) (sto : List (List D)) (h : xs.length ≤ 34359738368) (h2 : lsum TBinding.n xs ≤ 34359738368) (h3 : 0 ≤ q) (h4 : q + ((lsum TBinding.m xs : Nat) : Int) ≤ 1099511627776) : zab T 36 [.sl true 5 (xs.map (TBinding.e false)), .int .i64 q] sto = some (.int .i64 (zas TBinding.nx xs q), [.sl true 5 ((mkL TBinding.mk_ TBinding.nx xs q).map (TBinding.e false))], sto) := by
 rw [zae T (g := v36) rfl rfl rfl _ _ rfl]
 simp (maxSteps := 9999999) (disch := omega) only [vx, px, ty, ↓reduceIte, seval, fx, v36, zyn, zwF]
 have hl := fun k => zlo (enF [.tmp 4] [0]) sto k xs [] 0 q rfl (by simp; omega) h2 h3 h4
 simp only [List.map_nil, List.nil_append] at hl
 rw [hl]
 simp (maxSteps := 9999999) (disch := omega) only [vx, px, ty, ↓reduceIte, seval, fx]
theorem zkB {R : Type} (e : En R) (sto : List (List D)) (k : List Fr) : ∀ (rest pre : List TFunction) (i q : Int), i = pre.length → pre.length + rest.length ≤ 34359738368 → lsum TFunction.n rest ≤ 34359738368 → 0 ≤ q → q + ((lsum TFunction.m rest : Nat) : Int) ≤ 1099511627776 →
  go T e znT (.lp zqr :: .bl 0 :: .sq (.clr [4,5,6,7,8,9,10,11,12,13,14,15,16,17,18,19,20,21,22,23,24,25,26,27,28,29,30,31,32,33,34,35,36,37,38,39,40,41]) :: k) ⟨[.d (.sl true 4 (pre.map (TFunction.e true) ++ rest.map (TFunction.e true))), .d (.int .i64 q), Z, Z, Z, .d (.int .i64 i), Z, Z, Z, Z, Z, Z, Z, Z, Z, Z, Z, Z, Z, Z, Z, Z, Z, Z, Z, Z, Z, Z, Z, Z, Z, Z, Z, Z, Z, Z, Z, Z, Z, Z, Z, Z, Z], sto⟩ = bk T e k ⟨[.d (.sl true 4 (pre.map (TFunction.e true) ++ (mkL TFunction.mk_ TFunction.nx rest q).map (TFunction.e true))), .d (.int .i64 (zas TFunction.nx rest q)), Z, Z, Z, Z, Z, Z, Z, Z, Z, Z, Z, Z, Z, Z, Z, Z, Z, Z, Z, Z, Z, Z, Z, Z, Z, Z, Z, Z, Z, Z, Z, Z, Z, Z, Z, Z, Z, Z, Z, Z, Z], sto⟩ := by
 intro rest
 induction rest with
 | nil =>
  intro pre i q hi h1 h2 h3 h4
  have ht : i.toNat = pre.length := by omega
  unfold znT
  simp (maxSteps := 9999999) (disch := omega) only [vx, px, ty, ↓reduceIte, seval, fx, zwG, mkL, zas]
 | cons x rest ih =>
  intro pre i q hi h1 h2 h3 h4
  have ht : i.toNat = pre.length := by omega
  simp only [zao, TFunction.m, TFunction.n] at h2 h4
  rw [List.length_cons] at h1
  have hf0 := zec x.Params (q + 1)
  have hf1 := zec x.Locals (zas (fun _ k => k + 1) x.Params (q + 1))
  have hnx := TFunction.nxm x q
  have h := ih (pre ++ [TFunction.mk_ x q]) (i + 1) (TFunction.nx x q) (by simp; omega) (by simp; omega) (by omega) (by omega) (by simp only [hnx, TFunction.m]; omega)
  simp only [zbl] at h
  simp only [mkL, zas, List.map_cons]
  unfold znT
  simp (maxSteps := 9999999) (disch := omega) only [vx, px, ty, ↓reduceIte, seval, fx, vxd, Nat.reduceBNe, zwG, ht, ifT, zit, zdy]
  exact h
theorem zkC (xs : List TFunction) (q : Int) (sto : List (List D)) (h : xs.length ≤ 34359738368) (h2 : lsum TFunction.n xs ≤ 34359738368) (h3 : 0 ≤ q) (h4 : q + ((lsum TFunction.m xs : Nat) : Int) ≤ 1099511627776) : zab T 37 [.sl true 4 (xs.map (TFunction.e true)), .int .i64 q] sto = some (.int .i64 (zas TFunction.nx xs q), [.sl true 4 ((mkL TFunction.mk_ TFunction.nx xs q).map (TFunction.e true))], sto) := by
 rw [zae T (g := v37) rfl rfl rfl _ _ rfl]
 simp (maxSteps := 9999999) (disch := omega) only [vx, px, ty, ↓reduceIte, seval, fx, v37, zyo, zwG]
 have hl := fun k => zkB (enF [.tmp 4] [0]) sto k xs [] 0 q rfl (by simp; omega) h2 h3 h4
 simp only [List.map_nil, List.nil_append] at hl
 rw [hl]
 simp (maxSteps := 9999999) (disch := omega) only [vx, px, ty, ↓reduceIte, seval, fx]
theorem ziP {R : Type} (e : En R) (sto : List (List D)) (k : List Fr) : ∀ (rest pre : List TRecordType) (i q : Int), i = pre.length → pre.length + rest.length ≤ 34359738368 → lsum TRecordType.n rest ≤ 34359738368 → 0 ≤ q → q + ((lsum TRecordType.m rest : Nat) : Int) ≤ 1099511627776 →
  go T e znU (.lp zqs :: .bl 0 :: .sq (.clr [4,5,6,7,8,9,10,11,12,13,14,15,16,17,18,19,20,21,22,23,24,25,26]) :: k) ⟨[.d (.sl true 2 (pre.map (TRecordType.e true) ++ rest.map (TRecordType.e true))), .d (.int .i64 q), Z, Z, Z, .d (.int .i64 i), Z, Z, Z, Z, Z, Z, Z, Z, Z, Z, Z, Z, Z, Z, Z, Z, Z, Z, Z, Z, Z, Z], sto⟩ = bk T e k ⟨[.d (.sl true 2 (pre.map (TRecordType.e true) ++ (mkL TRecordType.mk_ TRecordType.nx rest q).map (TRecordType.e true))), .d (.int .i64 (zas TRecordType.nx rest q)), Z, Z, Z, Z, Z, Z, Z, Z, Z, Z, Z, Z, Z, Z, Z, Z, Z, Z, Z, Z, Z, Z, Z, Z, Z, Z], sto⟩ := by
 intro rest
 induction rest with
 | nil =>
  intro pre i q hi h1 h2 h3 h4
  have ht : i.toNat = pre.length := by omega
  unfold znU
  simp (maxSteps := 9999999) (disch := omega) only [vx, px, ty, ↓reduceIte, seval, fx, zwH, mkL, zas]
 | cons x rest ih =>
  intro pre i q hi h1 h2 h3 h4
  have ht : i.toNat = pre.length := by omega
  simp only [zao, TRecordType.m, TRecordType.n] at h2 h4
  rw [List.length_cons] at h1
  have hf0 := zec x.Fields (q + 1)
  have hnx := TRecordType.nxm x q
  have h := ih (pre ++ [TRecordType.mk_ x q]) (i + 1) (TRecordType.nx x q) (by simp; omega) (by simp; omega) (by omega) (by omega) (by simp only [hnx, TRecordType.m]; omega)
  simp only [zbl] at h
  simp only [mkL, zas, List.map_cons]
  unfold znU
  simp (maxSteps := 9999999) (disch := omega) only [vx, px, ty, ↓reduceIte, seval, fx, vxd, Nat.reduceBNe, zwH, ht, ifT, zit, zdy]
  exact h
theorem ziQ (xs : List TRecordType) (q : Int) (sto : List (List D)) (h : xs.length ≤ 34359738368) (h2 : lsum TRecordType.n xs ≤ 34359738368) (h3 : 0 ≤ q) (h4 : q + ((lsum TRecordType.m xs : Nat) : Int) ≤ 1099511627776) : zab T 38 [.sl true 2 (xs.map (TRecordType.e true)), .int .i64 q] sto = some (.int .i64 (zas TRecordType.nx xs q), [.sl true 2 ((mkL TRecordType.mk_ TRecordType.nx xs q).map (TRecordType.e true))], sto) := by
 rw [zae T (g := v38) rfl rfl rfl _ _ rfl]
 simp (maxSteps := 9999999) (disch := omega) only [vx, px, ty, ↓reduceIte, seval, fx, v38, zyp, zwH]
 have hl := fun k => ziP (enF [.tmp 4] [0]) sto k xs [] 0 q rfl (by simp; omega) h2 h3 h4
 simp only [List.map_nil, List.nil_append] at hl
 rw [hl]
 simp (maxSteps := 9999999) (disch := omega) only [vx, px, ty, ↓reduceIte, seval, fx]
theorem zgf (x : TScope) (q : Int) (sto : List (List D)) (h : TScope.n x ≤ 34359738368) (h3 : 0 ≤ q) (h4 : q + ((lsum TBinding.m x.Vars + lsum TFunction.m x.Functions + lsum TRecordType.m x.Types : Nat) : Int) ≤ 1099511627776) : zab T 11 [D.agg [D.sl true 5 (List.map (TBinding.e false) x.Vars), D.sl true 4 (List.map (TFunction.e true) x.Functions), D.sl true 2 (List.map (TRecordType.e true) x.Types)], .int .i64 q] sto = some (.int .i64 (zas TRecordType.nx x.Types (zas TFunction.nx x.Functions (zas TBinding.nx x.Vars (q)))), [D.agg [D.sl true 5 (List.map (TBinding.e false) (mkL TBinding.mk_ TBinding.nx x.Vars (q))), D.sl true 4 (List.map (TFunction.e true) (mkL TFunction.mk_ TFunction.nx x.Functions (zas TBinding.nx x.Vars (q)))), D.sl true 2 (List.map (TRecordType.e true) (mkL TRecordType.mk_ TRecordType.nx x.Types (zas TFunction.nx x.Functions (zas TBinding.nx x.Vars (q)))))]], sto) := by
 simp only [TScope.n] at h
 have hfVarsx := zby TBinding.nxm x.Vars (q)
 have hfFunctionsx := zby TFunction.nxm x.Functions (zas TBinding.nx x.Vars (q))
 have hfTypesx := zby TRecordType.nxm x.Types (zas TFunction.nx x.Functions (zas TBinding.nx x.Vars (q)))
 have hmk : T.mrk 11 = some [(0, .one, 36), (1, .one, 37), (2, .one, 38)] := rfl
 rw [zrb T rfl hmk]
 simp (maxSteps := 9999999) (disch := omega) only [vx, px, ty, ↓reduceIte, seval, fx, zld, zgl, zdr, zhC, BK.width, List.replicate, zlp, zkC, ziQ]
end Go.Vx.DfZ
