/-
  The laws' own functions: held.
-/
import Derived.Test.YthppbplieikhkaaGreatDoorTypes
import Derived.Test.YthppbplieikhkaaGreatDoorCode
import Derived.Test.YthppbplieikhkaaGreatDoorMark
set_option linter.unusedVariables false
set_option linter.unusedSimpArgs false
namespace Go.Vx.DfZ
set_option linter.unusedVariables false
set_option linter.unusedSimpArgs false
set_option maxRecDepth 4000
set_option maxHeartbeats 4000000
theorem zmQ {R : Type} (e : En R) (sto : List (List D)) (k : List Fr) : ∀ (rest pre : List ByteArray) (i q : Int), i = pre.length → pre.length + rest.length ≤ 34359738368 → lsum ByteArray.size rest ≤ 34359738368 → 0 ≤ q → q + ((lsum (fun _ => 1) rest : Nat) : Int) ≤ 1099511627776 →
  go T e znZ (.lp zqO :: .bl 0 :: .sq (.clr [4,5,6,7,8,9,10,11,12,13,14,15,16,17,18,19,20]) :: k) ⟨[.d (.sl false 1 (pre.map D.str ++ (mkL (fun _ k => mt k) (fun _ k => k + 1) rest q).map D.str)), .d (.int .i64 q), Z, Z, Z, .d (.int .i64 i), Z, Z, Z, Z, Z, Z, Z, Z, Z, Z, Z, Z, Z, Z, Z, Z], sto⟩ = bk T e k ⟨[.d (.sl false 1 (pre.map D.str ++ (mkL (fun _ k => mt k) (fun _ k => k + 1) rest q).map D.str)), .d (.int .i64 (zas (fun _ k => k + 1) rest q)), Z, Z, Z, Z, Z, Z, Z, Z, Z, Z, Z, Z, Z, Z, Z, Z, Z, Z, Z, Z], sto⟩ := by
 intro rest
 induction rest with
 | nil =>
  intro pre i q hi h1 h2 h3 h4
  have ht : i.toNat = pre.length := by omega
  unfold znZ
  simp (maxSteps := 9999999) (disch := omega) only [vx, px, ty, ↓reduceIte, seval, fx, zwP, mkL, zas]
 | cons x rest ih =>
  intro pre i q hi h1 h2 h3 h4
  have ht : i.toNat = pre.length := by omega
  simp only [zao] at h2 h4
  rw [List.length_cons] at h1
  have h := ih (pre ++ [mt q]) (i + 1) (q + 1) (by simp; omega) (by simp; omega) (by omega) (by omega) (by omega)
  simp only [zbl] at h
  simp only [mkL, zas, List.map_cons]
  unfold znZ
  simp (maxSteps := 9999999) (disch := omega) only [vx, px, ty, ↓reduceIte, seval, fx, vxd, Nat.reduceBNe, zwP, ht, ifT, zdy]
  exact h
theorem ziu (xs : List ByteArray) (q : Int) (sto : List (List D)) (h : xs.length ≤ 34359738368) (h2 : lsum ByteArray.size xs ≤ 34359738368) (h3 : 0 ≤ q) (h4 : q + ((lsum (fun _ => 1) xs : Nat) : Int) ≤ 1099511627776) : zab T 89 [.sl false 1 ((mkL (fun _ k => mt k) (fun _ k => k + 1) xs q).map D.str), .int .i64 q] sto = some (.int .i64 (zas (fun _ k => k + 1) xs q), [], sto) := by
 rw [zae T (g := v89) rfl rfl rfl _ _ rfl]
 simp (maxSteps := 9999999) (disch := omega) only [vx, px, ty, ↓reduceIte, seval, fx, v89, zzi, zwP]
 have hl := fun k => zmQ (enF [.tmp 4] []) sto k xs [] 0 q rfl (by simp; omega) h2 h3 h4
 simp only [List.map_nil, List.nil_append] at hl
 rw [hl]
 simp (maxSteps := 9999999) (disch := omega) only [vx, px, ty, ↓reduceIte, seval, fx]
theorem zlq {R : Type} (e : En R) (sto : List (List D)) (k : List Fr) : ∀ (rest pre : List TBinding) (i q : Int), i = pre.length → pre.length + rest.length ≤ 34359738368 → lsum TBinding.n rest ≤ 34359738368 → 0 ≤ q → q + ((lsum TBinding.m rest : Nat) : Int) ≤ 1099511627776 →
  go T e znV (.lp zqt :: .bl 0 :: .sq (.clr [4,5,6,7,8,9,10,11,12,13,14,15,16,17,18,19,20,21,22,23,24,25,26,27,28,29,30,31,32,33,34,35,36,37,38,39,40,41,42,43,44,45,46,47,48,49,50,51,52,53,54,55,56,57,58,59,60,61,62]) :: k) ⟨[.d (.sl false 5 (pre.map (TBinding.e false) ++ (mkL TBinding.mk_ TBinding.nx rest q).map (TBinding.e false))), .d (.int .i64 q), Z, Z, Z, .d (.int .i64 i), Z, Z, Z, Z, Z, Z, Z, Z, Z, Z, Z, Z, Z, Z, Z, Z, Z, Z, Z, Z, Z, Z, Z, Z, Z, Z, Z, Z, Z, Z, Z, Z, Z, Z, Z, Z, Z, Z, Z, Z, Z, Z, Z, Z, Z, Z, Z, Z, Z, Z, Z, Z, Z, Z, Z, Z, Z, Z], sto⟩ = bk T e k ⟨[.d (.sl false 5 (pre.map (TBinding.e false) ++ (mkL TBinding.mk_ TBinding.nx rest q).map (TBinding.e false))), .d (.int .i64 (zas TBinding.nx rest q)), Z, Z, Z, Z, Z, Z, Z, Z, Z, Z, Z, Z, Z, Z, Z, Z, Z, Z, Z, Z, Z, Z, Z, Z, Z, Z, Z, Z, Z, Z, Z, Z, Z, Z, Z, Z, Z, Z, Z, Z, Z, Z, Z, Z, Z, Z, Z, Z, Z, Z, Z, Z, Z, Z, Z, Z, Z, Z, Z, Z, Z, Z], sto⟩ := by
 intro rest
 induction rest with
 | nil =>
  intro pre i q hi h1 h2 h3 h4
  have ht : i.toNat = pre.length := by omega
  unfold znV
  simp (maxSteps := 9999999) (disch := omega) only [vx, px, ty, ↓reduceIte, seval, fx, zwI, mkL, zas]
 | cons x rest ih =>
  intro pre i q hi h1 h2 h3 h4
  have ht : i.toNat = pre.length := by omega
  simp only [zao, TBinding.m, TBinding.n, TValue.m, TValue.n] at h2 h4
  rw [List.length_cons] at h1
  have hnx := TBinding.nxm x q
  have h := ih (pre ++ [TBinding.mk_ x q]) (i + 1) (TBinding.nx x q) (by simp; omega) (by simp; omega) (by omega) (by omega) (by simp only [hnx, TBinding.m, TValue.m, TValue.n]; omega)
  simp only [zbl] at h
  simp only [mkL, zas, List.map_cons]
  unfold znV
  simp (maxSteps := 9999999) (disch := omega) only [vx, px, ty, ↓reduceIte, seval, fx, vxd, Nat.reduceBNe, zwI, ht, ifT, zdy, TBinding.mk_, TValue.mk_]
  exact h
theorem zlr (xs : List TBinding) (q : Int) (sto : List (List D)) (h : xs.length ≤ 34359738368) (h2 : lsum TBinding.n xs ≤ 34359738368) (h3 : 0 ≤ q) (h4 : q + ((lsum TBinding.m xs : Nat) : Int) ≤ 1099511627776) : zab T 39 [.sl false 5 ((mkL TBinding.mk_ TBinding.nx xs q).map (TBinding.e false)), .int .i64 q] sto = some (.int .i64 (zas TBinding.nx xs q), [], sto) := by
 rw [zae T (g := v39) rfl rfl rfl _ _ rfl]
 simp (maxSteps := 9999999) (disch := omega) only [vx, px, ty, ↓reduceIte, seval, fx, v39, zyq, zwI]
 have hl := fun k => zlq (enF [.tmp 4] []) sto k xs [] 0 q rfl (by simp; omega) h2 h3 h4
 simp only [List.map_nil, List.nil_append] at hl
 rw [hl]
 simp (maxSteps := 9999999) (disch := omega) only [vx, px, ty, ↓reduceIte, seval, fx]
theorem zkD {R : Type} (e : En R) (sto : List (List D)) (k : List Fr) : ∀ (rest pre : List TFunction) (i q : Int), i = pre.length → pre.length + rest.length ≤ 34359738368 → lsum TFunction.n rest ≤ 34359738368 → 0 ≤ q → q + ((lsum TFunction.m rest : Nat) : Int) ≤ 1099511627776 →
  go T e znW (.lp zqu :: .bl 0 :: .sq (.clr [4,5,6,7,8,9,10,11,12,13,14,15,16,17,18,19,20,21,22,23,24,25,26,27,28,29,30,31,32,33,34,35,36,37,38,39,40,41,42,43,44,45,46,47,48,49]) :: k) ⟨[.d (.sl false 4 (pre.map (TFunction.e false) ++ (mkL TFunction.mk_ TFunction.nx rest q).map (TFunction.e false))), .d (.int .i64 q), Z, Z, Z, .d (.int .i64 i), Z, Z, Z, Z, Z, Z, Z, Z, Z, Z, Z, Z, Z, Z, Z, Z, Z, Z, Z, Z, Z, Z, Z, Z, Z, Z, Z, Z, Z, Z, Z, Z, Z, Z, Z, Z, Z, Z, Z, Z, Z, Z, Z, Z, Z], sto⟩ = bk T e k ⟨[.d (.sl false 4 (pre.map (TFunction.e false) ++ (mkL TFunction.mk_ TFunction.nx rest q).map (TFunction.e false))), .d (.int .i64 (zas TFunction.nx rest q)), Z, Z, Z, Z, Z, Z, Z, Z, Z, Z, Z, Z, Z, Z, Z, Z, Z, Z, Z, Z, Z, Z, Z, Z, Z, Z, Z, Z, Z, Z, Z, Z, Z, Z, Z, Z, Z, Z, Z, Z, Z, Z, Z, Z, Z, Z, Z, Z, Z], sto⟩ := by
 intro rest
 induction rest with
 | nil =>
  intro pre i q hi h1 h2 h3 h4
  have ht : i.toNat = pre.length := by omega
  unfold znW
  simp (maxSteps := 9999999) (disch := omega) only [vx, px, ty, ↓reduceIte, seval, fx, zwJ, mkL, zas]
 | cons x rest ih =>
  intro pre i q hi h1 h2 h3 h4
  have ht : i.toNat = pre.length := by omega
  simp only [zao, TFunction.m, TFunction.n] at h2 h4
  rw [List.length_cons] at h1
  have hf0 := zec x.Params (q + 1)
  have hf1 := zec x.Locals (zas (fun _ k => k + 1) x.Params (q + 1))
  have hnx := TFunction.nxm x q
  have h := ih (pre ++ [TFunction.mk_ x q]) (i + 1) (TFunction.nx x q) (by simp; omega) (by simp; omega) (by omega) (by omega) (by simp only [hnx, TFunction.m]; omega)
  simp only [zbl] at h
  simp only [mkL, zas, List.map_cons]
  unfold znW
  simp (maxSteps := 9999999) (disch := omega) only [vx, px, ty, ↓reduceIte, seval, fx, vxd, Nat.reduceBNe, zwJ, ht, ifT, ziu, zdy, TFunction.mk_]
  exact h
theorem zkE (xs : List TFunction) (q : Int) (sto : List (List D)) (h : xs.length ≤ 34359738368) (h2 : lsum TFunction.n xs ≤ 34359738368) (h3 : 0 ≤ q) (h4 : q + ((lsum TFunction.m xs : Nat) : Int) ≤ 1099511627776) : zab T 40 [.sl false 4 ((mkL TFunction.mk_ TFunction.nx xs q).map (TFunction.e false)), .int .i64 q] sto = some (.int .i64 (zas TFunction.nx xs q), [], sto) := by
 rw [zae T (g := v40) rfl rfl rfl _ _ rfl]
 simp (maxSteps := 9999999) (disch := omega) only [vx, px, ty, ↓reduceIte, seval, fx, v40, zyr, zwJ]
 have hl := fun k => zkD (enF [.tmp 4] []) sto k xs [] 0 q rfl (by simp; omega) h2 h3 h4
 simp only [List.map_nil, List.nil_append] at hl
 rw [hl]
 simp (maxSteps := 9999999) (disch := omega) only [vx, px, ty, ↓reduceIte, seval, fx]
theorem ziR {R : Type} (e : En R) (sto : List (List D)) (k : List Fr) : ∀ (rest pre : List TRecordType) (i q : Int), i = pre.length → pre.length + rest.length ≤ 34359738368 → lsum TRecordType.n rest ≤ 34359738368 → 0 ≤ q → q + ((lsum TRecordType.m rest : Nat) : Int) ≤ 1099511627776 →
  go T e znX (.lp zqv :: .bl 0 :: .sq (.clr [4,5,6,7,8,9,10,11,12,13,14,15,16,17,18,19,20,21,22,23,24,25,26,27,28,29,30]) :: k) ⟨[.d (.sl false 2 (pre.map (TRecordType.e false) ++ (mkL TRecordType.mk_ TRecordType.nx rest q).map (TRecordType.e false))), .d (.int .i64 q), Z, Z, Z, .d (.int .i64 i), Z, Z, Z, Z, Z, Z, Z, Z, Z, Z, Z, Z, Z, Z, Z, Z, Z, Z, Z, Z, Z, Z, Z, Z, Z, Z], sto⟩ = bk T e k ⟨[.d (.sl false 2 (pre.map (TRecordType.e false) ++ (mkL TRecordType.mk_ TRecordType.nx rest q).map (TRecordType.e false))), .d (.int .i64 (zas TRecordType.nx rest q)), Z, Z, Z, Z, Z, Z, Z, Z, Z, Z, Z, Z, Z, Z, Z, Z, Z, Z, Z, Z, Z, Z, Z, Z, Z, Z, Z, Z, Z, Z], sto⟩ := by
 intro rest
 induction rest with
 | nil =>
  intro pre i q hi h1 h2 h3 h4
  have ht : i.toNat = pre.length := by omega
  unfold znX
  simp (maxSteps := 9999999) (disch := omega) only [vx, px, ty, ↓reduceIte, seval, fx, zwK, mkL, zas]
 | cons x rest ih =>
  intro pre i q hi h1 h2 h3 h4
  have ht : i.toNat = pre.length := by omega
  simp only [zao, TRecordType.m, TRecordType.n] at h2 h4
  rw [List.length_cons] at h1
  have hf0 := zec x.Fields (q + 1)
  have hnx := TRecordType.nxm x q
  have h := ih (pre ++ [TRecordType.mk_ x q]) (i + 1) (TRecordType.nx x q) (by simp; omega) (by simp; omega) (by omega) (by omega) (by simp only [hnx, TRecordType.m]; omega)
  simp only [zbl] at h
  simp only [mkL, zas, List.map_cons]
  unfold znX
  simp (maxSteps := 9999999) (disch := omega) only [vx, px, ty, ↓reduceIte, seval, fx, vxd, Nat.reduceBNe, zwK, ht, ifT, ziu, zdy, TRecordType.mk_]
  exact h
theorem ziS (xs : List TRecordType) (q : Int) (sto : List (List D)) (h : xs.length ≤ 34359738368) (h2 : lsum TRecordType.n xs ≤ 34359738368) (h3 : 0 ≤ q) (h4 : q + ((lsum TRecordType.m xs : Nat) : Int) ≤ 1099511627776) : zab T 41 [.sl false 2 ((mkL TRecordType.mk_ TRecordType.nx xs q).map (TRecordType.e false)), .int .i64 q] sto = some (.int .i64 (zas TRecordType.nx xs q), [], sto) := by
 rw [zae T (g := v41) rfl rfl rfl _ _ rfl]
 simp (maxSteps := 9999999) (disch := omega) only [vx, px, ty, ↓reduceIte, seval, fx, v41, zys, zwK]
 have hl := fun k => ziR (enF [.tmp 4] []) sto k xs [] 0 q rfl (by simp; omega) h2 h3 h4
 simp only [List.map_nil, List.nil_append] at hl
 rw [hl]
 simp (maxSteps := 9999999) (disch := omega) only [vx, px, ty, ↓reduceIte, seval, fx]
theorem zkF (x : TScope) (q : Int) (sto : List (List D)) (h : TScope.n x ≤ 34359738368) (h3 : 0 ≤ q) (h4 : q + ((lsum TBinding.m x.Vars + lsum TFunction.m x.Functions + lsum TRecordType.m x.Types : Nat) : Int) ≤ 1099511627776) : zab T 12 [D.agg [D.sl false 5 (List.map (TBinding.e false) (mkL TBinding.mk_ TBinding.nx x.Vars (q))), D.sl false 4 (List.map (TFunction.e false) (mkL TFunction.mk_ TFunction.nx x.Functions (zas TBinding.nx x.Vars (q)))), D.sl false 2 (List.map (TRecordType.e false) (mkL TRecordType.mk_ TRecordType.nx x.Types (zas TFunction.nx x.Functions (zas TBinding.nx x.Vars (q)))))], .int .i64 q] sto = some (.int .i64 (zas TRecordType.nx x.Types (zas TFunction.nx x.Functions (zas TBinding.nx x.Vars (q)))), [], sto) := by
 simp only [TScope.n] at h
 have hfVarsx := zby TBinding.nxm x.Vars (q)
 have hfFunctionsx := zby TFunction.nxm x.Functions (zas TBinding.nx x.Vars (q))
 have hfTypesx := zby TRecordType.nxm x.Types (zas TFunction.nx x.Functions (zas TBinding.nx x.Vars (q)))
 rw [zae T (g := v12) rfl rfl rfl _ _ rfl]
 simp (maxSteps := 9999999) (disch := omega) only [vx, px, ty, ↓reduceIte, seval, fx, v12, zxV, zlr, zkE, ziS]
end Go.Vx.DfZ
