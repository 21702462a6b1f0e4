/-
  RestoreNames: the program's answer is the reference's.
-/
import Derived.Test.YthppbplieikhkaaGreatA8s
set_option linter.unusedVariables false
set_option linter.unusedSimpArgs false
namespace Go.Vx.RnZ
set_option linter.unusedVariables false
open Classical
noncomputable def rest (f : List TFunction) (t : List TRecordType) : List TBinding → List TBinding → TScope × Int
 | [], xs => (TScope.mk xs f t, 0)
 | b :: r, xs => if zaE b.Name = true ∧ vOK b.Value = true then (if (asgL xs b.Name b.Value).length > 40 then (zfo, 6) else rest f t r (asgL xs b.Name b.Value)) else (zfo, 1)
theorem zoj (bs : List TBinding) (f : List TFunction) (t : List TRecordType) (hb : bs.length ≤ 1048576) (xs : List TBinding) (hS : zaN (TScope.mk xs f t)) :
  ∃ o, zbD bs bs bs.length f t 0 xs = some o ∧ match o with
   | .inl ys => rest f t bs xs = (TScope.mk ys f t, 0)
   | .inr q => rest f t bs xs = (zfo, q.1) ∧ q.1 ≠ 0 := by
 refine zee bs (fun i r => ∀ xs, zaN (TScope.mk xs f t) → ∃ o, zbD bs bs bs.length f t (i : Int) xs = some o ∧ match o with
   | .inl ys => rest f t r xs = (TScope.mk ys f t, 0)
   | .inr q => rest f t r xs = (zfo, q.1) ∧ q.1 ≠ 0) ?_ ?_ xs hS
 ·intro xs hS
  refine ⟨.inl xs, ?_, rfl⟩
  rw [zbD.eq_1, if_neg (by omega)]
 ·intro i b r hi hg hd ih xs hS
  rw [zbD.eq_1, if_pos (by omega), zaL, hg]
  simp only [Option.bind_eq_bind, Option.bind_some, zdK, zgq, rest]
  by_cases h1 : zaE b.Name = true
  ·rw [if_pos h1]
   by_cases h2 : vOK b.Value = true
   ·rw [if_pos h2, if_pos ⟨h1, h2⟩]
    unfold zcv
    rw [zog b.Name b.Value xs f t hS.1.1 hS.2.1.1]
    simp only [Option.bind_eq_bind, Option.bind_some]
    by_cases hl : (asgL xs b.Name b.Value).length > 40
    ·rw [if_pos hl, if_pos hl]
     exact ⟨_, rfl, rfl, (show (6 : Int) ≠ 0 by decide)⟩
    ·rw [if_neg hl, if_neg hl, w64 (by omega) (by omega)]
     exact ih _ (zuf hS h1 h2 hl)
   ·rw [if_neg h2, if_neg (fun q => h2 q.2)]
    exact ⟨_, rfl, rfl, (show (1 : Int) ≠ 0 by decide)⟩
  ·rw [if_neg h1, if_neg (fun q => h1 q.1)]
   exact ⟨_, rfl, rfl, (show (1 : Int) ≠ 0 by decide)⟩
theorem zok (bs : List TBinding) (z : TScope) (f : List TFunction) (t : List TRecordType) (hb : bs.length ≤ 1048576) (xs : List TBinding) (hS : zaN (TScope.mk xs f t)) (hn : TScope.n (TScope.mk xs f t) + (bs.length + lsum TBinding.n bs) ≤ 1048576) :
  ∃ o, zbl bs z (TScope.mk xs f t) 0 = some o ∧ (match o with
   | .inl s => rest f t bs xs = (s, 0)
   | .inr q => rest f t bs xs = q) ∧ TScope.n (rest f t bs xs).1 ≤ 1048576 := by
 refine zee bs (fun i r => ∀ xs, zaN (TScope.mk xs f t) → TScope.n (TScope.mk xs f t) + (r.length + lsum TBinding.n r) ≤ 1048576 → ∃ o, zbl bs z (TScope.mk xs f t) (i : Int) = some o ∧ (match o with
   | .inl s => rest f t r xs = (s, 0)
   | .inr q => rest f t r xs = q) ∧ TScope.n (rest f t r xs).1 ≤ 1048576) ?_ ?_ xs hS hn
 ·intro xs hS hn
  refine ⟨.inl _, ?_, rfl, by simp only [rest]; omega⟩
  rw [zbl.eq_1, if_neg (by omega)]
 ·intro i b r hi hg hd ih xs hS hn
  rw [List.length_cons, zap] at hn
  have hz : TScope.n zfo = 0 := by decide
  rw [zbl.eq_1, if_pos (by omega), zaL, hg]
  simp only [Option.bind_eq_bind, Option.bind_some, rest]
  rw [zoi (TScope.mk xs f t) b.Name b.Value (by omega)]
  simp only [Option.bind_some]
  by_cases h1 : zaE b.Name = true
  ·by_cases h2 : vOK b.Value = true
   ·rw [if_pos (show zaN (TScope.mk xs f t) ∧ zaE b.Name = true ∧ vOK b.Value = true from ⟨hS, h1, h2⟩), if_pos (show zaE b.Name = true ∧ vOK b.Value = true from ⟨h1, h2⟩)]
    unfold asg
    by_cases hl : (asgL xs b.Name b.Value).length > 40
    ·rw [if_pos hl, if_pos hl]
     exact ⟨_, rfl, rfl, by first | omega | (simp only [hz]; omega) | (rw [show (zfo, _).1 = zfo from rfl, hz]; omega)⟩
    ·rw [if_neg hl, if_neg hl, w64 (by omega) (by omega)]
     have h3 := zth (TScope.mk xs f t) b.Name b.Value
     unfold asg at h3
     rw [if_neg hl] at h3
     simp only [TBinding.n] at h3 hn
     exact ih (asgL xs b.Name b.Value) (zuf hS h1 h2 hl) (by have h4 : TScope.n (TScope.mk (asgL xs b.Name b.Value) f t) ≤ TScope.n (TScope.mk xs f t) + (b.Name.size + TValue.n b.Value) + 1 := h3; omega)
   ·rw [if_neg (show ¬ (zaN (TScope.mk xs f t) ∧ zaE b.Name = true ∧ vOK b.Value = true) from fun q => h2 q.2.2), if_neg (show ¬ (zaE b.Name = true ∧ vOK b.Value = true) from fun q => h2 q.2)]
    exact ⟨_, rfl, rfl, by first | omega | (simp only [hz]; omega) | (rw [show (zfo, _).1 = zfo from rfl, hz]; omega)⟩
  ·rw [if_neg (show ¬ (zaN (TScope.mk xs f t) ∧ zaE b.Name = true ∧ vOK b.Value = true) from fun q => h1 q.2.1), if_neg (show ¬ (zaE b.Name = true ∧ vOK b.Value = true) from fun q => h1 q.1)]
   exact ⟨_, rfl, rfl, by first | omega | (simp only [hz]; omega) | (rw [show (zfo, _).1 = zfo from rfl, hz]; omega)⟩
theorem ztj (x0 : TScope) (x1 : List TBinding) (h0 : TScope.n x0 ≤ 1048576) (h1 : x1.length + lsum TBinding.n x1 ≤ 1048576) (ht : TScope.n x0 + (x1.length + lsum TBinding.n x1) ≤ 1048576) : ∃ r, zdP x0 x1 = some r ∧ zdN x0 x1 = some r ∧ TScope.n r.1 ≤ 34359738368 := by
 have hz : TScope.n zfo = 0 := by decide
 unfold zdP zdN
 rw [zkp x0 h0, zgs x0 h0]
 simp only [Option.bind_eq_bind, Option.bind_some]
 by_cases hS : zaN x0
 ·rw [decide_eq_true hS]
  simp only [if_true]
  rw [zof x0 h0, zpQ x0 h0]
  simp only [Option.bind_some]
  unfold zdz
  obtain ⟨o, e1, e2⟩ := zoj x1 x0.Functions x0.Types (by omega) x0.Vars hS
  obtain ⟨q, e3, e4, e5⟩ := zok x1 (TScope.mk [] [] []) x0.Functions x0.Types (by omega) x0.Vars hS ht
  have e3' : zbl x1 (TScope.mk [] [] []) x0 0 = some q := e3
  rw [e1, e3']
  refine ⟨rest x0.Functions x0.Types x1 x0.Vars, ?_, ?_, by omega⟩
  ·simp only [Option.bind_eq_bind, Option.bind_some]
   cases o with
   | inl ys => simp only at e2; rw [e2]; rfl
   | inr y => simp only at e2; rw [e2.1]; simp only [Option.bind_some]; rw [if_neg e2.2]; rfl
  ·simp only [Option.bind_some]
   cases q with
   | inl s => simp only at e4; rw [e4]
   | inr y => simp only at e4; rw [e4]
 ·rw [decide_eq_false hS]
  exact ⟨(zfo, 1), rfl, rfl, by first | omega | (simp only [hz]; omega) | (rw [show (zfo, _).1 = zfo from rfl, hz]; omega)⟩
end Go.Vx.RnZ
