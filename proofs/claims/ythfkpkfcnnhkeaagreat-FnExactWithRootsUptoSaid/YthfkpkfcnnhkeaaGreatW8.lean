/-
  WithRoots: the program's answer is the reference's.
-/

import Derived.Test.YthfkpkfcnnhkeaaGreatCi
import Derived.Test.YthfkpkfcnnhkeaaGreatCs
set_option linter.unusedVariables false
set_option linter.unusedSimpArgs false
namespace Go.Vx.WrZ
set_option linter.unusedVariables false
open Classical
def withV : List TBinding → List TValue → List TBinding
  | b :: bs, v :: vs => TBinding.mk b.Name v :: withV bs vs
  | bs, _ => bs
theorem withV_len : ∀ (bs : List TBinding) (vs : List TValue), (withV bs vs).length = bs.length
  | [], _ => by cases ‹List TValue› <;> rfl
  | b :: bs, [] => rfl
  | b :: bs, v :: vs => by simp only [withV, List.length_cons, withV_len bs vs]
theorem withV_size : ∀ (bs : List TBinding) (vs : List TValue), lsum TBinding.n (withV bs vs) ≤ lsum TBinding.n bs + lsum TValue.n vs
  | [], vs => by cases vs <;> simp [withV, lsum_nil]
  | b :: bs, [] => by simp [withV, lsum_nil]
  | b :: bs, v :: vs => by
    have := withV_size bs vs
    simp only [withV, lsum_cons, TBinding.n]; omega
theorem withV_nil (bs : List TBinding) : withV bs [] = bs := by cases bs <;> rfl
theorem set_pre {α : Type} (pre : List α) (b c : α) (r : List α) : setN (pre ++ b :: r) pre.length c = pre ++ c :: r := by
  unfold setN
  induction pre with
  | nil => rfl
  | cons x p ih => simp
theorem loop_eq (xs : List TValue) (f : List TFunction) (t : List TRecordType) (hx : xs.length ≤ 1048576) (L : TScope → Int → Option TScope)
    (hL : ∀ s i, L s i = if i < (xs.length : Int) then (idx xs i >>= fun a => idx s.Vars i >>= fun b => L (TScope.mk (setN s.Vars i.toNat (TBinding.mk b.Name a)) s.Functions s.Types) (IntKind.wrap .i64 (i + 1))) else some s)
    (bs : List TBinding) (hb : xs.length ≤ bs.length) : L (TScope.mk bs f t) 0 = some (TScope.mk (withV bs xs) f t) := by
  have key := list_ind xs (fun i rest => ∀ (pre bs : List TBinding), pre.length = i → rest.length ≤ bs.length → L (TScope.mk (pre ++ bs) f t) (i : Int) = some (TScope.mk (pre ++ withV bs rest) f t)) ?_ ?_
  · exact key [] bs rfl hb
  · intro pre bs hp hr
    rw [hL, if_neg (by omega), withV_nil]
  · intro i a rest hi hg hd ih pre bs hp hr
    cases bs with
    | nil => simp at hr
    | cons b bs =>
      have e1 : (pre ++ b :: bs)[i]? = some b := by rw [List.getElem?_append_right (by omega)]; simp [hp]
      rw [hL, if_pos (by omega), idx_nat, hg]
      simp only [Option.bind_eq_bind, Option.bind_some, idx_nat, e1, Int.toNat_natCast]
      rw [← hp, set_pre, w64 (by omega) (by omega), show ((pre.length : Int) + 1) = ((pre.length + 1 : Nat) : Int) by omega]
      have := ih (pre ++ [TBinding.mk b.Name a]) bs (by simp; omega) (by simpa using hr)
      rw [← hp] at this
      simp only [List.append_assoc, List.cons_append, List.nil_append] at this
      rw [this]; rfl
theorem i_roots_eq (x : TScope) (vs : List TValue) (h : TScope.n x ≤ 1048576) (hv : vs.length ≤ x.Vars.length) : i_Scope_withRoots x vs = some (TScope.mk (withV x.Vars vs) x.Functions x.Types) := by
  have h' := h
  simp only [TScope.n] at h'
  unfold i_Scope_withRoots
  rw [i_copied_eq x h]
  simp only [Option.bind_eq_bind, Option.bind_some]
  rw [show x = TScope.mk x.Vars x.Functions x.Types from rfl, loop_eq vs x.Functions x.Types (by omega) (fun s i => i_Scope_withRoots_l1 vs (TScope.mk [] [] []) vs vs.length s i) (fun s i => i_Scope_withRoots_l1.eq_1 ..) x.Vars hv]
  rfl
theorem s_roots_eq (x z : TScope) (vs : List TValue) (h : TScope.n x ≤ 1048576) (hv : vs.length ≤ x.Vars.length) : s_WithRoots_l1 vs z x 0 = some (TScope.mk (withV x.Vars vs) x.Functions x.Types) := by
  simp only [TScope.n] at h
  rw [show x = TScope.mk x.Vars x.Functions x.Types from rfl, loop_eq vs x.Functions x.Types (by omega) (fun s i => s_WithRoots_l1 vs z s i) (fun s i => s_WithRoots_l1.eq_1 ..) x.Vars hv]
theorem pure_law (x0 : TScope) (x1 : List TValue) (h0 : TScope.n x0 ≤ 1048576) (h1 : x1.length + lsum TValue.n x1 ≤ 1048576) (ht : TScope.n x0 + (x1.length + lsum TValue.n x1) ≤ 1048576) : ∃ r, i_WithRoots x0 x1 = some r ∧ s_WithRoots x0 x1 = some r ∧ TScope.n r.1 ≤ 34359738368 := by
  have h' := h0
  simp only [TScope.n] at h'
  have hz : TScope.n (TScope.mk [] [] []) ≤ 34359738368 := by decide
  unfold i_WithRoots s_WithRoots
  rw [i_ValidScope_eq x0 h0, s_ValidScope_eq x0 h0]
  simp only [Option.bind_eq_bind, Option.bind_some]
  by_cases hS : ScopeOK x0
  · rw [decide_eq_true hS]
    simp only [if_true]
    by_cases hl : x1.length = x0.Vars.length
    · have hn : TScope.n (TScope.mk (withV x0.Vars x1) x0.Functions x0.Types) ≤ 1048576 := by
        have := withV_size x0.Vars x1
        simp only [TScope.n] at ht ⊢
        rw [withV_len]; omega
      rw [if_pos (show (x1.length : Int) = x0.Vars.length by omega), if_pos (show (x1.length : Int) = x0.Vars.length by omega)]
      unfold i_WithRoots_j1 s_WithRoots_j1
      rw [i_roots_eq x0 x1 h0 (by omega), s_own_eq x0 h0]
      simp only [Option.bind_eq_bind, Option.bind_some]
      rw [s_roots_eq x0 _ x1 h0 (by omega)]
      simp only [Option.bind_some]
      rw [i_ValidScope_eq _ hn, s_ValidScope_eq _ hn]
      simp only [Option.bind_some]
      by_cases hT : ScopeOK (TScope.mk (withV x0.Vars x1) x0.Functions x0.Types)
      · rw [decide_eq_true hT]; exact ⟨_, rfl, rfl, by simp only []; omega⟩
      · rw [decide_eq_false hT]; exact ⟨_, rfl, rfl, hz⟩
    · rw [if_neg (show ¬ (x1.length : Int) = x0.Vars.length by omega), if_neg (show ¬ (x1.length : Int) = x0.Vars.length by omega)]
      exact ⟨_, rfl, rfl, hz⟩
  · rw [decide_eq_false hS]; exact ⟨_, rfl, rfl, hz⟩
end Go.Vx.WrZ
