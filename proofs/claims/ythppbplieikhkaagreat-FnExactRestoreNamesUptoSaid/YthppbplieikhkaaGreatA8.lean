/-
  A variable is assigned to: both sides, as one plain function.
-/
import Derived.Test.YthppbplieikhkaaGreatCi
import Derived.Test.YthppbplieikhkaaGreatCs
import Derived.Test.YthppbplieikhkaaGreatCmp
set_option linter.unusedVariables false
set_option linter.unusedSimpArgs false
namespace Go.Vx.RnZ
set_option linter.unusedVariables false
open Classical
abbrev bnm := TBinding.Name
def asgL (xs : List TBinding) (x : ByteArray) (v : TValue) : List TBinding :=
 xs.take (pos bnm xs x) ++ ((if zje v = true then [] else [TBinding.mk x v]) ++ xs.drop (if zeC bnm xs x = true then pos bnm xs x + 1 else pos bnm xs x))
def zfo : TScope := TScope.mk [] [] []
noncomputable def asg (s : TScope) (x : ByteArray) (v : TValue) : TScope × Int :=
 if (asgL s.Vars x v).length > 40 then (zfo, 6) else (TScope.mk (asgL s.Vars x v) s.Functions s.Types, 0)
theorem zgH {xs : List TBinding} {x : ByteArray} (h : zeC bnm xs x = true) : pos bnm xs x < xs.length := by
 unfold zeC at h
 cases hg : xs[pos bnm xs x]? with
 | none => rw [hg] at h; cases h
 | some a => exact (List.getElem?_eq_some_iff.1 hg).1
theorem zpR (xs : List TBinding) (x : ByteArray) (v : TValue) : (asgL xs x v).length = (if zje v = true then 0 else 1) + (if zeC bnm xs x = true then xs.length - 1 else xs.length) := by
 have hp := zjM bnm xs x
 unfold asgL
 simp only [List.length_append, List.length_take, List.length_drop]
 by_cases h : zeC bnm xs x = true
 ·have := zgH h
  rw [if_pos h, if_pos h]
  split <;> simp <;> omega
 ·rw [if_neg h, if_neg h]
  split <;> simp <;> omega
theorem zlm (xs : List TBinding) (x : ByteArray) (h : xs.length ≤ 1048576) (hS : Srt bnm xs) : zcs xs x = some (((pos bnm xs x : Nat) : Int), zeC bnm xs x) := by
 unfold zcs zan
 rw [zvk bnm xs x h hS (fun a => zbw a x) (fun a => by simp only [zbw, zaX, Option.bind_eq_bind, Option.bind_some, zxF]) (zad xs x xs.length) (fun lo hi => zad.eq_1 ..)]
 rfl
theorem zvl {α : Type} (l : List α) (i : Nat) (y : α) (h : i < l.length) : setN l i y = l.take i ++ y :: l.drop (i + 1) := by
 unfold setN
 rw [List.set_eq_take_append_cons_drop, if_pos h]
theorem zqD (xs : List TBinding) (x : ByteArray) (v : TValue) (h : xs.length ≤ 1048576) (hS : Srt bnm xs) (hv : ¬ zje v = true) : zbC xs (TBinding.mk x v) = some (asgL xs x v) := by
 unfold zbC zaX zak zaD asgL
 simp only [Option.bind_eq_bind, Option.bind_some, zlm xs x h hS]
 rw [zct (show xs.length ≤ most by unfold most; omega)]
 simp only [Option.bind_some]
 have hp := zjM bnm xs x
 by_cases hh : zeC bnm xs x = true
 ·have hl := zgH hh
  rw [if_pos hh, if_pos hh, if_neg hv, zaL, List.getElem?_eq_getElem hl]
  simp only [Option.bind_some, Int.toNat_natCast]
  rw [zvl _ _ _ hl]; rfl
 ·rw [if_neg hh, if_neg hh, if_neg hv, zct (show 0 ≤ ((pos bnm xs x : Nat) : Int) ∧ ((pos bnm xs x : Nat) : Int) ≤ (xs.length : Int) ∧ xs.length + 1 ≤ most by unfold most; omega)]
  rfl
theorem zog (x : ByteArray) (v : TValue) (xs : List TBinding) (f : List TFunction) (t : List TRecordType) (h : xs.length ≤ 40) (hS : Srt bnm xs) :
  zcX x v xs f t = some (if (asgL xs x v).length > 40 then (6, xs) else (0, asgL xs x v)) := by
 unfold zcX zcb
 rw [zlm xs x (by omega) hS, zkm, zpR]
 simp only [Option.bind_eq_bind, Option.bind_some]
 have hp := zjM bnm xs x
 by_cases hv : zje v = true
 ·rw [if_pos hv, if_pos hv]
  by_cases hh : zeC bnm xs x = true
  ·have hl := zgH hh
   rw [if_pos hh, if_pos hh, if_neg (by omega)]
   unfold zak zaC asgL
   rw [zct (show xs.length ≤ most by unfold most; omega), w64 (by omega) (by omega)]
   simp only [Option.bind_eq_bind, Option.bind_some]
   rw [zct (show 0 ≤ ((pos bnm xs x : Nat) : Int) ∧ True ∧ ((pos bnm xs x : Nat) : Int) < (xs.length : Int) ∧ xs.length ≤ most from ⟨by omega, trivial, by omega, by unfold most; omega⟩), if_pos hv, if_pos hh]
   simp only [Option.bind_some, Int.toNat_natCast, List.nil_append]
  ·rw [if_neg hh, if_neg hh, if_neg (by omega)]
   unfold asgL
   rw [if_neg hh, if_pos hv, List.nil_append, List.take_append_drop]
 ·rw [if_neg hv, if_neg hv, zqD xs x v (by omega) hS hv]
  simp only [Option.bind_some]
  by_cases hh : zeC bnm xs x = true
  ·have hl := zgH hh
   rw [if_pos hh, if_pos hh, if_neg (by omega)]
  ·rw [if_neg hh, if_neg hh]
   by_cases h40 : (xs.length : Int) = 40
   ·rw [if_pos h40, if_pos (by omega)]
   ·rw [if_neg h40, if_neg (by omega)]
theorem zqE (s z own : TScope) (x : ByteArray) (v : TValue) (h : s.Vars.length ≤ 1048576) (hS : Srt bnm s.Vars) :
  zcV x s v z own [] 0 = some (s.Vars.take (pos bnm s.Vars x), ((pos bnm s.Vars x : Nat) : Int)) := by
 have hp := zjM bnm s.Vars x
 have key : ∀ (n i : Nat), pos bnm s.Vars x - i = n → i ≤ pos bnm s.Vars x → zcV x s v z own (s.Vars.take i) (i : Int) = some (s.Vars.take (pos bnm s.Vars x), ((pos bnm s.Vars x : Nat) : Int)) := by
  intro n
  induction n with
  | zero =>
   intro i h1 h2
   obtain rfl : i = pos bnm s.Vars x := by omega
   rw [zcV.eq_1]
   by_cases hl : pos bnm s.Vars x < s.Vars.length
   ·rw [if_pos (by omega), zaL, List.getElem?_eq_getElem hl]
    simp only [Option.bind_eq_bind, Option.bind_some]
    have := ziJ hS (x := x) (List.getElem?_eq_getElem hl)
    rw [if_neg (show ¬ Op.bytesLess (s.Vars[pos bnm s.Vars x]).Name.toList x.toList = true from fun e => absurd (this.1 e) (Nat.lt_irrefl _))]
   ·rw [if_neg (by omega)]
  | succ n ih =>
   intro i h1 h2
   have hl : i < s.Vars.length := by omega
   rw [zcV.eq_1, if_pos (by omega)]
   unfold zdM
   simp only [zaL, List.getElem?_eq_getElem hl, Option.bind_eq_bind, Option.bind_some]
   have hq : Op.bytesLess (s.Vars[i]).Name.toList x.toList = true := (ziJ hS (x := x) (List.getElem?_eq_getElem hl)).2 (by omega)
   rw [if_pos hq, zge (by unfold most; simp only [List.length_take, List.length_cons, List.length_nil]; omega)]
   simp only [Option.bind_some]
   rw [w64 (by omega) (by omega)]
   have := ih (i + 1) (by omega) (by omega)
   rw [List.take_add_one, List.getElem?_eq_getElem hl] at this
   exact this
 exact key _ 0 rfl (Nat.zero_le _)
theorem zkr (s z own : TScope) (x : ByteArray) (acc : List TBinding) (i : Nat) (hi : i ≤ s.Vars.length) (h : s.Vars.length ≤ 1048576) (ha : acc.length ≤ 1048577) :
  zbH x s z own acc (i : Int) = some (if (acc ++ s.Vars.drop i).length > 40 then (zfo, 6) else (TScope.mk (acc ++ s.Vars.drop i) own.Functions own.Types, 0)) := by
 unfold zbH subL
 rw [if_pos (by omega)]
 simp only [Option.bind_eq_bind, Option.bind_some, Int.toNat_natCast]
 rw [zge (by unfold most; rw [List.length_drop]; omega)]
 simp only [Option.bind_some]
 by_cases hl : (acc ++ s.Vars.drop i).length > 40
 ·rw [if_pos hl, if_pos (by omega)]; rfl
 ·rw [if_neg hl, if_neg (by omega)]
theorem znu (s z own : TScope) (x : ByteArray) (acc : List TBinding) (h : s.Vars.length ≤ 1048576) (ha : acc.length ≤ 1048577) :
  zcr x s z own acc ((pos bnm s.Vars x : Nat) : Int) = some (if (acc ++ s.Vars.drop (if zeC bnm s.Vars x = true then pos bnm s.Vars x + 1 else pos bnm s.Vars x)).length > 40 then (zfo, 6) else (TScope.mk (acc ++ s.Vars.drop (if zeC bnm s.Vars x = true then pos bnm s.Vars x + 1 else pos bnm s.Vars x)) own.Functions own.Types, 0)) := by
 have hp := zjM bnm s.Vars x
 unfold zcr
 by_cases hl : pos bnm s.Vars x < s.Vars.length
 ·have hg := List.getElem?_eq_getElem hl
  rw [if_pos (by omega), zaL, hg]
  simp only [Option.bind_eq_bind, Option.bind_some]
  by_cases he : (s.Vars[pos bnm s.Vars x]).Name = x
  ·have hh : zeC bnm s.Vars x = true := by unfold zeC; rw [hg]; exact decide_eq_true he
   rw [if_pos he, if_pos hh, w64 (by omega) (by omega), show ((pos bnm s.Vars x : Nat) : Int) + 1 = ((pos bnm s.Vars x + 1 : Nat) : Int) by omega, zkr s z own x acc _ (by omega) h ha]; rfl
  ·have hh : ¬ zeC bnm s.Vars x = true := by unfold zeC; rw [hg]; simp [he]
   rw [if_neg he, if_neg hh, zkr s z own x acc _ (by omega) h ha]; rfl
 ·have hh : ¬ zeC bnm s.Vars x = true := fun e => hl (zgH e)
  rw [if_neg (by omega), if_neg hh, zkr s z own x acc _ (by omega) h ha]; rfl
theorem zoh (s : TScope) (x : ByteArray) (v : TValue) (h : TScope.n s ≤ 1048576) (hS : Srt bnm s.Vars) : zez s x v = some (asg s x v) := by
 have h' := h
 simp only [TScope.n] at h'
 have hp := zjM bnm s.Vars x
 unfold zez
 rw [zpQ s h]
 simp only [Option.bind_eq_bind, Option.bind_some]
 rw [zqE s _ _ x v (by omega) hS, zkl]
 simp only [Option.bind_some]
 unfold asg asgL
 by_cases hv : zje v = true
 ·rw [if_pos hv, if_pos hv, znu s _ _ x _ (by omega) (by rw [List.length_take]; omega), List.nil_append]
 ·rw [if_neg hv, if_neg hv, zge (by unfold most; simp only [List.length_take, List.length_cons, List.length_nil]; omega)]
  simp only [Option.bind_some]
  rw [znu s _ _ x _ (by omega) (by simp only [List.length_append, List.length_take, List.length_cons, List.length_nil]; omega)]
  simp only [List.append_assoc]
theorem zmi {α : Type} (f : α → Nat) (a b : List α) : lsum f (a ++ b) = lsum f a + lsum f b := by
 induction a with
 | nil => rw [List.nil_append, zdL, Nat.zero_add]
 | cons x r ih => rw [List.cons_append, zap, zap, ih, Nat.add_assoc]
theorem zst {α : Type} (f : α → Nat) (xs : List α) (i : Nat) : lsum f (xs.take i) + lsum f (xs.drop i) = lsum f xs := by
 rw [← zmi, List.take_append_drop]
theorem zsu {α : Type} (f : α → Nat) (xs : List α) (i : Nat) : lsum f (xs.drop (i + 1)) ≤ lsum f (xs.drop i) := by
 have := zst f (xs.drop i) 1
 rw [List.drop_drop] at this
 omega
theorem zsv (xs : List TBinding) (x : ByteArray) (v : TValue) : lsum TBinding.n (asgL xs x v) ≤ lsum TBinding.n xs + TBinding.n (TBinding.mk x v) := by
 have h1 := zst TBinding.n xs (pos bnm xs x)
 have h2 := zsu TBinding.n xs (pos bnm xs x)
 unfold asgL
 rw [zmi, zmi]
 have h3 : lsum TBinding.n (if zje v = true then [] else [TBinding.mk x v]) ≤ TBinding.n (TBinding.mk x v) := by
  split
  ·rw [zdL]; omega
  ·rw [zap, zdL]; omega
 by_cases hh : zeC bnm xs x = true
 ·rw [if_pos hh]; omega
 ·rw [if_neg hh]; omega
theorem zth (s : TScope) (x : ByteArray) (v : TValue) : TScope.n (asg s x v).1 ≤ TScope.n s + TBinding.n (TBinding.mk x v) + 1 := by
 have h1 := zsv s.Vars x v
 have h2 := zpR s.Vars x v
 have h3 : (asgL s.Vars x v).length ≤ s.Vars.length + 1 := by rw [h2]; split <;> split <;> omega
 unfold asg
 split
 ·have : TScope.n zfo = 0 := by decide
  rw [this]; omega
 ·simp only [TScope.n]; omega
theorem zxG {xs : List TBinding} {x : ByteArray} (hS : Srt bnm xs) {a : TBinding} (ha : a ∈ xs.drop (if zeC bnm xs x = true then pos bnm xs x + 1 else pos bnm xs x)) : ltB x a.Name = true := by
 obtain ⟨j, hj⟩ := List.mem_iff_getElem?.1 ha
 rw [List.getElem?_drop] at hj
 have hP := List.pairwise_iff_getElem.1 (Srt.pair.1 hS)
 have hlt := (List.getElem?_eq_some_iff.1 hj).1
 have hge := (List.getElem?_eq_some_iff.1 hj).2
 by_cases hh : zeC bnm xs x = true
 ·rw [if_pos hh] at hj hlt
  have hl := zgH hh
  have h1 := hP (pos bnm xs x) (pos bnm xs x + 1 + j) hl hlt (by omega)
  obtain ⟨b, hb, he⟩ := (znt hS x).1 hh
  rw [List.getElem?_eq_getElem hl] at hb
  cases hb
  rw [he] at h1
  have h2 : xs[pos bnm xs x + 1 + j] = a := by rw [List.getElem?_eq_getElem hlt] at hj; exact Option.some.inj hj
  rw [h2] at h1
  exact h1
 ·rw [if_neg hh] at hj hlt
  have h2 : xs[pos bnm xs x + j] = a := by rw [List.getElem?_eq_getElem hlt] at hj; exact Option.some.inj hj
  cases hx : ltB x a.Name with
  | true => rfl
  | false =>
   exfalso
   have h3 : ltB a.Name x = false := by
    cases h4 : ltB a.Name x with
    | false => rfl
    | true => have := (ziJ hS (x := x) hj).1 h4; omega
   have he := zuA h3 hx
   cases j with
   | zero => exact hh ((znt hS x).2 ⟨a, hj, he⟩)
   | succ j =>
    have hl : pos bnm xs x < xs.length := by omega
    have h1 := hP (pos bnm xs x) (pos bnm xs x + (j + 1)) hl hlt (by omega)
    rw [h2] at h1
    have h5 : ltB (bnm xs[pos bnm xs x]) x = true := (show ∀ y, a.Name = y → ltB (bnm xs[pos bnm xs x]) y = true from fun y e => by rw [← e]; exact h1) x he
    exact Nat.lt_irrefl _ ((ziJ hS (x := x) (List.getElem?_eq_getElem hl)).1 h5)
theorem zti {xs : List TBinding} (x : ByteArray) (v : TValue) (hS : Srt bnm xs) : Srt bnm (asgL xs x v) := by
 have hP := Srt.pair.1 hS
 have hbef : ∀ a ∈ xs.take (pos bnm xs x), ltB a.Name x = true := by
  intro a ha
  obtain ⟨j, hj⟩ := List.mem_iff_getElem?.1 ha
  rw [List.getElem?_take] at hj
  split at hj
  ·exact (ziJ hS (x := x) hj).2 (by assumption)
  ·cases hj
 have hbeh := fun a => @zxG xs x hS a
 refine Srt.pair.2 ?_
 unfold asgL
 refine List.pairwise_append.2 ⟨hP.sublist (List.take_sublist ..), List.pairwise_append.2 ⟨?_, hP.sublist (List.drop_sublist ..), ?_⟩, ?_⟩
 ·split
  ·exact .nil
  ·exact List.pairwise_singleton ..
 ·intro a ha b hb
  split at ha
  ·cases ha
  ·rw [List.mem_singleton.1 ha]; exact hbeh b hb
 ·intro a ha b hb
  rcases List.mem_append.1 hb with h | h
  ·split at h
   ·cases h
   ·rw [List.mem_singleton.1 h]; exact hbef a ha
  ·exact zhC (hbef a ha) (hbeh b h)
theorem zuf {xs : List TBinding} {f : List TFunction} {t : List TRecordType} {x : ByteArray} {v : TValue} (h : zaN (TScope.mk xs f t)) (hx : zaE x = true) (hv : vOK v = true) (hl : ¬ (asgL xs x v).length > 40) : zaN (TScope.mk (asgL xs x v) f t) := by
 obtain ⟨⟨l1, l2, l3⟩, ⟨q1, q2, q3⟩, k1, k2, k3⟩ := h
 refine ⟨⟨by simp only; omega, l2, l3⟩, ⟨zti x v q1, q2, q3⟩, ?_, k2, k3⟩
 intro b hb
 unfold asgL at hb
 rcases List.mem_append.1 hb with h | h
 ·exact k1 b (List.mem_of_mem_take h)
 ·rcases List.mem_append.1 h with h | h
  ·split at h
   ·cases h
   ·rename_i hn
    rw [List.mem_singleton.1 h]
    exact ⟨hx, hv, Bool.eq_false_iff.2 hn⟩
  ·exact k1 b (List.mem_of_mem_drop h)
end Go.Vx.RnZ
