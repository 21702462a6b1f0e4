/-
  Prototypes: both sides.
-/
import Derived.Test.YthppbplieikhkaaGreatDoorSp
set_option linter.unusedVariables false
set_option linter.unusedSimpArgs false
namespace Go.Vx.DfZ
set_option linter.unusedVariables false
open Classical
def fi (c : UInt8) (l : List UInt8) : Nat := l.findIdx (fun b => decide (b = c))
theorem zxb (c : UInt8) (l : List UInt8) : fi c l ≤ l.length := List.findIdx_le_length
theorem zkZ {c : UInt8} {l : List UInt8} (h : fi c l < l.length) : l[fi c l]? = some c := by
 have := List.findIdx_getElem (w := h)
 rw [List.getElem?_eq_getElem h]
 exact congrArg some (of_decide_eq_true this)
theorem zzV {c : UInt8} {l : List UInt8} {j : Nat} (h : j < fi c l) : l[j]? ≠ some c := by
 intro e
 have hl : j < l.length := Nat.lt_of_lt_of_le h (zxb c l)
 have := List.not_of_lt_findIdx h
 rw [List.getElem?_eq_getElem hl] at e
 simp at this
 exact this (Option.some.inj e)
theorem zzy {c : UInt8} {l : List UInt8} {j : Nat} (h : l[j]? = some c) : fi c l ≤ j := by
 by_cases hj : j < fi c l
 ·exact absurd h (zzV hj)
 ·omega
theorem ztP (c : UInt8) : ∀ (l : List UInt8), Lib.indexByte l c = if fi c l < l.length then (fi c l : Int) else -1
 | [] => rfl
 | b :: r => by
  have ih := ztP c r
  unfold Lib.indexByte
  by_cases h : b = c
  ·subst h
   have : fi b (b :: r) = 0 := by unfold fi; rw [List.findIdx_cons]; simp
   rw [this]
   simp
  ·have : fi c (b :: r) = fi c r + 1 := by unfold fi; rw [List.findIdx_cons]; simp [h]
   rw [if_neg (by simpa using h), this, ih, List.length_cons]
   by_cases hr : fi c r < r.length
   ·rw [if_pos hr, if_neg (show ¬ ((((fi c r : Nat) : Int) == -1) = true) by simp <;> omega), if_pos (by omega)]; omega
   ·rw [if_neg hr, if_pos (show (((-1 : Int) == -1) = true) from rfl), if_neg (by omega)]
theorem zpl (c : UInt8) : ∀ (m : Nat) (l : List UInt8), m ≤ fi c l → fi c (l.drop m) + m = fi c l
 | 0, l, _ => by simp
 | m + 1, [], h => by simp [fi] at h
 | m + 1, b :: r, h => by
  have hb : ¬ b = c := by
   intro e
   subst e
   have : fi b (b :: r) = 0 := by unfold fi; rw [List.findIdx_cons]; simp
   omega
  have : fi c (b :: r) = fi c r + 1 := by unfold fi; rw [List.findIdx_cons]; simp [hb]
  rw [this] at h ⊢
  have := zpl c m r (by omega)
  rw [List.drop_succ_cons]; omega
def vl (k i : Nat) : Int := if k < i then (k : Int) else -1
theorem ztQ {c : UInt8} {l : List UInt8} {i : Nat} {a : UInt8} (hg : l[i]? = some a) : (if a = c then (if vl (fi c l) i < 0 then (i : Int) else vl (fi c l) i) else vl (fi c l) i) = vl (fi c l) (i + 1) := by
 unfold vl
 by_cases h : fi c l < i
 ·rw [if_pos h, if_pos (show fi c l < i + 1 by omega), if_neg (show ¬ ((fi c l : Nat) : Int) < 0 by omega)]
  split <;> rfl
 ·rw [if_neg h]
  by_cases ha : a = c
  ·subst ha
   have := zzy hg
   have e : fi a l = i := by omega
   rw [if_pos rfl, if_pos (by decide), e, if_pos (Nat.lt_succ_self _)]
  ·have : fi c l ≠ i := by
    intro e
    have hl : fi c l < l.length := by rw [e]; exact (List.getElem?_eq_some_iff.1 hg).1
    have := zkZ hl
    rw [e, hg] at this
    exact ha (Option.some.inj this)
   rw [if_neg ha, if_neg (by omega)]
theorem zot (s : ByteArray) (h : s.size ≤ 1048576) : zaZ s (-1) (-1) 0 = some (vl (fi 40 (bts s)) (bts s).length, vl (fi 41 (bts s)) (bts s).length) := by
 have hz : (bts s).length = s.size := zfl s
 have key := zeH (bts s) (fun i rest => zaZ s (vl (fi 40 (bts s)) i) (vl (fi 41 (bts s)) i) (i : Int) = some (vl (fi 40 (bts s)) (bts s).length, vl (fi 41 (bts s)) (bts s).length)) ?_ ?_
 ·exact key
 ·rw [zaZ.eq_1, if_neg (by omega)]
 ·intro i a rest hi hg hd ih
  have e1 : ((i : Int) + 1) = ((i + 1 : Nat) : Int) := by omega
  have hgi : idxB s (i : Int) = some a := by unfold idxB; rw [zaI]; exact hg
  have st : ∀ x : Int, zaY s x (vl (fi 41 (bts s)) i) (i : Int) = some (vl (fi 41 (bts s)) (i + 1)) := by
   intro x
   unfold zaY
   simp only [hgi, Option.bind_eq_bind, Option.bind_some]
   rw [← ztQ (c := 41) hg]
   by_cases h41 : a = 41
   ·rw [if_pos ((c41 a).2 h41), if_pos h41]; split <;> rfl
   ·rw [if_neg (fun q => h41 ((c41 a).1 q)), if_neg h41]
  have so := ztQ (c := 40) hg
  rw [zaZ.eq_1, if_pos (by omega)]
  simp only [hgi, st, Option.bind_eq_bind, Option.bind_some]
  rw [w64 (by omega) (by omega), e1]
  by_cases h40 : a = 40
  ·rw [if_pos ((c40 a).2 h40)]
   rw [if_pos h40] at so
   by_cases hn : vl (fi 40 (bts s)) i < 0
   ·rw [if_pos hn] at so ⊢; rw [so]; exact ih
   ·rw [if_neg hn] at so ⊢; rw [so]; exact ih
  ·rw [if_neg (fun q => h40 ((c40 a).1 q))]
   rw [if_neg h40] at so
   rw [so]; exact ih
def prOK (l : List UInt8) : Prop := fi 40 l < l.length ∧ fi 41 l < l.length ∧ fi 40 l < fi 41 l
def prN (s : ByteArray) : ByteArray := s.extract 0 (fi 40 (bts s))
def prP (s : ByteArray) : List ByteArray := zeC (s.extract (fi 40 (bts s) + 1) (fi 41 (bts s)))
def prL (s : ByteArray) : List ByteArray := zeC (s.extract (fi 41 (bts s) + 1) s.size)
theorem zrM (s : ByteArray) (h : s.size ≤ 1048576) : zdl s = some (if prOK (bts s) then (prN s, prP s, prL s, true) else (⟨#[]⟩, [], [], false)) := by
 have hz : (bts s).length = s.size := zfl s
 have h40 := zxb 40 (bts s)
 have h41 := zxb 41 (bts s)
 unfold zdl
 rw [zot s h]
 simp only [Option.bind_eq_bind, Option.bind_some]
 unfold vl
 by_cases ho : fi 40 (bts s) < (bts s).length
 ·rw [if_pos ho, if_neg (show ¬ ((fi 40 (bts s) : Nat) : Int) < 0 by omega)]
  by_cases he : fi 41 (bts s) < (bts s).length
  ·rw [if_pos he]
   have hne : fi 40 (bts s) ≠ fi 41 (bts s) := by
    intro e
    have a1 := zkZ ho
    have a2 := zkZ he
    rw [e, a2] at a1
    exact absurd (Option.some.inj a1) (by decide)
   by_cases hlt : fi 40 (bts s) < fi 41 (bts s)
   ·rw [if_neg (by omega), if_pos ⟨ho, he, hlt⟩]
    unfold zcQ subBH subB subBL
    rw [if_pos (by omega)]
    simp only [Option.bind_eq_bind, Option.bind_some]
    rw [w64 (by omega) (by omega), w64 (by omega) (by omega), if_pos (by omega), if_pos (by omega)]
    simp only [Option.bind_some]
    have e1 : (((fi 40 (bts s) : Nat) : Int) + 1).toNat = fi 40 (bts s) + 1 := by omega
    have e2 : (((fi 41 (bts s) : Nat) : Int) + 1).toNat = fi 41 (bts s) + 1 := by omega
    rw [e1, e2]
    simp only [Int.toNat_natCast]
    rw [zmb _ (by rw [ByteArray.size_extract]; omega), zmb _ (by rw [ByteArray.size_extract]; omega)]
    rfl
   ·rw [if_pos (by omega), if_neg (fun q => hlt q.2.2)]
  ·rw [if_neg he, if_pos (by omega), if_neg (fun q => he q.2.1)]
 ·rw [if_neg ho, if_pos (by decide), if_neg (fun q => ho q.1)]
theorem zmY (s : ByteArray) (c : UInt8) (h : s.size ≤ 1048576) : zdY s ⟨#[c]⟩ = some (if fi c (bts s) < (bts s).length then (s.extract 0 (fi c (bts s)), s.extract (fi c (bts s) + 1) s.size, true) else (s, ⟨#[]⟩, false)) := by
 have hz : (bts s).length = s.size := zfl s
 have hi : zaU s ⟨#[c]⟩ = some (if fi c (bts s) < (bts s).length then (fi c (bts s) : Int) else -1) := by
  rw [← ztP]; rfl
 unfold zdY zbn
 rw [hi]
 simp only [Option.bind_eq_bind, Option.bind_some]
 have h1 : (⟨#[c]⟩ : ByteArray).size = 1 := rfl
 by_cases ho : fi c (bts s) < (bts s).length
 ·rw [if_pos ho, if_pos ho, if_pos (by omega)]
  unfold subBH subBL
  rw [if_pos (by omega), h1, w64 (by omega) (by omega), if_pos (by omega)]
  have e1 : (((fi c (bts s) : Nat) : Int) + ((1 : Nat) : Int)).toNat = fi c (bts s) + 1 := by omega
  rw [e1]
  rfl
 ·rw [if_neg ho, if_neg ho, if_neg (by decide)]; rfl
theorem ztR {s : ByteArray} (h : zat s = true) {b : UInt8} (hb : b ∈ bts s) : b ≠ 41 := by
 intro e
 subst e
 unfold zat at h
 have hd : strI s = (bts s).map fun b => (b.toNat : Int) := rfl
 have hm : ((41 : UInt8).toNat : Int) ∈ strI s := by rw [hd]; exact List.mem_map.2 ⟨_, hb, rfl⟩
 cases hs : strI s with
 | nil => rw [hs] at hm; cases hm
 | cons x r =>
  rw [hs] at h hm
  simp only [Bool.and_eq_true, List.all_eq_true] at h
  have := h.2.2 _ hm
  revert this
  decide
theorem zrN (s : ByteArray) (h : s.size ≤ 1048576) : ∃ r, zcJ s = some r ∧ (prOK (bts s) → r = (prN s, prP s, prL s, zat (prN s) && (prP s).all zat && (prL s).all zat)) ∧ (¬ prOK (bts s) → r.2.2.2 = false) := by
 have hz : (bts s).length = s.size := zfl s
 have len : ∀ x : ByteArray, x.size ≤ 1048576 → (zeC x).length ≤ 1099511627776 := by
  intro x hx
  have key : ∀ l : List UInt8, (cutC 44 l).length ≤ l.length + 1 := by
   intro l
   induction l with
   | nil => exact Nat.le_refl _
   | cons b r ih =>
    obtain ⟨y, t, hy⟩ := zor 44 r
    rw [hy] at ih
    unfold cutC
    rw [hy]
    split <;> simp at ih ⊢ <;> omega
  unfold zeC
  split
  ·simp
  ·have := key (bts x)
   rw [zfl] at this
   rw [List.length_map]; omega
 have tail : ∀ (nm rest : ByteArray) (inner outer : ByteArray) (one two : Bool), inner.size ≤ 1048576 → outer.size ≤ 1048576 →
   (zcI inner >>= fun r28 => zcI outer >>= fun r30 => if one = true then if two = true then zcz nm >>= fun r37 => if r37 = true then zaG r28 >>= fun r41 => if r41 = true then zaG r30 >>= fun r45 => zan s nm r28 r30 r45 else zan s nm r28 r30 false else zan s nm r28 r30 false else zan s nm r28 r30 false else zan s nm r28 r30 false) =
    some (nm, zeC inner, zeC outer, one && two && (zat nm && (zeC inner).all zat && (zeC outer).all zat)) := by
  intro nm rest inner outer one two hi ho
  unfold zan
  rw [zhB _ hi, zhB _ ho]
  simp only [Option.bind_eq_bind, Option.bind_some]
  rw [zdu, zcD _ (len _ hi), zcD _ (len _ ho)]
  simp only [Option.bind_some]
  cases one <;> cases two <;> cases zat nm <;> cases (zeC inner).all zat <;> simp
 unfold zcJ
 rw [zmY s 40 h]
 simp only [Option.bind_eq_bind, Option.bind_some]
 by_cases ho : fi 40 (bts s) < (bts s).length
 ·rw [if_pos ho]
  simp only []
  generalize hr : s.extract (fi 40 (bts s) + 1) s.size = rest
  have hrb : bts rest = (bts s).drop (fi 40 (bts s) + 1) := by
   rw [← hr, zkX, List.take_of_length_le (by rw [List.length_drop]; omega)]
  have hrs : rest.size = s.size - (fi 40 (bts s) + 1) := by rw [← hr, ByteArray.size_extract]; omega
  have hrl : (bts rest).length = rest.size := zfl rest
  rw [zmY rest 41 (by omega)]
  simp only [Option.bind_some]
  by_cases hk : fi 41 (bts rest) < (bts rest).length
  ·rw [if_pos hk]
   simp only []
   have t := tail (s.extract 0 (fi 40 (bts s))) rest (rest.extract 0 (fi 41 (bts rest))) (rest.extract (fi 41 (bts rest) + 1) rest.size) true true (by rw [ByteArray.size_extract]; omega) (by rw [ByteArray.size_extract]; omega)
   simp only [Option.bind_eq_bind] at t
   rw [t]
   refine ⟨_, rfl, ?_, ?_⟩
   ·rintro ⟨_, he, hlt⟩
    have hd := zpl 41 (fi 40 (bts s) + 1) (bts s) hlt
    rw [← hrb] at hd
    have e1 : rest.extract 0 (fi 41 (bts rest)) = s.extract (fi 40 (bts s) + 1) (fi 41 (bts s)) := by
     rw [zkY, zkY s, hrb, List.drop_zero, Nat.sub_zero]
     congr 2
     rw [← hrb]; omega
    have e2 : rest.extract (fi 41 (bts rest) + 1) rest.size = s.extract (fi 41 (bts s) + 1) s.size := by
     rw [zkY, zkY s, List.take_of_length_le (by rw [List.length_drop]; omega), List.take_of_length_le (by rw [List.length_drop]; omega), hrb, List.drop_drop]
     congr 2
     rw [← hrb]; omega
    rw [e1, e2]
    rfl
   ·intro hn
    have hlt : fi 41 (bts s) < fi 40 (bts s) := by
     have hg := zkZ hk
     rw [hrb, List.getElem?_drop] at hg
     have := zzy hg
     have h41 := (List.getElem?_eq_some_iff.1 hg).1
     have hne : fi 40 (bts s) ≠ fi 41 (bts s) := by
      intro e
      have a1 := zkZ ho
      rw [e, zkZ (by omega)] at a1
      exact absurd (Option.some.inj a1) (by decide)
     by_cases hq : fi 40 (bts s) < fi 41 (bts s)
     ·exact absurd ⟨ho, by omega, hq⟩ hn
     ·omega
    have hnn : zat (s.extract 0 (fi 40 (bts s))) = false := by
     cases hb : zat (s.extract 0 (fi 40 (bts s))) with
     | false => rfl
     | true =>
      refine absurd rfl (ztR hb (b := 41) ?_)
      rw [zkX, List.drop_zero, Nat.sub_zero]
      refine List.mem_of_getElem? (i := fi 41 (bts s)) ?_
      rw [List.getElem?_take, if_pos hlt]
      exact zkZ (by omega)
    simp only [hnn, Bool.false_and, Bool.and_false]
  ·rw [if_neg hk]
   simp only []
   have t := tail (s.extract 0 (fi 40 (bts s))) rest rest ⟨#[]⟩ true false (by omega) (by show 0 ≤ _; omega)
   simp only [Option.bind_eq_bind] at t
   rw [t]
   refine ⟨_, rfl, ?_, fun _ => rfl⟩
   rintro ⟨_, he, hlt⟩
   have hd := zpl 41 (fi 40 (bts s) + 1) (bts s) hlt
   rw [← hrb] at hd
   exfalso
   omega
 ·rw [if_neg ho]
  simp only []
  have c0 := zmY ⟨#[]⟩ 41 (by show 0 ≤ _; omega)
  rw [c0]
  simp only [Option.bind_some]
  rw [if_neg (show ¬ fi 41 (bts ⟨#[]⟩) < (bts ⟨#[]⟩).length from by decide)]
  simp only []
  have t := tail s s ⟨#[]⟩ ⟨#[]⟩ false false (by show 0 ≤ _; omega) (by show 0 ≤ _; omega)
  simp only [Option.bind_eq_bind] at t
  rw [t]
  exact ⟨_, rfl, fun q => absurd q.1 ho, fun _ => rfl⟩
end Go.Vx.DfZ
