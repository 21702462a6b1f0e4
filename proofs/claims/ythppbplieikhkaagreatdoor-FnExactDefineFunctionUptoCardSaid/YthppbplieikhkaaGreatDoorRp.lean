/-
  An element of a list sorted by names is replaced, or put in.
-/
import Derived.Test.YthppbplieikhkaaGreatDoorCmp
set_option linter.unusedVariables false
set_option linter.unusedSimpArgs false
namespace Go.Vx.DfZ
set_option linter.unusedVariables false
open Classical
def repL {α : Type} (nm : α → ByteArray) (xs : List α) (y : α) : List α := xs.take (pos nm xs (nm y)) ++ y :: xs.drop (if zhd nm xs (nm y) = true then pos nm xs (nm y) + 1 else pos nm xs (nm y))
theorem zqW {α : Type} {nm : α → ByteArray} {xs : List α} {x : ByteArray} (h : zhd nm xs x = true) : pos nm xs x < xs.length := by
 unfold zhd at h
 cases hg : xs[pos nm xs x]? with
 | none => rw [hg] at h; cases h
 | some a => exact (List.getElem?_eq_some_iff.1 hg).1
theorem zuL {α : Type} (nm : α → ByteArray) (xs : List α) (y : α) : (repL nm xs y).length ≤ xs.length + 1 := by
 have hp := znA nm xs (nm y)
 unfold repL
 simp only [List.length_append, List.length_take, List.length_cons, List.length_drop]
 split <;> omega
theorem zxc {α : Type} (l : List α) (i : Nat) (y : α) (h : i < l.length) : setN l i y = l.take i ++ y :: l.drop (i + 1) := by
 unfold setN
 rw [List.set_eq_take_append_cons_drop, if_pos h]
theorem zzW {α : Type} (nm : α → ByteArray) (xs : List α) (y : α) (h : xs.length ≤ 1048576) :
  (if zhd nm xs (nm y) = true then idx xs ((pos nm xs (nm y) : Nat) : Int) >>= fun _ => some (setN xs (((pos nm xs (nm y) : Nat) : Int)).toNat y)
   else chk (0 ≤ ((pos nm xs (nm y) : Nat) : Int) ∧ ((pos nm xs (nm y) : Nat) : Int) ≤ (xs.length : Int) ∧ xs.length + 1 ≤ most) >>= fun _ => some (xs.take (((pos nm xs (nm y) : Nat) : Int)).toNat ++ y :: xs.drop (((pos nm xs (nm y) : Nat) : Int)).toNat)) = some (repL nm xs y) := by
 have hp := znA nm xs (nm y)
 unfold repL
 by_cases hh : zhd nm xs (nm y) = true
 ·have hl := zqW hh
  rw [if_pos hh, if_pos hh, zaI, List.getElem?_eq_getElem hl]
  simp only [Option.bind_eq_bind, Option.bind_some, Int.toNat_natCast]
  rw [zxc _ _ _ hl]
 ·rw [if_neg hh, if_neg hh, zde (show 0 ≤ ((pos nm xs (nm y) : Nat) : Int) ∧ ((pos nm xs (nm y) : Nat) : Int) ≤ (xs.length : Int) ∧ xs.length + 1 ≤ most by unfold most; omega)]
  rfl
theorem zuM {α : Type} (nm : α → ByteArray) (xs : List α) (x : ByteArray) (h : xs.length ≤ 1048576) (hS : Srt nm xs) (L : List α → Int → Option (List α × Int))
  (hL : ∀ (acc : List α) (i : Nat), i ≤ xs.length → L acc i = if (i : Int) < (xs.length : Int) then idx xs i >>= fun a => (if (Op.bytesLess (nm a).toList x.toList) = true then app acc [a] >>= fun c => L c ((i + 1 : Nat) : Int) else some (acc, (i : Int))) else some (acc, (i : Int))) :
  L [] 0 = some (xs.take (pos nm xs x), ((pos nm xs x : Nat) : Int)) := by
 have hp := znA nm xs x
 have key : ∀ (n i : Nat), pos nm xs x - i = n → i ≤ pos nm xs x → L (xs.take i) (i : Int) = some (xs.take (pos nm xs x), ((pos nm xs x : Nat) : Int)) := by
  intro n
  induction n with
  | zero =>
   intro i h1 h2
   obtain rfl : i = pos nm xs x := by omega
   rw [hL _ _ hp]
   by_cases hl : pos nm xs x < xs.length
   ·rw [if_pos (by omega), zaI, List.getElem?_eq_getElem hl]
    simp only [Option.bind_eq_bind, Option.bind_some]
    have := znB hS (x := x) (List.getElem?_eq_getElem hl)
    rw [if_neg (show ¬ Op.bytesLess (nm xs[pos nm xs x]).toList x.toList = true from fun e => absurd (this.1 e) (Nat.lt_irrefl _))]
   ·rw [if_neg (by omega)]
  | succ n ih =>
   intro i h1 h2
   have hl : i < xs.length := by omega
   rw [hL _ _ (by omega), if_pos (by omega)]
   simp only [zaI, List.getElem?_eq_getElem hl, Option.bind_eq_bind, Option.bind_some]
   have hq : Op.bytesLess (nm xs[i]).toList x.toList = true := (znB hS (x := x) (List.getElem?_eq_getElem hl)).2 (by omega)
   rw [if_pos hq, zge (by unfold most; simp only [List.length_take, List.length_cons, List.length_nil]; omega)]
   simp only [Option.bind_some]
   have := ih (i + 1) (by omega) (by omega)
   rw [List.take_add_one, List.getElem?_eq_getElem hl] at this
   exact this
 exact key _ 0 rfl (Nat.zero_le _)
theorem zqX {α : Type} (f : α → Nat) (a b : List α) : lsum f (a ++ b) = lsum f a + lsum f b := by
 induction a with
 | nil => rw [List.nil_append, zeG, Nat.zero_add]
 | cons x r ih => rw [List.cons_append, zao, zao, ih, Nat.add_assoc]
theorem ztS {α : Type} (f : α → Nat) (xs : List α) (i : Nat) : lsum f (xs.take i) + lsum f (xs.drop i) = lsum f xs := by
 rw [← zqX, List.take_append_drop]
theorem ztT {α : Type} (f : α → Nat) (xs : List α) (i : Nat) : lsum f (xs.drop (i + 1)) ≤ lsum f (xs.drop i) := by
 have := ztS f (xs.drop i) 1
 rw [List.drop_drop] at this
 omega
theorem ztU {α : Type} (nm : α → ByteArray) (f : α → Nat) (xs : List α) (y : α) : lsum f (repL nm xs y) ≤ lsum f xs + f y := by
 have h1 := ztS f xs (pos nm xs (nm y))
 have h2 := ztT f xs (pos nm xs (nm y))
 unfold repL
 rw [zqX, zao]
 by_cases hh : zhd nm xs (nm y) = true
 ·rw [if_pos hh]; omega
 ·rw [if_neg hh]; omega
theorem zjl {s : ByteArray} (h : zat s = true) : s.size ≤ 12 := by
 have hl := zik s
 unfold zat at h
 cases hs : strI s with
 | nil => rw [hs] at hl; simp at hl; omega
 | cons x r =>
  rw [hs] at h hl
  simp only [Bool.and_eq_true, decide_eq_true_eq] at h
  omega
theorem zla : ∀ (l : List ByteArray), (∀ x ∈ l, zat x = true) → lsum ByteArray.size l ≤ 12 * l.length
 | [], _ => by rw [zeG]; omega
 | a :: r, h => by
  have := zla r (fun x hx => h x (List.mem_cons_of_mem _ hx))
  have := zjl (h a (List.mem_cons_self ..))
  rw [zao, List.length_cons]; omega
end Go.Vx.DfZ
