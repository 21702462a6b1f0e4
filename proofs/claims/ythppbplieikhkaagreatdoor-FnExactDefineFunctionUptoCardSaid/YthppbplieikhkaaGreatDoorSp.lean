/-
  A text is cut at a byte: both sides.
-/
import Derived.Test.YthppbplieikhkaaGreatDoorP5
import Derived.Lib.SplitLaws
set_option linter.unusedVariables false
set_option linter.unusedSimpArgs false
namespace Go.Vx.DfZ
set_option linter.unusedVariables false
theorem zkX (s : ByteArray) (a b : Nat) : bts (s.extract a b) = ((bts s).drop a).take (b - a) := by
 unfold bts
 rw [ByteArray.data_extract, Array.toList_extract, List.extract_eq_take_drop]
theorem zfl (s : ByteArray) : (bts s).length = s.size := zmp s
theorem zkY (s : ByteArray) (a b : Nat) : s.extract a b = ofB (((bts s).drop a).take (b - a)) := by rw [← zkX, zoQ]
def cutC (c : UInt8) : List UInt8 → List (List UInt8)
 | [] => [[]]
 | b :: r => if b = c then [] :: cutC c r else match cutC c r with | h :: t => (b :: h) :: t | [] => [[b]]
def preL (p : List UInt8) : List (List UInt8) → List (List UInt8)
 | h :: t => (p ++ h) :: t
 | [] => [p]
theorem zor (c : UInt8) (l : List UInt8) : ∃ h t, cutC c l = h :: t := by
 cases l with
 | nil => exact ⟨_, _, rfl⟩
 | cons b r =>
  unfold cutC
  split
  ·exact ⟨_, _, rfl⟩
  ·split <;> exact ⟨_, _, rfl⟩
theorem zqU (c : UInt8) : ∀ (l : List UInt8), (∀ k : Nat, l[k]? ≠ some c) → cutC c l = [l]
 | [], _ => rfl
 | b :: r, h => by
  have hb : ¬ b = c := fun e => h 0 (by rw [e]; rfl)
  have ih := zqU c r (fun k => h (k + 1))
  unfold cutC
  rw [if_neg hb, ih]
theorem zvV (c : UInt8) : ∀ (l : List UInt8) (i : Nat), l[i]? = some c → (∀ k, k < i → l[k]? ≠ some c) → cutC c l = l.take i :: cutC c (l.drop (i + 1))
 | [], _, h, _ => by simp at h
 | b :: r, 0, h, _ => by
  have : b = c := by simpa using h
  rw [cutC, if_pos this]; rfl
 | b :: r, i + 1, h, hk => by
  have hb : ¬ b = c := fun e => hk 0 (Nat.succ_pos _) (by rw [e]; rfl)
  have ih := zvV c r i (by simpa using h) (fun k hlt => by simpa using hk (k + 1) (Nat.succ_lt_succ hlt))
  rw [cutC, if_neg hb, ih]; rfl
theorem ztO (c : UInt8) : ∀ (n : Nat) (s : ByteArray), s.size = n → (Lib.splitB ⟨#[c]⟩ 0 (Lib.countB s ⟨#[c]⟩) s).map bts = cutC c (bts s) := by
 intro n
 induction n using Nat.strongRecOn with
 | _ n ih =>
  intro s hs
  have hib : Lib.indexB s ⟨#[c]⟩ = Lib.indexByte (bts s) c := by
   show Lib.index s.data.toList [c] = _
   rw [Lib.index_one]; rfl
  rcases Lib.indexB_cases s ⟨#[c]⟩ with hix | ⟨i, hix, hroom⟩
  ·rw [Lib.splitB_miss _ _ _ _ hix, zqU c _ (Lib.indexByte_none (by rw [← hib]; exact hix))]; rfl
  ·have hroom' : i + 1 ≤ s.size := hroom
   obtain ⟨q1, q2⟩ := Lib.indexByte_some (l := bts s) (c := c) (o := i) (by rw [← hib]; exact hix)
   have hc := Lib.countB_hit s ⟨#[c]⟩ i (Nat.le_refl 1) hix
   rw [hc, Nat.add_comm 1, Lib.splitB_hit _ _ _ _ i hix, zvV c _ i q1 q2, List.map_cons]
   have h1 : (⟨#[c]⟩ : ByteArray).size = 1 := rfl
   rw [h1, ih (s.extract (i + 1) s.size).size (by rw [ByteArray.size_extract]; omega) _ rfl, zkX, zkX, Nat.sub_zero, Nat.add_zero, List.drop_zero]
   congr 2
   rw [List.take_of_length_le (by rw [List.length_drop, zfl]; omega)]
def zeC (s : ByteArray) : List ByteArray := if bts s = [] then [] else (cutC 44 (bts s)).map ofB
theorem zxa {l : List ByteArray} {r : List (List UInt8)} (h : l.map bts = r) : l = r.map ofB := by
 subst h
 rw [List.map_map]
 have : (ofB ∘ bts) = id := by funext x; rfl
 rw [this, List.map_id]
theorem zqV (s : ByteArray) : s = ⟨#[]⟩ ↔ bts s = [] := zkO s
theorem zhB (s : ByteArray) (h : s.size ≤ 1048576) : zcI s = some (zeC s) := by
 unfold zcI zeK zeC
 by_cases he : s = ⟨#[]⟩
 ·rw [if_pos he, if_pos ((zqV s).1 he)]
 ·rw [if_neg he, if_neg (fun q => he ((zqV s).2 q))]
  unfold zmw
  simp only []
  rw [if_pos (by omega)]
  simp only [Option.bind_eq_bind, Option.bind_some]
  rw [zxa (ztO 44 _ s rfl)]
theorem c40 (a : UInt8) : ((a.toNat : Int) = 40) ↔ a = 40 := ⟨fun h => UInt8.toNat_inj.1 (by have : (40 : UInt8).toNat = 40 := rfl; omega), fun h => by subst h; rfl⟩
theorem c41 (a : UInt8) : ((a.toNat : Int) = 41) ↔ a = 41 := ⟨fun h => UInt8.toNat_inj.1 (by have : (41 : UInt8).toNat = 41 := rfl; omega), fun h => by subst h; rfl⟩
theorem c44 (a : UInt8) : ((a.toNat : Int) = 44) ↔ a = 44 := ⟨fun h => UInt8.toNat_inj.1 (by have : (44 : UInt8).toNat = 44 := rfl; omega), fun h => by subst h; rfl⟩
theorem zos (s : ByteArray) (h : s.size ≤ 1048576) : ∀ (frm : Nat) (acc : List ByteArray), frm = 0 → acc = [] → zck s acc (frm : Int) 0 = some (acc ++ (preL (((bts s).drop frm).take (0 - frm)) (cutC 44 (bts s))).map ofB) := by
 have hz : (bts s).length = s.size := zfl s
 have piece : ∀ (i frm : Nat) (acc : List ByteArray), i ≤ s.size → frm ≤ i → acc.length ≤ i → zcP s acc (frm : Int) (i : Int) = some (acc ++ [ofB (((bts s).drop frm).take (i - frm))], ((i + 1 : Nat) : Int), s.extract frm i, [s.extract frm i], ((i + 1 : Nat) : Int)) := by
  intro i frm acc hi hf ha
  unfold zcP subB
  rw [if_pos (show 0 ≤ ((frm : Nat) : Int) ∧ ((frm : Nat) : Int) ≤ (i : Int) ∧ (i : Int) ≤ (s.size : Int) by omega)]
  simp only [Option.bind_eq_bind, Option.bind_some, Int.toNat_natCast]
  rw [zge (by unfold most; simp only [List.length_cons, List.length_nil]; omega), w64 (by omega) (by omega), ← zkY]
  rfl
 have key := zeH (bts s) (fun i rest => ∀ (frm : Nat) (acc : List ByteArray), frm ≤ i → acc.length ≤ i → zck s acc (frm : Int) (i : Int) = some (acc ++ (preL (((bts s).drop frm).take (i - frm)) (cutC 44 rest)).map ofB)) ?_ ?_
 ·intro frm acc e1 e2
  subst e1 e2
  exact key 0 [] (Nat.le_refl _) (Nat.le_refl _)
 ·intro frm acc hf ha
  rw [zck.eq_1, if_pos (by omega), if_pos (by omega), piece _ frm acc (by omega) hf ha]
  simp only [Option.bind_eq_bind, Option.bind_some]
  rw [w64 (by omega) (by omega), zck.eq_1, if_neg (by omega)]
  simp only [cutC, preL, List.append_nil, List.map_cons, List.map_nil]
 ·intro i a rest hi hg hd ih frm acc hf ha
  have e1 : ((i : Int) + 1) = ((i + 1 : Nat) : Int) := by omega
  rw [zck.eq_1, if_pos (by omega), if_neg (by omega)]
  have hgi : idxB s (i : Int) = some a := by unfold idxB; rw [zaI]; exact hg
  simp only [hgi, Option.bind_eq_bind, Option.bind_some]
  by_cases h44 : a = 44
  ·rw [if_pos ((c44 a).2 h44), piece _ frm acc (by omega) hf ha]
   simp only [Option.bind_some]
   rw [w64 (by omega) (by omega), e1, ih (i + 1) _ (Nat.le_refl _) (by simp; omega)]
   obtain ⟨x, t, hx⟩ := zor 44 rest
   rw [cutC, if_pos h44, hx]
   simp only [preL, Nat.sub_self, List.take_zero, List.nil_append, List.append_nil, List.map_cons, List.append_assoc, List.singleton_append]
  ·rw [if_neg (fun q => h44 ((c44 a).1 q)), w64 (by omega) (by omega), e1, ih frm acc (by omega) (by omega)]
   obtain ⟨x, t, hx⟩ := zor 44 rest
   rw [cutC, if_neg h44, hx]
   simp only [preL, List.map_cons]
   have : ((bts s).drop frm).take (i + 1 - frm) = ((bts s).drop frm).take (i - frm) ++ [a] := by
    rw [show i + 1 - frm = (i - frm) + 1 by omega, List.take_add_one, List.getElem?_drop, show frm + (i - frm) = i by omega, hg]; rfl
   rw [this, List.append_assoc]; rfl
theorem zmb (s : ByteArray) (h : s.size ≤ 1048576) : zeX s = some (zeC s) := by
 unfold zeX zeC
 by_cases he : s = ⟨#[]⟩
 ·rw [if_pos he, if_pos ((zqV s).1 he)]
 ·rw [if_neg he, if_neg (fun q => he ((zqV s).2 q))]
  have := zos s h 0 [] rfl rfl
  rw [show ((0 : Nat) : Int) = 0 from rfl] at this
  rw [this]
  obtain ⟨x, t, hx⟩ := zor 44 (bts s)
  rw [hx]
  simp [preL]
end Go.Vx.DfZ
