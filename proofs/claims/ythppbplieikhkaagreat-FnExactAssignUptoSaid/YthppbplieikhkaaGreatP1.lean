/-
  Names.
-/
import Derived.Test.YthppbplieikhkaaGreatDef
import Derived.Test.YthppbplieikhkaaGreatVxD
set_option linter.unusedVariables false
set_option linter.unusedSimpArgs false
namespace Go.Vx.AsZ
set_option linter.unusedVariables false
def zkt (p : Int) : Bool := decide (65 ≤ p ∧ p ≤ 90) || decide (97 ≤ p ∧ p ≤ 122)
def znS (p : Int) : Bool := decide (48 ≤ p ∧ p ≤ 57)
def isNB (p : Int) : Bool := zkt p || znS p || decide (p = 95)
theorem zhG (p : Int) : zef p = some (zkt p) := by grind [zef, zkt]
theorem zjN (p : Int) : zdx p = some (zkt p) := by grind [zdx, zkt]
theorem znd (p : Int) : zfX p = some (znS p) := by grind [zfX, znS]
theorem zqj (p : Int) : zeJ p = some (znS p) := by grind [zeJ, znS]
theorem zuL (p : Int) : zde p = some (isNB p) := by simp only [zde, zhG, znd]; grind [isNB]
def zaZ (s : ByteArray) : Bool :=
 match strI s with
 | [] => false
 | c :: r => decide ((c :: r).length ≤ 12) && (zkt c && (c :: r).all isNB)
theorem ziH (l : List Int) (h : l.length ≤ 1099511627776) : zdo l = some (l.all isNB) := by
 unfold zdo
 rw [zhi l l.length (zcU l l l.length) zde isNB (fun i => zcU.eq_1 ..) rfl h (fun a _ => zuL a)]
 cases l.all isNB <;> rfl
theorem zdB (s : ByteArray) : zcV s = some (zaZ s) := by
 unfold zcV zaZ
 have hl : (strI s).length = s.size := ziO s
 have hd : strI s = s.data.toList.map fun b => (b.toNat : Int) := rfl
 cases hs : s.data.toList with
 | nil =>
  rw [hs] at hd
  rw [hd] at hl ⊢
  simp only [List.map_nil, List.length_nil] at hl ⊢
  rw [if_neg (by omega)]
 | cons b r =>
  rw [hs] at hd
  rw [hd] at hl
  by_cases h12 : s.size ≤ 12
  ·rw [ziH _ (by rw [ziO]; omega)]
   rw [hd]
   simp only [List.map_cons, List.length_cons] at hl ⊢
   simp only [idxBN, idxN, hs, zhG, List.getElem?_cons_zero, Option.bind_eq_bind, Option.bind_some]
   rw [if_pos (by omega), if_pos (by omega)]
   simp only [List.length_map] at hl ⊢
   rw [decide_eq_true (by omega)]
   cases zkt b.toNat <;> simp
  ·rw [hd]
   simp only [List.map_cons, List.length_cons] at hl ⊢
   rw [if_pos (by omega), if_neg (by omega), decide_eq_false (by omega)]
   simp
end Go.Vx.AsZ
