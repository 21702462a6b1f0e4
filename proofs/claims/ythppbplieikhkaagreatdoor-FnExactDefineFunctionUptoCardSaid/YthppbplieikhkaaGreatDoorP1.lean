/-
  Names.
-/
import Derived.Test.YthppbplieikhkaaGreatDoorDef
import Derived.Test.YthppbplieikhkaaGreatDoorVxD
set_option linter.unusedVariables false
set_option linter.unusedSimpArgs false
namespace Go.Vx.DfZ
set_option linter.unusedVariables false
def zlB (p : Int) : Bool := decide (65 ≤ p ∧ p ≤ 90) || decide (97 ≤ p ∧ p ≤ 122)
def zph (p : Int) : Bool := decide (48 ≤ p ∧ p ≤ 57)
def isNB (p : Int) : Bool := zlB p || zph p || decide (p = 95)
theorem ziF (p : Int) : zeY p = some (zlB p) := by grind [zeY, zlB]
theorem zkN (p : Int) : zdX p = some (zlB p) := by grind [zdX, zlB]
theorem zoo (p : Int) : zgJ p = some (zph p) := by grind [zgJ, zph]
theorem zrF (p : Int) : zfG p = some (zph p) := by grind [zfG, zph]
theorem zwV (p : Int) : zdz p = some (isNB p) := by simp only [zdz, ziF, zoo]; grind [isNB]
def zat (s : ByteArray) : Bool :=
 match strI s with
 | [] => false
 | c :: r => decide ((c :: r).length ≤ 12) && (zlB c && (c :: r).all isNB)
theorem zjG (l : List Int) (h : l.length ≤ 1099511627776) : zdL l = some (l.all isNB) := by
 unfold zdL
 rw [zil l l.length (zdq l l l.length) zdz isNB (fun i => zdq.eq_1 ..) rfl h (fun a _ => zwV a)]
 cases l.all isNB <;> rfl
theorem zdu (s : ByteArray) : zcz s = some (zat s) := by
 unfold zcz zat
 have hl : (strI s).length = s.size := zik s
 have hd : strI s = s.data.toList.map fun b => (b.toNat : Int) := rfl
 cases hs : s.data.toList with
 | nil =>
  rw [hs] at hd
  rw [hd] at hl ⊢
  simp only [List.map_nil, List.length_nil] at hl ⊢
  rw [if_neg (by omega)]
 | cons b r =>
  rw [hs] at hd
  rw [hd] at hl
  by_cases h12 : s.size ≤ 12
  ·rw [zjG _ (by rw [zik]; omega)]
   rw [hd]
   simp only [List.map_cons, List.length_cons] at hl ⊢
   simp only [idxBN, idxN, hs, ziF, List.getElem?_cons_zero, Option.bind_eq_bind, Option.bind_some]
   rw [if_pos (by omega), if_pos (by omega)]
   simp only [List.length_map] at hl ⊢
   rw [decide_eq_true (by omega)]
   cases zlB b.toNat <;> simp
  ·rw [hd]
   simp only [List.map_cons, List.length_cons] at hl ⊢
   rw [if_pos (by omega), if_neg (by omega), decide_eq_false (by omega)]
   simp
end Go.Vx.DfZ
