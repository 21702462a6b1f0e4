/-
  Names.
-/
import Derived.Test.YthfkpkfcnnhkeaaGreatDef
import Derived.Test.YthfkpkfcnnhkeaaGreatVxD
set_option linter.unusedVariables false
set_option linter.unusedSimpArgs false
namespace Go.Vx.NrZ
set_option linter.unusedVariables false
def isLet (p : Int) : Bool := decide (65 ≤ p ∧ p ≤ 90) || decide (97 ≤ p ∧ p ≤ 122)
def isDig (p : Int) : Bool := decide (48 ≤ p ∧ p ≤ 57)
def isNB (p : Int) : Bool := isLet p || isDig p || decide (p = 95)
theorem i_isLetter_eq (p : Int) : i_isLetter p = some (isLet p) := by grind [i_isLetter, isLet]
theorem s_letter_eq (p : Int) : s_l02Letter p = some (isLet p) := by grind [s_l02Letter, isLet]
theorem i_isDigit_eq (p : Int) : i_isDigit p = some (isDig p) := by grind [i_isDigit, isDig]
theorem s_digit_eq (p : Int) : s_l02Digit p = some (isDig p) := by grind [s_l02Digit, isDig]
theorem i_nb_eq (p : Int) : i_isNameByte p = some (isNB p) := by simp only [i_isNameByte, i_isLetter_eq, i_isDigit_eq]; grind [isNB]
def isName (s : ByteArray) : Bool :=
  match strI s with
  | [] => false
  | c :: r => decide ((c :: r).length ≤ 12) && (isLet c && (c :: r).all isNB)
theorem i_areAll_byte_eq (l : List Int) (h : l.length ≤ 1099511627776) : i_areAll_byte l = some (l.all isNB) := by
  unfold i_areAll_byte
  rw [all_loop l l.length (i_areAll_byte_l1 l l l.length) i_isNameByte isNB (fun i => i_areAll_byte_l1.eq_1 ..) rfl h (fun a _ => i_nb_eq a)]
  cases l.all isNB <;> rfl
theorem i_IsName_eq (s : ByteArray) : i_IsName s = some (isName s) := by
  unfold i_IsName isName
  have hl : (strI s).length = s.size := strI_len s
  have hd : strI s = s.data.toList.map fun b => (b.toNat : Int) := rfl
  cases hs : s.data.toList with
  | nil =>
    rw [hs] at hd
    rw [hd] at hl ⊢
    simp only [List.map_nil, List.length_nil] at hl ⊢
    rw [if_neg (by omega)]
  | cons b r =>
    rw [hs] at hd
    rw [hd] at hl
    by_cases h12 : s.size ≤ 12
    · rw [i_areAll_byte_eq _ (by rw [strI_len]; omega)]
      rw [hd]
      simp only [List.map_cons, List.length_cons] at hl ⊢
      simp only [idxBN, idxN, hs, i_isLetter_eq, List.getElem?_cons_zero, Option.bind_eq_bind, Option.bind_some]
      rw [if_pos (by omega), if_pos (by omega)]
      simp only [List.length_map] at hl ⊢
      rw [decide_eq_true (by omega)]
      cases isLet b.toNat <;> simp
    · rw [hd]
      simp only [List.map_cons, List.length_cons] at hl ⊢
      rw [if_pos (by omega), if_neg (by omega), decide_eq_false (by omega)]
      simp
end Go.Vx.NrZ
