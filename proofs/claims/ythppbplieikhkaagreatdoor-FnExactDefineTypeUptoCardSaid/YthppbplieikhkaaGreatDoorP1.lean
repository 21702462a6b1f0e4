/-
  Names.
-/
import Derived.Test.YthppbplieikhkaaGreatDoorDef
import Derived.Test.YthppbplieikhkaaGreatDoorVxD
set_option linter.unusedVariables false
set_option linter.unusedSimpArgs false
namespace Go.Vx.DtZ
set_option linter.unusedVariables false
def zli (p : Int) : Bool := decide (65 ≤ p ∧ p ≤ 90) || decide (97 ≤ p ∧ p ≤ 122)
def zoR (p : Int) : Bool := decide (48 ≤ p ∧ p ≤ 57)
def isNB (p : Int) : Bool := zli p || zoR p || decide (p = 95)
theorem zih (p : Int) : zeL p = some (zli p) := by grind [zeL, zli]
theorem zks (p : Int) : zdR p = some (zli p) := by grind [zdR, zli]
theorem znW (p : Int) : zgA p = some (zoR p) := by grind [zgA, zoR]
theorem zrn (p : Int) : zfp p = some (zoR p) := by grind [zfp, zoR]
theorem zwx (p : Int) : zdu p = some (isNB p) := by simp only [zdu, zih, znW]; grind [isNB]
def zaD (s : ByteArray) : Bool :=
 match strI s with
 | [] => false
 | c :: r => decide ((c :: r).length ≤ 12) && (zli c && (c :: r).all isNB)
theorem zjj (l : List Int) (h : l.length ≤ 1099511627776) : zdF l = some (l.all isNB) := by
 unfold zdF
 rw [zhP l l.length (zdn l l l.length) zdu isNB (fun i => zdn.eq_1 ..) rfl h (fun a _ => zwx a)]
 cases l.all isNB <;> rfl
theorem zdU (s : ByteArray) : zcJ s = some (zaD s) := by
 unfold zcJ zaD
 have hl : (strI s).length = s.size := zhO s
 have hd : strI s = s.data.toList.map fun b => (b.toNat : Int) := rfl
 cases hs : s.data.toList with
 | nil =>
  rw [hs] at hd
  rw [hd] at hl ⊢
  simp only [List.map_nil, List.length_nil] at hl ⊢
  rw [if_neg (by omega)]
 | cons b r =>
  rw [hs] at hd
  rw [hd] at hl
  by_cases h12 : s.size ≤ 12
  ·rw [zjj _ (by rw [zhO]; omega)]
   rw [hd]
   simp only [List.map_cons, List.length_cons] at hl ⊢
   simp only [idxBN, idxN, hs, zih, List.getElem?_cons_zero, Option.bind_eq_bind, Option.bind_some]
   rw [if_pos (by omega), if_pos (by omega)]
   simp only [List.length_map] at hl ⊢
   rw [decide_eq_true (by omega)]
   cases zli b.toNat <;> simp
  ·rw [hd]
   simp only [List.map_cons, List.length_cons] at hl ⊢
   rw [if_pos (by omega), if_neg (by omega), decide_eq_false (by omega)]
   simp
end Go.Vx.DtZ
