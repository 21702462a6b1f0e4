/-
  Names.
-/
import Derived.Test.YthppbplieikhkaaGreatDef
import Derived.Test.YthppbplieikhkaaGreatVxD
set_option linter.unusedVariables false
set_option linter.unusedSimpArgs false
namespace Go.Vx.RnZ
set_option linter.unusedVariables false
def zkM (p : Int) : Bool := decide (65 ≤ p ∧ p ≤ 90) || decide (97 ≤ p ∧ p ≤ 122)
def zoe (p : Int) : Bool := decide (48 ≤ p ∧ p ≤ 57)
def isNB (p : Int) : Bool := zkM p || zoe p || decide (p = 95)
theorem zhW (p : Int) : zes p = some (zkM p) := by grind [zes, zkM]
theorem zkj (p : Int) : zdG p = some (zkM p) := by grind [zdG, zkM]
theorem znp (p : Int) : zgj p = some (zoe p) := by grind [zgj, zoe]
theorem zqx (p : Int) : zeW p = some (zoe p) := by grind [zeW, zoe]
theorem zve (p : Int) : zdm p = some (isNB p) := by simp only [zdm, zhW, znp]; grind [isNB]
def zaE (s : ByteArray) : Bool :=
 match strI s with
 | [] => false
 | c :: r => decide ((c :: r).length ≤ 12) && (zkM c && (c :: r).all isNB)
theorem zjd (l : List Int) (h : l.length ≤ 1099511627776) : zdx l = some (l.all isNB) := by
 unfold zdx
 rw [zhB l l.length (zdb l l l.length) zdm isNB (fun i => zdb.eq_1 ..) rfl h (fun a _ => zve a)]
 cases l.all isNB <;> rfl
theorem zdK (s : ByteArray) : zdc s = some (zaE s) := by
 unfold zdc zaE
 have hl : (strI s).length = s.size := zjk s
 have hd : strI s = s.data.toList.map fun b => (b.toNat : Int) := rfl
 cases hs : s.data.toList with
 | nil =>
  rw [hs] at hd
  rw [hd] at hl ⊢
  simp only [List.map_nil, List.length_nil] at hl ⊢
  rw [if_neg (by omega)]
 | cons b r =>
  rw [hs] at hd
  rw [hd] at hl
  by_cases h12 : s.size ≤ 12
  ·rw [zjd _ (by rw [zjk]; omega)]
   rw [hd]
   simp only [List.map_cons, List.length_cons] at hl ⊢
   simp only [idxBN, idxN, hs, zhW, List.getElem?_cons_zero, Option.bind_eq_bind, Option.bind_some]
   rw [if_pos (by omega), if_pos (by omega)]
   simp only [List.length_map] at hl ⊢
   rw [decide_eq_true (by omega)]
   cases zkM b.toNat <;> simp
  ·rw [hd]
   simp only [List.map_cons, List.length_cons] at hl ⊢
   rw [if_pos (by omega), if_neg (by omega), decide_eq_false (by omega)]
   simp
end Go.Vx.RnZ
