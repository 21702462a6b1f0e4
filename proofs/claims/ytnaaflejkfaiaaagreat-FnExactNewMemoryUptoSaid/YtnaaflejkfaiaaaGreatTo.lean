/-
  The laws' own functions: to.
-/
import Derived.Test.YtnaaflejkfaiaaaGreatTypes
import Derived.Test.YtnaaflejkfaiaaaGreatCode
set_option linter.unusedVariables false
set_option linter.unusedSimpArgs false
namespace Go.Vx.NmZ
set_option linter.unusedVariables false
set_option linter.unusedSimpArgs false
set_option maxRecDepth 4000
set_option maxHeartbeats 4000000
theorem zsg {R : Type} (e : En R) (sto : List (List D)) (k : List Fr) : ∀ (rest pre : List ByteArray) (i : Int), i = pre.length → pre.length + rest.length ≤ 1048576 → lsum ByteArray.size rest ≤ 1048576 →
  go T e zqO (.lp ztc :: .bl 0 :: .sq (.clr [2,4,5,6,7,8,9,10,11,12,13,14,15,16,17,18,19,20]) :: k) ⟨[.d (.sl false 1 (pre.map D.str ++ rest.map D.str)), Z, Z, .d (.sl true 1 (pre.map D.str ++ zeG (.str .empty) rest.length)), .d (.int .i64 i), Z, Z, Z, Z, Z, Z, Z, Z, Z, Z, Z, Z, Z, Z, Z, Z, Z], sto⟩ = bk T e k ⟨[.d (.sl false 1 (pre.map D.str ++ rest.map D.str)), Z, Z, .d (.sl true 1 (pre.map D.str ++ rest.map D.str)), Z, Z, Z, Z, Z, Z, Z, Z, Z, Z, Z, Z, Z, Z, Z, Z, Z, Z], sto⟩ := by
 intro rest
 induction rest with
 | nil =>
  intro pre i hi h1 h2
  have ht : i.toNat = pre.length := by omega
  unfold zqO
  simp (maxSteps := 9999999) (disch := omega) only [vx, px, ty, ↓reduceIte, seval, fx, zAi]
 | cons x rest ih =>
  intro pre i hi h1 h2
  have ht : i.toNat = pre.length := by omega
  rw [zar] at h2
  rw [List.length_cons] at h1
  unfold zqO
  simp (maxSteps := 9999999) (disch := omega) only [vx, px, ty, ↓reduceIte, seval, fx, zAi, ht, List.map_cons, ifT]
  have h := ih (pre ++ [x]) (i + 1) (by simp; omega) (by simp; omega) (by omega)
  simp only [zaL] at h
  exact h
theorem zsh (xs : List ByteArray) (sto : List (List D)) (h : xs.length ≤ 1048576) (h2 : lsum ByteArray.size xs ≤ 1048576) : zab T 10 [.sl false 1 (xs.map D.str)] sto = some (.sl true 1 (xs.map D.str), [], sto) := by
 have hm : xs.length ≤ xs.length ∧ xs.length ≤ most := ⟨Nat.le_refl _, by unfold most; omega⟩
 rw [zag T (g := v10) rfl rfl rfl _ _ rfl]
 simp (maxSteps := 9999999) (disch := omega) only [vx, px, ty, ↓reduceIte, seval, fx, v10, zBr, zAi, hm, ifT]
 have hl := fun k => zsg (enF [.tmp 2] []) sto k xs [] 0 rfl (by simp; omega) h2
 simp only [List.map_nil, List.nil_append] at hl
 rw [hl]
 simp (maxSteps := 9999999) (disch := omega) only [vx, px, ty, ↓reduceIte, seval, fx]
end Go.Vx.NmZ
