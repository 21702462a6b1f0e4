/-
  The laws' own functions: sz.
-/
import Derived.Test.YtnaaflejkfaiaaaGreatTypes
import Derived.Test.YtnaaflejkfaiaaaGreatCode
set_option linter.unusedVariables false
set_option linter.unusedSimpArgs false
namespace Go.Vx.NmZ
set_option linter.unusedVariables false
set_option linter.unusedSimpArgs false
set_option maxRecDepth 4000
set_option maxHeartbeats 4000000
theorem zse {R : Type} (e : En R) (sto : List (List D)) (k : List Fr) : ∀ (rest pre : List ByteArray) (i left : Int), i = pre.length → pre.length + rest.length ≤ 1048576 → ((lsum ByteArray.size rest : Nat) : Int) ≤ left → left ≤ 1048576 →
  go T e zvi (.lp zwL :: .bl 0 :: .sq (.clr [4,5,6,7,8,9,10,11,12,13,14,15,16,17,18,19,20,21,22,23,24,25,26]) :: k) ⟨[.d (.sl false 1 (pre.map D.str ++ rest.map D.str)), .d (.int .i64 left), Z, Z, Z, .d (.int .i64 i), Z, Z, Z, Z, Z, Z, Z, Z, Z, Z, Z, Z, Z, Z, Z, Z, Z, Z, Z, Z, Z, Z], sto⟩ = bk T e k ⟨[.d (.sl false 1 (pre.map D.str ++ rest.map D.str)), .d (.int .i64 (left - (lsum ByteArray.size rest : Nat))), Z, Z, Z, Z, Z, Z, Z, Z, Z, Z, Z, Z, Z, Z, Z, Z, Z, Z, Z, Z, Z, Z, Z, Z, Z, Z], sto⟩ := by
 intro rest
 induction rest with
 | nil =>
  intro pre i left hi h1 h2 h3
  have hR : left - ((lsum ByteArray.size ([] : List ByteArray) : Nat) : Int) = left := by simp [ziI]
  have ht : i.toNat = pre.length := by omega
  rw [hR]
  unfold zvi
  simp (maxSteps := 9999999) (disch := omega) only [vx, px, ty, ↓reduceIte, seval, fx, w8_1]
 | cons x rest ih =>
  intro pre i left hi h1 h2 h3
  have hR : left - ((lsum ByteArray.size (x :: rest) : Nat) : Int) = left - (ByteArray.size x : Nat) - (lsum ByteArray.size rest : Nat) := by rw [zar]; omega
  have ht : i.toNat = pre.length := by omega
  rw [zar] at h2
  rw [List.length_cons] at h1
  rw [hR]
  unfold zvi
  simp (maxSteps := 9999999) (disch := omega) only [vx, px, ty, ↓reduceIte, seval, fx, w8_1, ht, List.map_cons, ifT]
  have h := ih (pre ++ [x]) (i + 1) (left - (ByteArray.size x : Nat)) (by simp; omega) (by simp; omega) (by omega) (by omega)
  simp only [zaL] at h
  exact h
theorem zsf (xs : List ByteArray) (left : Int) (sto : List (List D)) (h : ((xs.length + lsum ByteArray.size xs : Nat) : Int) ≤ left) (h2 : left ≤ 1048576) : zab T 8 [.sl false 1 (xs.map D.str), .int .i64 left] sto = some (.int .i64 (left - ((xs.length + lsum ByteArray.size xs : Nat) : Int)), [], sto) := by
 rw [zag T (g := v8) rfl rfl rfl _ _ rfl]
 simp (maxSteps := 9999999) (disch := omega) only [vx, px, ty, ↓reduceIte, seval, fx, v8, v8_b, w8_1]
 have hl := fun k => zse (enF [.tmp 4] []) sto k xs [] 0 (left - xs.length) rfl (by simp; omega) (by omega) (by omega)
 simp only [List.map_nil, List.nil_append] at hl
 rw [hl]
 simp (maxSteps := 9999999) (disch := omega) only [vx, px, ty, ↓reduceIte, seval, fx]
 try exact congrArg (fun z => some (D.int .i64 z, ([] : List D), sto)) (by omega)
end Go.Vx.NmZ
