/-
  Lists of names, functions, record types, scopes.
-/
import Derived.Test.YthppbplieikhkaaGreatDoorP2
set_option linter.unusedVariables false
set_option linter.unusedSimpArgs false
namespace Go.Vx.DtZ
set_option linter.unusedVariables false
open Classical
def zkx (l : List ByteArray) : Prop := (∀ x ∈ l, zaD x = true) ∧ l.Nodup
theorem zte (l : List ByteArray) : (l.map bts).Nodup ↔ l.Nodup := by
 constructor
 ·intro h
  induction l with
  | nil => exact List.nodup_nil
  | cons a r ih =>
   rw [List.map_cons, List.nodup_cons] at h
   exact List.nodup_cons.2 ⟨fun hm => h.1 (List.mem_map_of_mem hm), ih h.2⟩
 ·intro h
  induction l with
  | nil => exact List.nodup_nil
  | cons a r ih =>
   rw [List.nodup_cons] at h
   rw [List.map_cons, List.nodup_cons]
   refine ⟨fun hm => h.1 ?_, ih h.2⟩
   obtain ⟨b, hb, e⟩ := List.mem_map.1 hm
   rw [← zvU e]; exact hb
theorem zcu (l : List ByteArray) (h : l.length ≤ 1099511627776) : zaG l = some (l.all zaD) := by
 unfold zaG
 rw [zhP l l.length (zcr l l l.length) zcJ zaD (fun i => zcr.eq_1 ..) rfl h (fun a _ => zdU a)]
 cases l.all zaD <;> rfl
theorem znX (l : List ByteArray) (h : l.length ≤ 1048576) : ∃ r, zcK l = some r ∧ (r.length = l.length ↔ l.Nodup) := by
 have hs : (znl l).length = l.length := by simp [znl, zre]
 refine ⟨zjp (znl l), ?_, ?_⟩
 ·simp only [zcK, zaZ, zaJ, Option.bind_eq_bind]
  rw [zda (show l.length ≤ most by unfold most; omega)]
  simp only [Option.bind_some]
  rw [zda (show (znl l).length ≤ most by rw [hs]; unfold most; omega)]
  rfl
 ·have e : (znl l).map bts = zre (l.map bts) := by
   unfold znl
   rw [List.map_map]
   have : (bts ∘ ofB) = id := rfl
   rw [this, List.map_id]
  have := zkO (l.map bts)
  rw [List.length_map, zte] at this
  simp only [zjp, List.length_map, e]
  exact this
end Go.Vx.DtZ
