/-
  Lists of names, functions, record types, scopes.
-/
import Derived.Test.YthppbplieikhkaaGreatP2
set_option linter.unusedVariables false
set_option linter.unusedSimpArgs false
namespace Go.Vx.AsZ
set_option linter.unusedVariables false
open Classical
def zjR (l : List ByteArray) : Prop := (∀ x ∈ l, zaZ x = true) ∧ l.Nodup
theorem zrT (l : List ByteArray) : (l.map bts).Nodup ↔ l.Nodup := by
 constructor
 ·intro h
  induction l with
  | nil => exact List.nodup_nil
  | cons a r ih =>
   rw [List.map_cons, List.nodup_cons] at h
   exact List.nodup_cons.2 ⟨fun hm => h.1 (List.mem_map_of_mem hm), ih h.2⟩
 ·intro h
  induction l with
  | nil => exact List.nodup_nil
  | cons a r ih =>
   rw [List.nodup_cons] at h
   rw [List.map_cons, List.nodup_cons]
   refine ⟨fun hm => h.1 ?_, ih h.2⟩
   obtain ⟨b, hb, e⟩ := List.mem_map.1 hm
   rw [← zum e]; exact hb
theorem zex (l : List ByteArray) (h : l.length ≤ 1099511627776) : zbR l = some (l.all zaZ) := by
 unfold zbR
 rw [zhi l l.length (zco l l l.length) zcV zaZ (fun i => zco.eq_1 ..) rfl h (fun a _ => zdB a)]
 cases l.all zaZ <;> rfl
theorem znf (l : List ByteArray) (h : l.length ≤ 1048576) : ∃ r, zcz l = some r ∧ (r.length = l.length ↔ l.Nodup) := by
 have hs : (zmt l).length = l.length := by simp [zmt, zqa]
 refine ⟨ziP (zmt l), ?_, ?_⟩
 ·simp only [zcz, zaS, zaF, Option.bind_eq_bind]
  rw [zcn (show l.length ≤ most by unfold most; omega)]
  simp only [Option.bind_some]
  rw [zcn (show (zmt l).length ≤ most by rw [hs]; unfold most; omega)]
  rfl
 ·have e : (zmt l).map bts = zqa (l.map bts) := by
   unfold zmt
   rw [List.map_map]
   have : (bts ∘ ofB) = id := rfl
   rw [this, List.map_id]
  have := zkc (l.map bts)
  rw [List.length_map, zrT] at this
  simp only [ziP, List.length_map, e]
  exact this
end Go.Vx.AsZ
