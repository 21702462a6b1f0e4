/-
  Lists of names, functions, record types, scopes.
-/
import Derived.Test.YthppbplieikhkaaGreatP2
set_option linter.unusedVariables false
set_option linter.unusedSimpArgs false
namespace Go.Vx.RnZ
set_option linter.unusedVariables false
open Classical
def zkn (l : List ByteArray) : Prop := (∀ x ∈ l, zaE x = true) ∧ l.Nodup
theorem zsk (l : List ByteArray) : (l.map bts).Nodup ↔ l.Nodup := by
 constructor
 ·intro h
  induction l with
  | nil => exact List.nodup_nil
  | cons a r ih =>
   rw [List.map_cons, List.nodup_cons] at h
   exact List.nodup_cons.2 ⟨fun hm => h.1 (List.mem_map_of_mem hm), ih h.2⟩
 ·intro h
  induction l with
  | nil => exact List.nodup_nil
  | cons a r ih =>
   rw [List.nodup_cons] at h
   rw [List.map_cons, List.nodup_cons]
   refine ⟨fun hm => h.1 ?_, ih h.2⟩
   obtain ⟨b, hb, e⟩ := List.mem_map.1 hm
   rw [← zuE e]; exact hb
theorem zeL (l : List ByteArray) (h : l.length ≤ 1099511627776) : zbW l = some (l.all zaE) := by
 unfold zbW
 rw [zhB l l.length (zcu l l l.length) zdc zaE (fun i => zcu.eq_1 ..) rfl h (fun a _ => zdK a)]
 cases l.all zaE <;> rfl
theorem znr (l : List ByteArray) (h : l.length ≤ 1048576) : ∃ r, zcG l = some r ∧ (r.length = l.length ↔ l.Nodup) := by
 have hs : (zmK l).length = l.length := by simp [zmK, zqq]
 refine ⟨zjl (zmK l), ?_, ?_⟩
 ·simp only [zcG, zaU, zaG, Option.bind_eq_bind]
  rw [zct (show l.length ≤ most by unfold most; omega)]
  simp only [Option.bind_some]
  rw [zct (show (zmK l).length ≤ most by rw [hs]; unfold most; omega)]
  rfl
 ·have e : (zmK l).map bts = zqq (l.map bts) := by
   unfold zmK
   rw [List.map_map]
   have : (bts ∘ ofB) = id := rfl
   rw [this, List.map_id]
  have := zkx (l.map bts)
  rw [List.length_map, zsk] at this
  simp only [zjl, List.length_map, e]
  exact this
end Go.Vx.RnZ
