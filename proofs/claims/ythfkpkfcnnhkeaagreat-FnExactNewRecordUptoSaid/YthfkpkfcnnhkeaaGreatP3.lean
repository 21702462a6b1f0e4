/-
  Lists of names, functions, record types, scopes.
-/
import Derived.Test.YthfkpkfcnnhkeaaGreatP2
set_option linter.unusedVariables false
set_option linter.unusedSimpArgs false
namespace Go.Vx.NrZ
set_option linter.unusedVariables false
open Classical
def NamesOK (l : List ByteArray) : Prop := (∀ x ∈ l, isName x = true) ∧ l.Nodup
theorem nodup_bts (l : List ByteArray) : (l.map bts).Nodup ↔ l.Nodup := by
  constructor
  · intro h
    induction l with
    | nil => exact List.nodup_nil
    | cons a r ih =>
      rw [List.map_cons, List.nodup_cons] at h
      exact List.nodup_cons.2 ⟨fun hm => h.1 (List.mem_map_of_mem hm), ih h.2⟩
  · intro h
    induction l with
    | nil => exact List.nodup_nil
    | cons a r ih =>
      rw [List.nodup_cons] at h
      rw [List.map_cons, List.nodup_cons]
      refine ⟨fun hm => h.1 ?_, ih h.2⟩
      obtain ⟨b, hb, e⟩ := List.mem_map.1 hm
      rw [← bts_inj e]; exact hb
theorem i_areAll_string_eq (l : List ByteArray) (h : l.length ≤ 1099511627776) : i_areAll_string l = some (l.all isName) := by
  unfold i_areAll_string
  rw [all_loop l l.length (i_areAll_string_l1 l l l.length) i_IsName isName (fun i => i_areAll_string_l1.eq_1 ..) rfl h (fun a _ => i_IsName_eq a)]
  cases l.all isName <;> rfl
theorem sorted_eq (l : List ByteArray) (h : l.length ≤ 1048576) : ∃ r, i_sortedNames l = some r ∧ (r.length = l.length ↔ l.Nodup) := by
  have hs : (sortB l).length = l.length := by simp [sortB, sortL]
  refine ⟨compactB (sortB l), ?_, ?_⟩
  · simp only [i_sortedNames, slices_Sort_string_string, slices_Compact_string_string, Option.bind_eq_bind]
    rw [chk_pos (show l.length ≤ most by unfold most; omega)]
    simp only [Option.bind_some]
    rw [chk_pos (show (sortB l).length ≤ most by rw [hs]; unfold most; omega)]
    rfl
  · have e : (sortB l).map bts = sortL (l.map bts) := by
      unfold sortB
      rw [List.map_map]
      have : (bts ∘ ofB) = id := rfl
      rw [this, List.map_id]
    have := sorted_compact (l.map bts)
    rw [List.length_map, nodup_bts] at this
    simp only [compactB, List.length_map, e]
    exact this
end Go.Vx.NrZ
