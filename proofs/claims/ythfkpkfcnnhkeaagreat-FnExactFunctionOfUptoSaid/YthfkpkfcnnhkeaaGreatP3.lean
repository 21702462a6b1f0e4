/-
  Lists of names, functions, record types, scopes.
-/

import Derived.Test.YthfkpkfcnnhkeaaGreatP2
set_option linter.unusedVariables false
set_option linter.unusedSimpArgs false
namespace Go.Vx.FuZ
set_option linter.unusedVariables false
open Classical
def NamesOK (l : List ByteArray) : Prop := (∀ x ∈ l, isName x = true) ∧ l.Nodup
theorem nodup_bts (l : List ByteArray) : (l.map bts).Nodup ↔ l.Nodup := by
  constructor
  · intro h
    induction l with
    | nil => exact List.nodup_nil
    | cons a r ih =>
      rw [List.map_cons, List.nodup_cons] at h
      exact List.nodup_cons.2 ⟨fun hm => h.1 (List.mem_map_of_mem hm), ih h.2⟩
  · intro h
    induction l with
    | nil => exact List.nodup_nil
    | cons a r ih =>
      rw [List.nodup_cons] at h
      rw [List.map_cons, List.nodup_cons]
      refine ⟨fun hm => h.1 ?_, ih h.2⟩
      obtain ⟨b, hb, e⟩ := List.mem_map.1 hm
      rw [← bts_inj e]; exact hb
theorem i_areAll_string_eq (l : List ByteArray) (h : l.length ≤ 1099511627776) : i_areAll_string l = some (l.all isName) := by
  unfold i_areAll_string
  rw [all_loop l l.length (i_areAll_string_l1 l l l.length) i_IsName isName (fun i => i_areAll_string_l1.eq_1 ..) rfl h (fun a _ => i_IsName_eq a)]
  cases l.all isName <;> rfl
theorem sorted_eq (l : List ByteArray) (h : l.length ≤ 1048576) : ∃ r, i_sortedNames l = some r ∧ (r.length = l.length ↔ l.Nodup) := by
  have hs : (sortB l).length = l.length := by simp [sortB, sortL]
  refine ⟨compactB (sortB l), ?_, ?_⟩
  · simp only [i_sortedNames, slices_Sort_string_string, slices_Compact_string_string, Option.bind_eq_bind]
    rw [chk_pos (show l.length ≤ most by unfold most; omega)]
    simp only [Option.bind_some]
    rw [chk_pos (show (sortB l).length ≤ most by rw [hs]; unfold most; omega)]
    rfl
  · have e : (sortB l).map bts = sortL (l.map bts) := by
      unfold sortB
      rw [List.map_map]
      have : (bts ∘ ofB) = id := rfl
      rw [this, List.map_id]
    have := sorted_compact (l.map bts)
    rw [List.length_map, nodup_bts] at this
    simp only [compactB, List.length_map, e]
    exact this
theorem s_at_eq (l : List ByteArray) (x : ByteArray) (h : l.length ≤ 1048576) (hx : x ∈ l) : s_l17At l x = some ((l.findIdx fun y => decide (y = x) : Nat) : Int) := by
  have key := list_ind l (fun i rest => x ∈ rest → s_l17At_l1 l x (i : Int) = some (.inr ((i + rest.findIdx fun y => decide (y = x) : Nat) : Int))) (fun h => by cases h) ?_ hx
  · unfold s_l17At
    rw [show ((0 : Nat) : Int) = 0 from rfl] at key
    rw [key]
    simp
  · intro i a rest hi hg hd ih hm
    rw [s_l17At_l1.eq_1, if_pos (by omega)]
    simp only [idx_nat, hg, Option.bind_eq_bind, Option.bind_some]
    rw [w64 (by omega) (by omega), List.findIdx_cons]
    by_cases ha : a = x
    · rw [if_pos ha, decide_eq_true ha]; simp
    · rw [if_neg ha, decide_eq_false ha]
      have hm' : x ∈ rest := by
        rcases List.mem_cons.1 hm with e | e
        · exact absurd e.symm ha
        · exact e
      have := ih hm'
      have ih' : s_l17At_l1 l x ((i : Int) + 1) = _ := this
      rw [ih']
      simp; omega
theorem s_names_eq (l : List ByteArray) (h : l.length ≤ 1048576) : s_l18Names l = some (decide (NamesOK l)) := by
  unfold s_l18Names
  have hL := allP_loop l (s_l18Names_l1 l) false (fun i a => isName a = true ∧ l.findIdx (fun y => decide (y = a)) = i) 0 (Nat.zero_le _) ?_ ?_ ?_
  · rw [show ((0 : Nat) : Int) = 0 from rfl] at hL
    rw [hL]
    have hiff : (∀ (i : Nat) a, 0 ≤ i → l[i]? = some a → isName a = true ∧ l.findIdx (fun y => decide (y = a)) = i) ↔ NamesOK l := by
      constructor
      · intro hh
        refine ⟨fun x hx => ?_, ?_⟩
        · obtain ⟨i, hi, e⟩ := List.mem_iff_getElem.1 hx
          exact (hh i x (Nat.zero_le _) (by rw [List.getElem?_eq_getElem hi, e])).1
        · rw [nodup_get]
          intro i j hij hj e
          have hg := List.getElem?_eq_getElem hj
          have h1 := (hh j _ (Nat.zero_le _) hg).2
          have h2 := (hh i _ (Nat.zero_le _) (e.trans hg)).2
          omega
      · intro hh i a _ hg
        obtain ⟨hi, e⟩ := List.getElem?_eq_some_iff.1 hg
        have hm : a ∈ l := e ▸ List.getElem_mem hi
        refine ⟨hh.1 a hm, ?_⟩
        have hlt : l.findIdx (fun y => decide (y = a)) < l.length := List.findIdx_lt_length_of_exists ⟨a, hm, by simp⟩
        have h1 : l[l.findIdx (fun y => decide (y = a))] = a := by
          have := List.findIdx_getElem (p := fun y => decide (y = a)) (xs := l) (w := hlt)
          exact of_decide_eq_true this
        rcases Nat.lt_trichotomy (l.findIdx (fun y => decide (y = a))) i with q | q | q
        · exact absurd (by rw [List.getElem?_eq_getElem hlt, h1, hg]) (((nodup_get _).1 hh.2) _ i q hi)
        · exact q
        · exact absurd (by rw [List.getElem?_eq_getElem hlt, h1, hg]) (((nodup_get _).1 hh.2) i _ q hlt)
    by_cases hN : NamesOK l
    · rw [if_pos (hiff.2 hN), decide_eq_true hN]; rfl
    · rw [if_neg (fun h => hN (hiff.1 h)), decide_eq_false hN]; rfl
  · intro i a _ hi hg hp
    rw [s_l18Names_l1.eq_1, if_pos (by omega)]
    have hm : a ∈ l := (List.getElem?_eq_some_iff.1 hg).2 ▸ List.getElem_mem hi
    simp only [idx_nat, hg, Option.bind_eq_bind, Option.bind_some, s_IsName_eq, s_at_eq l a h hm, hp.1, hp.2, if_true]
    rw [w64 (by omega) (by omega)]
  · intro i a _ hi hg hp
    rw [s_l18Names_l1.eq_1, if_pos (by omega)]
    have hm : a ∈ l := (List.getElem?_eq_some_iff.1 hg).2 ▸ List.getElem_mem hi
    simp only [idx_nat, hg, Option.bind_eq_bind, Option.bind_some, s_IsName_eq, s_at_eq l a h hm]
    by_cases hn : isName a = true
    · rw [if_pos hn, if_neg]
      intro e; exact hp ⟨hn, by omega⟩
    · rw [if_neg hn]
  · rw [s_l18Names_l1.eq_1, if_neg (by omega)]
end Go.Vx.FuZ
