/-
  Lists of names, functions, record types, scopes.
-/
import Derived.Test.YthppbplieikhkaaGreatDoorP2
set_option linter.unusedVariables false
set_option linter.unusedSimpArgs false
namespace Go.Vx.DfZ
set_option linter.unusedVariables false
open Classical
def zkS (l : List ByteArray) : Prop := (∀ x ∈ l, zat x = true) ∧ l.Nodup
theorem ztD (l : List ByteArray) : (l.map bts).Nodup ↔ l.Nodup := by
 constructor
 ·intro h
  induction l with
  | nil => exact List.nodup_nil
  | cons a r ih =>
   rw [List.map_cons, List.nodup_cons] at h
   exact List.nodup_cons.2 ⟨fun hm => h.1 (List.mem_map_of_mem hm), ih h.2⟩
 ·intro h
  induction l with
  | nil => exact List.nodup_nil
  | cons a r ih =>
   rw [List.nodup_cons] at h
   rw [List.map_cons, List.nodup_cons]
   refine ⟨fun hm => h.1 ?_, ih h.2⟩
   obtain ⟨b, hb, e⟩ := List.mem_map.1 hm
   rw [← zwv e]; exact hb
theorem zcD (l : List ByteArray) (h : l.length ≤ 1099511627776) : zaG l = some (l.all zat) := by
 unfold zaG
 rw [zil l l.length (zcA l l l.length) zcz zat (fun i => zcA.eq_1 ..) rfl h (fun a _ => zdu a)]
 cases l.all zat <;> rfl
theorem zop (l : List ByteArray) (h : l.length ≤ 1048576) : ∃ r, zcR l = some r ∧ (r.length = l.length ↔ l.Nodup) := by
 have hs : (znD l).length = l.length := by simp [znD, zrw]
 refine ⟨zjM (znD l), ?_, ?_⟩
 ·simp only [zcR, zbf, zaK, Option.bind_eq_bind]
  rw [zde (show l.length ≤ most by unfold most; omega)]
  simp only [Option.bind_some]
  rw [zde (show (znD l).length ≤ most by rw [hs]; unfold most; omega)]
  rfl
 ·have e : (znD l).map bts = zrw (l.map bts) := by
   unfold znD
   rw [List.map_map]
   have : (bts ∘ ofB) = id := rfl
   rw [this, List.map_id]
  have := zli (l.map bts)
  rw [List.length_map, ztD] at this
  simp only [zjM, List.length_map, e]
  exact this
end Go.Vx.DfZ
