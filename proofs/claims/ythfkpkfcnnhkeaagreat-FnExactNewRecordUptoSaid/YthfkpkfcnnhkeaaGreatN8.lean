/-
  NewRecord: the program's answer is the reference's.
-/
import Derived.Test.YthfkpkfcnnhkeaaGreatH4
set_option linter.unusedVariables false
set_option linter.unusedSimpArgs false
namespace Go.Vx.NrZ
set_option linter.unusedVariables false
open Classical
def txt (s : ByteArray) : TValue := TValue.mk 1 0 s 0
def nulW : TValue := TValue.mk 1 0 ByteArray.empty 0
def FN (l : List ByteArray) : Prop := 1 ≤ l.length ∧ l.length ≤ 6 ∧ NamesOK l
theorem i_areFields_eq (l : List ByteArray) (h : l.length ≤ 1048576) : i_areFields l = some (decide (FN l)) := by
  unfold i_areFields i_areFields_j1 slices_Clone_string_string
  obtain ⟨r, hr, hrl⟩ := sorted_eq l h
  rw [chk_pos (show l.length ≤ most by unfold most; omega), i_areAll_string_eq _ (by omega)]
  simp only [Option.bind_eq_bind, Option.bind_some, hr]
  have hA : (l.all isName = true) ↔ ∀ x ∈ l, isName x = true := List.all_eq_true
  by_cases h2 : 1 ≤ l.length
  · rw [if_neg (by omega)]
    by_cases h3 : l.length ≤ 6
    · rw [if_neg (by omega)]
      by_cases h5 : l.all isName = true
      · rw [if_pos h5]
        have e : ((r.length : Int) = (l.length : Int)) ↔ l.Nodup := by rw [← hrl]; omega
        exact congrArg some (decide_eq_decide.2 (by rw [e]; exact ⟨fun q => ⟨h2, h3, hA.1 h5, q⟩, fun q => q.2.2.2⟩))
      · rw [if_neg h5]
        exact congrArg some (decide_eq_false (fun q : FN l => h5 (hA.2 q.2.2.1))).symm
    · rw [if_pos (by omega)]; exact congrArg some (decide_eq_false (fun q : FN l => h3 q.2.1)).symm
  · rw [if_pos (by omega)]; exact congrArg some (decide_eq_false (fun q : FN l => h2 q.1)).symm
theorem s_fl_eq (l : List ByteArray) (h : l.length ≤ 1048576) : s_l09Fields l = some ((l.take 7).map txt, decide (FieldsP ((l.take 7).map txt))) := by
  unfold s_l09Fields
  have hl7 : (l.take 7).length = min 7 l.length := List.length_take
  have key := list_ind (l.take 7) (fun i rest => ∀ acc : List TValue, acc.length = i → s_l09Fields_l1 l acc (i : Int) = some (acc ++ rest.map txt)) ?_ ?_
  · have := key [] rfl
    rw [show ((0 : Nat) : Int) = 0 from rfl] at this
    rw [this]
    simp only [Option.bind_eq_bind, Option.bind_some, List.nil_append]
    rw [s_fields_eq _ (by rw [List.length_map]; omega)]
    rfl
  · intro acc ha
    rw [s_l09Fields_l1.eq_1, List.map_nil, List.append_nil]
    by_cases q1 : ((l.take 7).length : Int) < (l.length : Int)
    · rw [if_pos q1, if_neg (by omega)]
    · rw [if_neg q1]
  · intro i a rest hi hg hd ih acc ha
    have hi2 : i < l.length := by omega
    have hg2 : l[i]? = some a := by rw [← hg, List.getElem?_take_of_lt (by omega)]
    rw [s_l09Fields_l1.eq_1, if_pos (by omega), if_pos (by omega)]
    unfold s_l09Fields_j1
    rw [idx_nat, hg2]
    simp only [Option.bind_eq_bind, Option.bind_some]
    rw [app_pos (by unfold most; simp only [List.length_cons, List.length_nil]; omega)]
    simp only [Option.bind_some]
    have := ih (acc ++ [txt a]) (by simp; omega)
    rw [w64 (by omega) (by omega), show ((i : Int) + 1) = ((i + 1 : Nat) : Int) by omega]
    rw [List.append_assoc] at this
    exact this
theorem txt_inj {a b : ByteArray} (h : txt a = txt b) : a = b := by cases h; rfl
theorem nodup_txt (l : List ByteArray) : (l.map txt).Nodup ↔ l.Nodup := by
  induction l with
  | nil => simp
  | cons a r ih =>
    rw [List.map_cons, List.nodup_cons, List.nodup_cons, ih]
    have : txt a ∈ r.map txt ↔ a ∈ r := ⟨fun q => by obtain ⟨b, hb, e⟩ := List.mem_map.1 q; rw [← txt_inj e]; exact hb, fun q => List.mem_map_of_mem q⟩
    rw [this]
theorem fields_fn (l : List ByteArray) : FieldsP ((l.take 7).map txt) ↔ FN l := by
  have hl7 : ((l.take 7).map txt).length = min 7 l.length := by rw [List.length_map, List.length_take]
  have hf : ∀ s, fldOK (txt s) = isName s := fun s => by simp [fldOK, txt]
  by_cases h6 : l.length ≤ 6
  · have ht : l.take 7 = l := List.take_of_length_le (by omega)
    unfold FieldsP FN NamesOK
    rw [ht, List.length_map, nodup_txt]
    constructor
    · intro q
      exact ⟨q.1, q.2.1, fun s hs => by rw [← hf s]; exact q.2.2.1 _ (List.mem_map_of_mem hs), q.2.2.2⟩
    · intro q
      refine ⟨q.1, q.2.1, fun v hv => ?_, q.2.2.2⟩
      obtain ⟨s, hs, rfl⟩ := List.mem_map.1 hv
      rw [hf s]; exact q.2.2.1 s hs
  · constructor
    · intro q; have := q.2.1; omega
    · intro q; exact absurd q.2.1 h6
def obj (nm : ByteArray) (k v : List TValue) : TObject := TObject.mk 0 3 nm 0 k v (TValue.mk 0 0 ByteArray.empty 0)
theorem s_pad (nm : ByteArray) (a2 : List ByteArray) (a3 : List TValue) (a4 : THeap) (a5 : TValue) (g : Int) (os : List TObject) (ks : List TValue) (n : Nat) (hn : n ≤ 1048576) :
    ∀ (d : Nat) (vs : List TValue), d = n - vs.length → s_NewRecord_l1 nm a2 a3 a4 a5 n g os (obj nm ks vs) = some (obj nm ks (vs ++ List.replicate d nulW)) := by
  intro d
  induction d with
  | zero =>
    intro vs h
    rw [s_NewRecord_l1.eq_1, if_neg (by simp only [obj]; omega)]
    simp
  | succ d ih =>
    intro vs h
    rw [s_NewRecord_l1.eq_1, if_pos (by simp only [obj]; omega)]
    simp only [obj]
    rw [app_pos (by unfold most; simp only [List.length_cons, List.length_nil]; omega)]
    simp only [Option.bind_eq_bind, Option.bind_some]
    have := ih (vs ++ [nulW]) (by simp; omega)
    rw [List.append_assoc] at this
    rw [List.replicate_succ]
    exact this
theorem i_build (nm : ByteArray) (fs : List ByteArray) (vs : List TValue) (a4 a8 : THeap) (a9 : TValue) (hf : fs.length ≤ 1048576) (hv : vs.length ≤ fs.length) :
    i_NewRecord_l1 nm fs vs a4 a8 a9 fs fs.length (obj nm [] vs) 0 = some (obj nm (fs.map txt) (vs ++ List.replicate (fs.length - vs.length) nulW)) := by
  have key := list_ind fs (fun i rest => i + rest.length = fs.length → ∀ (ks ws : List TValue), ks.length = i → ws.length = max i vs.length → i_NewRecord_l1 nm fs vs a4 a8 a9 fs fs.length (obj nm ks ws) (i : Int) = some (obj nm (ks ++ rest.map txt) (ws ++ List.replicate (fs.length - ws.length) nulW))) ?_ ?_
  · have := key (by simp) [] vs rfl (by simp)
    rw [show ((0 : Nat) : Int) = 0 from rfl] at this
    rw [this]; rfl
  · intro _ ks ws h1 h2
    have e0 : fs.length - ws.length = 0 := by omega
    rw [i_NewRecord_l1.eq_1, if_neg (by omega), e0]
    simp
  · intro i a rest hi hg hd ih hlen ks ws h1 h2
    rw [i_NewRecord_l1.eq_1, if_pos (by omega), idx_nat, hg]
    simp only [i_textOf, i_null, obj, Option.bind_eq_bind, Option.bind_some]
    rw [app_pos (by unfold most; simp only [List.length_cons, List.length_nil]; omega)]
    simp only [Option.bind_some]
    rw [w64 (by omega) (by omega), show ((i : Int) + 1) = ((i + 1 : Nat) : Int) by omega]
    have hks : ks ++ [TValue.mk 1 0 a 0] ++ rest.map txt = ks ++ (a :: rest).map txt := by rw [List.append_assoc]; rfl
    by_cases hq : (i : Int) ≥ (vs.length : Int)
    · rw [if_pos hq, app_pos (by unfold most; simp only [List.length_cons, List.length_nil]; omega)]
      simp only [Option.bind_some]
      have := ih (by simp only [List.length_cons] at hlen; omega) (ks ++ [TValue.mk 1 0 a 0]) (ws ++ [nulW]) (by simp; omega) (by simp; omega)
      rw [hks, List.append_assoc] at this
      have e1 : fs.length - ws.length = (fs.length - (ws ++ [nulW]).length) + 1 := by simp; omega
      rw [e1, List.replicate_succ]
      exact this
    · rw [if_neg hq]
      have := ih (by simp only [List.length_cons] at hlen; omega) (ks ++ [TValue.mk 1 0 a 0]) ws (by simp; omega) (by omega)
      rw [hks] at this
      exact this
theorem s_ownObj_eq (o : TObject) (h : o.Keys.length ≤ 1073741824) (h2 : o.Vals.length ≤ 1073741824) : s_l07OwnObject o = some o := by
  unfold s_l07OwnObject s_l07OwnValues
  rw [chk_pos (show o.Keys.length ≤ most by unfold most; omega), chk_pos (show o.Vals.length ≤ most by unfold most; omega)]
  rfl
theorem i_ownObj_eq (o : TObject) (h : o.Keys.length ≤ 1073741824) (h2 : o.Vals.length ≤ 1073741824) : i_Object_copied o = some o := by
  unfold i_Object_copied slices_Clone_Value_Value
  rw [chk_pos (show o.Keys.length ≤ most by unfold most; omega), chk_pos (show o.Vals.length ≤ most by unfold most; omega)]
  rfl
theorem s_hown_eq (x : THeap) (h : THeap.n x ≤ 1048576) : s_l07Own x.Next x.Objects = some x := by
  have hl : x.Objects.length ≤ 1048576 := by simp only [THeap.n] at h; omega
  unfold s_l07Own
  have key := list_ind x.Objects (fun i rest => ∀ acc : List TObject, acc.length = i → s_l07Own_l1 (THeap.mk 0 []) x.Next x.Objects (THeap.mk x.Next acc) (i : Int) = some (THeap.mk x.Next (acc ++ rest))) ?_ ?_
  · have := key [] rfl
    rw [show ((0 : Nat) : Int) = 0 from rfl] at this
    rw [this]; rfl
  · intro acc ha
    rw [s_l07Own_l1.eq_1, if_neg (by omega), List.append_nil]
  · intro i a rest hi hg hd ih acc ha
    have hs := hlen h (mem_get hg)
    rw [s_l07Own_l1.eq_1, if_pos (by omega), idx_nat, hg]
    simp only [s_ownObj_eq a (by omega) (by omega), Option.bind_eq_bind, Option.bind_some]
    rw [app_pos (by unfold most; simp only [List.length_cons, List.length_nil]; omega), w64 (by omega) (by omega)]
    simp only [Option.bind_some]
    have := ih (acc ++ [a]) (by simp; omega)
    rw [show ((i : Int) + 1) = ((i + 1 : Nat) : Int) by omega]
    rw [List.append_assoc] at this
    exact this
theorem i_hcopy_eq (x : THeap) (h : THeap.n x ≤ 1048576) : i_Heap_copied x = some x := by
  have hl : x.Objects.length ≤ 1048576 := by simp only [THeap.n] at h; omega
  unfold i_Heap_copied
  have key := list_ind x.Objects (fun i rest => ∀ acc : List TObject, acc.length = i → i_Heap_copied_l1 x (THeap.mk 0 []) x.Objects x.Objects.length (THeap.mk x.Next acc) (i : Int) = some (THeap.mk x.Next (acc ++ rest))) ?_ ?_
  · have := key [] rfl
    rw [show ((0 : Nat) : Int) = 0 from rfl] at this
    rw [this]; rfl
  · intro acc ha
    rw [i_Heap_copied_l1.eq_1, if_neg (by omega), List.append_nil]
  · intro i a rest hi hg hd ih acc ha
    have hs := hlen h (mem_get hg)
    rw [i_Heap_copied_l1.eq_1, if_pos (by omega), idx_nat, hg]
    simp only [i_ownObj_eq a (by omega) (by omega), Option.bind_eq_bind, Option.bind_some]
    rw [app_pos (by unfold most; simp only [List.length_cons, List.length_nil]; omega), w64 (by omega) (by omega)]
    simp only [Option.bind_some]
    have := ih (acc ++ [a]) (by simp; omega)
    rw [show ((i : Int) + 1) = ((i + 1 : Nat) : Int) by omega]
    rw [List.append_assoc] at this
    exact this
def h0 : THeap := THeap.mk 0 []
def v0 : TValue := TValue.mk 0 0 ByteArray.empty 0
noncomputable def created (x : THeap) (o : TObject) : THeap × TValue × Int :=
  if x.Objects.length ≥ 40 ∨ x.Next ≥ 1000000 then (h0, v0, 6)
  else (THeap.mk (x.Next + 1) (x.Objects ++ [TObject.mk (x.Next + 1) o.Kind o.Name o.Low o.Keys o.Vals o.Default]), TValue.mk 6 0 ByteArray.empty (x.Next + 1), 0)
theorem six : IntKind.wrap .i64 (IntKind.wrap .i64 (3 - 1) + 4) = 6 := by decide
theorem s_created_eq (x : THeap) (nm : ByteArray) (ks vs : List TValue) (h : THeap.n x ≤ 1048576) (hp : HeapP x) (hk : ks.length ≤ 1048576) (hv : vs.length ≤ 1048576) : s_l09Created (obj nm ks vs) x.Next x.Objects = some (created x (obj nm ks vs)) := by
  have hl : x.Objects.length ≤ 1048576 := by simp only [THeap.n] at h; omega
  have hN := hp.1
  unfold s_l09Created s_l07Add s_l07Add_j1 created
  rw [s_hown_eq x h, s_ownObj_eq (obj nm ks vs) (by simp only [obj]; omega) (by simp only [obj]; omega)]
  simp only [Option.bind_eq_bind, Option.bind_some]
  rw [app_pos (by unfold most; simp only [List.length_cons, List.length_nil]; omega)]
  simp only [Option.bind_some]
  by_cases q1 : x.Objects.length ≥ 40
  · rw [if_pos (show (x.Objects.length : Int) ≥ 40 by omega), if_pos (show x.Objects.length ≥ 40 ∨ x.Next ≥ 1000000 from .inl q1)]; rfl
  · rw [if_neg (show ¬ (x.Objects.length : Int) ≥ 40 by omega)]
    by_cases q2 : x.Next ≥ 1000000
    · rw [if_pos q2, if_pos (show x.Objects.length ≥ 40 ∨ x.Next ≥ 1000000 from .inr q2)]; rfl
    · rw [if_neg q2, if_neg (show ¬ (x.Objects.length ≥ 40 ∨ x.Next ≥ 1000000) by omega)]
      simp only [Option.bind_some]
      rw [if_pos trivial, w64 (by omega) (by omega)]
      rfl
theorem i_created_eq (x : THeap) (nm : ByteArray) (ks vs : List TValue) (h : THeap.n x ≤ 1048576) (hp : HeapP x) (hk : ks.length ≤ 1048576) (hv : vs.length ≤ 1048576) : i_Heap_create x (obj nm ks vs) = some (created x (obj nm ks vs)) := by
  have hl : x.Objects.length ≤ 1048576 := by simp only [THeap.n] at h; omega
  have hN := hp.1
  have hL := hp.2.1
  unfold i_Heap_create i_Heap_add i_Heap_add_j1 i_Object_reference created
  rw [i_hcopy_eq x h, i_ownObj_eq (obj nm ks vs) (by simp only [obj]; omega) (by simp only [obj]; omega)]
  simp only [Option.bind_eq_bind, Option.bind_some]
  rw [app_pos (by unfold most; simp only [List.length_cons, List.length_nil]; omega)]
  simp only [Option.bind_some]
  by_cases q1 : x.Objects.length ≥ 40
  · rw [if_pos (show (x.Objects.length : Int) = 40 by omega), if_pos (show x.Objects.length ≥ 40 ∨ x.Next ≥ 1000000 from .inl q1)]; rfl
  · rw [if_neg (show ¬ (x.Objects.length : Int) = 40 by omega)]
    by_cases q2 : x.Next ≥ 1000000
    · rw [if_pos (show x.Next = 1000000 by omega), if_pos (show x.Objects.length ≥ 40 ∨ x.Next ≥ 1000000 from .inr q2)]; rfl
    · rw [if_neg (show ¬ x.Next = 1000000 by omega), if_neg (show ¬ (x.Objects.length ≥ 40 ∨ x.Next ≥ 1000000) by omega)]
      simp only [Option.bind_some]
      rw [if_pos trivial, w64 (by omega) (by omega)]
      rfl
noncomputable def newRec (x : THeap) (nm : ByteArray) (fs : List ByteArray) (vs : List TValue) : THeap × TValue × Int :=
  if (HeapP x ∧ ∀ v ∈ vs, FitP x.Objects v) ∧ isName nm = true ∧ FN fs then
    if vs.length ≤ fs.length then created x (obj nm (fs.map txt) (vs ++ List.replicate (fs.length - vs.length) nulW)) else (h0, v0, 3)
  else (h0, v0, 1)
theorem s_New_eq (x : THeap) (nm : ByteArray) (fs : List ByteArray) (vs : List TValue) (h : THeap.n x ≤ 1048576) (hf : fs.length ≤ 1048576) (hv : vs.length ≤ 1048576) : s_NewRecord x nm fs vs = some (newRec x nm fs vs) := by
  have hl : x.Objects.length ≤ 1048576 := by simp only [THeap.n] at h; omega
  unfold s_NewRecord s_NewRecord_j1 s_l09Fit newRec
  rw [s_fl_eq fs hf, s_ok_eq x h, s_fitAll_eq x.Objects vs x.Next hl (by omega)]
  simp only [Option.bind_eq_bind, Option.bind_some, s_IsName_eq]
  by_cases q1 : HeapP x
  · rw [if_pos (decide_eq_true q1)]
    simp only [Option.bind_some]
    by_cases q2 : ∀ v ∈ vs, FitP x.Objects v
    · rw [if_pos (decide_eq_true q2)]
      by_cases q3 : isName nm = true
      · rw [if_pos q3]
        by_cases q4 : FN fs
        · rw [if_pos (decide_eq_true ((fields_fn fs).2 q4)), if_pos (show (HeapP x ∧ ∀ v ∈ vs, FitP x.Objects v) ∧ isName nm = true ∧ FN fs from ⟨⟨q1, q2⟩, q3, q4⟩)]
          have ht : fs.take 7 = fs := List.take_of_length_le (by have := q4.2.1; omega)
          rw [ht]
          unfold s_NewRecord_j2 s_l07OwnValues
          rw [chk_pos (show vs.length ≤ most by unfold most; omega)]
          simp only [Option.bind_eq_bind, Option.bind_some]
          by_cases q5 : vs.length ≤ fs.length
          · rw [if_neg (by omega), if_pos q5]
            have := s_pad nm fs vs (THeap.mk 0 []) (TValue.mk 0 0 ByteArray.empty 0) x.Next x.Objects (fs.map txt) (fs.map txt).length (by rw [List.length_map]; omega) (fs.length - vs.length) vs (by rw [List.length_map])
            simp only [obj] at this
            rw [this]
            simp only [Option.bind_some]
            have hc := s_created_eq x nm (fs.map txt) (vs ++ List.replicate (fs.length - vs.length) nulW) h q1 (by rw [List.length_map]; omega) (by simp; omega)
            simp only [obj] at hc ⊢
            rw [hc]; rfl
          · rw [if_pos (by omega), if_neg q5]; rfl
        · rw [if_neg (by rw [decide_eq_false (fun e => q4 ((fields_fn fs).1 e))]; simp), if_neg (show ¬ ((HeapP x ∧ ∀ v ∈ vs, FitP x.Objects v) ∧ isName nm = true ∧ FN fs) from fun q => q4 q.2.2)]; rfl
      · rw [if_neg q3, if_neg (show ¬ ((HeapP x ∧ ∀ v ∈ vs, FitP x.Objects v) ∧ isName nm = true ∧ FN fs) from fun q => q3 q.2.1)]; rfl
    · rw [if_neg (show ¬ decide (∀ v ∈ vs, FitP x.Objects v) = true by rw [decide_eq_false q2]; simp), if_neg (show ¬ ((HeapP x ∧ ∀ v ∈ vs, FitP x.Objects v) ∧ isName nm = true ∧ FN fs) from fun q => q2 q.1.2)]; rfl
  · rw [if_neg (show ¬ decide (HeapP x) = true by rw [decide_eq_false q1]; simp), if_neg (show ¬ ((HeapP x ∧ ∀ v ∈ vs, FitP x.Objects v) ∧ isName nm = true ∧ FN fs) from fun q => q1 q.1.1)]
    simp only [Option.bind_some]
    rw [if_neg (by simp)]; rfl
theorem first3 (a b c : Int) : i_first [a, b, c] = some (if a = 0 then (if b = 0 then c else b) else a) := by
  have e1 : (([a, b, c] : List Int).length : Int) = 3 := rfl
  have i0 : idx [a, b, c] 0 = some a := rfl
  have i1 : idx [a, b, c] 1 = some b := rfl
  have i2 : idx [a, b, c] 2 = some c := rfl
  have w1 : IntKind.wrap .i64 (0 + 1) = 1 := by decide
  have w2 : IntKind.wrap .i64 (1 + 1) = 2 := by decide
  have w3 : IntKind.wrap .i64 (2 + 1) = 3 := by decide
  have L0 := i_first_l1.eq_1 [a, b, c] [a, b, c] 3 0
  have L1 := i_first_l1.eq_1 [a, b, c] [a, b, c] 3 1
  have L2 := i_first_l1.eq_1 [a, b, c] [a, b, c] 3 2
  have L3 := i_first_l1.eq_1 [a, b, c] [a, b, c] 3 3
  rw [if_pos (by decide), i0, w1] at L0
  rw [if_pos (by decide), i1, w2] at L1
  rw [if_pos (by decide), i2, w3] at L2
  rw [if_neg (by decide)] at L3
  simp only [Option.bind_eq_bind, Option.bind_some] at L0 L1 L2
  unfold i_first
  rw [e1, L0, L1, L2, L3]
  by_cases ha : a = 0
  · rw [if_pos ha, if_pos ha]
    by_cases hb : b = 0
    · rw [if_pos hb, if_pos hb]
      by_cases hc : c = 0
      · rw [if_pos hc, hc]; rfl
      · rw [if_neg hc]; rfl
    · rw [if_neg hb, if_neg hb]; rfl
  · rw [if_neg ha, if_neg ha]; rfl
theorem fzz (A C : Prop) [Decidable A] [Decidable C] (b : Bool) : (if (if A then (0 : Int) else 1) = 0 then (if (if b = true then (0 : Int) else 1) = 0 then (if C then (0 : Int) else 3) else (if b = true then (0 : Int) else 1)) else (if A then (0 : Int) else 1)) = (if A ∧ b = true then (if C then 0 else 3) else 1) := by
  by_cases a : A
  · by_cases c : C
    · cases b <;> simp [a, c]
    · cases b <;> simp [a, c]
  · simp [a]
theorem i_New_eq (x : THeap) (nm : ByteArray) (fs : List ByteArray) (vs : List TValue) (h : THeap.n x ≤ 1048576) (hf : fs.length ≤ 1048576) (hv : vs.length ≤ 1048576) : i_NewRecord x nm fs vs = some (newRec x nm fs vs) := by
  have hl : x.Objects.length ≤ 1048576 := by simp only [THeap.n] at h; omega
  have hfit : i_fitAll x vs = some (if HeapP x ∧ ∀ v ∈ vs, FitP x.Objects v then 0 else 1) := by
    unfold i_fitAll i_ValidRoots i_unless
    rw [i_ValidHeap_eq x h]
    simp only [Option.bind_eq_bind, Option.bind_some]
    by_cases q1 : HeapP x
    · rw [if_pos (decide_eq_true q1), i_fitAll_eq x vs hl (by omega) q1.2.2.2.2.1]
      simp only [Option.bind_some]
      by_cases q2 : ∀ v ∈ vs, FitP x.Objects v
      · rw [if_pos (decide_eq_true q2), if_pos ⟨q1, q2⟩]; rfl
      · rw [if_neg (by rw [decide_eq_false q2]; simp), if_neg (fun q => q2 q.2)]; rfl
    · rw [if_neg (by rw [decide_eq_false q1]; simp), if_neg (fun q => q1 q.1)]; rfl
  have hu : ∀ (b : Bool) (z : Int), i_unless b z = some (if b = true then 0 else z) := by
    intro b z; unfold i_unless; cases b <;> rfl
  have hj : ∀ b : Bool, i_NewRecord_j1 nm fs vs x (THeap.mk 0 []) (TValue.mk 0 0 ByteArray.empty 0) b = some (if (HeapP x ∧ ∀ v ∈ vs, FitP x.Objects v) ∧ b = true then (if vs.length ≤ fs.length then created x (obj nm (fs.map txt) (vs ++ List.replicate (fs.length - vs.length) nulW)) else (h0, v0, 3)) else (h0, v0, 1)) := by
    intro b
    unfold i_NewRecord_j1
    rw [hfit, hu, hu]
    simp only [Option.bind_eq_bind, Option.bind_some, first3]
    have hF : (if (if HeapP x ∧ ∀ v ∈ vs, FitP x.Objects v then (0 : Int) else 1) = 0 then (if (if b = true then (0 : Int) else 1) = 0 then (if decide ((vs.length : Int) ≤ (fs.length : Int)) = true then (0 : Int) else 3) else (if b = true then (0 : Int) else 1)) else (if HeapP x ∧ ∀ v ∈ vs, FitP x.Objects v then (0 : Int) else 1)) = (if (HeapP x ∧ ∀ v ∈ vs, FitP x.Objects v) ∧ b = true then (if vs.length ≤ fs.length then 0 else 3) else 1) := by
      have := fzz (HeapP x ∧ ∀ v ∈ vs, FitP x.Objects v) (vs.length ≤ fs.length) b
      rw [← this]
      by_cases q3 : vs.length ≤ fs.length
      · have q4 : (vs.length : Int) ≤ (fs.length : Int) := by omega
        simp only [if_pos q3, if_pos (decide_eq_true q4)]
      · have q4 : ¬ (vs.length : Int) ≤ (fs.length : Int) := by omega
        simp only [if_neg q3, if_neg (show ¬ decide ((vs.length : Int) ≤ (fs.length : Int)) = true by rw [decide_eq_false q4]; decide)]
    rw [hF]
    by_cases q1 : (HeapP x ∧ ∀ v ∈ vs, FitP x.Objects v) ∧ b = true
    · simp only [if_pos q1]
      by_cases q5 : vs.length ≤ fs.length
      · simp only [if_pos q5]
        rw [if_pos trivial]
        unfold slices_Clone_Value_Value
        rw [chk_pos (show vs.length ≤ most by unfold most; omega)]
        simp only [Option.bind_eq_bind, Option.bind_some]
        have hb := i_build nm fs vs x (THeap.mk 0 []) (TValue.mk 0 0 ByteArray.empty 0) hf q5
        simp only [obj] at hb
        rw [hb]
        simp only [Option.bind_some]
        have hc := i_created_eq x nm (fs.map txt) (vs ++ List.replicate (fs.length - vs.length) nulW) h q1.1.1 (by rw [List.length_map]; omega) (by simp; omega)
        simp only [obj] at hc ⊢
        rw [hc]; rfl
      · simp only [if_neg q5]
        rw [if_neg (show ¬ (3 : Int) = 0 by decide)]
        rfl
    · simp only [if_neg q1]
      rw [if_neg (show ¬ (1 : Int) = 0 by decide)]
      rfl
  unfold i_NewRecord newRec
  rw [i_areFields_eq fs hf]
  simp only [Option.bind_eq_bind, Option.bind_some, i_IsName_eq]
  by_cases q3 : isName nm = true
  · rw [if_pos q3, hj]
    by_cases q4 : FN fs
    · rw [decide_eq_true q4]
      by_cases q1 : HeapP x ∧ ∀ v ∈ vs, FitP x.Objects v
      · rw [if_pos (show (HeapP x ∧ ∀ v ∈ vs, FitP x.Objects v) ∧ true = true from ⟨q1, rfl⟩), if_pos (show (HeapP x ∧ ∀ v ∈ vs, FitP x.Objects v) ∧ isName nm = true ∧ FN fs from ⟨q1, q3, q4⟩)]
      · rw [if_neg (show ¬ ((HeapP x ∧ ∀ v ∈ vs, FitP x.Objects v) ∧ true = true) from fun q => q1 q.1), if_neg (show ¬ ((HeapP x ∧ ∀ v ∈ vs, FitP x.Objects v) ∧ isName nm = true ∧ FN fs) from fun q => q1 q.1)]
    · rw [decide_eq_false q4, if_neg (show ¬ ((HeapP x ∧ ∀ v ∈ vs, FitP x.Objects v) ∧ false = true) from fun q => by cases q.2), if_neg (show ¬ ((HeapP x ∧ ∀ v ∈ vs, FitP x.Objects v) ∧ isName nm = true ∧ FN fs) from fun q => q4 q.2.2)]
  · rw [if_neg q3, hj, if_neg (show ¬ ((HeapP x ∧ ∀ v ∈ vs, FitP x.Objects v) ∧ false = true) from fun q => by cases q.2), if_neg (show ¬ ((HeapP x ∧ ∀ v ∈ vs, FitP x.Objects v) ∧ isName nm = true ∧ FN fs) from fun q => q3 q.2.1)]
theorem lsum_app {α : Type} (f : α → Nat) (a b : List α) : lsum f (a ++ b) = lsum f a + lsum f b := by simp [lsum]
theorem lsum_txt (l : List ByteArray) : lsum TValue.n (l.map txt) = lsum ByteArray.size l := by
  induction l with
  | nil => rfl
  | cons a t ih => rw [List.map_cons, lsum_cons, lsum_cons, ih]; rfl
theorem lsum_nul (k : Nat) : lsum TValue.n (List.replicate k nulW) = 0 := by
  induction k with
  | zero => rfl
  | succ k ih => rw [List.replicate_succ, lsum_cons, ih]; rfl
theorem pure_law (x0 : THeap) (x1 : ByteArray) (x2 : List ByteArray) (x3 : List TValue) (h0' : THeap.n x0 ≤ 1048576) (h1 : x1.size ≤ 1048576) (h2 : x2.length + lsum ByteArray.size x2 ≤ 1048576) (h3 : x3.length + lsum TValue.n x3 ≤ 1048576) (ht : THeap.n x0 + x1.size + (x2.length + lsum ByteArray.size x2) + (x3.length + lsum TValue.n x3) ≤ 1048576) : ∃ r, i_NewRecord x0 x1 x2 x3 = some r ∧ s_NewRecord x0 x1 x2 x3 = some r ∧ THeap.n r.1 ≤ 34359738368 ∧ TValue.n r.2.1 ≤ 34359738368 := by
  refine ⟨_, i_New_eq x0 x1 x2 x3 h0' (by omega) (by omega), s_New_eq x0 x1 x2 x3 h0' (by omega) (by omega), ?_⟩
  have e0 : THeap.n h0 = 0 := rfl
  have e1 : TValue.n v0 = 0 := rfl
  unfold newRec
  split
  · split
    · unfold created
      split
      · simp only [e0, e1]; omega
      · have e2 : TValue.n (TValue.mk 6 0 ByteArray.empty (x0.Next + 1)) = 0 := rfl
        have e3 : TValue.n (TValue.mk 0 0 ByteArray.empty 0) = 0 := rfl
        simp only [e2]
        simp only [THeap.n, List.length_append, List.length_cons, List.length_nil, lsum_app, lsum_cons, lsum_nil, TObject.n, obj, lsum_txt, lsum_nul, e3, List.length_map, List.length_replicate] at h0' ⊢
        omega
    · simp only [e0, e1]; omega
  · simp only [e0, e1]; omega
end Go.Vx.NrZ
