/-
  An evaluator for the model's code on values, and the proof that what it tells of a call the program does; part 7.
-/
import Derived.Test.YthppbplieikhkaaGreatDoorVxE
import Derived.Shelf.Strings.Split
import Derived.Test.YthppbplieikhkaaGreatDoorVxF
set_option linter.unusedVariables false
set_option linter.unusedSimpArgs false
namespace Go.Vx
open Go.Shelf Go.Proofs
set_option linter.unusedVariables false
set_option linter.unusedSimpArgs false
def zoS (s p : ByteArray) : Option Int :=
  match p.data.toList with
  | [c] => some (Lib.indexByte s.data.toList c)
  | _ => none
def zsP (s p : ByteArray) : Option Int :=
  match p.data.toList with
  | [c] => some (Lib.countByte s.data.toList c)
  | _ => none
def zmw (s p : ByteArray) : Option (List ByteArray) :=
  match p.data.toList with
  | [_] => if s.size < 4294967281 then some (Lib.splitB p 0 (Lib.countB s p) s) else none
  | _ => none
def zju : List D → Option (D × List D)
  | [.str s, .str p] =>
    match p.data.toList with
    | [c] => some (.int .i64 (Lib.indexByte s.data.toList c), [])
    | _ => none
  | _ => none
def zpN : List D → Option (D × List D)
  | [.str s, .str p] =>
    match p.data.toList with
    | [c] => some (.int .i64 (Lib.countByte s.data.toList c), [])
    | _ => none
  | _ => none
def zlW : List D → Option (D × List D)
  | [.str s, .str p] =>
    match p.data.toList with
    | [_] => if s.size < 4294967281 then some (.sl true 1 ((Lib.splitB p 0 (Lib.countB s p) s).map D.str), []) else none
    | _ => none
  | _ => none
theorem znH {s p : ByteArray} {r : Int} (h : zoS s p = some r) : zju [.str s, .str p] = some (.int .i64 r, []) := by
  unfold zoS at h
  unfold zju
  split at h
  · rename_i c hc
    cases h
    simp only [hc]
  · cases h
theorem zvn {s p : ByteArray} {r : Int} (h : zsP s p = some r) : zpN [.str s, .str p] = some (.int .i64 r, []) := by
  unfold zsP at h
  unfold zpN
  split at h
  · rename_i c hc
    cases h
    simp only [hc]
  · cases h
theorem znI {s p : ByteArray} {r : List ByteArray} (h : zmw s p = some r) : zlW [.str s, .str p] = some (.sl true 1 (r.map D.str), []) := by
  unfold zmw at h
  unfold zlW
  split at h
  · rename_i c hc
    split at h
    · rename_i hs
      cases h
      simp only [hc, if_pos hs]
    · cases h
  · cases h
section
variable {P : Program} {ρ : Ren}
theorem zpO {p : ByteArray} {c : UInt8} (h : p.data.toList = [c]) : p = ⟨#[c]⟩ := by
  cases p with
  | mk d => cases d with | mk l => simp at h; subst h; rfl
theorem zoT {f : Nat} {s p : ByteArray} {n : Int} (h : ∀ w, Calls P f #[.string s, .string p] w fun e w' => e = .returned (.int .i64 n) ∧ w' = w) (sto : List (List D)) : zdc P [] f [.str s, .str p] sto (.int .i64 n, [], sto) := by
  intro w I ι vs Fs Gs hr hs hn hap hI
  cases hr with
  | cons v _ F vs1 _ Fs1 hv hr1 =>
    cases hr1 with
    | cons v2 _ F2 vs2 _ Fs2 hv2 hr2 =>
      cases hr2
      cases hv
      cases hv2
      refine (h w).mono ?_
      rintro e w2 ⟨rfl, rfl⟩
      refine ⟨_, rfl, I, ι, [], [], Gs, Ext.refl _ _, fun _ h => h, fun b hb => ⟨hI b hb, .inl hb⟩, .int .., .nil, hs, fun _ _ h => h, ?_, ?_⟩
      · simpa using hn
      · intro b hb
        have := hap b (by simpa using hb)
        exact ⟨this.1, .inl (by simpa using hb), this.2⟩
theorem zzC (L : Lays.n143 P ρ) {args : List D} {r : D × List D} (h : zju args = some r) (sto : List (List D)) : zdc P [] (ρ.f 143) args sto (r.1, r.2, sto) := by
  unfold zju at h
  split at h
  · rename_i s p
    split at h
    · rename_i c hc
      cases h
      obtain rfl := zpO hc
      exact zoT (Any.strings_Index_one L s c) sto
    · cases h
  · cases h
theorem zsQ (L : Lays.n219 P ρ) {args : List D} {r : D × List D} (h : zju args = some r) (sto : List (List D)) : zdc P [] (ρ.f 219) args sto (r.1, r.2, sto) := by
  unfold zju at h
  split at h
  · rename_i s p
    split at h
    · rename_i c hc
      cases h
      obtain rfl := zpO hc
      exact zoT (Any.stringslite_Index_one L s c) sto
    · cases h
  · cases h
theorem zzD (L : Lays.n138 P ρ) {args : List D} {r : D × List D} (h : zpN args = some r) (sto : List (List D)) : zdc P [] (ρ.f 138) args sto (r.1, r.2, sto) := by
  unfold zpN at h
  split at h
  · rename_i s p
    split at h
    · rename_i c hc
      cases h
      obtain rfl := zpO hc
      exact zoT (Any.strings_Count_one L s c) sto
    · cases h
  · cases h
theorem zsR (L : Lays.n146 P ρ) (hi9 : (P.info? (ρ.t 9)).map (fun i => (i.zero, i.size, i.bytes)) = some (some (.string ByteArray.empty), 1, 16)) (s : ByteArray) (c : UInt8) (w : World) (hs : s.size < 4294967281) :
    Calls P (ρ.f 146) #[.string s, .string ⟨#[c]⟩] w fun e w' =>
      e = .returned (.slice (some ⟨w.heap.size, 0, none⟩) (Lib.countB s ⟨#[c]⟩ + 1) (Lib.countB s ⟨#[c]⟩ + 1)) ∧ w' = w.alloc (.cells ((Lib.splitB ⟨#[c]⟩ 0 (Lib.countB s ⟨#[c]⟩) s).map Value.string).toArray (ρ.t 9)) := by
  have h1 : 1 ≤ (⟨#[c]⟩ : ByteArray).size := Nat.le_refl 1
  have hle := Lib.countB_le ⟨#[c]⟩ h1 s.size s (Nat.le_refl _)
  have hlen := Lib.splitB_all ⟨#[c]⟩ h1 0 _ s rfl
  have hC : Calls P (ρ.f 138) #[.string s, .string ⟨#[c]⟩] w fun e w' => e = .returned (.int .i64 (Lib.countB s ⟨#[c]⟩)) ∧ w' = w := by
    refine (Any.strings_Count_one { L with } s c w).mono fun e w' ⟨he, hw⟩ => ⟨?_, hw⟩
    rw [he]
    show _ = Ending.returned (Value.int .i64 ((Lib.count s.data.toList [c] : Nat) : Int))
    rw [Lib.count_one]
    rfl
  have hI : ∀ (x : ByteArray) (cc : Array Value), x.size ≤ s.size → Calls P (ρ.f 143) #[.string x, .string ⟨#[c]⟩] (w.alloc (.cells cc (ρ.t 9))) fun e w' => e = .returned (.int .i64 (Lib.indexB x ⟨#[c]⟩)) ∧ w' = w.alloc (.cells cc (ρ.t 9)) := by
    intro x cc _
    refine (Any.strings_Index_one { L with } x c _).mono fun e w' ⟨he, hw⟩ => ⟨?_, hw⟩
    rw [he]
    show _ = Ending.returned (Value.int .i64 (Lib.index x.data.toList [c]))
    rw [Lib.index_one]
  have q := Any.strings_genSplit_core { L with } hi9 s ⟨#[c]⟩ 0 (-1) (Lib.countB s ⟨#[c]⟩ + 1) w hs h1 (Nat.zero_le _) hI hC (by decide) (by decide) (by rw [if_pos (by decide)]; omega)
  clear hI hC
  rw [Nat.add_sub_cancel, hlen] at q
  have e2 : Lib.cellsOf (Lib.splitB ⟨#[c]⟩ 0 (Lib.countB s ⟨#[c]⟩) s) (Lib.countB s ⟨#[c]⟩ + 1) = ((Lib.splitB ⟨#[c]⟩ 0 (Lib.countB s ⟨#[c]⟩) s).map Value.string).toArray := by rw [← hlen]; exact Lib.cellsOf_full _
  rw [e2] at q
  have t3 := L.t3; have t9 := L.t9; have t31 := L.t31
  have a3 := L.a3; have a9 := L.a9; have a31 := L.a31
  have z3 := L.z3; have v3 := L.v3; have z9 := L.z9; have v9 := L.v9; have z31 := L.z31; have v31 := L.v31
  have e221 : ∀ args w, (callFunc (ρ.f 221) args).run P w = .ok (.enter (ρ.f 221) args) w := enters_of L.f221 (by kernel_rfl) rfl
  go_enter L.f146, Body.n146_ntmps ρ
  go_wp2_with (go_at_fn (ρ.f 221); refine q.mono ?_; rintro e w' ⟨rfl, hw⟩; rw [hw])
  go_ret
  exact ⟨rfl, rfl⟩
theorem zlX (w : World) (I : Nat → Prop) (ι : List Nat) : ∀ (ts : List ByteArray), RepL w I ι (ts.map Value.string) (zah (ts.map D.str)) []
  | [] => .nil _
  | t :: r => .cons _ _ _ [] _ _ [] (.str ..) (zlX w I ι r)
theorem zuD (L : Lays.n146 P ρ) (hi9 : (P.info? (ρ.t 9)).map (fun i => (i.zero, i.size, i.bytes)) = some (some (.string ByteArray.empty), 1, 16)) {args : List D} {r : D × List D} (h : zlW args = some r) (sto : List (List D)) :
    zdc P [] (ρ.f 146) args sto (r.1, r.2, sto) := by
  unfold zlW at h
  split at h
  · rename_i s p
    split at h
    · rename_i c hc
      split at h
      · rename_i hsz
        cases h
        obtain rfl := zpO hc
        intro w I ι vs Fs Gs hr hs hn hap hI
        cases hr with
        | cons v _ F vs1 _ Fs1 hv hr1 =>
          cases hr1 with
          | cons v2 _ F2 vs2 _ Fs2 hv2 hr2 =>
            cases hr2
            cases hv
            cases hv2
            refine (zsR L hi9 s c w hsz).mono ?_
            rintro e w2 ⟨rfl, rfl⟩
            have hlen := Lib.splitB_all ⟨#[c]⟩ (Nat.le_refl 1) 0 _ s rfl
            generalize Lib.splitB ⟨#[c]⟩ 0 (Lib.countB s ⟨#[c]⟩) s = ps at hlen
            generalize Lib.countB s ⟨#[c]⟩ = N at hlen
            have hext : Ext (· ∈ ([[], []] : List (List Nat)).flatten ++ Gs.flatten) w (w.alloc (.cells (ps.map Value.string).toArray (ρ.t 9))) := Ext.alloc _ w _
            have hsize : (w.alloc (.cells (ps.map Value.string).toArray (ρ.t 9))).heap.size = w.heap.size + 1 := by simp
            have hnew : (w.alloc (.cells (ps.map Value.string).toArray (ρ.t 9))).heap[w.heap.size]? = some (.cells (ps.map Value.string).toArray (ρ.t 9) (0, 0)) := heap_alloc_new w _
            refine ⟨_, rfl, I, ι, [w.heap.size], [], Gs, hext, fun _ h => h, fun b hb => ⟨by rw [hsize]; exact Nat.lt_succ_of_lt (hI b hb), .inl hb⟩, ?_, .nil, ?_, fun _ _ h => h, ?_, ?_⟩
            · refine .own _ _ _ _ _ _ _ (ps.map Value.string) (ρ.t 9) _ _ (by rw [List.length_map, hlen]) hnew (by simp [hlen]) (Nat.le_refl _) ?_ ?_ (zlX _ _ _ ps) ?_
              · intro j u hj
                simp only [World.cell?, hnew, Option.isSome_none, Bool.false_eq_true, if_false, Nat.zero_add]
                simpa using hj
              · intro x hx
                obtain ⟨_, _, rfl⟩ := List.mem_map.1 hx
                rfl
              · intro x hx
                obtain ⟨_, _, rfl⟩ := List.mem_map.1 hx
                rfl
            · exact zjY.ext hs (Ext.alloc (fun _ => False) w _) (fun x hx => ⟨hI x hx, fun e => e⟩) (fun x hx => ⟨(hap x (by simpa using hx)).2, fun e => e⟩)
            · have hn' : Gs.flatten.Nodup := by simpa using hn
              simp only [List.flatten_nil, List.nil_append, List.singleton_append]
              refine List.nodup_cons.2 ⟨fun hb => ?_, hn'⟩
              exact absurd (hap _ (by simpa using hb)).2 (Nat.lt_irrefl _)
            · intro b hb
              simp only [List.flatten_nil, List.nil_append, List.singleton_append] at hb
              rcases List.mem_cons.1 hb with rfl | hb
              · exact ⟨fun hi => absurd (hI _ hi) (Nat.lt_irrefl _), .inr (Nat.le_refl _), by rw [hsize]; exact Nat.lt_succ_self _⟩
              · have := hap b (by simpa using hb)
                exact ⟨this.1, .inl (by simpa using hb), by rw [hsize]; exact Nat.lt_succ_of_lt this.2⟩
      · cases h
    · cases h
  · cases h
end
end Go.Vx
