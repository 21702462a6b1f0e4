/-
  An evaluator for the model's code on values, and the proof that what it tells of a call the program does; part 4.
-/
import Derived.Test.YthfkpkfcnnhkeaaGreatVxC
set_option linter.unusedVariables false
set_option linter.unusedSimpArgs false
/-
  Vx, part 52: words for proofs on plain functions: loops over lists.
-/
namespace Go.Vx
set_option linter.unusedVariables false

theorem idx_nat {β : Type} (l : List β) (i : Nat) : idx l (i : Int) = l[i]? := by simp [idx]
theorem idx_eq {β : Type} (l : List β) {i : Int} (h : 0 ≤ i) : idx l i = l[i.toNat]? := by simp [idx, h]
theorem chk_pos {p : Prop} [Decidable p] (h : p) : chk p = some () := if_pos h
theorem app_pos {β : Type} {a b : List β} (h : a.length + b.length ≤ most) : app a b = some (a ++ b) := if_pos h
theorem appB_pos {a b : ByteArray} (h : a.size + b.size ≤ maxInt) : appB a b = some (a ++ b) := if_pos h
theorem w64 {n : Int} (h1 : -9223372036854775808 ≤ n) (h2 : n < 9223372036854775808) : IntKind.wrap .i64 n = n := wrap64 h1 h2
theorem list_ind {α : Type} (xs : List α) (P : Nat → List α → Prop) (h0 : P xs.length []) (h1 : ∀ i a rest, i < xs.length → xs[i]? = some a → xs.drop i = a :: rest → P (i + 1) rest → P i (a :: rest)) : P 0 xs := by
  have key : ∀ (rest : List α) (i : Nat), xs.drop i = rest → i ≤ xs.length → P i rest := by
    intro rest
    induction rest with
    | nil =>
      intro i hd hi
      have : i = xs.length := by
        have := congrArg List.length hd
        simp at this; omega
      subst this; exact h0
    | cons a r ih =>
      intro i hd hi
      have hlt : i < xs.length := by
        have := congrArg List.length hd
        simp at this; omega
      have hg : xs[i]? = some a := by
        have := congrArg List.head? hd
        simpa [List.head?_drop] using this
      have hd2 : xs.drop (i + 1) = r := by
        have := congrArg List.tail hd
        simpa using this
      exact h1 i a r hlt hg hd (ih (i + 1) hd2 hlt)
  exact key xs 0 rfl (Nat.zero_le _)
theorem data_len (s : ByteArray) : s.data.toList.length = s.size := by rw [Array.length_toList]; rfl
/-- Are all such? -/
theorem all_loop {α : Type} (xs : List α) (n : Int) (L : Int → Option (Unit ⊕ Bool)) (P : α → Option Bool) (p : α → Bool)
    (hL : ∀ i, L i = if i < n then (idx xs i >>= fun a => P a >>= fun r => if r = true then L (IntKind.wrap .i64 (i + 1)) else some (.inr false)) else some (.inl ()))
    (hn : n = xs.length) (hs : xs.length ≤ 1099511627776) (hp : ∀ a ∈ xs, P a = some (p a)) : L 0 = if xs.all p = true then some (.inl ()) else some (.inr false) := by
  subst hn
  refine list_ind xs (fun i rest => L (i : Int) = if rest.all p = true then some (.inl ()) else some (.inr false)) ?_ ?_
  · rw [hL, if_neg (by omega)]; rfl
  · intro i a rest hi hg hd ih
    rw [hL, if_pos (by omega), idx_nat, hg]
    have hm : a ∈ xs := by
      obtain ⟨h1, h2⟩ := List.getElem?_eq_some_iff.1 hg
      exact h2 ▸ List.getElem_mem h1
    simp only [Option.bind_eq_bind, Option.bind_some, hp a hm]
    rw [w64 (by omega) (by omega)]
    have ih' : L ((i : Int) + 1) = if rest.all p = true then some (.inl ()) else some (.inr false) := ih
    have hc : (a :: rest).all p = (p a && rest.all p) := List.all_cons
    by_cases hpa : p a = true
    · rw [if_pos hpa, ih']
      by_cases hr : rest.all p = true
      · rw [if_pos hr, if_pos (by rw [hc, hpa, hr]; rfl)]
      · rw [if_neg hr, if_neg (by rw [hc, hpa, Bool.true_and]; exact hr)]
    · rw [if_neg hpa, if_neg (by rw [hc, Bool.eq_false_iff.2 hpa]; simp)]
/-- The first that is such: what is made of it. -/
theorem find_loop {α ρ : Type} (xs : List α) (n : Int) (L : Int → Option (Unit ⊕ ρ)) (p : α → Bool) (g : Int → α → ρ)
    (hL : ∀ i, L i = if i < n then (idx xs i >>= fun a => if p a = true then some (.inr (g i a)) else L (IntKind.wrap .i64 (i + 1))) else some (.inl ()))
    (hn : n = xs.length) (hs : xs.length ≤ 1099511627776) : ∀ j : Nat, (∀ i a, i < j → xs[i]? = some a → p a = false) →
      ((∀ a, xs[j]? = some a → p a = true) → (j < xs.length → ∃ a, xs[j]? = some a ∧ L 0 = some (.inr (g j a))) ∧ (xs.length ≤ j → L 0 = some (.inl ()))) := by
  subst hn
  intro j hj hp
  have key : ∀ i : Nat, i ≤ j → i ≤ xs.length → L 0 = L i := by
    intro i
    induction i with
    | zero => intro _ _; rfl
    | succ i ih =>
      intro h1 h2
      rw [ih (by omega) (by omega), hL (i : Int), if_pos (by omega), idx_nat, List.getElem?_eq_getElem (by omega)]
      have := hj i (xs[i]) (by omega) (List.getElem?_eq_getElem (by omega))
      simp only [Option.bind_eq_bind, Option.bind_some, this]
      rw [w64 (by omega) (by omega)]
      simp
  constructor
  · intro h
    refine ⟨xs[j], List.getElem?_eq_getElem h, ?_⟩
    rw [key j (Nat.le_refl _) (by omega), hL, if_pos (by omega), idx_nat, List.getElem?_eq_getElem h]
    simp [hp _ (List.getElem?_eq_getElem h)]
  · intro h
    rw [key xs.length (by omega) (Nat.le_refl _), hL, if_neg (by omega)]
theorem nodup_get {α : Type} (l : List α) : l.Nodup ↔ ∀ i j : Nat, i < j → j < l.length → l[i]? ≠ l[j]? := by
  rw [List.Nodup, List.pairwise_iff_getElem]
  constructor
  · intro h i j hij hj e
    rw [List.getElem?_eq_getElem hj, List.getElem?_eq_getElem (by omega)] at e
    exact h i j (by omega) hj hij (Option.some.inj e)
  · intro h i j hi hj hij e
    exact h i j hij hj (by rw [List.getElem?_eq_getElem hj, List.getElem?_eq_getElem hi, e])
open Classical in
/-- Does it hold of all, from the j-th on? -/
theorem allP_loop {α ρ : Type} (xs : List α) (L : Int → Option (Unit ⊕ ρ)) (f : ρ) (p : Nat → α → Prop) (j : Nat) (hj : j ≤ xs.length)
    (h1 : ∀ (i : Nat) a, j ≤ i → i < xs.length → xs[i]? = some a → p i a → L i = L ((i : Int) + 1)) (h2 : ∀ (i : Nat) a, j ≤ i → i < xs.length → xs[i]? = some a → ¬ p i a → L i = some (.inr f))
    (h3 : L xs.length = some (.inl ())) : L j = if (∀ (i : Nat) a, j ≤ i → xs[i]? = some a → p i a) then some (.inl ()) else some (.inr f) := by
  have key : ∀ (n i : Nat), i + n = xs.length → j ≤ i → L i = if (∀ (k : Nat) a, i ≤ k → xs[k]? = some a → p k a) then some (.inl ()) else some (.inr f) := by
    intro n
    induction n with
    | zero =>
      intro i hi _
      obtain rfl : i = xs.length := by omega
      rw [h3, if_pos]
      intro k a hk hg
      have := (List.getElem?_eq_some_iff.1 hg).1
      omega
    | succ n ih =>
      intro i hi hji
      have hlt : i < xs.length := by omega
      have hg := List.getElem?_eq_getElem hlt
      by_cases hp : p i xs[i]
      · rw [h1 i _ hji hlt hg hp]
        have := ih (i + 1) (by omega) (by omega)
        rw [show ((i : Int) + 1) = ((i + 1 : Nat) : Int) by omega, this]
        have hiff : (∀ (k : Nat) a, i + 1 ≤ k → xs[k]? = some a → p k a) ↔ (∀ (k : Nat) a, i ≤ k → xs[k]? = some a → p k a) := by
          constructor
          · intro h k a hk hka
            rcases Nat.eq_or_lt_of_le hk with e | e
            · subst e; rw [hg] at hka; cases hka; exact hp
            · exact h k a e hka
          · intro h k a hk hka; exact h k a (by omega) hka
        by_cases hall : ∀ (k : Nat) a, i ≤ k → xs[k]? = some a → p k a
        · rw [if_pos hall, if_pos (hiff.2 hall)]
        · rw [if_neg hall, if_neg (fun h => hall (hiff.1 h))]
      · rw [h2 i _ hji hlt hg hp, if_neg]
        intro h
        exact hp (h i _ (Nat.le_refl _) hg)
  exact key (xs.length - j) j (by omega) (Nat.le_refl _)
/-! ### The order of texts; places in sorted lists -/
def ltB (a b : ByteArray) : Bool := Op.bytesLess a.toList b.toList
theorem bl_irrefl : ∀ l : List UInt8, Op.bytesLess l l = false
  | [] => rfl
  | a :: r => by
    have h : ¬ a < a := by rw [UInt8.lt_iff_toNat_lt]; omega
    simp [Op.bytesLess, bl_irrefl r, h]
theorem bl_trans : ∀ {a b c : List UInt8}, Op.bytesLess a b = true → Op.bytesLess b c = true → Op.bytesLess a c = true
  | _, _, [], _, h => by simp [Op.bytesLess] at h
  | _, [], _ :: _, h, _ => by simp [Op.bytesLess] at h
  | [], _ :: _, _ :: _, _, _ => rfl
  | a :: x, b :: y, c :: z, h1, h2 => by
    simp only [Op.bytesLess, Bool.or_eq_true, Bool.and_eq_true, decide_eq_true_eq, beq_iff_eq] at h1 h2 ⊢
    rcases h1 with h1 | ⟨e1, h1⟩
    · rcases h2 with h2 | ⟨e2, h2⟩
      · left; rw [UInt8.lt_iff_toNat_lt] at *; omega
      · subst e2; exact .inl h1
    · subst e1
      rcases h2 with h2 | ⟨e2, h2⟩
      · exact .inl h2
      · exact .inr ⟨e2, bl_trans h1 h2⟩
theorem bl_tri : ∀ {a b : List UInt8}, Op.bytesLess a b = false → Op.bytesLess b a = false → a = b
  | [], [], _, _ => rfl
  | [], _ :: _, h, _ => by simp [Op.bytesLess] at h
  | _ :: _, [], _, h => by simp [Op.bytesLess] at h
  | a :: x, b :: y, h1, h2 => by
    simp only [Op.bytesLess, Bool.or_eq_false_iff, Bool.and_eq_false_iff, decide_eq_false_iff_not] at h1 h2
    have e : a = b := by
      have h3 := h1.1; have h4 := h2.1
      rw [UInt8.lt_iff_toNat_lt] at h3 h4
      exact UInt8.toNat.inj (by omega)
    subst e
    rw [bl_tri (h1.2.resolve_left (by simp)) (h2.2.resolve_left (by simp))]
theorem toList_inj {a b : ByteArray} (h : a.toList = b.toList) : a = b := by
  rw [ByteArray.toList_eq a, ByteArray.toList_eq b] at h
  obtain ⟨⟨x⟩⟩ := a
  obtain ⟨⟨y⟩⟩ := b
  simp only at h
  subst h; rfl
theorem ltB_irrefl (a : ByteArray) : ltB a a = false := bl_irrefl _
theorem ltB_trans {a b c : ByteArray} (h1 : ltB a b = true) (h2 : ltB b c = true) : ltB a c = true := bl_trans h1 h2
theorem ltB_tri {a b : ByteArray} (h1 : ltB a b = false) (h2 : ltB b a = false) : a = b := toList_inj (bl_tri h1 h2)
theorem ltB_asymm {a b : ByteArray} (h : ltB a b = true) : ltB b a = false := by
  cases h2 : ltB b a with
  | false => rfl
  | true => have := ltB_trans h h2; rw [ltB_irrefl] at this; cases this
def Srt {α : Type} (nm : α → ByteArray) (xs : List α) : Prop := ∀ (i : Nat) a b, xs[i]? = some a → xs[i + 1]? = some b → ltB (nm a) (nm b) = true
theorem Srt.tail {α : Type} {nm : α → ByteArray} {a : α} {r : List α} (h : Srt nm (a :: r)) : Srt nm r := fun i x y h1 h2 => h (i + 1) x y h1 h2
theorem Srt.head {α : Type} {nm : α → ByteArray} : ∀ {r : List α} {a : α}, Srt nm (a :: r) → ∀ b ∈ r, ltB (nm a) (nm b) = true
  | c :: r, a, h, b, hb => by
    have h0 := h 0 a c rfl rfl
    rcases List.mem_cons.1 hb with e | e
    · subst e; exact h0
    · exact ltB_trans h0 (Srt.head h.tail b e)
theorem Srt.pair {α : Type} {nm : α → ByteArray} : ∀ {xs : List α}, Srt nm xs ↔ xs.Pairwise fun a b => ltB (nm a) (nm b) = true
  | [] => ⟨fun _ => .nil, fun _ i a b h => by cases h⟩
  | a :: r => by
    constructor
    · intro h; exact .cons (fun b hb => h.head b hb) (Srt.pair.1 h.tail)
    · intro h
      cases h with
      | cons h1 h2 =>
        intro i x y hx hy
        cases i with
        | zero =>
          cases hx
          exact h1 y (List.mem_of_getElem? hy)
        | succ i => exact Srt.pair.2 h2 i x y hx hy
/-- Where a name is, or would be. -/
def pos {α : Type} (nm : α → ByteArray) (xs : List α) (x : ByteArray) : Nat := (xs.takeWhile fun a => ltB (nm a) x).length
theorem pos_le {α : Type} (nm : α → ByteArray) (xs : List α) (x : ByteArray) : pos nm xs x ≤ xs.length := by
  unfold pos
  have := congrArg List.length (List.takeWhile_append_dropWhile (p := fun a => ltB (nm a) x) (l := xs))
  rw [List.length_append] at this; omega
theorem pos_lt {α : Type} {nm : α → ByteArray} : ∀ {xs : List α}, Srt nm xs → ∀ {x : ByteArray} {i : Nat} {a : α}, xs[i]? = some a → (ltB (nm a) x = true ↔ i < pos nm xs x)
  | [], _, x, i, a, h => by cases h
  | b :: r, hS, x, i, a, h => by
    unfold pos
    rw [List.takeWhile_cons]
    cases hb : ltB (nm b) x with
    | true =>
      simp only [if_true, List.length_cons]
      cases i with
      | zero => cases h; simp [hb]
      | succ i =>
        have := pos_lt hS.tail (x := x) (i := i) (a := a) h
        unfold pos at this
        rw [this]; omega
    | false =>
      simp only [Bool.false_eq_true, if_false, List.length_nil, Nat.not_lt_zero, iff_false]
      intro ha
      cases i with
      | zero => cases h; rw [hb] at ha; cases ha
      | succ i =>
        have := hS.head a (List.mem_of_getElem? h)
        rw [ltB_trans this ha] at hb; cases hb
theorem mid_eq (a b : Nat) (h : a + b < 4611686018427387904) : IntKind.wrap .i64 ((IntKind.wrap .u64 (IntKind.wrap .i64 ((a : Int) + b))).fdiv (2 ^ (min 1 (IntKind.bits .u64)))) = (((a + b) / 2 : Nat) : Int) := by
  rw [w64 (n := (a : Int) + b) (by omega) (by omega)]
  have e1 : IntKind.wrap .u64 ((a : Int) + b) = (a : Int) + b := by
    simp [IntKind.wrap, IntKind.signed, IntKind.bits]; omega
  have e2 : (2 : Int) ^ (min 1 (IntKind.bits .u64)) = 2 := rfl
  rw [e1, e2, Int.fdiv_eq_ediv_of_nonneg _ (by omega)]
  have e3 : ((a : Int) + b) / 2 = (((a + b) / 2 : Nat) : Int) := by omega
  rw [e3, w64 (by omega) (by omega)]
/-- The search by halves. -/
theorem half_loop {α : Type} (nm : α → ByteArray) (xs : List α) (hx : xs.length ≤ 1073741824) (hS : Srt nm xs) (x : ByteArray) (L : Int → Int → Option Int)
    (hL : ∀ (lo hi : Nat), L lo hi = if (lo : Int) < hi then (idx xs (IntKind.wrap .i64 ((IntKind.wrap .u64 (IntKind.wrap .i64 ((lo : Int) + hi))).fdiv (2 ^ (min 1 (IntKind.bits .u64))))) >>= fun a => if ltB (nm a) x = true then L (IntKind.wrap .i64 (IntKind.wrap .i64 ((IntKind.wrap .u64 (IntKind.wrap .i64 ((lo : Int) + hi))).fdiv (2 ^ (min 1 (IntKind.bits .u64)))) + 1)) hi else L lo (IntKind.wrap .i64 ((IntKind.wrap .u64 (IntKind.wrap .i64 ((lo : Int) + hi))).fdiv (2 ^ (min 1 (IntKind.bits .u64)))))) else some (lo : Int)) :
    L 0 xs.length = some ((pos nm xs x : Nat) : Int) := by
  have key : ∀ (n lo hi : Nat), hi - lo ≤ n → lo ≤ pos nm xs x → pos nm xs x ≤ hi → hi ≤ xs.length → L lo hi = some ((pos nm xs x : Nat) : Int) := by
    intro n
    induction n with
    | zero =>
      intro lo hi h1 h2 h3 h4
      rw [hL, if_neg (by omega)]
      exact congrArg some (by omega)
    | succ n ih =>
      intro lo hi h1 h2 h3 h4
      rw [hL]
      by_cases hlt : lo < hi
      · rw [if_pos (by omega), mid_eq lo hi (by omega), idx_nat, List.getElem?_eq_getElem (show (lo + hi) / 2 < xs.length by omega)]
        simp only [Option.bind_eq_bind, Option.bind_some]
        have hq := pos_lt hS (x := x) (List.getElem?_eq_getElem (show (lo + hi) / 2 < xs.length by omega))
        by_cases hc : ltB (nm xs[(lo + hi) / 2]) x = true
        · rw [if_pos hc, w64 (by omega) (by omega)]
          have := hq.1 hc
          exact ih ((lo + hi) / 2 + 1) hi (by omega) (by omega) h3 h4
        · rw [if_neg hc]
          have : ¬ (lo + hi) / 2 < pos nm xs x := fun q => hc (hq.2 q)
          exact ih lo ((lo + hi) / 2) (by omega) h2 (by omega) (by omega)
      · rw [if_neg (by omega)]
        exact congrArg some (by omega)
  exact key xs.length 0 xs.length (by omega) (Nat.zero_le _) (pos_le ..) (Nat.le_refl _)
theorem find_pos {α : Type} {nm : α → ByteArray} : ∀ {xs : List α}, Srt nm xs → ∀ (x : ByteArray), (xs.find? fun a => decide (nm a = x)) = (xs[pos nm xs x]?).bind fun a => if nm a = x then some a else none
  | [], _, x => rfl
  | b :: r, hS, x => by
    unfold pos
    rw [List.takeWhile_cons, List.find?_cons]
    cases hb : ltB (nm b) x with
    | true =>
      have : ¬ nm b = x := fun e => by rw [e, ltB_irrefl] at hb; cases hb
      simp only [decide_eq_false this, if_true, List.length_cons, List.getElem?_cons_succ]
      exact find_pos hS.tail x
    | false =>
      simp only [Bool.false_eq_true, if_false, List.length_nil, List.getElem?_cons_zero, Option.bind_some]
      by_cases he : nm b = x
      · simp [he]
      · simp only [decide_eq_false he, if_neg he]
        rw [List.find?_eq_none]
        intro a ha
        have h1 := hS.head a ha
        simp only [decide_eq_true_eq]
        intro e
        rw [← e, h1] at hb; cases hb
end Go.Vx
