/-
  An evaluator for the model's code on values, and the proof that what it tells of a call the program does; part 4.
-/
import Derived.Test.YthppbplieikhkaaGreatDoorVxC
import Derived.OpenShut
import Derived.WideShapes
set_option linter.unusedVariables false
set_option linter.unusedSimpArgs false
namespace Go.Vx
set_option linter.unusedVariables false
abbrev Z : SV := .d .dead
theorem zvi {n : Int} (h1 : -9223372036854775808 ≤ n) (h2 : n < 9223372036854775808) : IntKind.wrap .i64 n = n := by
 simp [IntKind.wrap, IntKind.signed, IntKind.bits]; omega
def lsum {α : Type} (f : α → Nat) (xs : List α) : Nat := (xs.map f).sum
theorem zeG {α : Type} (f : α → Nat) : lsum f [] = 0 := rfl
theorem zao {α : Type} (f : α → Nat) (x : α) (xs : List α) : lsum f (x :: xs) = f x + lsum f xs := by simp [lsum]
def zas {α : Type} (f : α → Int → Int) : List α → Int → Int
 | [], k => k
 | x :: r, k => zas f r (f x k)
def mkL {α : Type} (mk : α → Int → α) (nx : α → Int → Int) : List α → Int → List α
 | [], _ => []
 | x :: r, k => mk x k :: mkL mk nx r (nx x k)
theorem zwg {α : Type} (mk : α → Int → α) (nx : α → Int → Int) : ∀ (xs : List α) (k : Int), (mkL mk nx xs k).length = xs.length
 | [], _ => rfl
 | x :: r, k => by simp only [mkL, List.length_cons, zwg mk nx r]
theorem zby {α : Type} {f : α → Int → Int} {m : α → Nat} (h : ∀ x k, f x k = k + m x) : ∀ (xs : List α) (k : Int), zas f xs k = k + lsum m xs
 | [], k => by simp [zas, zeG]
 | x :: r, k => by rw [zas, h, zby h r, zao]; omega
theorem zec {α : Type} (xs : List α) (k : Int) : zas (fun _ k => k + 1) xs k = k + lsum (fun _ => 1) xs := zby (fun _ _ => rfl) xs k
theorem zdd {α : Type} {m n : α → Nat} (h : ∀ x, m x ≤ 16 + 16 * n x) (xs : List α) : lsum m xs ≤ 16 * (xs.length + lsum n xs) := by
 induction xs with
 | nil => simp [zeG]
 | cons x r ih => rw [zao, zao, List.length_cons]; have := h x; omega
theorem zoL {α : Type} (n : α → Nat) (xs : List α) : lsum (fun _ => 1) xs ≤ 16 * (xs.length + lsum n xs) := zdd (fun _ => by omega) xs
def digs : Nat → Nat → ByteArray → ByteArray
 | 0, _, acc => acc
 | f + 1, k, acc => if k = 0 then acc else digs f (k / 10) (⟨#[(48 + k % 10).toUInt8]⟩ ++ acc)
def mt (k : Int) : ByteArray := if k ≤ 0 then ⟨#[109, 48]⟩ else ⟨#[109]⟩ ++ digs k.toNat k.toNat ⟨#[]⟩
theorem zbl {α : Type} (f : α → D) (pre : List α) (x : α) (r : List D) : (pre ++ [x]).map f ++ r = pre.map f ++ f x :: r := by simp
theorem decT {p : Prop} [Decidable p] (h : p) : decide p = true := decide_eq_true h
theorem decF {p : Prop} [Decidable p] (h : ¬ p) : decide p = false := decide_eq_false h
theorem ifT {α : Type} {p : Prop} [Decidable p] (h : p) (a b : α) : (if p then a else b) = a := if_pos h
theorem ifF {α : Type} {p : Prop} [Decidable p] (h : ¬ p) (a b : α) : (if p then a else b) = b := if_neg h
theorem zwh {α : Type} (f : α → D) (pre : List α) (v : D) (r : List D) : (pre.map f ++ v :: r)[pre.length]? = some v := by
 rw [List.getElem?_append_right (by simp)]; simp
theorem zwi {α : Type} (f : α → D) (pre : List α) (v u : D) (r : List D) : (pre.map f ++ v :: r).set pre.length u = pre.map f ++ u :: r := by
 induction pre with
 | nil => rfl
 | cons x p ih => simp [ih]
theorem zwj {α : Type} (f : α → D) (pre : List α) (v : D) (r : List D) : (pre.map f ++ v :: r).length = pre.length + (r.length + 1) := by simp
theorem zwk {α : Type} (f : α → D) (pre : List α) : (pre.map f ++ []).length = pre.length := by simp
theorem zzO {α : Type} (f : α → D) (pre : List α) : (pre.map f ++ ([] : List D)).length = pre.length := by simp
theorem zbR {α : Type} {f g : α → D} (h : ∀ x, (f x).freeze = g x) (xs : List α) : zaj (xs.map f) = xs.map g := by
 induction xs with
 | nil => rfl
 | cons x r ih => simp [zaj, h, ih]
theorem zdt {α : Type} {f g : α → D} (h : ∀ x, (f x).freeze = g x) (xs : List α) (r : List D) : zaj (xs.map f ++ r) = xs.map g ++ zaj r := by
 induction xs with
 | nil => rfl
 | cons x r ih => simp [zaj, h, ih]
theorem zdG {α : Type} {f : α → D} (h : ∀ x, (f x).noS = true) (xs : List α) : noSL (xs.map f) = true := by
 induction xs with
 | nil => rfl
 | cons x r ih => simp [noSL, h, ih]
theorem zrr (z : D) (n : Nat) : (zdf z n).length = n := by
 induction n with
 | zero => rfl
 | succ n ih => simp [zdf, ih]
theorem zoM (xs : List ByteArray) : zaj (xs.map D.str) = xs.map D.str := zbR (fun _ => rfl) xs
theorem D.strFrzA (xs : List ByteArray) (r : List D) : zaj (xs.map D.str ++ r) = xs.map D.str ++ zaj r := zdt (fun _ => rfl) xs r
theorem D.intFrzA (xs : List Int) (r : List D) : zaj (xs.map (D.int .i64) ++ r) = xs.map (D.int .i64) ++ zaj r := zdt (fun _ => rfl) xs r
theorem zoN (xs : List ByteArray) : noSL (xs.map D.str) = true := zdG (fun _ => rfl) xs
theorem zwl (xs : List Int) : zaj (xs.map (D.int .i64)) = xs.map (D.int .i64) := zbR (fun _ => rfl) xs
theorem zwm (xs : List Int) : noSL (xs.map (D.int .i64)) = true := zdG (fun _ => rfl) xs
theorem zvj (n : Nat) : ((0 : Int) ≤ (n : Int)) = True := by simp
theorem zgE (a : Int) : decide (a = a) = true := by simp
theorem znx (a : ByteArray) : decide (a = a) = true := by simp
theorem zzY (a b : Nat) : ((a : Int) < (b : Int)) = (a < b) := by simp
abbrev px := And.intro @zwh <| And.intro @zwi <| And.intro @zwj <| And.intro @zwk <| And.intro zoM <| And.intro zoN <| And.intro zwl <| And.intro zwm <| And.intro zvj <| And.intro zgE <| And.intro znx <| And.intro @zvi <| And.intro @decT <| And.intro @decF @Int.toNat_natCast
abbrev fx := And.intro @Bool.false_eq_true <| And.intro @and_true <| And.intro @true_and <| And.intro @and_false <| And.intro @false_and <| And.intro @and_self <| And.intro @or_true <| And.intro @true_or <| And.intro @or_false <| And.intro @false_or <| And.intro @not_true_eq_false <| And.intro @not_false_eq_true @ne_eq.{1}
end Go.Vx
namespace Go.Vx
set_option linter.unusedVariables false
set_option linter.unusedSimpArgs false
theorem zhL {Ex : Nat → List D → Prop} {α : Type} (f : α → D) (n : α → Nat) (E : Ty) (h : ∀ cs, zbS Ex E cs → ∃ y, zdj E cs = f y ∧ n y + 1 ≤ (zdj E cs).bulk) : ∀ (xs : List D), (∀ x ∈ xs, ∃ cs, x = zdj E cs ∧ zbS Ex E cs) →
  ∃ ys : List α, xs = ys.map f ∧ ys.length + lsum n ys ≤ zbT xs
 | [], _ => ⟨[], rfl, by simp [zeG, zbT]⟩
 | x :: xs, hx => by
  obtain ⟨cs, h1, h2⟩ := hx x (List.mem_cons_self ..)
  obtain ⟨y, h3, h4⟩ := h cs h2
  obtain ⟨ys, h5, h6⟩ := zhL f n E h xs (fun z hz => hx z (List.mem_cons_of_mem _ hz))
  refine ⟨y :: ys, by rw [h1, h3, h5]; rfl, ?_⟩
  rw [List.length_cons, zao, zbT]
  rw [h1]
  omega
theorem zsF {Ex : Nat → List D → Prop} (cs : List D) (h : zbS Ex .str cs) : ∃ y : ByteArray, zdj .str cs = D.str y ∧ y.size + 1 ≤ (zdj .str cs).bulk := by
 simp only [zbS] at h
 obtain ⟨s, rfl⟩ := h
 exact ⟨s, rfl, by simp [zdj, D.bulk]⟩
theorem zzZ {Ex : Nat → List D → Prop} (k : IntKind) (cs : List D) (h : zbS Ex (.int k) cs) : ∃ y : Int, zdj (.int k) cs = D.int k y ∧ (fun _ : Int => 0) y + 1 ≤ (zdj (.int k) cs).bulk := by
 simp only [zbS] at h
 obtain ⟨s, rfl, _⟩ := h
 exact ⟨s, rfl, by simp [zdj, D.bulk]⟩
section
variable {H : Type} {enc : TypeId × Value → H} {P : Program} {W : World}
theorem zrs {ext : TypeId → Option Nat} {Ex : Nat → List D → Prop} (hex : ExOK P ext Ex) {ub : DataW H → Nat} (hub : UB ub) {t : TypeId} {fs : Array Field} {base : Nat} {ts : List Ty} {v : Value} {d : DataW H} {ps : List MemPlace} (hu : P.underlying t = some (.struct fs)) (hty : tyOf P ext 20 t = some (.st ts))
  (hok : Value.okWide P W .any base t v) (h : DataW.Trod enc P W 0 (fun _ => true) true t v d ps) : ∃ ds, Rep W (Old W) [] v (.agg ds) [] ∧ zbS Ex (.st ts) ds ∧ zbT ds ≤ ub d := by
 obtain ⟨cs, rfl, _⟩ := WideShapes.okWide_struct hu hok
 obtain ⟨fuel, hf⟩ := h
 obtain ⟨ds, g1, g2, g3, g4, g5⟩ := zfF hex hub fuel 20 t _ _ _ hty hf
 have g1' : RepL W (Old W) [] cs.toList ds [] := g1
 refine ⟨ds, ?_, g3, ?_⟩
 ·have := Rep.agg (w := W) (I := Old W) [] cs.toList ds [] g1' g2
  simpa using this
 ·simp only [zgd] at g5; omega
theorem zAa {ext : TypeId → Option Nat} {Ex : Nat → List D → Prop} (hex : ExOK P ext Ex) {ub : DataW H → Nat} (hub : UB ub) {t : TypeId} {fs : Array Field} {base : Nat} {i z : Nat} {v : Value} {d : DataW H} {ps : List MemPlace} (hu : P.underlying t = some (.struct fs)) (hty : tyOf P ext 20 t = some (.ex i z))
  (hok : Value.okWide P W .any base t v) (h : DataW.Trod enc P W 0 (fun _ => true) true t v d ps) : ∃ ds, Rep W (Old W) [] v (.agg ds) [] ∧ zbS Ex (.ex i z) ds ∧ zbT ds ≤ ub d := by
 obtain ⟨cs, rfl, _⟩ := WideShapes.okWide_struct hu hok
 obtain ⟨fuel, hf⟩ := h
 obtain ⟨ds, g1, g2, g3, g4, g5⟩ := zfF hex hub fuel 20 t _ _ _ hty hf
 have g1' : RepL W (Old W) [] cs.toList ds [] := g1
 refine ⟨ds, ?_, g3, ?_⟩
 ·have := Rep.agg (w := W) (I := Old W) [] cs.toList ds [] g1' g2
  simpa using this
 ·simp only [zgd] at g5; omega
theorem zAb {P : Program} : ExOK P (fun _ => none) fun _ _ => False := fun _ _ h => by cases h
theorem zxM {ext : TypeId → Option Nat} {Ex : Nat → List D → Prop} (hex : ExOK P ext Ex) {ub : DataW H → Nat} (hub : UB ub) {t e : TypeId} {base : Nat} {E : Ty} {z : Nat} {v : Value} {d : DataW H} {ps : List MemPlace} (hu : P.underlying t = some (.slice e)) (hty : tyOf P ext 20 t = some (.sl E z))
  (hok : Value.okWide P W .any base t v) (h : DataW.Trod enc P W 0 (fun _ => true) true t v d ps) : ∃ xs, Rep W (Old W) [] v (.sl false z xs) [] ∧ (∀ x ∈ xs, ∃ cs, x = zdj E cs ∧ zbS Ex E cs) ∧ zbT xs ≤ ub d := by
 obtain ⟨a, len, cap, rfl⟩ := WideShapes.okWide_slice hu hok
 obtain ⟨fuel, hf⟩ := h
 obtain ⟨ds, g1, g2, g3, g4, g5⟩ := zfF hex hub fuel 20 t _ _ _ hty hf
 simp only [zbS] at g3
 obtain ⟨xs, rfl, hx⟩ := g3
 have g1' : RepL W (Old W) [] [Value.slice a len cap] [.sl false z xs] [] := g1
 obtain ⟨v', e1, e2⟩ := RepL.of_one g1'
 simp only [List.cons.injEq, and_true] at e1
 subst e1
 refine ⟨xs, e2, hx, ?_⟩
 simp only [zgd, zbT, D.bulk] at g5; omega
theorem zlS {ext : TypeId → Option Nat} {Ex : Nat → List D → Prop} (hex : ExOK P ext Ex) {ub : DataW H → Nat} (hub : UB ub) {t : TypeId} {base : Nat} {v : Value} {d : DataW H} {ps : List MemPlace} (hu : P.underlying t = some .string) (hty : tyOf P ext 20 t = some .str)
  (hok : Value.okWide P W .any base t v) (h : DataW.Trod enc P W 0 (fun _ => true) true t v d ps) : ∃ s : ByteArray, Rep W (Old W) [] v (.str s) [] ∧ s.size ≤ ub d := by
 obtain ⟨s, rfl⟩ := WideShapes.okWide_string hu hok
 obtain ⟨fuel, hf⟩ := h
 obtain ⟨ds, g1, g2, g3, g4, g5⟩ := zfF hex hub fuel 20 t _ _ _ hty hf
 simp only [zbS] at g3
 obtain ⟨s', rfl⟩ := g3
 have g1' : RepL W (Old W) [] [Value.string s] [.str s'] [] := g1
 obtain ⟨v', e1, e2⟩ := RepL.of_one g1'
 simp only [List.cons.injEq, and_true] at e1
 subst e1
 refine ⟨s', e2, ?_⟩
 simp only [zgd, zbT, D.bulk] at g5; omega
theorem zzP {ext : TypeId → Option Nat} {Ex : Nat → List D → Prop} (hex : ExOK P ext Ex) {ub : DataW H → Nat} (hub : UB ub) {t : TypeId} {base : Nat} {k : IntKind} {v : Value} {d : DataW H} {ps : List MemPlace} (hu : P.underlying t = some (.int k)) (hty : tyOf P ext 20 t = some (.int k))
  (hok : Value.okWide P W .any base t v) (h : DataW.Trod enc P W 0 (fun _ => true) true t v d ps) : ∃ n : Int, Rep W (Old W) [] v (.int k n) [] ∧ (Lit.int k n).wf = true := by
 obtain ⟨n, rfl⟩ := WideShapes.okWide_int hu hok
 obtain ⟨fuel, hf⟩ := h
 obtain ⟨ds, g1, g2, g3, g4, g5⟩ := zfF hex hub fuel 20 t _ _ _ hty hf
 simp only [zbS] at g3
 obtain ⟨s', rfl, hw⟩ := g3
 have g1' : RepL W (Old W) [] [Value.int k n] [.int k s'] [] := g1
 obtain ⟨v', e1, e2⟩ := RepL.of_one g1'
 simp only [List.cons.injEq, and_true] at e1
 subst e1
 exact ⟨s', e2, hw⟩
end
end Go.Vx
namespace Go.Vx
set_option linter.unusedVariables false
set_option linter.unusedSimpArgs false
def Le {α R : Type} (K : α → Option R → Prop) (a : Option α) (x : Option R) : Prop := ∀ t, a = some t → K t x
section
variable {α β γ R : Type} {K : α → Option R → Prop} {x y : Option R}
theorem Le.ret {t : α} (h : K t x) : Le K (some t) x := fun s hs => by cases hs; exact h
theorem Le.none : Le K none x := fun s hs => by cases hs
theorem Le.r {a : Option α} (e : x = y) (h : Le K a y) : Le K a x := e ▸ h
theorem Le.l {a b : Option α} (e : a = b) (h : Le K b x) : Le K a x := e ▸ h
theorem Le.ite {p : Prop} [Decidable p] {a b : Option α} (h1 : p → Le K a x) (h2 : ¬ p → Le K b x) : Le K (if p then a else b) x := by
 by_cases h : p
 ·rw [if_pos h]; exact h1 h
 ·rw [if_neg h]; exact h2 h
theorem Le.itq {p : Prop} [Decidable p] {a b : Option α} (h1 : (p = True) → Le K a x) (h2 : (p = False) → Le K b x) : Le K (if p then a else b) x := Le.ite (fun h => h1 (eq_true h)) (fun h => h2 (eq_false h))
theorem Le.bool {b : Bool} {a c : Option α} (h1 : b = true → Le K a x) (h2 : b = false → Le K c x) : Le K (if b = true then a else c) x := by
 cases b with
 | true => rw [if_pos rfl]; exact h1 rfl
 | false => rw [if_neg (by simp)]; exact h2 rfl
theorem Le.bnd {o : Option β} {f : β → Option α} (h : ∀ b, o = some b → Le K (f b) x) : Le K (o >>= f) x := by
 cases o with
 | none => exact Le.none
 | some b => exact h b rfl
def chk (p : Prop) [Decidable p] : Option Unit := if p then some () else none
theorem Le.chk {p : Prop} [Decidable p] {f : Unit → Option α} (h : p → Le K (f ()) x) : Le K (chk p >>= f) x := by
 refine Le.bnd fun b hb => ?_
 unfold Go.Vx.chk at hb
 by_cases hp : p
 ·cases b; exact h hp
 ·rw [if_neg hp] at hb; cases hb
def idx (l : List β) (i : Int) : Option β := if 0 ≤ i then l[i.toNat]? else none
theorem Le.idx {l : List β} {i : Int} {f : β → Option α} (h : ∀ b, 0 ≤ i → i.toNat < l.length → l[i.toNat]? = some b → Le K (f b) x) : Le K (idx l i >>= f) x := by
 refine Le.bnd fun b hb => ?_
 unfold Go.Vx.idx at hb
 by_cases hp : 0 ≤ i
 ·rw [if_pos hp] at hb
  exact h b hp (List.getElem?_eq_some_iff.1 hb).1 hb
 ·rw [if_neg hp] at hb; cases hb
def idxB (s : ByteArray) (i : Int) : Option UInt8 := idx s.data.toList i
theorem Le.idxB {s : ByteArray} {i : Int} {f : UInt8 → Option α} (h : ∀ b, 0 ≤ i → i.toNat < s.data.toList.length → s.data.toList[i.toNat]? = some b → Le K (f b) x) : Le K (idxB s i >>= f) x := Le.idx h
def idxN (l : List β) (i : Nat) : Option β := l[i]?
theorem Le.idxN {l : List β} {i : Nat} {f : β → Option α} (h : ∀ b, i < l.length → l[i]? = some b → Le K (f b) x) : Le K (idxN l i >>= f) x := by
 refine Le.bnd fun b hb => ?_
 unfold Go.Vx.idxN at hb
 exact h b (List.getElem?_eq_some_iff.1 hb).1 hb
def idxBN (s : ByteArray) (i : Nat) : Option UInt8 := idxN s.data.toList i
theorem Le.idxBN {s : ByteArray} {i : Nat} {f : UInt8 → Option α} (h : ∀ b, i < s.data.toList.length → s.data.toList[i]? = some b → Le K (f b) x) : Le K (idxBN s i >>= f) x := Le.idxN h
def sub (l : List β) (lo hi : Int) : Option (List β) := if 0 ≤ lo ∧ lo ≤ hi ∧ hi ≤ l.length then some ((l.drop lo.toNat).take (hi.toNat - lo.toNat)) else none
theorem Le.sub {l : List β} {lo hi : Int} {f : List β → Option α} (h : ∀ b, b = (l.drop lo.toNat).take (hi.toNat - lo.toNat) → 0 ≤ lo → 0 ≤ hi → lo.toNat ≤ hi.toNat → hi.toNat ≤ l.length → Le K (f b) x) : Le K (sub l lo hi >>= f) x := by
 refine Le.bnd fun b hb => ?_
 unfold Go.Vx.sub at hb
 by_cases hp : 0 ≤ lo ∧ lo ≤ hi ∧ hi ≤ l.length
 ·rw [if_pos hp] at hb; cases hb; exact h _ rfl hp.1 (by omega) (by omega) (by omega)
 ·rw [if_neg hp] at hb; cases hb
def subL (l : List β) (lo : Int) : Option (List β) := if 0 ≤ lo ∧ lo ≤ l.length then some (l.drop lo.toNat) else none
theorem Le.subL {l : List β} {lo : Int} {f : List β → Option α} (h : ∀ b, b = l.drop lo.toNat → 0 ≤ lo → lo.toNat ≤ l.length → Le K (f b) x) : Le K (subL l lo >>= f) x := by
 refine Le.bnd fun b hb => ?_
 unfold Go.Vx.subL at hb
 by_cases hp : 0 ≤ lo ∧ lo ≤ l.length
 ·rw [if_pos hp] at hb; cases hb; exact h _ rfl hp.1 (by omega)
 ·rw [if_neg hp] at hb; cases hb
def subH (l : List β) (hi : Int) : Option (List β) := if 0 ≤ hi ∧ hi ≤ l.length then some (l.take hi.toNat) else none
theorem Le.subH {l : List β} {hi : Int} {f : List β → Option α} (h : ∀ b, b = l.take hi.toNat → 0 ≤ hi → hi.toNat ≤ l.length → Le K (f b) x) : Le K (subH l hi >>= f) x := by
 refine Le.bnd fun b hb => ?_
 unfold Go.Vx.subH at hb
 by_cases hp : 0 ≤ hi ∧ hi ≤ l.length
 ·rw [if_pos hp] at hb; cases hb; exact h _ rfl hp.1 (by omega)
 ·rw [if_neg hp] at hb; cases hb
def subB (s : ByteArray) (lo hi : Int) : Option ByteArray := if 0 ≤ lo ∧ lo ≤ hi ∧ hi ≤ s.size then some (s.extract lo.toNat hi.toNat) else none
theorem Le.subB {s : ByteArray} {lo hi : Int} {f : ByteArray → Option α} (h : ∀ b, s.extract lo.toNat hi.toNat = b → 0 ≤ lo → 0 ≤ hi → lo.toNat ≤ hi.toNat → hi.toNat ≤ s.size → Le K (f b) x) : Le K (subB s lo hi >>= f) x := by
 refine Le.bnd fun b hb => ?_
 unfold Go.Vx.subB at hb
 by_cases hp : 0 ≤ lo ∧ lo ≤ hi ∧ hi ≤ s.size
 ·rw [if_pos hp] at hb; cases hb; exact h _ rfl hp.1 (by omega) (by omega) (by omega)
 ·rw [if_neg hp] at hb; cases hb
def subBL (s : ByteArray) (lo : Int) : Option ByteArray := if 0 ≤ lo ∧ lo ≤ s.size then some (s.extract lo.toNat s.size) else none
theorem Le.subBL {s : ByteArray} {lo : Int} {f : ByteArray → Option α} (h : ∀ b, s.extract lo.toNat s.size = b → 0 ≤ lo → lo.toNat ≤ s.size → Le K (f b) x) : Le K (subBL s lo >>= f) x := by
 refine Le.bnd fun b hb => ?_
 unfold Go.Vx.subBL at hb
 by_cases hp : 0 ≤ lo ∧ lo ≤ s.size
 ·rw [if_pos hp] at hb; cases hb; exact h _ rfl hp.1 (by omega)
 ·rw [if_neg hp] at hb; cases hb
def subBH (s : ByteArray) (hi : Int) : Option ByteArray := if 0 ≤ hi ∧ hi ≤ s.size then some (s.extract 0 hi.toNat) else none
theorem Le.subBH {s : ByteArray} {hi : Int} {f : ByteArray → Option α} (h : ∀ b, s.extract 0 hi.toNat = b → 0 ≤ hi → hi.toNat ≤ s.size → Le K (f b) x) : Le K (subBH s hi >>= f) x := by
 refine Le.bnd fun b hb => ?_
 unfold Go.Vx.subBH at hb
 by_cases hp : 0 ≤ hi ∧ hi ≤ s.size
 ·rw [if_pos hp] at hb; cases hb; exact h _ rfl hp.1 (by omega)
 ·rw [if_neg hp] at hb; cases hb
def app (a b : List β) : Option (List β) := if a.length + b.length ≤ most then some (a ++ b) else none
theorem Le.app {a b : List β} {f : List β → Option α} (h : ∀ c, c = a ++ b → a.length + b.length ≤ most → Le K (f c) x) : Le K (app a b >>= f) x := by
 refine Le.bnd fun c hb => ?_
 unfold Go.Vx.app at hb
 by_cases hp : a.length + b.length ≤ most
 ·rw [if_pos hp] at hb; cases hb; exact h _ rfl hp
 ·rw [if_neg hp] at hb; cases hb
def appB (a b : ByteArray) : Option ByteArray := if a.size + b.size ≤ zgt then some (a ++ b) else none
theorem Le.appB {a b : ByteArray} {f : ByteArray → Option α} (h : ∀ c, a ++ b = c → a.size + b.size ≤ zgt → Le K (f c) x) : Le K (appB a b >>= f) x := by
 refine Le.bnd fun c hb => ?_
 unfold Go.Vx.appB at hb
 by_cases hp : a.size + b.size ≤ zgt
 ·rw [if_pos hp] at hb; cases hb; exact h _ rfl hp
 ·rw [if_neg hp] at hb; cases hb
def mkz (z : β) (n m : Int) : Option (List β) := if 0 ≤ n ∧ n ≤ m ∧ m ≤ most then some (List.replicate n.toNat z) else none
theorem Le.mkz {z : β} {n m : Int} {f : List β → Option α} (h : ∀ b, b = List.replicate n.toNat z → 0 ≤ n → 0 ≤ m → n.toNat ≤ m.toNat → m.toNat ≤ most → Le K (f b) x) : Le K (mkz z n m >>= f) x := by
 refine Le.bnd fun b hb => ?_
 unfold Go.Vx.mkz at hb
 by_cases hp : 0 ≤ n ∧ n ≤ m ∧ m ≤ most
 ·rw [if_pos hp] at hb; cases hb; exact h _ rfl hp.1 (by omega) (by omega) (by omega)
 ·rw [if_neg hp] at hb; cases hb
def mk0 (m : Int) : Option Unit := if 0 ≤ m ∧ m ≤ most then some () else none
theorem Le.mk0 {m : Int} {f : Unit → Option α} (h : 0 ≤ m → m.toNat ≤ most → Le K (f ()) x) : Le K (mk0 m >>= f) x := by
 refine Le.bnd fun b hb => ?_
 unfold Go.Vx.mk0 at hb
 by_cases hp : 0 ≤ m ∧ m ≤ most
 ·cases b; exact h hp.1 (by omega)
 ·rw [if_neg hp] at hb; cases hb
def setN (l : List β) (i : Nat) (y : β) : List β := l.set i y
def strI (s : ByteArray) : List Int := s.data.toList.map fun b => (b.toNat : Int)
def txtI (l : List Int) : ByteArray := ⟨(l.map fun n => n.toNat.toUInt8).toArray⟩
theorem Le.via {K' : β → Option R → Prop} {o : Option β} {f : β → Option α} (hl : Le K' o x) (h : ∀ b, o = some b → ∀ y, K' b y → Le K (f b) y) : Le K (o >>= f) x := Le.bnd fun b hb => h b hb x (hl b hb)
theorem Le.tail {o : Option α} (hl : Le K o x) : Le K o x := hl
theorem Le.pc {ι : Sort _} {a : Option α} {X : ι → Option R} {Q : ι → α → Option R → Prop} (h : ∀ k, Le (Q k) a (X k)) : ∀ r, a = some r → ∀ k, Q k r (X k) := fun r hr k => h k r hr
theorem Le.cp {ι : Sort _} {a : Option α} {X : ι → Option R} {Q : ι → α → Option R → Prop} (h : ∀ r, a = some r → ∀ k, Q k r (X k)) (k : ι) : Le (Q k) a (X k) := fun r hr => h r hr k
end
section
variable {α β R : Type} {K : α → Option R → Prop} {tab : Tab} {fn : En R}
theorem Le.call {em : β → Option Res → Prop} {o : Option β} {v : Option Res} {f : β → Option α} {post : Res → Option St} {r : List I} {k : List Fr} (hg : Le em o v) (h : ∀ b, o = some b → ∀ y, em b y → Le K (f b) (got tab fn y post r k)) : Le K (o >>= f) (got tab fn v post r k) := Le.bnd fun b hb => h b hb v (hg b hb)
theorem Le.enter {g : F} {n : Nat} {Kf : β → Option Res → Prop} {a : Option β} {args : List D} {sto : List (List D)} (hp : tab.pr n = Option.none) (hmk : tab.mrk n = Option.none) (hf : tab.fn n = some g) (hl : args.length = g.np) (h : Le Kf a (go tab (enF g.res g.mus) g.body [] (g.init args sto))) : Le Kf a (zab tab n args sto) := by
 rw [zae tab hp hmk hf args sto hl]; exact h
def Pu (v : D) (outs : List D) (x : Option Res) : Prop := ∃ y, x = some (v, outs, y)
theorem Pu.mk {v : D} {outs : List D} {y : List (List D)} : Pu v outs (some (v, outs, y)) := ⟨y, rfl⟩
end
section
variable {R : Type} (tab : Tab) (fn : En R)
noncomputable def dg (acc : List FPt) (l : List I) (ps : List (Nat × Nat)) (k : List Fr) (s : St) : Option R :=
 match zdg (zab tab) l s with
 | some q => if ps.all (zfv (acc ++ q.2)) = true then bk tab fn k q.1 else none
 | none => none
noncomputable def dgt (acc : List FPt) (a : Option Res) (post : Res → Option St) (l : List I) (ps : List (Nat × Nat)) (k : List Fr) : Option R := (a.bind post).bind (dg tab fn acc l ps k)
noncomputable def dth (acc : List FPt) (a : Option St) (l : List I) (ps : List (Nat × Nat)) (k : List Fr) : Option R := a.bind (dg tab fn acc l ps k)
noncomputable def dac (acc : List FPt) (a : Option Act') (l : List I) (ps : List (Nat × Nat)) (k : List Fr) : Option R :=
 match a with
 | some (.st s) => dg tab fn acc l ps k s
 | some (.rq q) => dgt tab fn acc (zab tab q.f q.args q.sto) q.post l ps k
 | none => none
theorem go_dg (l : List I) (ps : List (Nat × Nat)) (k : List Fr) (s : St) : go tab fn (.draw l ps) k s = dg tab fn [] l ps k s := by
 rw [go_draw]
 unfold drw dg
 cases zdg (zab tab) l s <;> rfl
theorem zvk (acc : List FPt) (ps : List (Nat × Nat)) (k : List Fr) (s : St) : dg tab fn acc [] ps k s = if ps.all (zfv acc) = true then bk tab fn k s else none := by
 unfold dg
 simp only [zdg]
 rw [List.append_nil]
theorem zwn (acc : List FPt) (k : List Fr) (s : St) : dg tab fn acc [] [] k s = bk tab fn k s := by
 rw [zvk]; rfl
theorem zsG (acc : List FPt) (i : I) (r : List I) (ps : List (Nat × Nat)) (k : List Fr) (s : St) : dg tab fn acc (i :: r) ps k s = dac tab fn (acc ++ [fpI i s]) (vact i s) r ps k := by
 unfold dg dac
 simp only [zdg, zbd]
 cases vact i s with
 | none => rfl
 | some a =>
  cases a with
  | st s' =>
   simp only [dg]
   cases zdg (zab tab) r s' with
   | none => rfl
   | some q => simp only [Option.map_some]; rw [List.append_assoc]; rfl
  | rq q =>
   simp only [dgt, dg]
   cases (zab tab q.f q.args q.sto).bind q.post with
   | none => rfl
   | some s' =>
    simp only [Option.bind_some]
    simp only [dg]
    cases zdg (zab tab) r s' with
    | none => rfl
    | some q => simp only [Option.map_some]; rw [List.append_assoc]; rfl
theorem zxN (acc : List FPt) (l : List I) (k : List Fr) (s : St) : dg tab fn acc l [] k s = go tab fn (.ops l) k s := by
 induction l generalizing acc s with
 | nil => rw [zwn, go_nil]
 | cons i r ih =>
  rw [zsG, go_cons]
  unfold dac act
  cases vact i s with
  | none => rfl
  | some a =>
   cases a with
   | st s' => exact ih ..
   | rq q =>
    simp only [dgt, got]
    cases (zab tab q.f q.args q.sto).bind q.post with
    | none => rfl
    | some s' => exact ih ..
theorem zxO (acc : List FPt) (s : St) (r : List I) (ps : List (Nat × Nat)) (k : List Fr) : dac tab fn acc (some (.st s)) r ps k = dg tab fn acc r ps k s := rfl
theorem zxP (acc : List FPt) (f : Nat) (args : List D) (sto : List (List D)) (post : Res → Option St) (r : List I) (ps : List (Nat × Nat)) (k : List Fr) : dac tab fn acc (some (.rq ⟨f, args, sto, post⟩)) r ps k = dgt tab fn acc (zab tab f args sto) post r ps k := rfl
theorem zut (acc : List FPt) (x : Res) (post : Res → Option St) (r : List I) (ps : List (Nat × Nat)) (k : List Fr) : dgt tab fn acc (some x) post r ps k = dth tab fn acc (post x) r ps k := rfl
theorem zuu (acc : List FPt) (s : St) (r : List I) (ps : List (Nat × Nat)) (k : List Fr) : dth tab fn acc (some s) r ps k = dg tab fn acc r ps k s := rfl
end
section
variable {α β R : Type} {K : α → Option R → Prop} {tab : Tab} {fn : En R}
theorem Le.dcall {acc : List FPt} {em : β → Option Res → Prop} {o : Option β} {v : Option Res} {f : β → Option α} {post : Res → Option St} {r : List I} {ps : List (Nat × Nat)} {k : List Fr} (hg : Le em o v) (h : ∀ b, o = some b → ∀ y, em b y → Le K (f b) (dgt tab fn acc y post r ps k)) : Le K (o >>= f) (dgt tab fn acc v post r ps k) := Le.bnd fun b hb => h b hb v (hg b hb)
end
theorem go_dgc {R : Type} (tab : Tab) (fn : En R) (l : List I) (p : Nat × Nat) (ps : List (Nat × Nat)) (k : List Fr) (s : St) : go tab fn (.draw l (p :: ps)) k s = dg tab fn [] l (p :: ps) k s := go_dg ..
theorem go_dgn {R : Type} (tab : Tab) (fn : En R) (l : List I) (k : List Fr) (s : St) : go tab fn (.draw l []) k s = go tab fn (.ops l) k s := by rw [go_dg, zxN]
theorem go_lop {R : Type} (tab : Tab) (fn : En R) (id : Nat) (c : C) (k : List Fr) (s : St) : go tab fn (.block id c) k s = go tab fn c (.bl id :: k) s := go_block ..
theorem zny {α : Type} (f : α → D) (xs : List α) (n : Nat) (y : α) {v : D} (h : f y = v) : List.set (xs.map f) n v = (setN xs n y).map f := by subst h; exact (List.map_set ..).symm
theorem zzA {α : Type} (f : α → D) (xs : List α) (a b : Nat) : List.take b (List.drop a (xs.map f)) = ((xs.drop a).take b).map f := by rw [List.map_take, List.map_drop]
theorem zsH {α : Type} (f : α → D) (xs : List α) (a : Nat) : List.take (xs.length - a) (List.drop a (xs.map f)) = (xs.drop a).map f := by
 rw [List.map_drop]; exact List.take_of_length_le (by simp)
theorem zxQ {α : Type} (f : α → D) (xs : List α) (b : Nat) : List.take b (xs.map f) = (xs.take b).map f := by rw [List.map_take]
theorem zxf {α : Type} (f : α → D) (z : α) {v : D} (h : f z = v) (n : Nat) : zdf v n = (List.replicate n z).map f := by
 subst h
 induction n with
 | zero => rfl
 | succ n ih => simp [zdf, List.replicate_succ, ih]
theorem zrt (s : ByteArray) : List.map zhq s.data.toList = List.map (D.int .u8) (strI s) := by simp [strI, zhq]
theorem zoO (l : List Int) : (zia (l.map (D.int .u8))).map (fun l => D.str ⟨l.toArray⟩) = some (D.str (txtI l)) := by
 have : zia (l.map (D.int .u8)) = some (l.map fun n => n.toNat.toUInt8) := by
  induction l with
  | nil => rfl
  | cons x r ih => simp only [List.map_cons, zia, ih, Option.map_some]
 rw [this]; rfl
theorem zik (s : ByteArray) : (strI s).length = s.size := by unfold strI; rw [List.length_map, Array.length_toList]; rfl
theorem zuv (b : UInt8) : zhq b = .int .u8 (b.toNat : Int) := rfl
theorem zzQ {α : Type} (f : α → D) (hf : ∀ x, (f x).noS = true) (l : List α) : noSL (l.map f) = true := zdG hf l
theorem zwo (k : IntKind) (l : List Int) : noSL (l.map (D.int k)) = true := zdG (fun _ => rfl) l
theorem zwp (l : List ByteArray) : noSL (l.map D.str) = true := zdG (fun _ => rfl) l
theorem zuw (l : List Bool) : noSL (l.map D.bool) = true := zdG (fun _ => rfl) l
theorem zwq (k : IntKind) (l : List Int) : zaj (l.map (D.int k)) = l.map (D.int k) := zbR (fun _ => rfl) l
theorem zwr (l : List ByteArray) : zaj (l.map D.str) = l.map D.str := zbR (fun _ => rfl) l
theorem zux (l : List Bool) : zaj (l.map D.bool) = l.map D.bool := zbR (fun _ => rfl) l
theorem ifTr {α : Type} (a b : α) : (if True then a else b) = a := if_pos trivial
theorem zoP : (∀ n x, SV.killSto n (.d x) = .d x) ∧ (∀ n x, SV.killSto n (.box x) = .box x) ∧ (∀ n u st o k, SV.killSto n (.bor ⟨.slot u, st, o⟩ k) = .bor ⟨.slot u, st, o⟩ k) ∧ (∀ n u st o k, SV.killSto n (.bor ⟨.sto u, st, o⟩ k) = .d .dead) ∧ (∀ n u st o, SV.killSto n (.ptr ⟨.slot u, st, o⟩) = .ptr ⟨.slot u, st, o⟩) ∧ (∀ n u o, SV.killSto n (.ptr ⟨.sto u, [], o⟩) = if u < n then .ptr ⟨.sto u, [], o⟩ else .d .dead) ∧ (∀ n u p st o, SV.killSto n (.ptr ⟨.sto u, p :: st, o⟩) = .d .dead) := by
 refine ⟨?_, ?_, ?_, ?_, ?_, ?_, ?_⟩ <;> intros <;> first | rfl | simp [SV.killSto]
theorem zuy : (∀ t n x, SV.prom t n (.d x) = .d x) ∧ (∀ t n x, SV.prom t n (.box x) = .box x) ∧ (∀ t n u o, SV.prom t n (.ptr ⟨.slot u, [], o⟩) = if u = t then .d (.ref n o) else .ptr ⟨.slot u, [], o⟩) ∧ (∀ t n u p st o, SV.prom t n (.ptr ⟨.slot u, p :: st, o⟩) = if u = t then .d .dead else .ptr ⟨.slot u, p :: st, o⟩) ∧ (∀ t n u st o, SV.prom t n (.ptr ⟨.sto u, st, o⟩) = if u < n then .ptr ⟨.sto u, st, o⟩ else .d .dead) ∧ (∀ t n u st o k, SV.prom t n (.bor ⟨.sto u, st, o⟩ k) = if u < n then .bor ⟨.sto u, st, o⟩ k else .d .dead) ∧ (∀ t n u st o k, SV.prom t n (.bor ⟨.slot u, st, o⟩ k) = if u = t then .d .dead else .bor ⟨.slot u, st, o⟩ k) := by
 refine ⟨?_, ?_, ?_, ?_, ?_, ?_, ?_⟩ <;> intros <;> first | rfl | (simp [SV.prom, SV.kill]; done) | (simp [SV.prom, SV.kill])
abbrev sx := And.intro zoP <| And.intro zuy <| And.intro @eq_self.{1} <| And.intro vxa <| And.intro vxb <| And.intro vxd <| And.intro @and_true <| And.intro @true_and <| And.intro @and_false <| And.intro @false_and <| And.intro @and_self <| And.intro @or_true <| And.intro @true_or <| And.intro @or_false <| And.intro @false_or <| And.intro @not_true_eq_false <| And.intro @not_false_eq_true <| And.intro @ne_eq.{1} <| And.intro @Bool.false_eq_true <| And.intro @decide_eq_true_eq <| And.intro @go_seq <| And.intro @go_block <| And.intro @go_cond <| And.intro @go_cnk <| And.intro @zxI <| And.intro @zva <| And.intro @go_exit <| And.intro @go_ret <| And.intro @go_skip <| And.intro @go_clr <| And.intro @go_nil <| And.intro @go_cons <| And.intro @zvb <| And.intro @zvc <| And.intro @zpF <| And.intro @zpG <| And.intro @zpH <| And.intro @znv <| And.intro @zvd <| And.intro @zxJ <| And.intro @zxK <| And.intro @zxL <| And.intro @zve <| And.intro @zvf <| And.intro @znw <| And.intro @zvg <| And.intro @zsD <| And.intro @zsE <| And.intro @go_dgc <| And.intro @go_dgn <| And.intro @zvk <| And.intro @zsG <| And.intro @zxO <| And.intro @zxP <| And.intro @zut <| And.intro @zuu <| And.intro @zrt <| And.intro @zoO <| And.intro @zik <| And.intro @zuv <| And.intro @zwo <| And.intro @zwp <| And.intro @zuw <| And.intro @zwq <| And.intro @zwr <| And.intro @zux <| And.intro @zvj <| And.intro @Int.toNat_natCast <| And.intro @List.getElem?_map.{0, 0} <| And.intro @List.length_map.{0, 0} <| And.intro @Nat.zero_le <| And.intro @Nat.le_refl @Nat.sub_zero
end Go.Vx
namespace Go.Vx
set_option linter.unusedVariables false
theorem zaI {β : Type} (l : List β) (i : Nat) : idx l (i : Int) = l[i]? := by simp [idx]
theorem zAc {β : Type} (l : List β) {i : Int} (h : 0 ≤ i) : idx l i = l[i.toNat]? := by simp [idx, h]
theorem zde {p : Prop} [Decidable p] (h : p) : chk p = some () := if_pos h
theorem zge {β : Type} {a b : List β} (h : a.length + b.length ≤ most) : app a b = some (a ++ b) := if_pos h
theorem zzB {a b : ByteArray} (h : a.size + b.size ≤ zgt) : appB a b = some (a ++ b) := if_pos h
theorem w64 {n : Int} (h1 : -9223372036854775808 ≤ n) (h2 : n < 9223372036854775808) : IntKind.wrap .i64 n = n := zvi h1 h2
theorem zeH {α : Type} (xs : List α) (P : Nat → List α → Prop) (h0 : P xs.length []) (h1 : ∀ i a rest, i < xs.length → xs[i]? = some a → xs.drop i = a :: rest → P (i + 1) rest → P i (a :: rest)) : P 0 xs := by
 have key : ∀ (rest : List α) (i : Nat), xs.drop i = rest → i ≤ xs.length → P i rest := by
  intro rest
  induction rest with
  | nil =>
   intro i hd hi
   have : i = xs.length := by
    have := congrArg List.length hd
    simp at this; omega
   subst this; exact h0
  | cons a r ih =>
   intro i hd hi
   have hlt : i < xs.length := by
    have := congrArg List.length hd
    simp at this; omega
   have hg : xs[i]? = some a := by
    have := congrArg List.head? hd
    simpa [List.head?_drop] using this
   have hd2 : xs.drop (i + 1) = r := by
    have := congrArg List.tail hd
    simpa using this
   exact h1 i a r hlt hg hd (ih (i + 1) hd2 hlt)
 exact key xs 0 rfl (Nat.zero_le _)
theorem zmp (s : ByteArray) : s.data.toList.length = s.size := by rw [Array.length_toList]; rfl
theorem zil {α : Type} (xs : List α) (n : Int) (L : Int → Option (Unit ⊕ Bool)) (P : α → Option Bool) (p : α → Bool)
  (hL : ∀ i, L i = if i < n then (idx xs i >>= fun a => P a >>= fun r => if r = true then L (IntKind.wrap .i64 (i + 1)) else some (.inr false)) else some (.inl ()))
  (hn : n = xs.length) (hs : xs.length ≤ 1099511627776) (hp : ∀ a ∈ xs, P a = some (p a)) : L 0 = if xs.all p = true then some (.inl ()) else some (.inr false) := by
 subst hn
 refine zeH xs (fun i rest => L (i : Int) = if rest.all p = true then some (.inl ()) else some (.inr false)) ?_ ?_
 ·rw [hL, if_neg (by omega)]; rfl
 ·intro i a rest hi hg hd ih
  rw [hL, if_pos (by omega), zaI, hg]
  have hm : a ∈ xs := by
   obtain ⟨h1, h2⟩ := List.getElem?_eq_some_iff.1 hg
   exact h2 ▸ List.getElem_mem h1
  simp only [Option.bind_eq_bind, Option.bind_some, hp a hm]
  rw [w64 (by omega) (by omega)]
  have ih' : L ((i : Int) + 1) = if rest.all p = true then some (.inl ()) else some (.inr false) := ih
  have hc : (a :: rest).all p = (p a && rest.all p) := List.all_cons
  by_cases hpa : p a = true
  ·rw [if_pos hpa, ih']
   by_cases hr : rest.all p = true
   ·rw [if_pos hr, if_pos (by rw [hc, hpa, hr]; rfl)]
   ·rw [if_neg hr, if_neg (by rw [hc, hpa, Bool.true_and]; exact hr)]
  ·rw [if_neg hpa, if_neg (by rw [hc, Bool.eq_false_iff.2 hpa]; simp)]
theorem zxR {α ρ : Type} (xs : List α) (n : Int) (L : Int → Option (Unit ⊕ ρ)) (p : α → Bool) (g : Int → α → ρ)
  (hL : ∀ i, L i = if i < n then (idx xs i >>= fun a => if p a = true then some (.inr (g i a)) else L (IntKind.wrap .i64 (i + 1))) else some (.inl ()))
  (hn : n = xs.length) (hs : xs.length ≤ 1099511627776) : ∀ j : Nat, (∀ i a, i < j → xs[i]? = some a → p a = false) →
   ((∀ a, xs[j]? = some a → p a = true) → (j < xs.length → ∃ a, xs[j]? = some a ∧ L 0 = some (.inr (g j a))) ∧ (xs.length ≤ j → L 0 = some (.inl ()))) := by
 subst hn
 intro j hj hp
 have key : ∀ i : Nat, i ≤ j → i ≤ xs.length → L 0 = L i := by
  intro i
  induction i with
  | zero => intro _ _; rfl
  | succ i ih =>
   intro h1 h2
   rw [ih (by omega) (by omega), hL (i : Int), if_pos (by omega), zaI, List.getElem?_eq_getElem (by omega)]
   have := hj i (xs[i]) (by omega) (List.getElem?_eq_getElem (by omega))
   simp only [Option.bind_eq_bind, Option.bind_some, this]
   rw [w64 (by omega) (by omega)]
   simp
 constructor
 ·intro h
  refine ⟨xs[j], List.getElem?_eq_getElem h, ?_⟩
  rw [key j (Nat.le_refl _) (by omega), hL, if_pos (by omega), zaI, List.getElem?_eq_getElem h]
  simp [hp _ (List.getElem?_eq_getElem h)]
 ·intro h
  rw [key xs.length (by omega) (Nat.le_refl _), hL, if_neg (by omega)]
theorem zkm {α : Type} (l : List α) : l.Nodup ↔ ∀ i j : Nat, i < j → j < l.length → l[i]? ≠ l[j]? := by
 rw [List.Nodup, List.pairwise_iff_getElem]
 constructor
 ·intro h i j hij hj e
  rw [List.getElem?_eq_getElem hj, List.getElem?_eq_getElem (by omega)] at e
  exact h i j (by omega) hj hij (Option.some.inj e)
 ·intro h i j hi hj hij e
  exact h i j hij hj (by rw [List.getElem?_eq_getElem hj, List.getElem?_eq_getElem hi, e])
open Classical in
theorem zkn {α ρ : Type} (xs : List α) (L : Int → Option (Unit ⊕ ρ)) (f : ρ) (p : Nat → α → Prop) (j : Nat) (hj : j ≤ xs.length)
  (h1 : ∀ (i : Nat) a, j ≤ i → i < xs.length → xs[i]? = some a → p i a → L i = L ((i : Int) + 1)) (h2 : ∀ (i : Nat) a, j ≤ i → i < xs.length → xs[i]? = some a → ¬ p i a → L i = some (.inr f))
  (h3 : L xs.length = some (.inl ())) : L j = if (∀ (i : Nat) a, j ≤ i → xs[i]? = some a → p i a) then some (.inl ()) else some (.inr f) := by
 have key : ∀ (n i : Nat), i + n = xs.length → j ≤ i → L i = if (∀ (k : Nat) a, i ≤ k → xs[k]? = some a → p k a) then some (.inl ()) else some (.inr f) := by
  intro n
  induction n with
  | zero =>
   intro i hi _
   obtain rfl : i = xs.length := by omega
   rw [h3, if_pos]
   intro k a hk hg
   have := (List.getElem?_eq_some_iff.1 hg).1
   omega
  | succ n ih =>
   intro i hi hji
   have hlt : i < xs.length := by omega
   have hg := List.getElem?_eq_getElem hlt
   by_cases hp : p i xs[i]
   ·rw [h1 i _ hji hlt hg hp]
    have := ih (i + 1) (by omega) (by omega)
    rw [show ((i : Int) + 1) = ((i + 1 : Nat) : Int) by omega, this]
    have hiff : (∀ (k : Nat) a, i + 1 ≤ k → xs[k]? = some a → p k a) ↔ (∀ (k : Nat) a, i ≤ k → xs[k]? = some a → p k a) := by
     constructor
     ·intro h k a hk hka
      rcases Nat.eq_or_lt_of_le hk with e | e
      ·subst e; rw [hg] at hka; cases hka; exact hp
      ·exact h k a e hka
     ·intro h k a hk hka; exact h k a (by omega) hka
    by_cases hall : ∀ (k : Nat) a, i ≤ k → xs[k]? = some a → p k a
    ·rw [if_pos hall, if_pos (hiff.2 hall)]
    ·rw [if_neg hall, if_neg (fun h => hall (hiff.1 h))]
   ·rw [h2 i _ hji hlt hg hp, if_neg]
    intro h
    exact hp (h i _ (Nat.le_refl _) hg)
 exact key (xs.length - j) j (by omega) (Nat.le_refl _)
def ltB (a b : ByteArray) : Bool := Op.bytesLess a.toList b.toList
theorem znz : ∀ l : List UInt8, Op.bytesLess l l = false
 | [] => rfl
 | a :: r => by
  have h : ¬ a < a := by rw [UInt8.lt_iff_toNat_lt]; omega
  simp [Op.bytesLess, znz r, h]
theorem zpI : ∀ {a b c : List UInt8}, Op.bytesLess a b = true → Op.bytesLess b c = true → Op.bytesLess a c = true
 | _, _, [], _, h => by simp [Op.bytesLess] at h
 | _, [], _ :: _, h, _ => by simp [Op.bytesLess] at h
 | [], _ :: _, _ :: _, _, _ => rfl
 | a :: x, b :: y, c :: z, h1, h2 => by
  simp only [Op.bytesLess, Bool.or_eq_true, Bool.and_eq_true, decide_eq_true_eq, beq_iff_eq] at h1 h2 ⊢
  rcases h1 with h1 | ⟨e1, h1⟩
  ·rcases h2 with h2 | ⟨e2, h2⟩
   ·left; rw [UInt8.lt_iff_toNat_lt] at *; omega
   ·subst e2; exact .inl h1
  ·subst e1
   rcases h2 with h2 | ⟨e2, h2⟩
   ·exact .inl h2
   ·exact .inr ⟨e2, zpI h1 h2⟩
theorem zvl : ∀ {a b : List UInt8}, Op.bytesLess a b = false → Op.bytesLess b a = false → a = b
 | [], [], _, _ => rfl
 | [], _ :: _, h, _ => by simp [Op.bytesLess] at h
 | _ :: _, [], _, h => by simp [Op.bytesLess] at h
 | a :: x, b :: y, h1, h2 => by
  simp only [Op.bytesLess, Bool.or_eq_false_iff, Bool.and_eq_false_iff, decide_eq_false_iff_not] at h1 h2
  have e : a = b := by
   have h3 := h1.1; have h4 := h2.1
   rw [UInt8.lt_iff_toNat_lt] at h3 h4
   exact UInt8.toNat.inj (by omega)
  subst e
  rw [zvl (h1.2.resolve_left (by simp)) (h2.2.resolve_left (by simp))]
theorem toList_inj {a b : ByteArray} (h : a.toList = b.toList) : a = b := by
 rw [ByteArray.toList_eq a, ByteArray.toList_eq b] at h
 obtain ⟨⟨x⟩⟩ := a
 obtain ⟨⟨y⟩⟩ := b
 simp only at h
 subst h; rfl
theorem zlT (a : ByteArray) : ltB a a = false := znz _
theorem zko {a b c : ByteArray} (h1 : ltB a b = true) (h2 : ltB b c = true) : ltB a c = true := zpI h1 h2
theorem zzR {a b : ByteArray} (h1 : ltB a b = false) (h2 : ltB b a = false) : a = b := toList_inj (zvl h1 h2)
theorem zxS {a b : ByteArray} (h : ltB a b = true) : ltB b a = false := by
 cases h2 : ltB b a with
 | false => rfl
 | true => have := zko h h2; rw [zlT] at this; cases this
def Srt {α : Type} (nm : α → ByteArray) (xs : List α) : Prop := ∀ (i : Nat) a b, xs[i]? = some a → xs[i + 1]? = some b → ltB (nm a) (nm b) = true
theorem Srt.tail {α : Type} {nm : α → ByteArray} {a : α} {r : List α} (h : Srt nm (a :: r)) : Srt nm r := fun i x y h1 h2 => h (i + 1) x y h1 h2
theorem Srt.head {α : Type} {nm : α → ByteArray} : ∀ {r : List α} {a : α}, Srt nm (a :: r) → ∀ b ∈ r, ltB (nm a) (nm b) = true
 | c :: r, a, h, b, hb => by
  have h0 := h 0 a c rfl rfl
  rcases List.mem_cons.1 hb with e | e
  ·subst e; exact h0
  ·exact zko h0 (Srt.head h.tail b e)
theorem Srt.pair {α : Type} {nm : α → ByteArray} : ∀ {xs : List α}, Srt nm xs ↔ xs.Pairwise fun a b => ltB (nm a) (nm b) = true
 | [] => ⟨fun _ => .nil, fun _ i a b h => by cases h⟩
 | a :: r => by
  constructor
  ·intro h; exact .cons (fun b hb => h.head b hb) (Srt.pair.1 h.tail)
  ·intro h
   cases h with
   | cons h1 h2 =>
    intro i x y hx hy
    cases i with
    | zero =>
     cases hx
     exact h1 y (List.mem_of_getElem? hy)
    | succ i => exact Srt.pair.2 h2 i x y hx hy
def pos {α : Type} (nm : α → ByteArray) (xs : List α) (x : ByteArray) : Nat := (xs.takeWhile fun a => ltB (nm a) x).length
theorem znA {α : Type} (nm : α → ByteArray) (xs : List α) (x : ByteArray) : pos nm xs x ≤ xs.length := by
 unfold pos
 have := congrArg List.length (List.takeWhile_append_dropWhile (p := fun a => ltB (nm a) x) (l := xs))
 rw [List.length_append] at this; omega
theorem znB {α : Type} {nm : α → ByteArray} : ∀ {xs : List α}, Srt nm xs → ∀ {x : ByteArray} {i : Nat} {a : α}, xs[i]? = some a → (ltB (nm a) x = true ↔ i < pos nm xs x)
 | [], _, x, i, a, h => by cases h
 | b :: r, hS, x, i, a, h => by
  unfold pos
  rw [List.takeWhile_cons]
  cases hb : ltB (nm b) x with
  | true =>
   simp only [if_true, List.length_cons]
   cases i with
   | zero => cases h; simp [hb]
   | succ i =>
    have := znB hS.tail (x := x) (i := i) (a := a) h
    unfold pos at this
    rw [this]; omega
  | false =>
   simp only [Bool.false_eq_true, if_false, List.length_nil, Nat.not_lt_zero, iff_false]
   intro ha
   cases i with
   | zero => cases h; rw [hb] at ha; cases ha
   | succ i =>
    have := hS.head a (List.mem_of_getElem? h)
    rw [zko this ha] at hb; cases hb
theorem zvm (a b : Nat) (h : a + b < 4611686018427387904) : IntKind.wrap .i64 ((IntKind.wrap .u64 (IntKind.wrap .i64 ((a : Int) + b))).fdiv (2 ^ (min 1 (IntKind.bits .u64)))) = (((a + b) / 2 : Nat) : Int) := by
 rw [w64 (n := (a : Int) + b) (by omega) (by omega)]
 have e1 : IntKind.wrap .u64 ((a : Int) + b) = (a : Int) + b := by
  simp [IntKind.wrap, IntKind.signed, IntKind.bits]; omega
 have e2 : (2 : Int) ^ (min 1 (IntKind.bits .u64)) = 2 := rfl
 rw [e1, e2, Int.fdiv_eq_ediv_of_nonneg _ (by omega)]
 have e3 : ((a : Int) + b) / 2 = (((a + b) / 2 : Nat) : Int) := by omega
 rw [e3, w64 (by omega) (by omega)]
theorem zsI {α : Type} (nm : α → ByteArray) (xs : List α) (hx : xs.length ≤ 1073741824) (hS : Srt nm xs) (x : ByteArray) (L : Int → Int → Option Int)
  (hL : ∀ (lo hi : Nat), L lo hi = if (lo : Int) < hi then (idx xs (IntKind.wrap .i64 ((IntKind.wrap .u64 (IntKind.wrap .i64 ((lo : Int) + hi))).fdiv (2 ^ (min 1 (IntKind.bits .u64))))) >>= fun a => if ltB (nm a) x = true then L (IntKind.wrap .i64 (IntKind.wrap .i64 ((IntKind.wrap .u64 (IntKind.wrap .i64 ((lo : Int) + hi))).fdiv (2 ^ (min 1 (IntKind.bits .u64)))) + 1)) hi else L lo (IntKind.wrap .i64 ((IntKind.wrap .u64 (IntKind.wrap .i64 ((lo : Int) + hi))).fdiv (2 ^ (min 1 (IntKind.bits .u64)))))) else some (lo : Int)) :
  L 0 xs.length = some ((pos nm xs x : Nat) : Int) := by
 have key : ∀ (n lo hi : Nat), hi - lo ≤ n → lo ≤ pos nm xs x → pos nm xs x ≤ hi → hi ≤ xs.length → L lo hi = some ((pos nm xs x : Nat) : Int) := by
  intro n
  induction n with
  | zero =>
   intro lo hi h1 h2 h3 h4
   rw [hL, if_neg (by omega)]
   exact congrArg some (by omega)
  | succ n ih =>
   intro lo hi h1 h2 h3 h4
   rw [hL]
   by_cases hlt : lo < hi
   ·rw [if_pos (by omega), zvm lo hi (by omega), zaI, List.getElem?_eq_getElem (show (lo + hi) / 2 < xs.length by omega)]
    simp only [Option.bind_eq_bind, Option.bind_some]
    have hq := znB hS (x := x) (List.getElem?_eq_getElem (show (lo + hi) / 2 < xs.length by omega))
    by_cases hc : ltB (nm xs[(lo + hi) / 2]) x = true
    ·rw [if_pos hc, w64 (by omega) (by omega)]
     have := hq.1 hc
     exact ih ((lo + hi) / 2 + 1) hi (by omega) (by omega) h3 h4
    ·rw [if_neg hc]
     have : ¬ (lo + hi) / 2 < pos nm xs x := fun q => hc (hq.2 q)
     exact ih lo ((lo + hi) / 2) (by omega) h2 (by omega) (by omega)
   ·rw [if_neg (by omega)]
    exact congrArg some (by omega)
 exact key xs.length 0 xs.length (by omega) (Nat.zero_le _) (znA ..) (Nat.le_refl _)
theorem zuz {α : Type} {nm : α → ByteArray} : ∀ {xs : List α}, Srt nm xs → ∀ (x : ByteArray), (xs.find? fun a => decide (nm a = x)) = (xs[pos nm xs x]?).bind fun a => if nm a = x then some a else none
 | [], _, x => rfl
 | b :: r, hS, x => by
  unfold pos
  rw [List.takeWhile_cons, List.find?_cons]
  cases hb : ltB (nm b) x with
  | true =>
   have : ¬ nm b = x := fun e => by rw [e, zlT] at hb; cases hb
   simp only [decide_eq_false this, if_true, List.length_cons, List.getElem?_cons_succ]
   exact zuz hS.tail x
  | false =>
   simp only [Bool.false_eq_true, if_false, List.length_nil, List.getElem?_cons_zero, Option.bind_some]
   by_cases he : nm b = x
   ·simp [he]
   ·simp only [decide_eq_false he, if_neg he]
    rw [List.find?_eq_none]
    intro a ha
    have h1 := hS.head a ha
    simp only [decide_eq_true_eq]
    intro e
    rw [← e, h1] at hb; cases hb
def posQ {α : Type} (q : α → Bool) (xs : List α) : Nat := (xs.takeWhile q).length
theorem zws {α : Type} (q : α → Bool) (xs : List α) : posQ q xs ≤ xs.length := by
 unfold posQ
 have := congrArg List.length (List.takeWhile_append_dropWhile (p := q) (l := xs))
 rw [List.length_append] at this; omega
theorem zxg {α : Type} (q : α → Bool) (xs : List α) (hx : xs.length ≤ 1073741824) (hq : ∀ (i : Nat) a, xs[i]? = some a → (q a = true ↔ i < posQ q xs)) (L : Int → Int → Option Int)
  (hL : ∀ (lo hi : Nat), L lo hi = if (lo : Int) < hi then (idx xs (IntKind.wrap .i64 ((IntKind.wrap .u64 (IntKind.wrap .i64 ((lo : Int) + hi))).fdiv (2 ^ (min 1 (IntKind.bits .u64))))) >>= fun a => if q a = true then L (IntKind.wrap .i64 (IntKind.wrap .i64 ((IntKind.wrap .u64 (IntKind.wrap .i64 ((lo : Int) + hi))).fdiv (2 ^ (min 1 (IntKind.bits .u64)))) + 1)) hi else L lo (IntKind.wrap .i64 ((IntKind.wrap .u64 (IntKind.wrap .i64 ((lo : Int) + hi))).fdiv (2 ^ (min 1 (IntKind.bits .u64)))))) else some (lo : Int)) :
  L 0 xs.length = some ((posQ q xs : Nat) : Int) := by
 have key : ∀ (n lo hi : Nat), hi - lo ≤ n → lo ≤ posQ q xs → posQ q xs ≤ hi → hi ≤ xs.length → L lo hi = some ((posQ q xs : Nat) : Int) := by
  intro n
  induction n with
  | zero =>
   intro lo hi h1 h2 h3 h4
   rw [hL, if_neg (by omega)]
   exact congrArg some (by omega)
  | succ n ih =>
   intro lo hi h1 h2 h3 h4
   rw [hL]
   by_cases hlt : lo < hi
   ·rw [if_pos (by omega), zvm lo hi (by omega), zaI, List.getElem?_eq_getElem (show (lo + hi) / 2 < xs.length by omega)]
    simp only [Option.bind_eq_bind, Option.bind_some]
    have hq' := hq _ _ (List.getElem?_eq_getElem (show (lo + hi) / 2 < xs.length by omega))
    by_cases hc : q xs[(lo + hi) / 2] = true
    ·rw [if_pos hc, w64 (by omega) (by omega)]
     have := hq'.1 hc
     exact ih ((lo + hi) / 2 + 1) hi (by omega) (by omega) h3 h4
    ·rw [if_neg hc]
     have : ¬ (lo + hi) / 2 < posQ q xs := fun e => hc (hq'.2 e)
     exact ih lo ((lo + hi) / 2) (by omega) h2 (by omega) (by omega)
   ·rw [if_neg (by omega)]
    exact congrArg some (by omega)
 exact key xs.length 0 xs.length (by omega) (Nat.zero_le _) (zws ..) (Nat.le_refl _)
def SrtI {α : Type} (nm : α → Int) (xs : List α) : Prop := xs.Pairwise fun a b => nm a < nm b
theorem zwt {α : Type} {nm : α → Int} : ∀ {xs : List α}, SrtI nm xs → ∀ {x : Int} (i : Nat) (a : α), xs[i]? = some a → (decide (nm a < x) = true ↔ i < posQ (fun a => decide (nm a < x)) xs)
 | [], _, x, i, a, h => by cases h
 | b :: r, hS, x, i, a, h => by
  cases hS with
  | cons h1 h2 =>
   unfold posQ
   rw [List.takeWhile_cons]
   by_cases hb : nm b < x
   ·simp only [hb, decide_true, if_true, List.length_cons]
    cases i with
    | zero => cases h; simp [hb]
    | succ i =>
     have := zwt (nm := nm) h2 (x := x) i a h
     unfold posQ at this
     rw [this]; omega
   ·simp only [hb, decide_false, Bool.false_eq_true, if_false, List.length_nil, Nat.not_lt_zero, iff_false]
    cases i with
    | zero => cases h; simp [hb]
    | succ i =>
     have := h1 a (List.mem_of_getElem? h)
     simp only [decide_eq_true_eq]; omega
theorem zsJ {α : Type} {nm : α → Int} : ∀ {xs : List α}, SrtI nm xs → ∀ (x : Int), (xs.find? fun a => decide (nm a = x)) = (xs[posQ (fun a => decide (nm a < x)) xs]?).bind fun a => if nm a = x then some a else none
 | [], _, x => rfl
 | b :: r, hS, x => by
  cases hS with
  | cons h1 h2 =>
   unfold posQ
   rw [List.takeWhile_cons, List.find?_cons]
   by_cases hb : nm b < x
   ·have : ¬ nm b = x := by omega
    simp only [decide_eq_false this, hb, decide_true, if_true, List.length_cons, List.getElem?_cons_succ]
    exact zsJ h2 x
   ·simp only [hb, decide_false, Bool.false_eq_true, if_false, List.length_nil, List.getElem?_cons_zero, Option.bind_some]
    by_cases he : nm b = x
    ·simp [he]
    ·simp only [decide_eq_false he, if_neg he]
     rw [List.find?_eq_none]
     intro a ha
     have := h1 a ha
     simp only [decide_eq_true_eq]; omega
theorem zzS {α : Type} {l : List α} {i : Nat} {a : α} (h : l[i]? = some a) : a ∈ l := List.mem_of_getElem? h
theorem zAd {b : Bool} {p : Prop} {d : Decidable p} (h : b = true ↔ p) : some b = some (@decide p d) := by
 cases b with
 | true => rw [@decide_eq_true p d (h.1 rfl)]
 | false => rw [@decide_eq_false p d (fun q => by have := h.2 q; cases this)]
open Classical in
theorem zzT {α : Type} (l : List α) (p : α → Prop) : (l.all fun a => decide (p a)) = decide (∀ a ∈ l, p a) := by
 rw [Bool.eq_iff_iff, List.all_eq_true, decide_eq_true_iff]
 exact ⟨fun h a ha => of_decide_eq_true (h a ha), fun h a ha => decide_eq_true (h a ha)⟩
end Go.Vx
