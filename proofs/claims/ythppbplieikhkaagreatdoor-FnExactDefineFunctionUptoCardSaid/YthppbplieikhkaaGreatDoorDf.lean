/-
  DefineFunction: both sides.
-/
import Derived.Test.YthppbplieikhkaaGreatDoorCi
import Derived.Test.YthppbplieikhkaaGreatDoorCs
import Derived.Test.YthppbplieikhkaaGreatDoorRp
import Derived.Test.YthppbplieikhkaaGreatDoorPr
set_option linter.unusedVariables false
set_option linter.unusedSimpArgs false
namespace Go.Vx.DfZ
set_option linter.unusedVariables false
open Classical
abbrev fnm := TFunction.Name
def zjm : TScope := TScope.mk [] [] []
theorem zrO (xs : List TFunction) (x : ByteArray) (h : xs.length ≤ 1048576) (hS : Srt fnm xs) : zcK xs x = some (((pos fnm xs x : Nat) : Int), zhd fnm xs x) := by
 unfold zcK zak
 rw [zwZ fnm xs x h hS (fun a => zbw a x) (fun a => by simp only [zbw, zaT, Option.bind_eq_bind, Option.bind_some, zzw]) (zac xs x xs.length) (fun lo hi => zac.eq_1 ..)]
 rfl
theorem zrP (xs : List TFunction) (y : TFunction) (h : xs.length ≤ 1048576) (hS : Srt fnm xs) : zbD xs y = some (repL fnm xs y) := by
 unfold zbD zaT zaC zaE
 simp only [Option.bind_eq_bind, Option.bind_some, zrO xs y.Name h hS]
 rw [zde (show xs.length ≤ most by unfold most; omega)]
 simp only [Option.bind_some]
 have := zzW fnm xs y h
 simp only [Option.bind_eq_bind] at this
 simpa using this
theorem zou (x : ByteArray) : (zeC x).length ≤ x.size + 1 ∧ (x.size = 0 → (zeC x).length = 0) := by
 have key : ∀ l : List UInt8, (cutC 44 l).length ≤ l.length + 1 := by
  intro l
  induction l with
  | nil => exact Nat.le_refl _
  | cons b r ih =>
   obtain ⟨y, t, hy⟩ := zor 44 r
   rw [hy] at ih
   unfold cutC
   rw [hy]
   split <;> simp at ih ⊢ <;> omega
 unfold zeC
 constructor
 ·split
  ·simp
  ·have := key (bts x)
   rw [zfl] at this
   rw [List.length_map]; omega
 ·intro h
  rw [if_pos (List.length_eq_zero_iff.1 (by rw [zfl]; exact h))]; rfl
theorem zlb (p : ByteArray) (h : p.size ≤ 1048576) (hp : prOK (bts p)) : (prP p).length + (prL p).length ≤ 1048576 := by
 have a1 := zou (p.extract (fi 40 (bts p) + 1) (fi 41 (bts p)))
 have a2 := zou (p.extract (fi 41 (bts p) + 1) p.size)
 have b1 : (p.extract (fi 40 (bts p) + 1) (fi 41 (bts p))).size = min (fi 41 (bts p)) p.size - (fi 40 (bts p) + 1) := ByteArray.size_extract
 have b2 : (p.extract (fi 41 (bts p) + 1) p.size).size = min p.size p.size - (fi 41 (bts p) + 1) := ByteArray.size_extract
 have b3 := zfl p
 obtain ⟨q1, q2, q3⟩ := hp
 unfold prP prL
 omega
def lab (p l : ByteArray) : ByteArray := if l = ⟨#[]⟩ then prN p else l
def fOf (p l : ByteArray) : TFunction := TFunction.mk (prN p) (prP p) (prL p) (lab p l)
noncomputable def defF (s : TScope) (p l : ByteArray) : TScope × Int :=
 if zbk s ∧ (l = ⟨#[]⟩ ∨ zat l = true) then
  (if prOK (bts p) ∧ FnOK (fOf p l) then
   (if (repL fnm s.Functions (fOf p l)).length > 12 then (zjm, 6) else (TScope.mk s.Vars (repL fnm s.Functions (fOf p l)) s.Types, 0))
  else (zjm, 2))
 else (zjm, 1)
theorem zxd (p l : ByteArray) (b : Bool) (y : TFunction) (v : List TBinding) (f : List TFunction) (t : List TRecordType) (hy : b = true → y.Params.length + y.Locals.length ≤ 1048576) (hf : f.length ≤ 12) (hS : Srt fnm f) :
  zbb p l b y v f t = some (if b = true ∧ FnOK y then (if (repL fnm f y).length > 12 then .inl (6, f.length) else .inr (0, repL fnm f y)) else .inr (2, f)) := by
 unfold zbb zcS
 cases b with
 | false => simp
 | true =>
  rw [if_pos rfl, ztF y (hy rfl)]
  simp only [Option.bind_eq_bind, Option.bind_some]
  by_cases hF : FnOK y
  ·rw [decide_eq_true hF]
   simp only [if_true]
   rw [zrP f y (by omega) hS]
   simp only [Option.bind_some]
   by_cases h12 : (repL fnm f y).length > 12
   ·have h12' : ((repL fnm f y).length : Int) > 12 := by omega
    rw [if_pos h12']; simp [hF, h12]
   ·have h12' : ¬ ((repL fnm f y).length : Int) > 12 := by omega
    rw [if_neg h12']; simp [hF, h12]
  ·rw [decide_eq_false hF]; simp [hF]
theorem zpm (p l : ByteArray) (v : List TBinding) (f : List TFunction) (t : List TRecordType) (h : p.size ≤ 1048576) (hf : f.length ≤ 12) (hS : Srt fnm f) :
  zdn p l v f t = some (if prOK (bts p) ∧ FnOK (fOf p l) then (if (repL fnm f (fOf p l)).length > 12 then .inl (6, f.length) else .inr (0, repL fnm f (fOf p l))) else .inr (2, f)) := by
 obtain ⟨r, hr, h1, h2⟩ := zrN p h
 have main : ∀ y : TFunction, (prOK (bts p) → y = fOf p l) → (r.2.2.2 = true → y.Params.length + y.Locals.length ≤ 1048576) → zbb p l r.2.2.2 y v f t = some (if prOK (bts p) ∧ FnOK (fOf p l) then (if (repL fnm f (fOf p l)).length > 12 then .inl (6, f.length) else .inr (0, repL fnm f (fOf p l))) else .inr (2, f)) := by
  intro y hy hb
  rw [zxd p l r.2.2.2 y v f t hb hf hS]
  by_cases hp : prOK (bts p)
  ·obtain rfl := hy hp
   by_cases hF : FnOK (fOf p l)
   ·have hb2 : r.2.2.2 = true := by
     rw [h1 hp]
     obtain ⟨q1, q2, q3, q4, q5⟩ := hF
     have a1 : zat (prN p) = true := q1
     have a2 : (prP p).all zat = true := List.all_eq_true.2 fun x hx => q5.1 x (List.mem_append_left _ hx)
     have a3 : (prL p).all zat = true := List.all_eq_true.2 fun x hx => q5.1 x (List.mem_append_right _ hx)
     show (zat (prN p) && (prP p).all zat && (prL p).all zat) = true
     rw [a1, a2, a3]; rfl
    have c1 : r.2.2.2 = true ∧ FnOK (fOf p l) := ⟨hb2, hF⟩
    have c2 : prOK (bts p) ∧ FnOK (fOf p l) := ⟨hp, hF⟩
    simp only [if_pos c1, if_pos c2]
   ·have c1 : ¬ (r.2.2.2 = true ∧ FnOK (fOf p l)) := fun q => hF q.2
    have c2 : ¬ (prOK (bts p) ∧ FnOK (fOf p l)) := fun q => hF q.2
    simp only [if_neg c1, if_neg c2]
  ·have c1 : ¬ (r.2.2.2 = true ∧ FnOK y) := fun q => by rw [h2 hp] at q; cases q.1
   have c2 : ¬ (prOK (bts p) ∧ FnOK (fOf p l)) := fun q => hp q.1
   simp only [if_neg c1, if_neg c2]
 unfold zdn
 rw [hr]
 simp only [Option.bind_eq_bind, Option.bind_some]
 have hsz : r.2.2.2 = true → (r.2.1).length + (r.2.2.1).length ≤ 1048576 := by
  intro hb
  by_cases hp : prOK (bts p)
  ·rw [h1 hp]; exact zlb p h hp
  ·rw [h2 hp] at hb; cases hb
 by_cases hl : l = ⟨#[]⟩
 ·rw [if_pos hl]
  refine main _ (fun hp => ?_) hsz
  rw [h1 hp]; unfold fOf lab; rw [if_pos hl]
 ·rw [if_neg hl]
  refine main _ (fun hp => ?_) hsz
  rw [h1 hp]; unfold fOf lab; rw [if_neg hl]
theorem zhY (s : TScope) (p l : ByteArray) (h : TScope.n s ≤ 1048576) (hp : p.size ≤ 1048576) : zcx s p l = some (.inr (defF s p l)) := by
 unfold zcx defF
 rw [zkU s h]
 simp only [Option.bind_eq_bind, Option.bind_some]
 by_cases h1 : zbk s
 ·rw [decide_eq_true h1, if_pos rfl]
  have main : ∀ z, zbc p l s z = some (.inr (if prOK (bts p) ∧ FnOK (fOf p l) then (if (repL fnm s.Functions (fOf p l)).length > 12 then (zjm, 6) else (TScope.mk s.Vars (repL fnm s.Functions (fOf p l)) s.Types, 0)) else (zjm, 2))) := by
   intro z
   unfold zbc
   rw [zpk s h]
   simp only [Option.bind_eq_bind, Option.bind_some]
   rw [zpm p l s.Vars s.Functions s.Types hp h1.1.2.1 h1.2.1.2.1]
   simp only [Option.bind_some]
   by_cases hc : prOK (bts p) ∧ FnOK (fOf p l)
   ·by_cases h12 : (repL fnm s.Functions (fOf p l)).length > 12
    ·simp only [if_pos hc, if_pos h12]; rfl
    ·simp only [if_pos hc, if_neg h12]; rfl
   ·simp only [if_neg hc]; rfl
  by_cases hl : l = ⟨#[]⟩
  ·rw [if_pos hl, main, if_pos (show zbk s ∧ (l = ⟨#[]⟩ ∨ zat l = true) from ⟨h1, .inl hl⟩)]
  ·rw [if_neg hl, zdu]
   simp only [Option.bind_some]
   by_cases hn : zat l = true
   ·rw [if_pos hn, main, if_pos (show zbk s ∧ (l = ⟨#[]⟩ ∨ zat l = true) from ⟨h1, .inr hn⟩)]
   ·rw [if_neg hn, if_neg (fun q => q.2.elim hl hn)]; rfl
 ·rw [decide_eq_false h1, if_neg (by simp), if_neg (fun q => h1 q.1)]; rfl
theorem ztV (p l : ByteArray) (z s : TScope) (acc : List TFunction) (i : Nat) (hi : i ≤ s.Functions.length) (ha : acc.length + s.Functions.length ≤ 2097153) :
  ∃ r, zaD p l z s acc (i : Int) = some r ∧ (Sum.elim id id) r = if (acc ++ s.Functions.drop i).length > 12 then (zjm, 6) else (TScope.mk s.Vars (acc ++ s.Functions.drop i) s.Types, 0) := by
 unfold zaD subL
 rw [if_pos (by omega)]
 simp only [Option.bind_eq_bind, Option.bind_some, Int.toNat_natCast]
 rw [zge (by unfold most; rw [List.length_drop]; omega)]
 simp only [Option.bind_some]
 by_cases hl : (acc ++ s.Functions.drop i).length > 12
 ·rw [if_pos (by omega), if_pos hl]; exact ⟨_, rfl, rfl⟩
 ·rw [if_neg (by omega), if_neg hl]; exact ⟨_, rfl, rfl⟩
theorem zuN (p l : ByteArray) (z s : TScope) (nm : ByteArray) (y : TFunction) (hy : y.Name = nm) (h : TScope.n s ≤ 1048576) (hS : Srt fnm s.Functions) :
  ∃ r, zbA p l s z nm y = some r ∧ (Sum.elim id id) r = if (repL fnm s.Functions y).length > 12 then (zjm, 6) else (TScope.mk s.Vars (repL fnm s.Functions y) s.Types, 0) := by
 have h' := h
 simp only [TScope.n] at h'
 have hp := znA fnm s.Functions nm
 unfold zbA
 rw [zuK s h]
 simp only [Option.bind_eq_bind, Option.bind_some]
 have hloop := zuM fnm s.Functions nm (by omega) hS (fun acc i => zbz p l z nm y s acc i) (fun acc i hi => by
  show zbz p l z nm y s acc (i : Int) = _
  rw [zbz.eq_1]
  by_cases hl : i < s.Functions.length
  ·rw [if_pos (by omega), if_pos (by omega), zaI, List.getElem?_eq_getElem hl]
   simp only [Option.bind_eq_bind, Option.bind_some]
   unfold zcl
   rw [zaI, List.getElem?_eq_getElem hl]
   simp only [Option.bind_eq_bind, Option.bind_some]
   rw [w64 (by omega) (by omega), show ((i : Int) + 1) = ((i + 1 : Nat) : Int) by omega]
   cases app acc [s.Functions[i]] <;> rfl
  ·rw [if_neg (by omega), if_neg (by omega)])
 rw [hloop]
 simp only [Option.bind_some]
 rw [zge (by unfold most; simp only [List.length_take, List.length_cons, List.length_nil]; omega)]
 simp only [Option.bind_some]
 have hla : (s.Functions.take (pos fnm s.Functions nm) ++ [y]).length + s.Functions.length ≤ 2097153 := by
  simp only [List.length_append, List.length_take, List.length_cons, List.length_nil]; omega
 have fin : ∀ k : Nat, k ≤ s.Functions.length → k = (if zhd fnm s.Functions nm = true then pos fnm s.Functions nm + 1 else pos fnm s.Functions nm) → ∃ r, (zaD p l z s (s.Functions.take (pos fnm s.Functions nm) ++ [y]) (k : Int)).bind (fun t => some t) = some r ∧ (Sum.elim id id) r = if (repL fnm s.Functions y).length > 12 then (zjm, 6) else (TScope.mk s.Vars (repL fnm s.Functions y) s.Types, 0) := by
  intro k hk e
  obtain ⟨r, hr, hr2⟩ := ztV p l z s (s.Functions.take (pos fnm s.Functions nm) ++ [y]) k hk hla
  have hrep : repL fnm s.Functions y = s.Functions.take (pos fnm s.Functions nm) ++ [y] ++ s.Functions.drop k := by
   unfold repL
   rw [show fnm y = nm from hy, ← e, List.append_assoc]; rfl
  rw [hr, hrep]
  exact ⟨r, rfl, hr2⟩
 by_cases hl : pos fnm s.Functions nm < s.Functions.length
 ·have hg := List.getElem?_eq_getElem hl
  rw [if_pos (by omega), zaI, hg]
  simp only [Option.bind_some]
  by_cases he : (s.Functions[pos fnm s.Functions nm]).Name = nm
  ·have hh : zhd fnm s.Functions nm = true := by unfold zhd; rw [hg]; exact decide_eq_true he
   rw [if_pos he, w64 (by omega) (by omega), show ((pos fnm s.Functions nm : Nat) : Int) + 1 = ((pos fnm s.Functions nm + 1 : Nat) : Int) by omega]
   exact fin _ (by omega) (by rw [if_pos hh])
  ·have hh : ¬ zhd fnm s.Functions nm = true := by unfold zhd; rw [hg]; simp [he]
   rw [if_neg he]
   exact fin _ (by omega) (by rw [if_neg hh])
 ·have hh : ¬ zhd fnm s.Functions nm = true := fun e => hl (zqW e)
  rw [if_neg (by omega)]
  exact fin _ (by omega) (by rw [if_neg hh])
theorem ztW (s z : TScope) (p l : ByteArray) (h : TScope.n s ≤ 1048576) (hp : p.size ≤ 1048576) (hS : Srt fnm s.Functions) :
  ∃ r, zba p l s z = some r ∧ (Sum.elim id id) r = if prOK (bts p) ∧ FnOK (fOf p l) then (if (repL fnm s.Functions (fOf p l)).length > 12 then (zjm, 6) else (TScope.mk s.Vars (repL fnm s.Functions (fOf p l)) s.Types, 0)) else (zjm, 2) := by
 have main : ∀ y : TFunction, prOK (bts p) → y = fOf p l → ∃ r, (zaJ p l s z (prN p) true y).bind (fun t => some t) = some r ∧ (Sum.elim id id) r = if prOK (bts p) ∧ FnOK (fOf p l) then (if (repL fnm s.Functions (fOf p l)).length > 12 then (zjm, 6) else (TScope.mk s.Vars (repL fnm s.Functions (fOf p l)) s.Types, 0)) else (zjm, 2) := by
  intro y q1 hy
  have hsz : y.Params.length + y.Locals.length ≤ 1048576 := by rw [hy]; exact zlb p hp q1
  have hyn : y.Name = prN p := by rw [hy]; rfl
  rw [← hy]
  clear hy
  unfold zaJ
  simp only [if_true]
  rw [ztI y hsz]
  simp only [Option.bind_eq_bind, Option.bind_some]
  by_cases hF : FnOK y
  ·obtain ⟨r, hr, hr2⟩ := zuN p l z s (prN p) y hyn h hS
   have c2 : prOK (bts p) ∧ FnOK y := ⟨q1, hF⟩
   rw [decide_eq_true hF, hr]
   simp only [if_true, Option.bind_some, if_pos c2]
   exact ⟨r, rfl, hr2⟩
  ·have c2 : ¬ (prOK (bts p) ∧ FnOK y) := fun q => hF q.2
   rw [decide_eq_false hF]
   simp only [Bool.false_eq_true, if_false, Option.bind_some, if_neg c2]
   exact ⟨_, rfl, rfl⟩
 unfold zba
 rw [zrM p hp]
 simp only [Option.bind_eq_bind, Option.bind_some]
 by_cases q1 : prOK (bts p)
 ·rw [if_pos q1]
  simp only []
  by_cases hl : l = ⟨#[]⟩
  ·have e : TFunction.mk (prN p) (prP p) (prL p) (prN p) = fOf p l := by unfold fOf lab; rw [if_pos hl]
   rw [if_pos hl]; exact main _ q1 e
  ·have e : TFunction.mk (prN p) (prP p) (prL p) l = fOf p l := by unfold fOf lab; rw [if_neg hl]
   rw [if_neg hl]; exact main _ q1 e
 ·rw [if_neg q1, if_neg (show ¬ (prOK (bts p) ∧ FnOK (fOf p l)) from fun q => q1 q.1)]
  unfold zaJ
  simp only [Bool.false_eq_true, if_false]
  split <;> exact ⟨_, rfl, rfl⟩
theorem zhZ (s : TScope) (p l : ByteArray) (h : TScope.n s ≤ 1048576) (hp : p.size ≤ 1048576) : ∃ r, zcu s p l = some r ∧ (Sum.elim id id) r = defF s p l := by
 unfold zcu defF
 rw [zkW s h]
 simp only [Option.bind_eq_bind, Option.bind_some]
 by_cases h1 : zbk s
 ·rw [decide_eq_true h1, if_pos rfl]
  by_cases hl : l = ⟨#[]⟩
  ·rw [if_pos hl, if_pos (show zbk s ∧ (l = ⟨#[]⟩ ∨ zat l = true) from ⟨h1, .inl hl⟩)]
   exact ztW s _ p l h hp h1.2.1.2.1
  ·rw [if_neg hl, zdv]
   simp only [Option.bind_some]
   by_cases hn : zat l = true
   ·rw [if_pos hn, if_pos (show zbk s ∧ (l = ⟨#[]⟩ ∨ zat l = true) from ⟨h1, .inr hn⟩)]
    exact ztW s _ p l h hp h1.2.1.2.1
   ·rw [if_neg hn, if_neg (show ¬ (zbk s ∧ (l = ⟨#[]⟩ ∨ zat l = true)) from fun q => q.2.elim hl hn)]; exact ⟨_, rfl, rfl⟩
 ·rw [decide_eq_false h1, if_neg (by simp), if_neg (show ¬ (zbk s ∧ (l = ⟨#[]⟩ ∨ zat l = true)) from fun q => h1 q.1)]; exact ⟨_, rfl, rfl⟩
theorem ztX (s : TScope) (p l : ByteArray) : TScope.n (defF s p l).1 ≤ TScope.n s + 300 := by
 have z : TScope.n zjm = 0 := by decide
 unfold defF
 split
 ·split
  ·rename_i hq
   obtain ⟨q1, q2, q3, q4, q5⟩ := hq.2
   have a1 := zjl q1
   have a2 := zjl q2
   have a3 := zla _ (fun x hx => q5.1 x (List.mem_append_left _ hx))
   have a4 := zla _ (fun x hx => q5.1 x (List.mem_append_right _ hx))
   split
   ·rw [z]; omega
   ·have b1 := zuL fnm s.Functions (fOf p l)
    have b2 := ztU fnm TFunction.n s.Functions (fOf p l)
    have b3 : TFunction.n (fOf p l) ≤ 12 + (6 + 72) + (6 + 72) + 12 := by simp only [TFunction.n]; omega
    simp only [TScope.n]
    omega
  ·rw [z]; omega
 ·rw [z]; omega
theorem zuO (x0 : TScope) (x1 : ByteArray) (x2 : ByteArray) (h0 : TScope.n x0 ≤ 1048576) (h1 : x1.size ≤ 1048576) (h2 : x2.size ≤ 1048576) (ht : TScope.n x0 + x1.size + x2.size ≤ 1048576) : ∃ r s, zcx x0 x1 x2 = some (.inr r) ∧ zcu x0 x1 x2 = some s ∧ r = (Sum.elim id id) s ∧ TScope.n r.1 ≤ 34359738368 := by
 obtain ⟨s, hs, he⟩ := zhZ x0 x1 x2 h0 h1
 have := ztX x0 x1 x2
 exact ⟨_, s, zhY x0 x1 x2 h0 h1, hs, he.symm, by omega⟩
end Go.Vx.DfZ
