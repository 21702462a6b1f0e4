/-
  DefineType: both sides.
-/
import Derived.Test.YthppbplieikhkaaGreatDoorCi
import Derived.Test.YthppbplieikhkaaGreatDoorCs
import Derived.Test.YthppbplieikhkaaGreatDoorRp
import Derived.Test.YthppbplieikhkaaGreatDoorPr
set_option linter.unusedVariables false
set_option linter.unusedSimpArgs false
namespace Go.Vx.DtZ
set_option linter.unusedVariables false
open Classical
abbrev tnm := TRecordType.Name
def zoW : TScope := TScope.mk [] [] []
theorem zrw (xs : List TRecordType) (x : ByteArray) (h : xs.length ≤ 1048576) (hS : Srt tnm xs) : zcc xs x = some (((pos tnm xs x : Nat) : Int), zgJ tnm xs x) := by
 unfold zcc zai
 rw [zwD tnm xs x h hS (fun a => zaW a x) (fun a => by simp only [zaW, zce, Option.bind_eq_bind, Option.bind_some, zyX]) (zab xs x xs.length) (fun lo hi => zab.eq_1 ..)]
 rfl
theorem zrx (xs : List TRecordType) (y : TRecordType) (h : xs.length ≤ 1048576) (hS : Srt tnm xs) : zbf xs y = some (repL tnm xs y) := by
 unfold zbf zce zaw zaA
 simp only [Option.bind_eq_bind, Option.bind_some, zrw xs y.Name h hS]
 rw [zda (show xs.length ≤ most by unfold most; omega)]
 simp only [Option.bind_some]
 have := zzx tnm xs y h
 simp only [Option.bind_eq_bind] at this
 simpa using this
noncomputable def defT (s : TScope) (p : ByteArray) : TScope × Int :=
 if zcd s then
  (if prOK (bts p) ∧ prL p = [] ∧ zcD (TRecordType.mk (prN p) (prP p)) then
   (if (repL tnm s.Types (TRecordType.mk (prN p) (prP p))).length > 8 then (zoW, 6) else (TScope.mk s.Vars s.Functions (repL tnm s.Types (TRecordType.mk (prN p) (prP p))), 0))
  else (zoW, 2))
 else (zoW, 1)
theorem zoe (x : ByteArray) : (zep x).length ≤ x.size + 1 ∧ (x.size = 0 → (zep x).length = 0) := by
 have key : ∀ l : List UInt8, (cutC 44 l).length ≤ l.length + 1 := by
  intro l
  induction l with
  | nil => exact Nat.le_refl _
  | cons b r ih =>
   obtain ⟨y, t, hy⟩ := zoa 44 r
   rw [hy] at ih
   unfold cutC
   rw [hy]
   split <;> simp at ih ⊢ <;> omega
 unfold zep
 constructor
 ·split
  ·simp
  ·have := key (bts x)
   rw [zfh] at this
   rw [List.length_map]; omega
 ·intro h
  rw [if_pos (List.length_eq_zero_iff.1 (by rw [zfh]; exact h))]; rfl
theorem zlJ (p : ByteArray) (h : p.size ≤ 1048576) : (prP p).length ≤ 1048576 ∧ (prL p).length ≤ 1048576 := by
 have a1 := zoe (p.extract (fi 40 (bts p) + 1) (fi 41 (bts p)))
 have a2 := zoe (p.extract (fi 41 (bts p) + 1) p.size)
 have b1 : (p.extract (fi 40 (bts p) + 1) (fi 41 (bts p))).size = min (fi 41 (bts p)) p.size - (fi 40 (bts p) + 1) := ByteArray.size_extract
 have b2 : (p.extract (fi 41 (bts p) + 1) p.size).size = min p.size p.size - (fi 41 (bts p) + 1) := ByteArray.size_extract
 unfold prP prL
 omega
theorem zof (p : ByteArray) (v : List TBinding) (f : List TFunction) (t : List TRecordType) (h : p.size ≤ 1048576) (ht : t.length ≤ 8) (hS : Srt tnm t) :
  ∃ r, zbG p v f t = some r ∧ ((¬ (prOK (bts p) ∧ prL p = [] ∧ zcD (TRecordType.mk (prN p) (prP p))) ∧ r = .inr (2, t)) ∨
   (prOK (bts p) ∧ prL p = [] ∧ zcD (TRecordType.mk (prN p) (prP p)) ∧ r = if (repL tnm t (TRecordType.mk (prN p) (prP p))).length > 8 then .inl (6, t.length) else .inr (0, repL tnm t (TRecordType.mk (prN p) (prP p))))) := by
 obtain ⟨r, hr, h1, h2⟩ := zrv p h
 have hz := zlJ p h
 unfold zbG zbF
 rw [hr]
 simp only [Option.bind_eq_bind, Option.bind_some]
 by_cases hp : prOK (bts p)
 ·have e := h1 hp
  subst e
  simp only []
  by_cases hl : prL p = []
  ·have hl0 : (prL p).length = 0 := by rw [hl]; rfl
   have hla : (prL p).all zaD = true := by rw [hl]; rfl
   by_cases hT : zcD (TRecordType.mk (prN p) (prP p))
   ·obtain ⟨q1, q2, q3, q4, q5⟩ := hT
    have q1' : zaD (prN p) = true := q1
    have q4' : (prP p).all zaD = true := List.all_eq_true.2 q4
    rw [q1', q4', hla, if_pos (show (true && true && true) = true from rfl), if_neg (show ¬ ((prL p).length : Int) > 0 by omega), zky _ (show (prP p).length ≤ 1048576 from hz.1), decide_eq_true (show zcD (TRecordType.mk (prN p) (prP p)) from ⟨q1, q2, q3, q4, q5⟩)]
    simp only [Option.bind_some, if_true]
    rw [zrx t _ (by omega) hS]
    simp only [Option.bind_some]
    by_cases h8 : (repL tnm t (TRecordType.mk (prN p) (prP p))).length > 8
    ·exact ⟨.inl (6, t.length), by rw [if_pos (by omega)], .inr ⟨hp, hl, ⟨q1, q2, q3, q4, q5⟩, by rw [if_pos h8]⟩⟩
    ·exact ⟨.inr (0, repL tnm t (TRecordType.mk (prN p) (prP p))), by rw [if_neg (by omega)], .inr ⟨hp, hl, ⟨q1, q2, q3, q4, q5⟩, by rw [if_neg h8]⟩⟩
   ·refine ⟨.inr (2, t), ?_, .inl ⟨fun q => hT q.2.2, rfl⟩⟩
    split
    ·rw [if_neg (show ¬ ((prL p).length : Int) > 0 by omega), zky _ (show (prP p).length ≤ 1048576 from hz.1), decide_eq_false hT]
     rfl
    ·rfl
  ·refine ⟨.inr (2, t), ?_, .inl ⟨fun q => hl q.2.1, rfl⟩⟩
   have : 0 < (prL p).length := List.length_pos_iff.2 hl
   split
   ·rw [if_pos (by omega)]
   ·rfl
 ·refine ⟨.inr (2, t), ?_, .inl ⟨fun q => hp q.1, rfl⟩⟩
  rw [h2 hp]; rfl
theorem zkG (s : TScope) (p : ByteArray) (h : TScope.n s ≤ 1048576) (hp : p.size ≤ 1048576) : zeg s p = some (.inr (defT s p)) := by
 unfold zeg defT
 rw [zkA s h]
 simp only [Option.bind_eq_bind, Option.bind_some]
 by_cases h1 : zcd s
 ·rw [decide_eq_true h1, if_pos rfl, if_pos h1, zoU s h]
  simp only [Option.bind_some]
  obtain ⟨r, hr, hc⟩ := zof p s.Vars s.Functions s.Types hp h1.1.2.2 h1.2.1.2.2
  rw [hr]
  simp only [Option.bind_some]
  rcases hc with ⟨hn, rfl⟩ | ⟨q1, q2, q3, rfl⟩
  ·rw [if_neg hn]; rfl
  ·have hc : prOK (bts p) ∧ prL p = [] ∧ zcD (TRecordType.mk (prN p) (prP p)) := ⟨q1, q2, q3⟩
   by_cases h8 : (repL tnm s.Types (TRecordType.mk (prN p) (prP p))).length > 8
   ·simp only [if_pos hc, if_pos h8]; rfl
   ·simp only [if_pos hc, if_neg h8]; rfl
 ·rw [decide_eq_false h1, if_neg (by simp), if_neg h1]; rfl
theorem zts (p : ByteArray) (z s : TScope) (acc : List TRecordType) (i : Nat) (hi : i ≤ s.Types.length) (ha : acc.length + s.Types.length ≤ 2097153) :
  ∃ r, zbc p z s acc (i : Int) = some r ∧ (Sum.elim id id) r = if (acc ++ s.Types.drop i).length > 8 then (zoW, 6) else (TScope.mk s.Vars s.Functions (acc ++ s.Types.drop i), 0) := by
 unfold zbc subL
 rw [if_pos (by omega)]
 simp only [Option.bind_eq_bind, Option.bind_some, Int.toNat_natCast]
 rw [zfU (by unfold most; rw [List.length_drop]; omega)]
 simp only [Option.bind_some]
 by_cases hl : (acc ++ s.Types.drop i).length > 8
 ·rw [if_pos (by omega), if_pos hl]; exact ⟨_, rfl, rfl⟩
 ·rw [if_neg (by omega), if_neg hl]; exact ⟨_, rfl, rfl⟩
theorem zum (p : ByteArray) (z s : TScope) (nm : ByteArray) (y : TRecordType) (hy : y.Name = nm) (h : TScope.n s ≤ 1048576) (hS : Srt tnm s.Types) :
  ∃ r, zcz p s z nm y = some r ∧ (Sum.elim id id) r = if (repL tnm s.Types y).length > 8 then (zoW, 6) else (TScope.mk s.Vars s.Functions (repL tnm s.Types y), 0) := by
 have h' := h
 simp only [TScope.n] at h'
 have hp := zni tnm s.Types nm
 unfold zcz
 rw [zuj s h]
 simp only [Option.bind_eq_bind, Option.bind_some]
 have hloop := zul tnm s.Types nm (by omega) hS (fun acc i => zcy p z nm y s acc i) (fun acc i hi => by
  show zcy p z nm y s acc (i : Int) = _
  rw [zcy.eq_1]
  by_cases hl : i < s.Types.length
  ·rw [if_pos (by omega), if_pos (by omega), zaI, List.getElem?_eq_getElem hl]
   simp only [Option.bind_eq_bind, Option.bind_some]
   unfold zdD
   rw [zaI, List.getElem?_eq_getElem hl]
   simp only [Option.bind_eq_bind, Option.bind_some]
   rw [w64 (by omega) (by omega), show ((i : Int) + 1) = ((i + 1 : Nat) : Int) by omega]
   cases app acc [s.Types[i]] <;> rfl
  ·rw [if_neg (by omega), if_neg (by omega)])
 rw [hloop]
 simp only [Option.bind_some]
 rw [zfU (by unfold most; simp only [List.length_take, List.length_cons, List.length_nil]; omega)]
 simp only [Option.bind_some]
 have hla : (s.Types.take (pos tnm s.Types nm) ++ [y]).length + s.Types.length ≤ 2097153 := by
  simp only [List.length_append, List.length_take, List.length_cons, List.length_nil]; omega
 have fin : ∀ k : Nat, k ≤ s.Types.length → k = (if zgJ tnm s.Types nm = true then pos tnm s.Types nm + 1 else pos tnm s.Types nm) → ∃ r, (zbc p z s (s.Types.take (pos tnm s.Types nm) ++ [y]) (k : Int)).bind (fun t => some t) = some r ∧ (Sum.elim id id) r = if (repL tnm s.Types y).length > 8 then (zoW, 6) else (TScope.mk s.Vars s.Functions (repL tnm s.Types y), 0) := by
  intro k hk e
  obtain ⟨r, hr, hr2⟩ := zts p z s (s.Types.take (pos tnm s.Types nm) ++ [y]) k hk hla
  have hrep : repL tnm s.Types y = s.Types.take (pos tnm s.Types nm) ++ [y] ++ s.Types.drop k := by
   unfold repL
   rw [show tnm y = nm from hy, ← e, List.append_assoc]; rfl
  rw [hr, hrep]
  exact ⟨r, rfl, hr2⟩
 by_cases hl : pos tnm s.Types nm < s.Types.length
 ·have hg := List.getElem?_eq_getElem hl
  rw [if_pos (by omega), zaI, hg]
  simp only [Option.bind_some]
  by_cases he : (s.Types[pos tnm s.Types nm]).Name = nm
  ·have hh : zgJ tnm s.Types nm = true := by unfold zgJ; rw [hg]; exact decide_eq_true he
   rw [if_pos he, w64 (by omega) (by omega), show ((pos tnm s.Types nm : Nat) : Int) + 1 = ((pos tnm s.Types nm + 1 : Nat) : Int) by omega]
   exact fin _ (by omega) (by rw [if_pos hh])
  ·have hh : ¬ zgJ tnm s.Types nm = true := by unfold zgJ; rw [hg]; simp [he]
   rw [if_neg he]
   exact fin _ (by omega) (by rw [if_neg hh])
 ·have hh : ¬ zgJ tnm s.Types nm = true := fun e => hl (zqD e)
  rw [if_neg (by omega)]
  exact fin _ (by omega) (by rw [if_neg hh])
theorem zkH (s : TScope) (p : ByteArray) (h : TScope.n s ≤ 1048576) (hp : p.size ≤ 1048576) : ∃ r, zec s p = some r ∧ (Sum.elim id id) r = defT s p := by
 have hz := zlJ p hp
 unfold zec defT
 rw [zkC s h]
 simp only [Option.bind_eq_bind, Option.bind_some]
 by_cases h1 : zcd s
 ·rw [decide_eq_true h1, if_pos rfl, if_pos h1, zru p hp]
  simp only [Option.bind_some]
  by_cases q1 : prOK (bts p)
  ·rw [if_pos q1, if_pos rfl]
   simp only []
   by_cases q2 : prL p = []
   ·rw [if_neg (by rw [q2]; simp), znY _ (by simp only; omega)]
    simp only [Option.bind_some]
    by_cases q3 : zcD (TRecordType.mk (prN p) (prP p))
    ·rw [decide_eq_true q3, if_pos rfl, if_pos ⟨q1, q2, q3⟩]
     exact zum p _ s _ _ rfl h h1.2.1.2.2
    ·rw [decide_eq_false q3, if_neg (by simp), if_neg (fun q => q3 q.2.2)]; exact ⟨_, rfl, rfl⟩
   ·have : 0 < (prL p).length := List.length_pos_iff.2 q2
    rw [if_pos (by omega), if_neg (fun q => q2 q.2.1)]; exact ⟨_, rfl, rfl⟩
  ·rw [if_neg q1, if_neg (by simp), if_neg (fun q => q1 q.1)]; exact ⟨_, rfl, rfl⟩
 ·rw [decide_eq_false h1, if_neg (by simp), if_neg h1]; exact ⟨_, rfl, rfl⟩
theorem ztt (s : TScope) (p : ByteArray) : TScope.n (defT s p).1 ≤ TScope.n s + 100 := by
 have z : TScope.n zoW = 0 := by decide
 unfold defT
 split
 ·split
  ·rename_i hq
   obtain ⟨q1, q2, q3, q4, q5⟩ := hq.2.2
   have a1 := zlI q1
   have a2 := zod _ q4
   simp only at a1 a2 q3
   split
   ·rw [z]; omega
   ·have b1 := zuk tnm s.Types (TRecordType.mk (prN p) (prP p))
    have b2 := ztr tnm TRecordType.n s.Types (TRecordType.mk (prN p) (prP p))
    simp only [TScope.n] at b2 ⊢
    have b3 : TRecordType.n (TRecordType.mk (prN p) (prP p)) ≤ 12 + (6 + 72) := by simp only [TRecordType.n]; omega
    omega
  ·rw [z]; omega
 ·rw [z]; omega
theorem zun (x0 : TScope) (x1 : ByteArray) (h0 : TScope.n x0 ≤ 1048576) (h1 : x1.size ≤ 1048576) (ht : TScope.n x0 + x1.size ≤ 1048576) : ∃ r s, zeg x0 x1 = some (.inr r) ∧ zec x0 x1 = some s ∧ r = (Sum.elim id id) s ∧ TScope.n r.1 ≤ 34359738368 := by
 obtain ⟨s, hs, he⟩ := zkH x0 x1 h0 h1
 have := ztt x0 x1
 exact ⟨_, s, zkG x0 x1 h0 h1, hs, he.symm, by omega⟩
end Go.Vx.DtZ
