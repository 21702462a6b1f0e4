/-
  The laws' own functions: sz.
-/
import Derived.Test.YtnaaflejkfaiaaaGreatTypes
import Derived.Test.YtnaaflejkfaiaaaGreatCode
set_option linter.unusedVariables false
set_option linter.unusedSimpArgs false
namespace Go.Vx.CrZ
set_option linter.unusedVariables false
set_option linter.unusedSimpArgs false
set_option maxRecDepth 4000
set_option maxHeartbeats 4000000
theorem zig (x:TValue) (left:Int) (sto:List (List D)) (h:((TValue.n x:Nat):Int)≤left) (h2:left≤1048576):zaa T 71 [D.agg [D.int .i64 x.Kind,D.int .i64 x.Num,D.str x.Text,D.int .i64 x.Ref],.int .i64 left] sto=some (.int .i64 (left - (TValue.n x:Nat)),[],sto):=by
 simp only [TValue.n] at h ⊢
 rw [zad T (g:=v71) rfl rfl rfl _ _ rfl]
 simp (maxSteps:=9999999) (disch:=omega) only [vx,px,ty,↓reduceIte,seval,fx,v71,zzK]
 try exact congrArg (fun z=>some (D.int .i64 z,([]:List D),sto)) (by omega)
theorem zpd {R:Type} (e:En R) (sto:List (List D)) (k:List Fr):∀ (rest pre:List TValue) (i left:Int),i=pre.length→pre.length + rest.length≤1048576→((lsum TValue.n rest:Nat):Int)≤left→left≤1048576 →
  go T e zlk (.lp zsa::.bl 0::.sq (.clr [4,5,6,7,8,9,10,11,12,13,14,15,16,17,18,19,20,21,22,23,24,25])::k) ⟨[.d (.sl false 4 (pre.map (TValue.e false)++rest.map (TValue.e false))),.d (.int .i64 left),Z,Z,Z,.d (.int .i64 i),Z,Z,Z,Z,Z,Z,Z,Z,Z,Z,Z,Z,Z,Z,Z,Z,Z,Z,Z,Z,Z],sto⟩=bk T e k ⟨[.d (.sl false 4 (pre.map (TValue.e false)++rest.map (TValue.e false))),.d (.int .i64 (left - (lsum TValue.n rest:Nat))),Z,Z,Z,Z,Z,Z,Z,Z,Z,Z,Z,Z,Z,Z,Z,Z,Z,Z,Z,Z,Z,Z,Z,Z,Z],sto⟩:=by
 intro rest
 induction rest with
 | nil =>
  intro pre i left hi h1 h2 h3
  have hR:left - ((lsum TValue.n ([]:List TValue):Nat):Int)=left:=by simp [zcV]
  have ht:i.toNat=pre.length:=by omega
  rw [hR]
  unfold zlk
  simp (maxSteps:=9999999) (disch:=omega) only [vx,px,ty,↓reduceIte,seval,fx,go_lpc]
 | cons x rest ih =>
  intro pre i left hi h1 h2 h3
  have hR:left - ((lsum TValue.n (x::rest):Nat):Int)=left - (TValue.n x:Nat) - (lsum TValue.n rest:Nat):=by rw [zae];omega
  have ht:i.toNat=pre.length:=by omega
  rw [zae] at h2
  rw [List.length_cons] at h1
  rw [hR]
  unfold zlk
  simp (maxSteps:=9999999) (disch:=omega) only [vx,px,ty,↓reduceIte,seval,fx,go_lpc,ht,List.map_cons,ifT,zig]
  have h:=ih (pre++[x]) (i + 1) (left - (TValue.n x:Nat)) (by simp;omega) (by simp;omega) (by omega) (by omega)
  simp only [zaB] at h
  exact h
theorem zkI (xs:List TValue) (left:Int) (sto:List (List D)) (h:((xs.length + lsum TValue.n xs:Nat):Int)≤left) (h2:left≤1048576):zaa T 232 [.sl false 4 (xs.map (TValue.e false)),.int .i64 left] sto=some (.int .i64 (left - ((xs.length + lsum TValue.n xs:Nat):Int)),[],sto):=by
 rw [zad T (g:=v232) rfl rfl rfl _ _ rfl]
 simp (maxSteps:=9999999) (disch:=omega) only [vx,px,ty,↓reduceIte,seval,fx,v232,zwR,go_lpc]
 have hl:=fun k=>zpd (enF [.tmp 4] []) sto k xs [] 0 (left - xs.length) rfl (by simp;omega) (by omega) (by omega)
 simp only [List.map_nil,List.nil_append] at hl
 rw [hl]
 simp (maxSteps:=9999999) (disch:=omega) only [vx,px,ty,↓reduceIte,seval,fx]
 try exact congrArg (fun z=>some (D.int .i64 z,([]:List D),sto)) (by omega)
theorem zpe (x:TObject) (left:Int) (sto:List (List D)) (h:((TObject.n x:Nat):Int)≤left) (h2:left≤1048576):zaa T 194 [D.agg [D.int .i64 x.Id,D.int .i64 x.Kind,D.str x.Name,D.int .i64 x.Low,D.sl false 4 (List.map (TValue.e false) x.Keys),D.sl false 4 (List.map (TValue.e false) x.Vals),D.int .i64 x.Default.Kind,D.int .i64 x.Default.Num,D.str x.Default.Text,D.int .i64 x.Default.Ref],.int .i64 left] sto=some (.int .i64 (left - (TObject.n x:Nat)),[],sto):=by
 simp only [TObject.n] at h ⊢
 rw [zad T (g:=v194) rfl rfl rfl _ _ rfl]
 simp (maxSteps:=9999999) (disch:=omega) only [vx,px,ty,↓reduceIte,seval,fx,v194,zwo,zig,zkI]
 try exact congrArg (fun z=>some (D.int .i64 z,([]:List D),sto)) (by omega)
theorem zno {R:Type} (e:En R) (sto:List (List D)) (k:List Fr):∀ (rest pre:List TObject) (i left:Int),i=pre.length→pre.length + rest.length≤1048576→((lsum TObject.n rest:Nat):Int)≤left→left≤1048576 →
  go T e zlb (.lp zqy::.bl 0::.sq (.clr [4,5,6,7,8,9,10,11,12,13,14,15,16,17,18,19,20,21,22,23,24,25])::k) ⟨[.d (.sl false 10 (pre.map (TObject.e false)++rest.map (TObject.e false))),.d (.int .i64 left),Z,Z,Z,.d (.int .i64 i),Z,Z,Z,Z,Z,Z,Z,Z,Z,Z,Z,Z,Z,Z,Z,Z,Z,Z,Z,Z,Z],sto⟩=bk T e k ⟨[.d (.sl false 10 (pre.map (TObject.e false)++rest.map (TObject.e false))),.d (.int .i64 (left - (lsum TObject.n rest:Nat))),Z,Z,Z,Z,Z,Z,Z,Z,Z,Z,Z,Z,Z,Z,Z,Z,Z,Z,Z,Z,Z,Z,Z,Z,Z],sto⟩:=by
 intro rest
 induction rest with
 | nil =>
  intro pre i left hi h1 h2 h3
  have hR:left - ((lsum TObject.n ([]:List TObject):Nat):Int)=left:=by simp [zcV]
  have ht:i.toNat=pre.length:=by omega
  rw [hR]
  unfold zlb
  simp (maxSteps:=9999999) (disch:=omega) only [vx,px,ty,↓reduceIte,seval,fx,go_lpc]
 | cons x rest ih =>
  intro pre i left hi h1 h2 h3
  have hR:left - ((lsum TObject.n (x::rest):Nat):Int)=left - (TObject.n x:Nat) - (lsum TObject.n rest:Nat):=by rw [zae];omega
  have ht:i.toNat=pre.length:=by omega
  rw [zae] at h2
  rw [List.length_cons] at h1
  rw [hR]
  unfold zlb
  simp (maxSteps:=9999999) (disch:=omega) only [vx,px,ty,↓reduceIte,seval,fx,go_lpc,ht,List.map_cons,ifT,zpe]
  have h:=ih (pre++[x]) (i + 1) (left - (TObject.n x:Nat)) (by simp;omega) (by simp;omega) (by omega) (by omega)
  simp only [zaB] at h
  exact h
theorem znp (xs:List TObject) (left:Int) (sto:List (List D)) (h:((xs.length + lsum TObject.n xs:Nat):Int)≤left) (h2:left≤1048576):zaa T 116 [.sl false 10 (xs.map (TObject.e false)),.int .i64 left] sto=some (.int .i64 (left - ((xs.length + lsum TObject.n xs:Nat):Int)),[],sto):=by
 rw [zad T (g:=v116) rfl rfl rfl _ _ rfl]
 simp (maxSteps:=9999999) (disch:=omega) only [vx,px,ty,↓reduceIte,seval,fx,v116,zvo,go_lpc]
 have hl:=fun k=>zno (enF [.tmp 4] []) sto k xs [] 0 (left - xs.length) rfl (by simp;omega) (by omega) (by omega)
 simp only [List.map_nil,List.nil_append] at hl
 rw [hl]
 simp (maxSteps:=9999999) (disch:=omega) only [vx,px,ty,↓reduceIte,seval,fx]
 try exact congrArg (fun z=>some (D.int .i64 z,([]:List D),sto)) (by omega)
theorem ztK (x:THeap) (left:Int) (sto:List (List D)) (h:((THeap.n x:Nat):Int)≤left) (h2:left≤1048576):zaa T 51 [D.agg [D.int .i64 x.Next,D.sl false 10 (List.map (TObject.e false) x.Objects)],.int .i64 left] sto=some (.int .i64 (left - (THeap.n x:Nat)),[],sto):=by
 simp only [THeap.n] at h ⊢
 rw [zad T (g:=v51) rfl rfl rfl _ _ rfl]
 simp (maxSteps:=9999999) (disch:=omega) only [vx,px,ty,↓reduceIte,seval,fx,v51,zzv,znp]
 try exact congrArg (fun z=>some (D.int .i64 z,([]:List D),sto)) (by omega)
theorem znq (x:TBinding) (left:Int) (sto:List (List D)) (h:((TBinding.n x:Nat):Int)≤left) (h2:left≤1048576):zaa T 115 [D.agg [D.str x.Name,D.int .i64 x.Value.Kind,D.int .i64 x.Value.Num,D.str x.Value.Text,D.int .i64 x.Value.Ref],.int .i64 left] sto=some (.int .i64 (left - (TBinding.n x:Nat)),[],sto):=by
 simp only [TBinding.n] at h ⊢
 rw [zad T (g:=v115) rfl rfl rfl _ _ rfl]
 simp (maxSteps:=9999999) (disch:=omega) only [vx,px,ty,↓reduceIte,seval,fx,v115,zvn,zig]
 try exact congrArg (fun z=>some (D.int .i64 z,([]:List D),sto)) (by omega)
theorem zmm {R:Type} (e:En R) (sto:List (List D)) (k:List Fr):∀ (rest pre:List TBinding) (i left:Int),i=pre.length→pre.length + rest.length≤1048576→((lsum TBinding.n rest:Nat):Int)≤left→left≤1048576 →
  go T e zom (.lp zuC::.bl 0::.sq (.clr [4,5,6,7,8,9,10,11,12,13,14,15,16,17,18,19,20,21,22,23,24,25])::k) ⟨[.d (.sl false 5 (pre.map (TBinding.e false)++rest.map (TBinding.e false))),.d (.int .i64 left),Z,Z,Z,.d (.int .i64 i),Z,Z,Z,Z,Z,Z,Z,Z,Z,Z,Z,Z,Z,Z,Z,Z,Z,Z,Z,Z,Z],sto⟩=bk T e k ⟨[.d (.sl false 5 (pre.map (TBinding.e false)++rest.map (TBinding.e false))),.d (.int .i64 (left - (lsum TBinding.n rest:Nat))),Z,Z,Z,Z,Z,Z,Z,Z,Z,Z,Z,Z,Z,Z,Z,Z,Z,Z,Z,Z,Z,Z,Z,Z,Z],sto⟩:=by
 intro rest
 induction rest with
 | nil =>
  intro pre i left hi h1 h2 h3
  have hR:left - ((lsum TBinding.n ([]:List TBinding):Nat):Int)=left:=by simp [zcV]
  have ht:i.toNat=pre.length:=by omega
  rw [hR]
  unfold zom
  simp (maxSteps:=9999999) (disch:=omega) only [vx,px,ty,↓reduceIte,seval,fx,go_lpc]
 | cons x rest ih =>
  intro pre i left hi h1 h2 h3
  have hR:left - ((lsum TBinding.n (x::rest):Nat):Int)=left - (TBinding.n x:Nat) - (lsum TBinding.n rest:Nat):=by rw [zae];omega
  have ht:i.toNat=pre.length:=by omega
  rw [zae] at h2
  rw [List.length_cons] at h1
  rw [hR]
  unfold zom
  simp (maxSteps:=9999999) (disch:=omega) only [vx,px,ty,↓reduceIte,seval,fx,go_lpc,ht,List.map_cons,ifT,znq]
  have h:=ih (pre++[x]) (i + 1) (left - (TBinding.n x:Nat)) (by simp;omega) (by simp;omega) (by omega) (by omega)
  simp only [zaB] at h
  exact h
theorem ziU (xs:List TBinding) (left:Int) (sto:List (List D)) (h:((xs.length + lsum TBinding.n xs:Nat):Int)≤left) (h2:left≤1048576):zaa T 50 [.sl false 5 (xs.map (TBinding.e false)),.int .i64 left] sto=some (.int .i64 (left - ((xs.length + lsum TBinding.n xs:Nat):Int)),[],sto):=by
 rw [zad T (g:=v50) rfl rfl rfl _ _ rfl]
 simp (maxSteps:=9999999) (disch:=omega) only [vx,px,ty,↓reduceIte,seval,fx,v50,zzu,go_lpc]
 have hl:=fun k=>zmm (enF [.tmp 4] []) sto k xs [] 0 (left - xs.length) rfl (by simp;omega) (by omega) (by omega)
 simp only [List.map_nil,List.nil_append] at hl
 rw [hl]
 simp (maxSteps:=9999999) (disch:=omega) only [vx,px,ty,↓reduceIte,seval,fx]
 try exact congrArg (fun z=>some (D.int .i64 z,([]:List D),sto)) (by omega)
abbrev znr (x:TGen):Prop:=∀ (left:Int) (sto:List (List D)) (h:((TGen.n x:Nat):Int)≤left) (h2:left≤1048576),zaa T 26 [D.agg [D.int .i64 x.Kind,D.int .i64 x.Num,D.str x.Text,D.int .i64 x.Value.Kind,D.int .i64 x.Value.Num,D.str x.Value.Text,D.int .i64 x.Value.Ref,D.sl false 8 (List.map (TGen.e false) x.Kids)],.int .i64 left] sto=some (.int .i64 (left - (TGen.n x:Nat)),[],sto)
theorem ztL {R:Type} (e:En R) (sto:List (List D)) (k:List Fr):∀ (rest pre:List TGen) (i left:Int),(∀ y ∈ rest,znr y)→i=pre.length→pre.length + rest.length≤1048576→((lsum TGen.n rest:Nat):Int)≤left→left≤1048576 →
  go T e zov (.lp zuR::.bl 0::.sq (.clr [4,5,6,7,8,9,10,11,12,13,14,15,16,17,18,19,20,21,22,23,24,25])::k) ⟨[.d (.sl false 8 (pre.map (TGen.e false)++rest.map (TGen.e false))),.d (.int .i64 left),Z,Z,Z,.d (.int .i64 i),Z,Z,Z,Z,Z,Z,Z,Z,Z,Z,Z,Z,Z,Z,Z,Z,Z,Z,Z,Z,Z],sto⟩=bk T e k ⟨[.d (.sl false 8 (pre.map (TGen.e false)++rest.map (TGen.e false))),.d (.int .i64 (left - (lsum TGen.n rest:Nat))),Z,Z,Z,Z,Z,Z,Z,Z,Z,Z,Z,Z,Z,Z,Z,Z,Z,Z,Z,Z,Z,Z,Z,Z,Z],sto⟩:=by
 intro rest
 induction rest with
 | nil =>
  intro pre i left hq hi h1 h2 h3
  have hR:left - ((lsum TGen.n ([]:List TGen):Nat):Int)=left:=by simp [zcV]
  have ht:i.toNat=pre.length:=by omega
  rw [hR]
  unfold zov
  simp (maxSteps:=9999999) (disch:=omega) only [vx,px,ty,↓reduceIte,seval,fx,go_lpc]
 | cons x rest ih =>
  intro pre i left hq hi h1 h2 h3
  have hR:left - ((lsum TGen.n (x::rest):Nat):Int)=left - (TGen.n x:Nat) - (lsum TGen.n rest:Nat):=by rw [zae];omega
  have ht:i.toNat=pre.length:=by omega
  have zlq:=hq x (List.mem_cons_self ..)
  rw [zae] at h2
  rw [List.length_cons] at h1
  rw [hR]
  unfold zov
  simp (maxSteps:=9999999) (disch:=omega) only [vx,px,ty,↓reduceIte,seval,fx,go_lpc,ht,List.map_cons,ifT,zlq]
  have h:=ih (pre++[x]) (i + 1) (left - (TGen.n x:Nat)) (fun y hy=>hq y (List.mem_cons_of_mem _ hy)) (by simp;omega) (by simp;omega) (by omega) (by omega)
  simp only [zaB] at h
  exact h
theorem zmn (xs:List TGen) (hq:∀ y ∈ xs,znr y) (left:Int) (sto:List (List D)) (h:((xs.length + lsum TGen.n xs:Nat):Int)≤left) (h2:left≤1048576):zaa T 72 [.sl false 8 (xs.map (TGen.e false)),.int .i64 left] sto=some (.int .i64 (left - ((xs.length + lsum TGen.n xs:Nat):Int)),[],sto):=by
 rw [zad T (g:=v72) rfl rfl rfl _ _ rfl]
 simp (maxSteps:=9999999) (disch:=omega) only [vx,px,ty,↓reduceIte,seval,fx,v72,zzL,go_lpc]
 have hl:=fun k=>ztL (enF [.tmp 4] []) sto k xs [] 0 (left - xs.length) hq rfl (by simp;omega) (by omega) (by omega)
 simp only [List.map_nil,List.nil_append] at hl
 rw [hl]
 simp (maxSteps:=9999999) (disch:=omega) only [vx,px,ty,↓reduceIte,seval,fx]
 try exact congrArg (fun z=>some (D.int .i64 z,([]:List D),sto)) (by omega)
theorem zmo:∀ x:TGen,znr x:=by
 refine TGen.ind fun x ih=>?_
 intro left sto h h2
 have zoC:=zmn x.Kids ih
 simp only [TGen.n_eq] at h ⊢
 rw [zad T (g:=v26) rfl rfl rfl _ _ rfl]
 simp (maxSteps:=9999999) (disch:=omega) only [vx,px,ty,↓reduceIte,seval,fx,v26,zzm,zoC,zig]
 try exact congrArg (fun z=>some (D.int .i64 z,([]:List D),sto)) (by omega)
theorem zlq (x:TGen) (left:Int) (sto:List (List D)) (h:((TGen.n x:Nat):Int)≤left) (h2:left≤1048576):zaa T 26 [D.agg [D.int .i64 x.Kind,D.int .i64 x.Num,D.str x.Text,D.int .i64 x.Value.Kind,D.int .i64 x.Value.Num,D.str x.Value.Text,D.int .i64 x.Value.Ref,D.sl false 8 (List.map (TGen.e false) x.Kids)],.int .i64 left] sto=some (.int .i64 (left - (TGen.n x:Nat)),[],sto):=zmo x left sto h h2
theorem zoC (xs:List TGen) (left:Int) (sto:List (List D)) (h:((xs.length + lsum TGen.n xs:Nat):Int)≤left) (h2:left≤1048576):zaa T 72 [.sl false 8 (xs.map (TGen.e false)),.int .i64 left] sto=some (.int .i64 (left - ((xs.length + lsum TGen.n xs:Nat):Int)),[],sto):=zmn xs (fun y _=>zmo y) left sto h h2
abbrev ziC (x:TCursor):Prop:=∀ (left:Int) (sto:List (List D)) (h:((TCursor.n x:Nat):Int)≤left) (h2:left≤1048576),zaa T 195 [D.agg [D.int .i64 x.Phase,D.int .i64 x.Count,D.sl false 4 (List.map (TValue.e false) x.Vals),D.sl false 4 (List.map (TCursor.e false) x.Kids)],.int .i64 left] sto=some (.int .i64 (left - (TCursor.n x:Nat)),[],sto)
theorem zns {R:Type} (e:En R) (sto:List (List D)) (k:List Fr):∀ (rest pre:List TCursor) (i left:Int),(∀ y ∈ rest,ziC y)→i=pre.length→pre.length + rest.length≤1048576→((lsum TCursor.n rest:Nat):Int)≤left→left≤1048576 →
  go T e zll (.lp zsb::.bl 0::.sq (.clr [4,5,6,7,8,9,10,11,12,13,14,15,16,17,18,19,20,21,22,23,24,25])::k) ⟨[.d (.sl false 4 (pre.map (TCursor.e false)++rest.map (TCursor.e false))),.d (.int .i64 left),Z,Z,Z,.d (.int .i64 i),Z,Z,Z,Z,Z,Z,Z,Z,Z,Z,Z,Z,Z,Z,Z,Z,Z,Z,Z,Z,Z],sto⟩=bk T e k ⟨[.d (.sl false 4 (pre.map (TCursor.e false)++rest.map (TCursor.e false))),.d (.int .i64 (left - (lsum TCursor.n rest:Nat))),Z,Z,Z,Z,Z,Z,Z,Z,Z,Z,Z,Z,Z,Z,Z,Z,Z,Z,Z,Z,Z,Z,Z,Z,Z],sto⟩:=by
 intro rest
 induction rest with
 | nil =>
  intro pre i left hq hi h1 h2 h3
  have hR:left - ((lsum TCursor.n ([]:List TCursor):Nat):Int)=left:=by simp [zcV]
  have ht:i.toNat=pre.length:=by omega
  rw [hR]
  unfold zll
  simp (maxSteps:=9999999) (disch:=omega) only [vx,px,ty,↓reduceIte,seval,fx,go_lpc]
 | cons x rest ih =>
  intro pre i left hq hi h1 h2 h3
  have hR:left - ((lsum TCursor.n (x::rest):Nat):Int)=left - (TCursor.n x:Nat) - (lsum TCursor.n rest:Nat):=by rw [zae];omega
  have ht:i.toNat=pre.length:=by omega
  have ziD:=hq x (List.mem_cons_self ..)
  rw [zae] at h2
  rw [List.length_cons] at h1
  rw [hR]
  unfold zll
  simp (maxSteps:=9999999) (disch:=omega) only [vx,px,ty,↓reduceIte,seval,fx,go_lpc,ht,List.map_cons,ifT,ziD]
  have h:=ih (pre++[x]) (i + 1) (left - (TCursor.n x:Nat)) (fun y hy=>hq y (List.mem_cons_of_mem _ hy)) (by simp;omega) (by simp;omega) (by omega) (by omega)
  simp only [zaB] at h
  exact h
theorem ziV (xs:List TCursor) (hq:∀ y ∈ xs,ziC y) (left:Int) (sto:List (List D)) (h:((xs.length + lsum TCursor.n xs:Nat):Int)≤left) (h2:left≤1048576):zaa T 233 [.sl false 4 (xs.map (TCursor.e false)),.int .i64 left] sto=some (.int .i64 (left - ((xs.length + lsum TCursor.n xs:Nat):Int)),[],sto):=by
 rw [zad T (g:=v233) rfl rfl rfl _ _ rfl]
 simp (maxSteps:=9999999) (disch:=omega) only [vx,px,ty,↓reduceIte,seval,fx,v233,zwS,go_lpc]
 have hl:=fun k=>zns (enF [.tmp 4] []) sto k xs [] 0 (left - xs.length) hq rfl (by simp;omega) (by omega) (by omega)
 simp only [List.map_nil,List.nil_append] at hl
 rw [hl]
 simp (maxSteps:=9999999) (disch:=omega) only [vx,px,ty,↓reduceIte,seval,fx]
 try exact congrArg (fun z=>some (D.int .i64 z,([]:List D),sto)) (by omega)
theorem ziW:∀ x:TCursor,ziC x:=by
 refine TCursor.ind fun x ih=>?_
 intro left sto h h2
 have zjS:=ziV x.Kids ih
 simp only [TCursor.n_eq] at h ⊢
 rw [zad T (g:=v195) rfl rfl rfl _ _ rfl]
 simp (maxSteps:=9999999) (disch:=omega) only [vx,px,ty,↓reduceIte,seval,fx,v195,zwp,zjS,zkI]
 try exact congrArg (fun z=>some (D.int .i64 z,([]:List D),sto)) (by omega)
theorem ziD (x:TCursor) (left:Int) (sto:List (List D)) (h:((TCursor.n x:Nat):Int)≤left) (h2:left≤1048576):zaa T 195 [D.agg [D.int .i64 x.Phase,D.int .i64 x.Count,D.sl false 4 (List.map (TValue.e false) x.Vals),D.sl false 4 (List.map (TCursor.e false) x.Kids)],.int .i64 left] sto=some (.int .i64 (left - (TCursor.n x:Nat)),[],sto):=ziW x left sto h h2
theorem zjS (xs:List TCursor) (left:Int) (sto:List (List D)) (h:((xs.length + lsum TCursor.n xs:Nat):Int)≤left) (h2:left≤1048576):zaa T 233 [.sl false 4 (xs.map (TCursor.e false)),.int .i64 left] sto=some (.int .i64 (left - ((xs.length + lsum TCursor.n xs:Nat):Int)),[],sto):=ziV xs (fun y _=>ziW y) left sto h h2
theorem zpf (x:TCoexpr) (left:Int) (sto:List (List D)) (h:((TCoexpr.n x:Nat):Int)≤left) (h2:left≤1048576):zaa T 117 [D.agg [D.int .i64 x.Id,D.int .i64 x.Body.Kind,D.int .i64 x.Body.Num,D.str x.Body.Text,D.int .i64 x.Body.Value.Kind,D.int .i64 x.Body.Value.Num,D.str x.Body.Value.Text,D.int .i64 x.Body.Value.Ref,D.sl false 8 (List.map (TGen.e false) x.Body.Kids),D.sl false 5 (List.map (TBinding.e false) x.Start),D.sl false 5 (List.map (TBinding.e false) x.Vars),D.int .i64 x.Cursor.Phase,D.int .i64 x.Cursor.Count,D.sl false 4 (List.map (TValue.e false) x.Cursor.Vals),D.sl false 4 (List.map (TCursor.e false) x.Cursor.Kids),D.int .i64 x.Count,D.bool x.Done],.int .i64 left] sto=some (.int .i64 (left - (TCoexpr.n x:Nat)),[],sto):=by
 simp only [TCoexpr.n] at h ⊢
 rw [zad T (g:=v117) rfl rfl rfl _ _ rfl]
 simp (maxSteps:=9999999) (disch:=omega) only [vx,px,ty,↓reduceIte,seval,fx,v117,zvp,ziU,ziD,zlq]
 try exact congrArg (fun z=>some (D.int .i64 z,([]:List D),sto)) (by omega)
theorem znt {R:Type} (e:En R) (sto:List (List D)) (k:List Fr):∀ (rest pre:List TCoexpr) (i left:Int),i=pre.length→pre.length + rest.length≤1048576→((lsum TCoexpr.n rest:Nat):Int)≤left→left≤1048576 →
  go T e zon (.lp zuD::.bl 0::.sq (.clr [4,5,6,7,8,9,10,11,12,13,14,15,16,17,18,19,20,21,22,23,24,25])::k) ⟨[.d (.sl false 17 (pre.map (TCoexpr.e false)++rest.map (TCoexpr.e false))),.d (.int .i64 left),Z,Z,Z,.d (.int .i64 i),Z,Z,Z,Z,Z,Z,Z,Z,Z,Z,Z,Z,Z,Z,Z,Z,Z,Z,Z,Z,Z],sto⟩=bk T e k ⟨[.d (.sl false 17 (pre.map (TCoexpr.e false)++rest.map (TCoexpr.e false))),.d (.int .i64 (left - (lsum TCoexpr.n rest:Nat))),Z,Z,Z,Z,Z,Z,Z,Z,Z,Z,Z,Z,Z,Z,Z,Z,Z,Z,Z,Z,Z,Z,Z,Z,Z],sto⟩:=by
 intro rest
 induction rest with
 | nil =>
  intro pre i left hi h1 h2 h3
  have hR:left - ((lsum TCoexpr.n ([]:List TCoexpr):Nat):Int)=left:=by simp [zcV]
  have ht:i.toNat=pre.length:=by omega
  rw [hR]
  unfold zon
  simp (maxSteps:=9999999) (disch:=omega) only [vx,px,ty,↓reduceIte,seval,fx,go_lpc]
 | cons x rest ih =>
  intro pre i left hi h1 h2 h3
  have hR:left - ((lsum TCoexpr.n (x::rest):Nat):Int)=left - (TCoexpr.n x:Nat) - (lsum TCoexpr.n rest:Nat):=by rw [zae];omega
  have ht:i.toNat=pre.length:=by omega
  rw [zae] at h2
  rw [List.length_cons] at h1
  rw [hR]
  unfold zon
  simp (maxSteps:=9999999) (disch:=omega) only [vx,px,ty,↓reduceIte,seval,fx,go_lpc,ht,List.map_cons,ifT,zpf]
  have h:=ih (pre++[x]) (i + 1) (left - (TCoexpr.n x:Nat)) (by simp;omega) (by simp;omega) (by omega) (by omega)
  simp only [zaB] at h
  exact h
theorem znu (xs:List TCoexpr) (left:Int) (sto:List (List D)) (h:((xs.length + lsum TCoexpr.n xs:Nat):Int)≤left) (h2:left≤1048576):zaa T 52 [.sl false 17 (xs.map (TCoexpr.e false)),.int .i64 left] sto=some (.int .i64 (left - ((xs.length + lsum TCoexpr.n xs:Nat):Int)),[],sto):=by
 rw [zad T (g:=v52) rfl rfl rfl _ _ rfl]
 simp (maxSteps:=9999999) (disch:=omega) only [vx,px,ty,↓reduceIte,seval,fx,v52,zzw,go_lpc]
 have hl:=fun k=>znt (enF [.tmp 4] []) sto k xs [] 0 (left - xs.length) rfl (by simp;omega) (by omega) (by omega)
 simp only [List.map_nil,List.nil_append] at hl
 rw [hl]
 simp (maxSteps:=9999999) (disch:=omega) only [vx,px,ty,↓reduceIte,seval,fx]
 try exact congrArg (fun z=>some (D.int .i64 z,([]:List D),sto)) (by omega)
theorem zmp (x:TGenScope) (left:Int) (sto:List (List D)) (h:((TGenScope.n x:Nat):Int)≤left) (h2:left≤1048576):zaa T 17 [D.agg [D.sl false 5 (List.map (TBinding.e false) x.Vars),D.int .i64 x.Heap.Next,D.sl false 10 (List.map (TObject.e false) x.Heap.Objects),D.sl false 17 (List.map (TCoexpr.e false) x.Cos),D.int .i64 x.Steps],.int .i64 left] sto=some (.int .i64 (left - (TGenScope.n x:Nat)),[],sto):=by
 simp only [TGenScope.n] at h ⊢
 rw [zad T (g:=v17) rfl rfl rfl _ _ rfl]
 simp (maxSteps:=9999999) (disch:=omega) only [vx,px,ty,↓reduceIte,seval,fx,v17,zzi,ziU,znu,ztK]
 try exact congrArg (fun z=>some (D.int .i64 z,([]:List D),sto)) (by omega)
end Go.Vx.CrZ
