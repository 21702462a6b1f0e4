/-
  The laws' own functions: sz.
-/
import Derived.Test.YtnaaflejkfaiaaaGreatTypes
import Derived.Test.YtnaaflejkfaiaaaGreatCode
set_option linter.unusedVariables false
set_option linter.unusedSimpArgs false
namespace Go.Vx.RmZ
set_option maxRecDepth 4000
set_option maxHeartbeats 4000000
theorem zis (x:TValue) (left:Int) (sto:List (List D)) (h:((TValue.n x:Nat):Int)<=left) (h2:left<=1048576):zaa T 71 [D.agg [D.int .i64 x.Kind,D.int .i64 x.Num,D.str x.Text,D.int .i64 x.Ref],.int .i64 left] sto=some (.int .i64 (left - (TValue.n x:Nat)),[],sto):=by
 simp only [TValue.n] at h ⊢
 rw [zaf T (g:=v71) rfl rfl rfl _ _ rfl]
 simp (maxSteps:=9999999) (disch:=omega) only [vx,px,ty,↓reduceIte,seval,fx,v71,zAP]
 try exact congrArg (fun z=>some (D.int .i64 z,([]:List D),sto)) (by omega)
theorem zpN {R:Type} (e:En R) (sto:List (List D)) (k:List Fr):∀ (rest pre:List TValue) (i left:Int),i=pre.length->pre.length + rest.length<=1048576->((lsum TValue.n rest:Nat):Int)<=left->left<=1048576 ->
  go T e zlI (.lp zsS::.bl 0::.sq (.clr [4,5,6,7,8,9,10,11,12,13,14,15,16,17,18,19,20,21,22,23,24,25])::k) ⟨[.d (.sl false 4 (pre.map (TValue.e false)++rest.map (TValue.e false))),.d (.int .i64 left),Z,Z,Z,.d (.int .i64 i),Z,Z,Z,Z,Z,Z,Z,Z,Z,Z,Z,Z,Z,Z,Z,Z,Z,Z,Z,Z,Z],sto⟩=bk T e k ⟨[.d (.sl false 4 (pre.map (TValue.e false)++rest.map (TValue.e false))),.d (.int .i64 (left - (lsum TValue.n rest:Nat))),Z,Z,Z,Z,Z,Z,Z,Z,Z,Z,Z,Z,Z,Z,Z,Z,Z,Z,Z,Z,Z,Z,Z,Z,Z],sto⟩:=by
 intro rest
 induction rest with
 | nil =>
  intro pre i left hi h1 h2 h3
  have hR:left - ((lsum TValue.n ([]:List TValue):Nat):Int)=left:=by simp [zcq]
  have ht:i.toNat=pre.length:=by omega
  rw [hR]
  unfold zlI
  simp (maxSteps:=9999999) (disch:=omega) only [vx,px,ty,↓reduceIte,seval,fx,go_lpc]
 | cons x rest ih =>
  intro pre i left hi h1 h2 h3
  have hR:left - ((lsum TValue.n (x::rest):Nat):Int)=left - (TValue.n x:Nat) - (lsum TValue.n rest:Nat):=by rw [zae];omega
  have ht:i.toNat=pre.length:=by omega
  rw [zae] at h2
  rw [List.length_cons] at h1
  rw [hR]
  unfold zlI
  simp (maxSteps:=9999999) (disch:=omega) only [vx,px,ty,↓reduceIte,seval,fx,go_lpc,ht,List.map_cons,ifT,zis]
  have h:=ih (pre++[x]) (i + 1) (left - (TValue.n x:Nat)) (by simp;omega) (by simp;omega) (by omega) (by omega)
  simp only [zaG] at h
  exact h
theorem zkZ (xs:List TValue) (left:Int) (sto:List (List D)) (h:((xs.length + lsum TValue.n xs:Nat):Int)<=left) (h2:left<=1048576):zaa T 232 [.sl false 4 (xs.map (TValue.e false)),.int .i64 left] sto=some (.int .i64 (left - ((xs.length + lsum TValue.n xs:Nat):Int)),[],sto):=by
 rw [zaf T (g:=v232) rfl rfl rfl _ _ rfl]
 simp (maxSteps:=9999999) (disch:=omega) only [vx,px,ty,↓reduceIte,seval,fx,v232,zxR,go_lpc]
 have hl:=fun k=>zpN (enF [.tmp 4] []) sto k xs [] 0 (left - xs.length) rfl (by simp;omega) (by omega) (by omega)
 simp only [List.map_nil,List.nil_append] at hl
 rw [hl]
 simp (maxSteps:=9999999) (disch:=omega) only [vx,px,ty,↓reduceIte,seval,fx]
 try exact congrArg (fun z=>some (D.int .i64 z,([]:List D),sto)) (by omega)
theorem zpO (x:TObject) (left:Int) (sto:List (List D)) (h:((TObject.n x:Nat):Int)<=left) (h2:left<=1048576):zaa T 194 [D.agg [D.int .i64 x.Id,D.int .i64 x.Kind,D.str x.Name,D.int .i64 x.Low,D.sl false 4 (List.map (TValue.e false) x.Keys),D.sl false 4 (List.map (TValue.e false) x.Vals),D.int .i64 x.Default.Kind,D.int .i64 x.Default.Num,D.str x.Default.Text,D.int .i64 x.Default.Ref],.int .i64 left] sto=some (.int .i64 (left - (TObject.n x:Nat)),[],sto):=by
 simp only [TObject.n] at h ⊢
 rw [zaf T (g:=v194) rfl rfl rfl _ _ rfl]
 simp (maxSteps:=9999999) (disch:=omega) only [vx,px,ty,↓reduceIte,seval,fx,v194,zxo,zis,zkZ]
 try exact congrArg (fun z=>some (D.int .i64 z,([]:List D),sto)) (by omega)
theorem znM {R:Type} (e:En R) (sto:List (List D)) (k:List Fr):∀ (rest pre:List TObject) (i left:Int),i=pre.length->pre.length + rest.length<=1048576->((lsum TObject.n rest:Nat):Int)<=left->left<=1048576 ->
  go T e zlz (.lp zro::.bl 0::.sq (.clr [4,5,6,7,8,9,10,11,12,13,14,15,16,17,18,19,20,21,22,23,24,25])::k) ⟨[.d (.sl false 10 (pre.map (TObject.e false)++rest.map (TObject.e false))),.d (.int .i64 left),Z,Z,Z,.d (.int .i64 i),Z,Z,Z,Z,Z,Z,Z,Z,Z,Z,Z,Z,Z,Z,Z,Z,Z,Z,Z,Z,Z],sto⟩=bk T e k ⟨[.d (.sl false 10 (pre.map (TObject.e false)++rest.map (TObject.e false))),.d (.int .i64 (left - (lsum TObject.n rest:Nat))),Z,Z,Z,Z,Z,Z,Z,Z,Z,Z,Z,Z,Z,Z,Z,Z,Z,Z,Z,Z,Z,Z,Z,Z,Z],sto⟩:=by
 intro rest
 induction rest with
 | nil =>
  intro pre i left hi h1 h2 h3
  have hR:left - ((lsum TObject.n ([]:List TObject):Nat):Int)=left:=by simp [zcq]
  have ht:i.toNat=pre.length:=by omega
  rw [hR]
  unfold zlz
  simp (maxSteps:=9999999) (disch:=omega) only [vx,px,ty,↓reduceIte,seval,fx,go_lpc]
 | cons x rest ih =>
  intro pre i left hi h1 h2 h3
  have hR:left - ((lsum TObject.n (x::rest):Nat):Int)=left - (TObject.n x:Nat) - (lsum TObject.n rest:Nat):=by rw [zae];omega
  have ht:i.toNat=pre.length:=by omega
  rw [zae] at h2
  rw [List.length_cons] at h1
  rw [hR]
  unfold zlz
  simp (maxSteps:=9999999) (disch:=omega) only [vx,px,ty,↓reduceIte,seval,fx,go_lpc,ht,List.map_cons,ifT,zpO]
  have h:=ih (pre++[x]) (i + 1) (left - (TObject.n x:Nat)) (by simp;omega) (by simp;omega) (by omega) (by omega)
  simp only [zaG] at h
  exact h
theorem znN (xs:List TObject) (left:Int) (sto:List (List D)) (h:((xs.length + lsum TObject.n xs:Nat):Int)<=left) (h2:left<=1048576):zaa T 116 [.sl false 10 (xs.map (TObject.e false)),.int .i64 left] sto=some (.int .i64 (left - ((xs.length + lsum TObject.n xs:Nat):Int)),[],sto):=by
 rw [zaf T (g:=v116) rfl rfl rfl _ _ rfl]
 simp (maxSteps:=9999999) (disch:=omega) only [vx,px,ty,↓reduceIte,seval,fx,v116,zwm,go_lpc]
 have hl:=fun k=>znM (enF [.tmp 4] []) sto k xs [] 0 (left - xs.length) rfl (by simp;omega) (by omega) (by omega)
 simp only [List.map_nil,List.nil_append] at hl
 rw [hl]
 simp (maxSteps:=9999999) (disch:=omega) only [vx,px,ty,↓reduceIte,seval,fx]
 try exact congrArg (fun z=>some (D.int .i64 z,([]:List D),sto)) (by omega)
theorem zuH (x:THeap) (left:Int) (sto:List (List D)) (h:((THeap.n x:Nat):Int)<=left) (h2:left<=1048576):zaa T 51 [D.agg [D.int .i64 x.Next,D.sl false 10 (List.map (TObject.e false) x.Objects)],.int .i64 left] sto=some (.int .i64 (left - (THeap.n x:Nat)),[],sto):=by
 simp only [THeap.n] at h ⊢
 rw [zaf T (g:=v51) rfl rfl rfl _ _ rfl]
 simp (maxSteps:=9999999) (disch:=omega) only [vx,px,ty,↓reduceIte,seval,fx,v51,zAy,znN]
 try exact congrArg (fun z=>some (D.int .i64 z,([]:List D),sto)) (by omega)
theorem znO (x:TBinding) (left:Int) (sto:List (List D)) (h:((TBinding.n x:Nat):Int)<=left) (h2:left<=1048576):zaa T 115 [D.agg [D.str x.Name,D.int .i64 x.Value.Kind,D.int .i64 x.Value.Num,D.str x.Value.Text,D.int .i64 x.Value.Ref],.int .i64 left] sto=some (.int .i64 (left - (TBinding.n x:Nat)),[],sto):=by
 simp only [TBinding.n] at h ⊢
 rw [zaf T (g:=v115) rfl rfl rfl _ _ rfl]
 simp (maxSteps:=9999999) (disch:=omega) only [vx,px,ty,↓reduceIte,seval,fx,v115,zwl,zis]
 try exact congrArg (fun z=>some (D.int .i64 z,([]:List D),sto)) (by omega)
theorem zmL {R:Type} (e:En R) (sto:List (List D)) (k:List Fr):∀ (rest pre:List TBinding) (i left:Int),i=pre.length->pre.length + rest.length<=1048576->((lsum TBinding.n rest:Nat):Int)<=left->left<=1048576 ->
  go T e zoQ (.lp zvA::.bl 0::.sq (.clr [4,5,6,7,8,9,10,11,12,13,14,15,16,17,18,19,20,21,22,23,24,25])::k) ⟨[.d (.sl false 5 (pre.map (TBinding.e false)++rest.map (TBinding.e false))),.d (.int .i64 left),Z,Z,Z,.d (.int .i64 i),Z,Z,Z,Z,Z,Z,Z,Z,Z,Z,Z,Z,Z,Z,Z,Z,Z,Z,Z,Z,Z],sto⟩=bk T e k ⟨[.d (.sl false 5 (pre.map (TBinding.e false)++rest.map (TBinding.e false))),.d (.int .i64 (left - (lsum TBinding.n rest:Nat))),Z,Z,Z,Z,Z,Z,Z,Z,Z,Z,Z,Z,Z,Z,Z,Z,Z,Z,Z,Z,Z,Z,Z,Z,Z],sto⟩:=by
 intro rest
 induction rest with
 | nil =>
  intro pre i left hi h1 h2 h3
  have hR:left - ((lsum TBinding.n ([]:List TBinding):Nat):Int)=left:=by simp [zcq]
  have ht:i.toNat=pre.length:=by omega
  rw [hR]
  unfold zoQ
  simp (maxSteps:=9999999) (disch:=omega) only [vx,px,ty,↓reduceIte,seval,fx,go_lpc]
 | cons x rest ih =>
  intro pre i left hi h1 h2 h3
  have hR:left - ((lsum TBinding.n (x::rest):Nat):Int)=left - (TBinding.n x:Nat) - (lsum TBinding.n rest:Nat):=by rw [zae];omega
  have ht:i.toNat=pre.length:=by omega
  rw [zae] at h2
  rw [List.length_cons] at h1
  rw [hR]
  unfold zoQ
  simp (maxSteps:=9999999) (disch:=omega) only [vx,px,ty,↓reduceIte,seval,fx,go_lpc,ht,List.map_cons,ifT,znO]
  have h:=ih (pre++[x]) (i + 1) (left - (TBinding.n x:Nat)) (by simp;omega) (by simp;omega) (by omega) (by omega)
  simp only [zaG] at h
  exact h
theorem zjg (xs:List TBinding) (left:Int) (sto:List (List D)) (h:((xs.length + lsum TBinding.n xs:Nat):Int)<=left) (h2:left<=1048576):zaa T 50 [.sl false 5 (xs.map (TBinding.e false)),.int .i64 left] sto=some (.int .i64 (left - ((xs.length + lsum TBinding.n xs:Nat):Int)),[],sto):=by
 rw [zaf T (g:=v50) rfl rfl rfl _ _ rfl]
 simp (maxSteps:=9999999) (disch:=omega) only [vx,px,ty,↓reduceIte,seval,fx,v50,zAx,go_lpc]
 have hl:=fun k=>zmL (enF [.tmp 4] []) sto k xs [] 0 (left - xs.length) rfl (by simp;omega) (by omega) (by omega)
 simp only [List.map_nil,List.nil_append] at hl
 rw [hl]
 simp (maxSteps:=9999999) (disch:=omega) only [vx,px,ty,↓reduceIte,seval,fx]
 try exact congrArg (fun z=>some (D.int .i64 z,([]:List D),sto)) (by omega)
abbrev znP (x:TGen):Prop:=∀ (left:Int) (sto:List (List D)) (h:((TGen.n x:Nat):Int)<=left) (h2:left<=1048576),zaa T 26 [D.agg [D.int .i64 x.Kind,D.int .i64 x.Num,D.str x.Text,D.int .i64 x.Value.Kind,D.int .i64 x.Value.Num,D.str x.Value.Text,D.int .i64 x.Value.Ref,D.sl false 8 (List.map (TGen.e false) x.Kids)],.int .i64 left] sto=some (.int .i64 (left - (TGen.n x:Nat)),[],sto)
theorem zuI {R:Type} (e:En R) (sto:List (List D)) (k:List Fr):∀ (rest pre:List TGen) (i left:Int),(∀ y ∈ rest,znP y)->i=pre.length->pre.length + rest.length<=1048576->((lsum TGen.n rest:Nat):Int)<=left->left<=1048576 ->
  go T e zoZ (.lp zvR::.bl 0::.sq (.clr [4,5,6,7,8,9,10,11,12,13,14,15,16,17,18,19,20,21,22,23,24,25])::k) ⟨[.d (.sl false 8 (pre.map (TGen.e false)++rest.map (TGen.e false))),.d (.int .i64 left),Z,Z,Z,.d (.int .i64 i),Z,Z,Z,Z,Z,Z,Z,Z,Z,Z,Z,Z,Z,Z,Z,Z,Z,Z,Z,Z,Z],sto⟩=bk T e k ⟨[.d (.sl false 8 (pre.map (TGen.e false)++rest.map (TGen.e false))),.d (.int .i64 (left - (lsum TGen.n rest:Nat))),Z,Z,Z,Z,Z,Z,Z,Z,Z,Z,Z,Z,Z,Z,Z,Z,Z,Z,Z,Z,Z,Z,Z,Z,Z],sto⟩:=by
 intro rest
 induction rest with
 | nil =>
  intro pre i left hq hi h1 h2 h3
  have hR:left - ((lsum TGen.n ([]:List TGen):Nat):Int)=left:=by simp [zcq]
  have ht:i.toNat=pre.length:=by omega
  rw [hR]
  unfold zoZ
  simp (maxSteps:=9999999) (disch:=omega) only [vx,px,ty,↓reduceIte,seval,fx,go_lpc]
 | cons x rest ih =>
  intro pre i left hq hi h1 h2 h3
  have hR:left - ((lsum TGen.n (x::rest):Nat):Int)=left - (TGen.n x:Nat) - (lsum TGen.n rest:Nat):=by rw [zae];omega
  have ht:i.toNat=pre.length:=by omega
  have znQ:=hq x (List.mem_cons_self ..)
  rw [zae] at h2
  rw [List.length_cons] at h1
  rw [hR]
  unfold zoZ
  simp (maxSteps:=9999999) (disch:=omega) only [vx,px,ty,↓reduceIte,seval,fx,go_lpc,ht,List.map_cons,ifT,znQ]
  have h:=ih (pre++[x]) (i + 1) (left - (TGen.n x:Nat)) (fun y hy=>hq y (List.mem_cons_of_mem _ hy)) (by simp;omega) (by simp;omega) (by omega) (by omega)
  simp only [zaG] at h
  exact h
theorem zmM (xs:List TGen) (hq:∀ y ∈ xs,znP y) (left:Int) (sto:List (List D)) (h:((xs.length + lsum TGen.n xs:Nat):Int)<=left) (h2:left<=1048576):zaa T 72 [.sl false 8 (xs.map (TGen.e false)),.int .i64 left] sto=some (.int .i64 (left - ((xs.length + lsum TGen.n xs:Nat):Int)),[],sto):=by
 rw [zaf T (g:=v72) rfl rfl rfl _ _ rfl]
 simp (maxSteps:=9999999) (disch:=omega) only [vx,px,ty,↓reduceIte,seval,fx,v72,zAQ,go_lpc]
 have hl:=fun k=>zuI (enF [.tmp 4] []) sto k xs [] 0 (left - xs.length) hq rfl (by simp;omega) (by omega) (by omega)
 simp only [List.map_nil,List.nil_append] at hl
 rw [hl]
 simp (maxSteps:=9999999) (disch:=omega) only [vx,px,ty,↓reduceIte,seval,fx]
 try exact congrArg (fun z=>some (D.int .i64 z,([]:List D),sto)) (by omega)
theorem zmN:∀ x:TGen,znP x:=by
 refine TGen.ind fun x ih=>?_
 intro left sto h h2
 have zpg:=zmM x.Kids ih
 simp only [TGen.n_eq] at h ⊢
 rw [zaf T (g:=v26) rfl rfl rfl _ _ rfl]
 simp (maxSteps:=9999999) (disch:=omega) only [vx,px,ty,↓reduceIte,seval,fx,v26,zAp,zpg,zis]
 try exact congrArg (fun z=>some (D.int .i64 z,([]:List D),sto)) (by omega)
theorem znQ (x:TGen) (left:Int) (sto:List (List D)) (h:((TGen.n x:Nat):Int)<=left) (h2:left<=1048576):zaa T 26 [D.agg [D.int .i64 x.Kind,D.int .i64 x.Num,D.str x.Text,D.int .i64 x.Value.Kind,D.int .i64 x.Value.Num,D.str x.Value.Text,D.int .i64 x.Value.Ref,D.sl false 8 (List.map (TGen.e false) x.Kids)],.int .i64 left] sto=some (.int .i64 (left - (TGen.n x:Nat)),[],sto):=zmN x left sto h h2
theorem zpg (xs:List TGen) (left:Int) (sto:List (List D)) (h:((xs.length + lsum TGen.n xs:Nat):Int)<=left) (h2:left<=1048576):zaa T 72 [.sl false 8 (xs.map (TGen.e false)),.int .i64 left] sto=some (.int .i64 (left - ((xs.length + lsum TGen.n xs:Nat):Int)),[],sto):=zmM xs (fun y _=>zmN y) left sto h h2
abbrev ziO (x:TCursor):Prop:=∀ (left:Int) (sto:List (List D)) (h:((TCursor.n x:Nat):Int)<=left) (h2:left<=1048576),zaa T 195 [D.agg [D.int .i64 x.Phase,D.int .i64 x.Count,D.sl false 4 (List.map (TValue.e false) x.Vals),D.sl false 4 (List.map (TCursor.e false) x.Kids)],.int .i64 left] sto=some (.int .i64 (left - (TCursor.n x:Nat)),[],sto)
theorem znR {R:Type} (e:En R) (sto:List (List D)) (k:List Fr):∀ (rest pre:List TCursor) (i left:Int),(∀ y ∈ rest,ziO y)->i=pre.length->pre.length + rest.length<=1048576->((lsum TCursor.n rest:Nat):Int)<=left->left<=1048576 ->
  go T e zlJ (.lp zsT::.bl 0::.sq (.clr [4,5,6,7,8,9,10,11,12,13,14,15,16,17,18,19,20,21,22,23,24,25])::k) ⟨[.d (.sl false 4 (pre.map (TCursor.e false)++rest.map (TCursor.e false))),.d (.int .i64 left),Z,Z,Z,.d (.int .i64 i),Z,Z,Z,Z,Z,Z,Z,Z,Z,Z,Z,Z,Z,Z,Z,Z,Z,Z,Z,Z,Z],sto⟩=bk T e k ⟨[.d (.sl false 4 (pre.map (TCursor.e false)++rest.map (TCursor.e false))),.d (.int .i64 (left - (lsum TCursor.n rest:Nat))),Z,Z,Z,Z,Z,Z,Z,Z,Z,Z,Z,Z,Z,Z,Z,Z,Z,Z,Z,Z,Z,Z,Z,Z,Z],sto⟩:=by
 intro rest
 induction rest with
 | nil =>
  intro pre i left hq hi h1 h2 h3
  have hR:left - ((lsum TCursor.n ([]:List TCursor):Nat):Int)=left:=by simp [zcq]
  have ht:i.toNat=pre.length:=by omega
  rw [hR]
  unfold zlJ
  simp (maxSteps:=9999999) (disch:=omega) only [vx,px,ty,↓reduceIte,seval,fx,go_lpc]
 | cons x rest ih =>
  intro pre i left hq hi h1 h2 h3
  have hR:left - ((lsum TCursor.n (x::rest):Nat):Int)=left - (TCursor.n x:Nat) - (lsum TCursor.n rest:Nat):=by rw [zae];omega
  have ht:i.toNat=pre.length:=by omega
  have ziP:=hq x (List.mem_cons_self ..)
  rw [zae] at h2
  rw [List.length_cons] at h1
  rw [hR]
  unfold zlJ
  simp (maxSteps:=9999999) (disch:=omega) only [vx,px,ty,↓reduceIte,seval,fx,go_lpc,ht,List.map_cons,ifT,ziP]
  have h:=ih (pre++[x]) (i + 1) (left - (TCursor.n x:Nat)) (fun y hy=>hq y (List.mem_cons_of_mem _ hy)) (by simp;omega) (by simp;omega) (by omega) (by omega)
  simp only [zaG] at h
  exact h
theorem zjh (xs:List TCursor) (hq:∀ y ∈ xs,ziO y) (left:Int) (sto:List (List D)) (h:((xs.length + lsum TCursor.n xs:Nat):Int)<=left) (h2:left<=1048576):zaa T 233 [.sl false 4 (xs.map (TCursor.e false)),.int .i64 left] sto=some (.int .i64 (left - ((xs.length + lsum TCursor.n xs:Nat):Int)),[],sto):=by
 rw [zaf T (g:=v233) rfl rfl rfl _ _ rfl]
 simp (maxSteps:=9999999) (disch:=omega) only [vx,px,ty,↓reduceIte,seval,fx,v233,zxS,go_lpc]
 have hl:=fun k=>znR (enF [.tmp 4] []) sto k xs [] 0 (left - xs.length) hq rfl (by simp;omega) (by omega) (by omega)
 simp only [List.map_nil,List.nil_append] at hl
 rw [hl]
 simp (maxSteps:=9999999) (disch:=omega) only [vx,px,ty,↓reduceIte,seval,fx]
 try exact congrArg (fun z=>some (D.int .i64 z,([]:List D),sto)) (by omega)
theorem zji:∀ x:TCursor,ziO x:=by
 refine TCursor.ind fun x ih=>?_
 intro left sto h h2
 have zkh:=zjh x.Kids ih
 simp only [TCursor.n_eq] at h ⊢
 rw [zaf T (g:=v195) rfl rfl rfl _ _ rfl]
 simp (maxSteps:=9999999) (disch:=omega) only [vx,px,ty,↓reduceIte,seval,fx,v195,zxp,zkh,zkZ]
 try exact congrArg (fun z=>some (D.int .i64 z,([]:List D),sto)) (by omega)
theorem ziP (x:TCursor) (left:Int) (sto:List (List D)) (h:((TCursor.n x:Nat):Int)<=left) (h2:left<=1048576):zaa T 195 [D.agg [D.int .i64 x.Phase,D.int .i64 x.Count,D.sl false 4 (List.map (TValue.e false) x.Vals),D.sl false 4 (List.map (TCursor.e false) x.Kids)],.int .i64 left] sto=some (.int .i64 (left - (TCursor.n x:Nat)),[],sto):=zji x left sto h h2
theorem zkh (xs:List TCursor) (left:Int) (sto:List (List D)) (h:((xs.length + lsum TCursor.n xs:Nat):Int)<=left) (h2:left<=1048576):zaa T 233 [.sl false 4 (xs.map (TCursor.e false)),.int .i64 left] sto=some (.int .i64 (left - ((xs.length + lsum TCursor.n xs:Nat):Int)),[],sto):=zjh xs (fun y _=>zji y) left sto h h2
theorem zpP (x:TCoexpr) (left:Int) (sto:List (List D)) (h:((TCoexpr.n x:Nat):Int)<=left) (h2:left<=1048576):zaa T 117 [D.agg [D.int .i64 x.Id,D.int .i64 x.Body.Kind,D.int .i64 x.Body.Num,D.str x.Body.Text,D.int .i64 x.Body.Value.Kind,D.int .i64 x.Body.Value.Num,D.str x.Body.Value.Text,D.int .i64 x.Body.Value.Ref,D.sl false 8 (List.map (TGen.e false) x.Body.Kids),D.sl false 5 (List.map (TBinding.e false) x.Start),D.sl false 5 (List.map (TBinding.e false) x.Vars),D.int .i64 x.Cursor.Phase,D.int .i64 x.Cursor.Count,D.sl false 4 (List.map (TValue.e false) x.Cursor.Vals),D.sl false 4 (List.map (TCursor.e false) x.Cursor.Kids),D.int .i64 x.Count,D.bool x.Done],.int .i64 left] sto=some (.int .i64 (left - (TCoexpr.n x:Nat)),[],sto):=by
 simp only [TCoexpr.n] at h ⊢
 rw [zaf T (g:=v117) rfl rfl rfl _ _ rfl]
 simp (maxSteps:=9999999) (disch:=omega) only [vx,px,ty,↓reduceIte,seval,fx,v117,zwn,zjg,ziP,znQ]
 try exact congrArg (fun z=>some (D.int .i64 z,([]:List D),sto)) (by omega)
theorem znS {R:Type} (e:En R) (sto:List (List D)) (k:List Fr):∀ (rest pre:List TCoexpr) (i left:Int),i=pre.length->pre.length + rest.length<=1048576->((lsum TCoexpr.n rest:Nat):Int)<=left->left<=1048576 ->
  go T e zoR (.lp zvB::.bl 0::.sq (.clr [4,5,6,7,8,9,10,11,12,13,14,15,16,17,18,19,20,21,22,23,24,25])::k) ⟨[.d (.sl false 17 (pre.map (TCoexpr.e false)++rest.map (TCoexpr.e false))),.d (.int .i64 left),Z,Z,Z,.d (.int .i64 i),Z,Z,Z,Z,Z,Z,Z,Z,Z,Z,Z,Z,Z,Z,Z,Z,Z,Z,Z,Z,Z],sto⟩=bk T e k ⟨[.d (.sl false 17 (pre.map (TCoexpr.e false)++rest.map (TCoexpr.e false))),.d (.int .i64 (left - (lsum TCoexpr.n rest:Nat))),Z,Z,Z,Z,Z,Z,Z,Z,Z,Z,Z,Z,Z,Z,Z,Z,Z,Z,Z,Z,Z,Z,Z,Z,Z],sto⟩:=by
 intro rest
 induction rest with
 | nil =>
  intro pre i left hi h1 h2 h3
  have hR:left - ((lsum TCoexpr.n ([]:List TCoexpr):Nat):Int)=left:=by simp [zcq]
  have ht:i.toNat=pre.length:=by omega
  rw [hR]
  unfold zoR
  simp (maxSteps:=9999999) (disch:=omega) only [vx,px,ty,↓reduceIte,seval,fx,go_lpc]
 | cons x rest ih =>
  intro pre i left hi h1 h2 h3
  have hR:left - ((lsum TCoexpr.n (x::rest):Nat):Int)=left - (TCoexpr.n x:Nat) - (lsum TCoexpr.n rest:Nat):=by rw [zae];omega
  have ht:i.toNat=pre.length:=by omega
  rw [zae] at h2
  rw [List.length_cons] at h1
  rw [hR]
  unfold zoR
  simp (maxSteps:=9999999) (disch:=omega) only [vx,px,ty,↓reduceIte,seval,fx,go_lpc,ht,List.map_cons,ifT,zpP]
  have h:=ih (pre++[x]) (i + 1) (left - (TCoexpr.n x:Nat)) (by simp;omega) (by simp;omega) (by omega) (by omega)
  simp only [zaG] at h
  exact h
theorem znT (xs:List TCoexpr) (left:Int) (sto:List (List D)) (h:((xs.length + lsum TCoexpr.n xs:Nat):Int)<=left) (h2:left<=1048576):zaa T 52 [.sl false 17 (xs.map (TCoexpr.e false)),.int .i64 left] sto=some (.int .i64 (left - ((xs.length + lsum TCoexpr.n xs:Nat):Int)),[],sto):=by
 rw [zaf T (g:=v52) rfl rfl rfl _ _ rfl]
 simp (maxSteps:=9999999) (disch:=omega) only [vx,px,ty,↓reduceIte,seval,fx,v52,zAz,go_lpc]
 have hl:=fun k=>znS (enF [.tmp 4] []) sto k xs [] 0 (left - xs.length) rfl (by simp;omega) (by omega) (by omega)
 simp only [List.map_nil,List.nil_append] at hl
 rw [hl]
 simp (maxSteps:=9999999) (disch:=omega) only [vx,px,ty,↓reduceIte,seval,fx]
 try exact congrArg (fun z=>some (D.int .i64 z,([]:List D),sto)) (by omega)
theorem zjj (x:TGenScope) (left:Int) (sto:List (List D)) (h:((TGenScope.n x:Nat):Int)<=left) (h2:left<=1048576):zaa T 17 [D.agg [D.sl false 5 (List.map (TBinding.e false) x.Vars),D.int .i64 x.Heap.Next,D.sl false 10 (List.map (TObject.e false) x.Heap.Objects),D.sl false 17 (List.map (TCoexpr.e false) x.Cos),D.int .i64 x.Steps],.int .i64 left] sto=some (.int .i64 (left - (TGenScope.n x:Nat)),[],sto):=by
 simp only [TGenScope.n] at h ⊢
 rw [zaf T (g:=v17) rfl rfl rfl _ _ rfl]
 simp (maxSteps:=9999999) (disch:=omega) only [vx,px,ty,↓reduceIte,seval,fx,v17,zAl,zjg,znT,zuH]
 try exact congrArg (fun z=>some (D.int .i64 z,([]:List D),sto)) (by omega)
end Go.Vx.RmZ

