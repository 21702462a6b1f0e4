/-
  The laws' own functions: eq.
-/
import Derived.Test.YtnaaflejkfaiaaaGreatTypes
import Derived.Test.YtnaaflejkfaiaaaGreatCode
set_option linter.unusedVariables false
set_option linter.unusedSimpArgs false
namespace Go.Vx.RfZ
set_option linter.unusedVariables false
set_option linter.unusedSimpArgs false
set_option maxRecDepth 4000
set_option maxHeartbeats 4000000
theorem zio (x:TValue) (sto:List (List D)) (h:TValue.n x≤34359738368):zaa T 79 [D.agg [D.int .i64 x.Kind,D.int .i64 x.Num,D.str x.Text,D.int .i64 x.Ref],D.agg [D.int .i64 x.Kind,D.int .i64 x.Num,D.str x.Text,D.int .i64 x.Ref]] sto=some (.bool true,[],sto):=by
 simp only [TValue.n] at h
 rw [zad T (g:=v79) rfl rfl rfl _ _ rfl]
 simp (maxSteps:=9999999) (disch:=omega) only [vx,px,ty,↓reduceIte,seval,fx,v79,zAh]
theorem zpq {R:Type} (e:En R) (sto:List (List D)) (k:List Fr):∀ (rest pre:List TValue) (i:Int),i=pre.length→pre.length + rest.length≤34359738368→lsum TValue.n rest≤34359738368 →
  go T e zlg (.lp zrh::.bl 0::.sq (.clr [4,5,6,7,8,9,10,11,12,13,14,15,16,17,18,19,20,21,22,23,24,25,26])::k) ⟨[.d (.sl false 4 (pre.map (TValue.e false)++rest.map (TValue.e false))),.d (.sl false 4 (pre.map (TValue.e false)++rest.map (TValue.e false))),Z,Z,Z,.d (.int .i64 i),Z,Z,Z,Z,Z,Z,Z,Z,Z,Z,Z,Z,Z,Z,Z,Z,Z,Z,Z,Z,Z],sto⟩=bk T e k ⟨[.d (.sl false 4 (pre.map (TValue.e false)++rest.map (TValue.e false))),.d (.sl false 4 (pre.map (TValue.e false)++rest.map (TValue.e false))),Z,Z,Z,Z,Z,Z,Z,Z,Z,Z,Z,Z,Z,Z,Z,Z,Z,Z,Z,Z,Z,Z,Z,Z,Z],sto⟩:=by
 intro rest
 induction rest with
 | nil =>
  intro pre i hi h1 h2
  have ht:i.toNat=pre.length:=by omega
  unfold zlg
  simp (maxSteps:=9999999) (disch:=omega) only [vx,px,ty,↓reduceIte,seval,fx,go_lpc]
 | cons x rest ih =>
  intro pre i hi h1 h2
  have ht:i.toNat=pre.length:=by omega
  rw [zae] at h2
  rw [List.length_cons] at h1
  unfold zlg
  simp (maxSteps:=9999999) (disch:=omega) only [vx,px,ty,↓reduceIte,seval,fx,vxd,Nat.reduceBNe,go_lpc,ht,List.map_cons,ifT,zio]
  have h:=ih (pre++[x]) (i + 1) (by simp;omega) (by simp;omega) (by omega)
  simp only [zaB] at h
  exact h
theorem zkN (xs:List TValue) (sto:List (List D)) (h:xs.length≤34359738368) (h2:lsum TValue.n xs≤34359738368):zaa T 138 [.sl false 4 (xs.map (TValue.e false)),.sl false 4 (xs.map (TValue.e false))] sto=some (.bool true,[],sto):=by
 rw [zad T (g:=v138) rfl rfl rfl _ _ rfl]
 simp (maxSteps:=9999999) (disch:=omega) only [vx,px,ty,↓reduceIte,seval,fx,v138,zvU,go_lpc]
 have hl:=fun k=>zpq (enF [.tmp 4] []) sto k xs [] 0 rfl (by simp;omega) h2
 simp only [List.map_nil,List.nil_append] at hl
 rw [hl]
 simp (maxSteps:=9999999) (disch:=omega) only [vx,px,ty,↓reduceIte,seval,fx]
theorem zpr (x:TObject) (sto:List (List D)) (h:TObject.n x≤34359738368):zaa T 190 [D.agg [D.int .i64 x.Id,D.int .i64 x.Kind,D.str x.Name,D.int .i64 x.Low,D.sl false 4 (List.map (TValue.e false) x.Keys),D.sl false 4 (List.map (TValue.e false) x.Vals),D.int .i64 x.Default.Kind,D.int .i64 x.Default.Num,D.str x.Default.Text,D.int .i64 x.Default.Ref],D.agg [D.int .i64 x.Id,D.int .i64 x.Kind,D.str x.Name,D.int .i64 x.Low,D.sl false 4 (List.map (TValue.e false) x.Keys),D.sl false 4 (List.map (TValue.e false) x.Vals),D.int .i64 x.Default.Kind,D.int .i64 x.Default.Num,D.str x.Default.Text,D.int .i64 x.Default.Ref]] sto=some (.bool true,[],sto):=by
 simp only [TObject.n] at h
 rw [zad T (g:=v190) rfl rfl rfl _ _ rfl]
 simp (maxSteps:=9999999) (disch:=omega) only [vx,px,ty,↓reduceIte,seval,fx,v190,zwA,zio,zkN]
theorem znH {R:Type} (e:En R) (sto:List (List D)) (k:List Fr):∀ (rest pre:List TObject) (i:Int),i=pre.length→pre.length + rest.length≤34359738368→lsum TObject.n rest≤34359738368 →
  go T e zlb (.lp zqC::.bl 0::.sq (.clr [4,5,6,7,8,9,10,11,12,13,14,15,16,17,18,19,20,21,22,23,24,25,26])::k) ⟨[.d (.sl false 10 (pre.map (TObject.e false)++rest.map (TObject.e false))),.d (.sl false 10 (pre.map (TObject.e false)++rest.map (TObject.e false))),Z,Z,Z,.d (.int .i64 i),Z,Z,Z,Z,Z,Z,Z,Z,Z,Z,Z,Z,Z,Z,Z,Z,Z,Z,Z,Z,Z],sto⟩=bk T e k ⟨[.d (.sl false 10 (pre.map (TObject.e false)++rest.map (TObject.e false))),.d (.sl false 10 (pre.map (TObject.e false)++rest.map (TObject.e false))),Z,Z,Z,Z,Z,Z,Z,Z,Z,Z,Z,Z,Z,Z,Z,Z,Z,Z,Z,Z,Z,Z,Z,Z,Z],sto⟩:=by
 intro rest
 induction rest with
 | nil =>
  intro pre i hi h1 h2
  have ht:i.toNat=pre.length:=by omega
  unfold zlb
  simp (maxSteps:=9999999) (disch:=omega) only [vx,px,ty,↓reduceIte,seval,fx,go_lpc]
 | cons x rest ih =>
  intro pre i hi h1 h2
  have ht:i.toNat=pre.length:=by omega
  rw [zae] at h2
  rw [List.length_cons] at h1
  unfold zlb
  simp (maxSteps:=9999999) (disch:=omega) only [vx,px,ty,↓reduceIte,seval,fx,vxd,Nat.reduceBNe,go_lpc,ht,List.map_cons,ifT,zpr]
  have h:=ih (pre++[x]) (i + 1) (by simp;omega) (by simp;omega) (by omega)
  simp only [zaB] at h
  exact h
theorem znI (xs:List TObject) (sto:List (List D)) (h:xs.length≤34359738368) (h2:lsum TObject.n xs≤34359738368):zaa T 102 [.sl false 10 (xs.map (TObject.e false)),.sl false 10 (xs.map (TObject.e false))] sto=some (.bool true,[],sto):=by
 rw [zad T (g:=v102) rfl rfl rfl _ _ rfl]
 simp (maxSteps:=9999999) (disch:=omega) only [vx,px,ty,↓reduceIte,seval,fx,v102,zvv,go_lpc]
 have hl:=fun k=>znH (enF [.tmp 4] []) sto k xs [] 0 rfl (by simp;omega) h2
 simp only [List.map_nil,List.nil_append] at hl
 rw [hl]
 simp (maxSteps:=9999999) (disch:=omega) only [vx,px,ty,↓reduceIte,seval,fx]
theorem ztV (x:THeap) (sto:List (List D)) (h:THeap.n x≤34359738368):zaa T 40 [D.agg [D.int .i64 x.Next,D.sl false 10 (List.map (TObject.e false) x.Objects)],D.agg [D.int .i64 x.Next,D.sl false 10 (List.map (TObject.e false) x.Objects)]] sto=some (.bool true,[],sto):=by
 simp only [THeap.n] at h
 rw [zad T (g:=v40) rfl rfl rfl _ _ rfl]
 simp (maxSteps:=9999999) (disch:=omega) only [vx,px,ty,↓reduceIte,seval,fx,v40,zzH,znI]
theorem znJ (x:TBinding) (sto:List (List D)) (h:TBinding.n x≤34359738368):zaa T 137 [D.agg [D.str x.Name,D.int .i64 x.Value.Kind,D.int .i64 x.Value.Num,D.str x.Value.Text,D.int .i64 x.Value.Ref],D.agg [D.str x.Name,D.int .i64 x.Value.Kind,D.int .i64 x.Value.Num,D.str x.Value.Text,D.int .i64 x.Value.Ref]] sto=some (.bool true,[],sto):=by
 simp only [TBinding.n] at h
 rw [zad T (g:=v137) rfl rfl rfl _ _ rfl]
 simp (maxSteps:=9999999) (disch:=omega) only [vx,px,ty,↓reduceIte,seval,fx,v137,zvT,zio]
theorem zmv {R:Type} (e:En R) (sto:List (List D)) (k:List Fr):∀ (rest pre:List TBinding) (i:Int),i=pre.length→pre.length + rest.length≤34359738368→lsum TBinding.n rest≤34359738368 →
  go T e zow (.lp zuV::.bl 0::.sq (.clr [4,5,6,7,8,9,10,11,12,13,14,15,16,17,18,19,20,21,22,23,24,25,26])::k) ⟨[.d (.sl false 5 (pre.map (TBinding.e false)++rest.map (TBinding.e false))),.d (.sl false 5 (pre.map (TBinding.e false)++rest.map (TBinding.e false))),Z,Z,Z,.d (.int .i64 i),Z,Z,Z,Z,Z,Z,Z,Z,Z,Z,Z,Z,Z,Z,Z,Z,Z,Z,Z,Z,Z],sto⟩=bk T e k ⟨[.d (.sl false 5 (pre.map (TBinding.e false)++rest.map (TBinding.e false))),.d (.sl false 5 (pre.map (TBinding.e false)++rest.map (TBinding.e false))),Z,Z,Z,Z,Z,Z,Z,Z,Z,Z,Z,Z,Z,Z,Z,Z,Z,Z,Z,Z,Z,Z,Z,Z,Z],sto⟩:=by
 intro rest
 induction rest with
 | nil =>
  intro pre i hi h1 h2
  have ht:i.toNat=pre.length:=by omega
  unfold zow
  simp (maxSteps:=9999999) (disch:=omega) only [vx,px,ty,↓reduceIte,seval,fx,go_lpc]
 | cons x rest ih =>
  intro pre i hi h1 h2
  have ht:i.toNat=pre.length:=by omega
  rw [zae] at h2
  rw [List.length_cons] at h1
  unfold zow
  simp (maxSteps:=9999999) (disch:=omega) only [vx,px,ty,↓reduceIte,seval,fx,vxd,Nat.reduceBNe,go_lpc,ht,List.map_cons,ifT,znJ]
  have h:=ih (pre++[x]) (i + 1) (by simp;omega) (by simp;omega) (by omega)
  simp only [zaB] at h
  exact h
theorem zjd (xs:List TBinding) (sto:List (List D)) (h:xs.length≤34359738368) (h2:lsum TBinding.n xs≤34359738368):zaa T 62 [.sl false 5 (xs.map (TBinding.e false)),.sl false 5 (xs.map (TBinding.e false))] sto=some (.bool true,[],sto):=by
 rw [zad T (g:=v62) rfl rfl rfl _ _ rfl]
 simp (maxSteps:=9999999) (disch:=omega) only [vx,px,ty,↓reduceIte,seval,fx,v62,zzV,go_lpc]
 have hl:=fun k=>zmv (enF [.tmp 4] []) sto k xs [] 0 rfl (by simp;omega) h2
 simp only [List.map_nil,List.nil_append] at hl
 rw [hl]
 simp (maxSteps:=9999999) (disch:=omega) only [vx,px,ty,↓reduceIte,seval,fx]
abbrev znK (x:TGen):Prop:=∀ (sto:List (List D)) (h:TGen.n x≤34359738368),zaa T 30 [D.agg [D.int .i64 x.Kind,D.int .i64 x.Num,D.str x.Text,D.int .i64 x.Value.Kind,D.int .i64 x.Value.Num,D.str x.Value.Text,D.int .i64 x.Value.Ref,D.sl false 8 (List.map (TGen.e false) x.Kids)],D.agg [D.int .i64 x.Kind,D.int .i64 x.Num,D.str x.Text,D.int .i64 x.Value.Kind,D.int .i64 x.Value.Num,D.str x.Value.Text,D.int .i64 x.Value.Ref,D.sl false 8 (List.map (TGen.e false) x.Kids)]] sto=some (.bool true,[],sto)
theorem ztW {R:Type} (e:En R) (sto:List (List D)) (k:List Fr):∀ (rest pre:List TGen) (i:Int),(∀ y ∈ rest,znK y)→i=pre.length→pre.length + rest.length≤34359738368→lsum TGen.n rest≤34359738368 →
  go T e zoD (.lp zvg::.bl 0::.sq (.clr [4,5,6,7,8,9,10,11,12,13,14,15,16,17,18,19,20,21,22,23,24,25,26])::k) ⟨[.d (.sl false 8 (pre.map (TGen.e false)++rest.map (TGen.e false))),.d (.sl false 8 (pre.map (TGen.e false)++rest.map (TGen.e false))),Z,Z,Z,.d (.int .i64 i),Z,Z,Z,Z,Z,Z,Z,Z,Z,Z,Z,Z,Z,Z,Z,Z,Z,Z,Z,Z,Z],sto⟩=bk T e k ⟨[.d (.sl false 8 (pre.map (TGen.e false)++rest.map (TGen.e false))),.d (.sl false 8 (pre.map (TGen.e false)++rest.map (TGen.e false))),Z,Z,Z,Z,Z,Z,Z,Z,Z,Z,Z,Z,Z,Z,Z,Z,Z,Z,Z,Z,Z,Z,Z,Z,Z],sto⟩:=by
 intro rest
 induction rest with
 | nil =>
  intro pre i hq hi h1 h2
  have ht:i.toNat=pre.length:=by omega
  unfold zoD
  simp (maxSteps:=9999999) (disch:=omega) only [vx,px,ty,↓reduceIte,seval,fx,go_lpc]
 | cons x rest ih =>
  intro pre i hq hi h1 h2
  have ht:i.toNat=pre.length:=by omega
  have znL:=hq x (List.mem_cons_self ..)
  rw [zae] at h2
  rw [List.length_cons] at h1
  unfold zoD
  simp (maxSteps:=9999999) (disch:=omega) only [vx,px,ty,↓reduceIte,seval,fx,vxd,Nat.reduceBNe,go_lpc,ht,List.map_cons,ifT,znL]
  have h:=ih (pre++[x]) (i + 1) (fun y hy=>hq y (List.mem_cons_of_mem _ hy)) (by simp;omega) (by simp;omega) (by omega)
  simp only [zaB] at h
  exact h
theorem zmw (xs:List TGen) (hq:∀ y ∈ xs,znK y) (sto:List (List D)) (h:xs.length≤34359738368) (h2:lsum TGen.n xs≤34359738368):zaa T 80 [.sl false 8 (xs.map (TGen.e false)),.sl false 8 (xs.map (TGen.e false))] sto=some (.bool true,[],sto):=by
 rw [zad T (g:=v80) rfl rfl rfl _ _ rfl]
 simp (maxSteps:=9999999) (disch:=omega) only [vx,px,ty,↓reduceIte,seval,fx,v80,zAi,go_lpc]
 have hl:=fun k=>ztW (enF [.tmp 4] []) sto k xs [] 0 hq rfl (by simp;omega) h2
 simp only [List.map_nil,List.nil_append] at hl
 rw [hl]
 simp (maxSteps:=9999999) (disch:=omega) only [vx,px,ty,↓reduceIte,seval,fx]
theorem zmx:∀ x:TGen,znK x:=by
 refine TGen.ind fun x ih=>?_
 intro sto h
 have zoK:=zmw x.Kids ih
 simp only [TGen.n_eq] at h
 rw [zad T (g:=v30) rfl rfl rfl _ _ rfl]
 simp (maxSteps:=9999999) (disch:=omega) only [vx,px,ty,↓reduceIte,seval,fx,v30,zzD,zoK,zio]
theorem znL (x:TGen) (sto:List (List D)) (h:TGen.n x≤34359738368):zaa T 30 [D.agg [D.int .i64 x.Kind,D.int .i64 x.Num,D.str x.Text,D.int .i64 x.Value.Kind,D.int .i64 x.Value.Num,D.str x.Value.Text,D.int .i64 x.Value.Ref,D.sl false 8 (List.map (TGen.e false) x.Kids)],D.agg [D.int .i64 x.Kind,D.int .i64 x.Num,D.str x.Text,D.int .i64 x.Value.Kind,D.int .i64 x.Value.Num,D.str x.Value.Text,D.int .i64 x.Value.Ref,D.sl false 8 (List.map (TGen.e false) x.Kids)]] sto=some (.bool true,[],sto):=zmx x sto h
theorem zoK (xs:List TGen) (sto:List (List D)) (h:xs.length≤34359738368) (h2:lsum TGen.n xs≤34359738368):zaa T 80 [.sl false 8 (xs.map (TGen.e false)),.sl false 8 (xs.map (TGen.e false))] sto=some (.bool true,[],sto):=zmw xs (fun y _=>zmx y) sto h h2
abbrev ziI (x:TCursor):Prop:=∀ (sto:List (List D)) (h:TCursor.n x≤34359738368),zaa T 63 [D.agg [D.int .i64 x.Phase,D.int .i64 x.Count,D.sl false 4 (List.map (TValue.e false) x.Vals),D.sl false 4 (List.map (TCursor.e false) x.Kids)],D.agg [D.int .i64 x.Phase,D.int .i64 x.Count,D.sl false 4 (List.map (TValue.e false) x.Vals),D.sl false 4 (List.map (TCursor.e false) x.Kids)]] sto=some (.bool true,[],sto)
theorem znM {R:Type} (e:En R) (sto:List (List D)) (k:List Fr):∀ (rest pre:List TCursor) (i:Int),(∀ y ∈ rest,ziI y)→i=pre.length→pre.length + rest.length≤34359738368→lsum TCursor.n rest≤34359738368 →
  go T e zlh (.lp zri::.bl 0::.sq (.clr [4,5,6,7,8,9,10,11,12,13,14,15,16,17,18,19,20,21,22,23,24,25,26])::k) ⟨[.d (.sl false 4 (pre.map (TCursor.e false)++rest.map (TCursor.e false))),.d (.sl false 4 (pre.map (TCursor.e false)++rest.map (TCursor.e false))),Z,Z,Z,.d (.int .i64 i),Z,Z,Z,Z,Z,Z,Z,Z,Z,Z,Z,Z,Z,Z,Z,Z,Z,Z,Z,Z,Z],sto⟩=bk T e k ⟨[.d (.sl false 4 (pre.map (TCursor.e false)++rest.map (TCursor.e false))),.d (.sl false 4 (pre.map (TCursor.e false)++rest.map (TCursor.e false))),Z,Z,Z,Z,Z,Z,Z,Z,Z,Z,Z,Z,Z,Z,Z,Z,Z,Z,Z,Z,Z,Z,Z,Z,Z],sto⟩:=by
 intro rest
 induction rest with
 | nil =>
  intro pre i hq hi h1 h2
  have ht:i.toNat=pre.length:=by omega
  unfold zlh
  simp (maxSteps:=9999999) (disch:=omega) only [vx,px,ty,↓reduceIte,seval,fx,go_lpc]
 | cons x rest ih =>
  intro pre i hq hi h1 h2
  have ht:i.toNat=pre.length:=by omega
  have ziJ:=hq x (List.mem_cons_self ..)
  rw [zae] at h2
  rw [List.length_cons] at h1
  unfold zlh
  simp (maxSteps:=9999999) (disch:=omega) only [vx,px,ty,↓reduceIte,seval,fx,vxd,Nat.reduceBNe,go_lpc,ht,List.map_cons,ifT,ziJ]
  have h:=ih (pre++[x]) (i + 1) (fun y hy=>hq y (List.mem_cons_of_mem _ hy)) (by simp;omega) (by simp;omega) (by omega)
  simp only [zaB] at h
  exact h
theorem zje (xs:List TCursor) (hq:∀ y ∈ xs,ziI y) (sto:List (List D)) (h:xs.length≤34359738368) (h2:lsum TCursor.n xs≤34359738368):zaa T 139 [.sl false 4 (xs.map (TCursor.e false)),.sl false 4 (xs.map (TCursor.e false))] sto=some (.bool true,[],sto):=by
 rw [zad T (g:=v139) rfl rfl rfl _ _ rfl]
 simp (maxSteps:=9999999) (disch:=omega) only [vx,px,ty,↓reduceIte,seval,fx,v139,zvV,go_lpc]
 have hl:=fun k=>znM (enF [.tmp 4] []) sto k xs [] 0 hq rfl (by simp;omega) h2
 simp only [List.map_nil,List.nil_append] at hl
 rw [hl]
 simp (maxSteps:=9999999) (disch:=omega) only [vx,px,ty,↓reduceIte,seval,fx]
theorem zjf:∀ x:TCursor,ziI x:=by
 refine TCursor.ind fun x ih=>?_
 intro sto h
 have zjX:=zje x.Kids ih
 simp only [TCursor.n_eq] at h
 rw [zad T (g:=v63) rfl rfl rfl _ _ rfl]
 simp (maxSteps:=9999999) (disch:=omega) only [vx,px,ty,↓reduceIte,seval,fx,v63,zzW,zjX,zkN]
theorem ziJ (x:TCursor) (sto:List (List D)) (h:TCursor.n x≤34359738368):zaa T 63 [D.agg [D.int .i64 x.Phase,D.int .i64 x.Count,D.sl false 4 (List.map (TValue.e false) x.Vals),D.sl false 4 (List.map (TCursor.e false) x.Kids)],D.agg [D.int .i64 x.Phase,D.int .i64 x.Count,D.sl false 4 (List.map (TValue.e false) x.Vals),D.sl false 4 (List.map (TCursor.e false) x.Kids)]] sto=some (.bool true,[],sto):=zjf x sto h
theorem zjX (xs:List TCursor) (sto:List (List D)) (h:xs.length≤34359738368) (h2:lsum TCursor.n xs≤34359738368):zaa T 139 [.sl false 4 (xs.map (TCursor.e false)),.sl false 4 (xs.map (TCursor.e false))] sto=some (.bool true,[],sto):=zje xs (fun y _=>zjf y) sto h h2
theorem zps (x:TCoexpr) (sto:List (List D)) (h:TCoexpr.n x≤34359738368):zaa T 21 [D.agg [D.int .i64 x.Id,D.int .i64 x.Body.Kind,D.int .i64 x.Body.Num,D.str x.Body.Text,D.int .i64 x.Body.Value.Kind,D.int .i64 x.Body.Value.Num,D.str x.Body.Value.Text,D.int .i64 x.Body.Value.Ref,D.sl false 8 (List.map (TGen.e false) x.Body.Kids),D.sl false 5 (List.map (TBinding.e false) x.Start),D.sl false 5 (List.map (TBinding.e false) x.Vars),D.int .i64 x.Cursor.Phase,D.int .i64 x.Cursor.Count,D.sl false 4 (List.map (TValue.e false) x.Cursor.Vals),D.sl false 4 (List.map (TCursor.e false) x.Cursor.Kids),D.int .i64 x.Count,D.bool x.Done],D.agg [D.int .i64 x.Id,D.int .i64 x.Body.Kind,D.int .i64 x.Body.Num,D.str x.Body.Text,D.int .i64 x.Body.Value.Kind,D.int .i64 x.Body.Value.Num,D.str x.Body.Value.Text,D.int .i64 x.Body.Value.Ref,D.sl false 8 (List.map (TGen.e false) x.Body.Kids),D.sl false 5 (List.map (TBinding.e false) x.Start),D.sl false 5 (List.map (TBinding.e false) x.Vars),D.int .i64 x.Cursor.Phase,D.int .i64 x.Cursor.Count,D.sl false 4 (List.map (TValue.e false) x.Cursor.Vals),D.sl false 4 (List.map (TCursor.e false) x.Cursor.Kids),D.int .i64 x.Count,D.bool x.Done]] sto=some (.bool true,[],sto):=by
 simp only [TCoexpr.n] at h
 rw [zad T (g:=v21) rfl rfl rfl _ _ rfl]
 simp (maxSteps:=9999999) (disch:=omega) only [vx,px,ty,↓reduceIte,seval,fx,v21,zzz,zjd,ziJ,znL,beq_self_eq_true,Bool.not_true]
theorem znN {R:Type} (e:En R) (sto:List (List D)) (k:List Fr):∀ (rest pre:List TCoexpr) (i:Int),i=pre.length→pre.length + rest.length≤34359738368→lsum TCoexpr.n rest≤34359738368 →
  go T e zox (.lp zuW::.bl 0::.sq (.clr [4,5,6,7,8,9,10,11,12,13,14,15,16,17,18,19,20,21,22,23,24,25,26])::k) ⟨[.d (.sl false 17 (pre.map (TCoexpr.e false)++rest.map (TCoexpr.e false))),.d (.sl false 17 (pre.map (TCoexpr.e false)++rest.map (TCoexpr.e false))),Z,Z,Z,.d (.int .i64 i),Z,Z,Z,Z,Z,Z,Z,Z,Z,Z,Z,Z,Z,Z,Z,Z,Z,Z,Z,Z,Z],sto⟩=bk T e k ⟨[.d (.sl false 17 (pre.map (TCoexpr.e false)++rest.map (TCoexpr.e false))),.d (.sl false 17 (pre.map (TCoexpr.e false)++rest.map (TCoexpr.e false))),Z,Z,Z,Z,Z,Z,Z,Z,Z,Z,Z,Z,Z,Z,Z,Z,Z,Z,Z,Z,Z,Z,Z,Z,Z],sto⟩:=by
 intro rest
 induction rest with
 | nil =>
  intro pre i hi h1 h2
  have ht:i.toNat=pre.length:=by omega
  unfold zox
  simp (maxSteps:=9999999) (disch:=omega) only [vx,px,ty,↓reduceIte,seval,fx,go_lpc]
 | cons x rest ih =>
  intro pre i hi h1 h2
  have ht:i.toNat=pre.length:=by omega
  rw [zae] at h2
  rw [List.length_cons] at h1
  unfold zox
  simp (maxSteps:=9999999) (disch:=omega) only [vx,px,ty,↓reduceIte,seval,fx,vxd,Nat.reduceBNe,go_lpc,ht,List.map_cons,ifT,zps]
  have h:=ih (pre++[x]) (i + 1) (by simp;omega) (by simp;omega) (by omega)
  simp only [zaB] at h
  exact h
theorem znO (xs:List TCoexpr) (sto:List (List D)) (h:xs.length≤34359738368) (h2:lsum TCoexpr.n xs≤34359738368):zaa T 64 [.sl false 17 (xs.map (TCoexpr.e false)),.sl false 17 (xs.map (TCoexpr.e false))] sto=some (.bool true,[],sto):=by
 rw [zad T (g:=v64) rfl rfl rfl _ _ rfl]
 simp (maxSteps:=9999999) (disch:=omega) only [vx,px,ty,↓reduceIte,seval,fx,v64,zzX,go_lpc]
 have hl:=fun k=>znN (enF [.tmp 4] []) sto k xs [] 0 rfl (by simp;omega) h2
 simp only [List.map_nil,List.nil_append] at hl
 rw [hl]
 simp (maxSteps:=9999999) (disch:=omega) only [vx,px,ty,↓reduceIte,seval,fx]
theorem zjg (x:TGenScope) (sto:List (List D)) (h:TGenScope.n x≤34359738368):zaa T 22 [D.agg [D.sl false 5 (List.map (TBinding.e false) x.Vars),D.int .i64 x.Heap.Next,D.sl false 10 (List.map (TObject.e false) x.Heap.Objects),D.sl false 17 (List.map (TCoexpr.e false) x.Cos),D.int .i64 x.Steps],D.agg [D.sl false 5 (List.map (TBinding.e false) x.Vars),D.int .i64 x.Heap.Next,D.sl false 10 (List.map (TObject.e false) x.Heap.Objects),D.sl false 17 (List.map (TCoexpr.e false) x.Cos),D.int .i64 x.Steps]] sto=some (.bool true,[],sto):=by
 simp only [TGenScope.n] at h
 rw [zad T (g:=v22) rfl rfl rfl _ _ rfl]
 simp (maxSteps:=9999999) (disch:=omega) only [vx,px,ty,↓reduceIte,seval,fx,v22,zzA,zjd,znO,ztV]
end Go.Vx.RfZ
