/-
  The laws' own functions: eq.
-/
import Derived.Test.YtnaaflejkfaiaaaGreatTypes
import Derived.Test.YtnaaflejkfaiaaaGreatCode
set_option linter.unusedVariables false
set_option linter.unusedSimpArgs false
namespace Go.Vx.RmZ
set_option maxRecDepth 4000
set_option maxHeartbeats 4000000
theorem ziu (x:TValue) (sto:List (List D)) (h:TValue.n x<=34359738368):zaa T 79 [D.agg [D.int .i64 x.Kind,D.int .i64 x.Num,D.str x.Text,D.int .i64 x.Ref],D.agg [D.int .i64 x.Kind,D.int .i64 x.Num,D.str x.Text,D.int .i64 x.Ref]] sto=some (.bool true,[],sto):=by
 simp only [TValue.n] at h
 rw [zaf T (g:=v79) rfl rfl rfl _ _ rfl]
 simp (maxSteps:=9999999) (disch:=omega) only [vx,px,ty,↓reduceIte,seval,fx,v79,zAT]
theorem zpT {R:Type} (e:En R) (sto:List (List D)) (k:List Fr):∀ (rest pre:List TValue) (i:Int),i=pre.length->pre.length + rest.length<=34359738368->lsum TValue.n rest<=34359738368 ->
  go T e zlB (.lp zrQ::.bl 0::.sq (.clr [4,5,6,7,8,9,10,11,12,13,14,15,16,17,18,19,20,21,22,23,24,25,26])::k) ⟨[.d (.sl false 4 (pre.map (TValue.e false)++rest.map (TValue.e false))),.d (.sl false 4 (pre.map (TValue.e false)++rest.map (TValue.e false))),Z,Z,Z,.d (.int .i64 i),Z,Z,Z,Z,Z,Z,Z,Z,Z,Z,Z,Z,Z,Z,Z,Z,Z,Z,Z,Z,Z],sto⟩=bk T e k ⟨[.d (.sl false 4 (pre.map (TValue.e false)++rest.map (TValue.e false))),.d (.sl false 4 (pre.map (TValue.e false)++rest.map (TValue.e false))),Z,Z,Z,Z,Z,Z,Z,Z,Z,Z,Z,Z,Z,Z,Z,Z,Z,Z,Z,Z,Z,Z,Z,Z,Z],sto⟩:=by
 intro rest
 induction rest with
 | nil =>
  intro pre i hi h1 h2
  have ht:i.toNat=pre.length:=by omega
  unfold zlB
  simp (maxSteps:=9999999) (disch:=omega) only [vx,px,ty,↓reduceIte,seval,fx,go_lpc]
 | cons x rest ih =>
  intro pre i hi h1 h2
  have ht:i.toNat=pre.length:=by omega
  rw [zae] at h2
  rw [List.length_cons] at h1
  unfold zlB
  simp (maxSteps:=9999999) (disch:=omega) only [vx,px,ty,↓reduceIte,seval,fx,vxd,Nat.reduceBNe,go_lpc,ht,List.map_cons,ifT,ziu]
  have h:=ih (pre++[x]) (i + 1) (by simp;omega) (by simp;omega) (by omega)
  simp only [zaG] at h
  exact h
theorem zlb (xs:List TValue) (sto:List (List D)) (h:xs.length<=34359738368) (h2:lsum TValue.n xs<=34359738368):zaa T 138 [.sl false 4 (xs.map (TValue.e false)),.sl false 4 (xs.map (TValue.e false))] sto=some (.bool true,[],sto):=by
 rw [zaf T (g:=v138) rfl rfl rfl _ _ rfl]
 simp (maxSteps:=9999999) (disch:=omega) only [vx,px,ty,↓reduceIte,seval,fx,v138,zwH,go_lpc]
 have hl:=fun k=>zpT (enF [.tmp 4] []) sto k xs [] 0 rfl (by simp;omega) h2
 simp only [List.map_nil,List.nil_append] at hl
 rw [hl]
 simp (maxSteps:=9999999) (disch:=omega) only [vx,px,ty,↓reduceIte,seval,fx]
theorem zpU (x:TObject) (sto:List (List D)) (h:TObject.n x<=34359738368):zaa T 190 [D.agg [D.int .i64 x.Id,D.int .i64 x.Kind,D.str x.Name,D.int .i64 x.Low,D.sl false 4 (List.map (TValue.e false) x.Keys),D.sl false 4 (List.map (TValue.e false) x.Vals),D.int .i64 x.Default.Kind,D.int .i64 x.Default.Num,D.str x.Default.Text,D.int .i64 x.Default.Ref],D.agg [D.int .i64 x.Id,D.int .i64 x.Kind,D.str x.Name,D.int .i64 x.Low,D.sl false 4 (List.map (TValue.e false) x.Keys),D.sl false 4 (List.map (TValue.e false) x.Vals),D.int .i64 x.Default.Kind,D.int .i64 x.Default.Num,D.str x.Default.Text,D.int .i64 x.Default.Ref]] sto=some (.bool true,[],sto):=by
 simp only [TObject.n] at h
 rw [zaf T (g:=v190) rfl rfl rfl _ _ rfl]
 simp (maxSteps:=9999999) (disch:=omega) only [vx,px,ty,↓reduceIte,seval,fx,v190,zxn,ziu,zlb]
theorem zoc {R:Type} (e:En R) (sto:List (List D)) (k:List Fr):∀ (rest pre:List TObject) (i:Int),i=pre.length->pre.length + rest.length<=34359738368->lsum TObject.n rest<=34359738368 ->
  go T e zlw (.lp zrl::.bl 0::.sq (.clr [4,5,6,7,8,9,10,11,12,13,14,15,16,17,18,19,20,21,22,23,24,25,26])::k) ⟨[.d (.sl false 10 (pre.map (TObject.e false)++rest.map (TObject.e false))),.d (.sl false 10 (pre.map (TObject.e false)++rest.map (TObject.e false))),Z,Z,Z,.d (.int .i64 i),Z,Z,Z,Z,Z,Z,Z,Z,Z,Z,Z,Z,Z,Z,Z,Z,Z,Z,Z,Z,Z],sto⟩=bk T e k ⟨[.d (.sl false 10 (pre.map (TObject.e false)++rest.map (TObject.e false))),.d (.sl false 10 (pre.map (TObject.e false)++rest.map (TObject.e false))),Z,Z,Z,Z,Z,Z,Z,Z,Z,Z,Z,Z,Z,Z,Z,Z,Z,Z,Z,Z,Z,Z,Z,Z,Z],sto⟩:=by
 intro rest
 induction rest with
 | nil =>
  intro pre i hi h1 h2
  have ht:i.toNat=pre.length:=by omega
  unfold zlw
  simp (maxSteps:=9999999) (disch:=omega) only [vx,px,ty,↓reduceIte,seval,fx,go_lpc]
 | cons x rest ih =>
  intro pre i hi h1 h2
  have ht:i.toNat=pre.length:=by omega
  rw [zae] at h2
  rw [List.length_cons] at h1
  unfold zlw
  simp (maxSteps:=9999999) (disch:=omega) only [vx,px,ty,↓reduceIte,seval,fx,vxd,Nat.reduceBNe,go_lpc,ht,List.map_cons,ifT,zpU]
  have h:=ih (pre++[x]) (i + 1) (by simp;omega) (by simp;omega) (by omega)
  simp only [zaG] at h
  exact h
theorem zod (xs:List TObject) (sto:List (List D)) (h:xs.length<=34359738368) (h2:lsum TObject.n xs<=34359738368):zaa T 102 [.sl false 10 (xs.map (TObject.e false)),.sl false 10 (xs.map (TObject.e false))] sto=some (.bool true,[],sto):=by
 rw [zaf T (g:=v102) rfl rfl rfl _ _ rfl]
 simp (maxSteps:=9999999) (disch:=omega) only [vx,px,ty,↓reduceIte,seval,fx,v102,zwi,go_lpc]
 have hl:=fun k=>zoc (enF [.tmp 4] []) sto k xs [] 0 rfl (by simp;omega) h2
 simp only [List.map_nil,List.nil_append] at hl
 rw [hl]
 simp (maxSteps:=9999999) (disch:=omega) only [vx,px,ty,↓reduceIte,seval,fx]
theorem zuL (x:THeap) (sto:List (List D)) (h:THeap.n x<=34359738368):zaa T 40 [D.agg [D.int .i64 x.Next,D.sl false 10 (List.map (TObject.e false) x.Objects)],D.agg [D.int .i64 x.Next,D.sl false 10 (List.map (TObject.e false) x.Objects)]] sto=some (.bool true,[],sto):=by
 simp only [THeap.n] at h
 rw [zaf T (g:=v40) rfl rfl rfl _ _ rfl]
 simp (maxSteps:=9999999) (disch:=omega) only [vx,px,ty,↓reduceIte,seval,fx,v40,zAv,zod]
theorem zoe (x:TBinding) (sto:List (List D)) (h:TBinding.n x<=34359738368):zaa T 137 [D.agg [D.str x.Name,D.int .i64 x.Value.Kind,D.int .i64 x.Value.Num,D.str x.Value.Text,D.int .i64 x.Value.Ref],D.agg [D.str x.Name,D.int .i64 x.Value.Kind,D.int .i64 x.Value.Num,D.str x.Value.Text,D.int .i64 x.Value.Ref]] sto=some (.bool true,[],sto):=by
 simp only [TBinding.n] at h
 rw [zaf T (g:=v137) rfl rfl rfl _ _ rfl]
 simp (maxSteps:=9999999) (disch:=omega) only [vx,px,ty,↓reduceIte,seval,fx,v137,zwG,ziu]
theorem zmR {R:Type} (e:En R) (sto:List (List D)) (k:List Fr):∀ (rest pre:List TBinding) (i:Int),i=pre.length->pre.length + rest.length<=34359738368->lsum TBinding.n rest<=34359738368 ->
  go T e zoU (.lp zvM::.bl 0::.sq (.clr [4,5,6,7,8,9,10,11,12,13,14,15,16,17,18,19,20,21,22,23,24,25,26])::k) ⟨[.d (.sl false 5 (pre.map (TBinding.e false)++rest.map (TBinding.e false))),.d (.sl false 5 (pre.map (TBinding.e false)++rest.map (TBinding.e false))),Z,Z,Z,.d (.int .i64 i),Z,Z,Z,Z,Z,Z,Z,Z,Z,Z,Z,Z,Z,Z,Z,Z,Z,Z,Z,Z,Z],sto⟩=bk T e k ⟨[.d (.sl false 5 (pre.map (TBinding.e false)++rest.map (TBinding.e false))),.d (.sl false 5 (pre.map (TBinding.e false)++rest.map (TBinding.e false))),Z,Z,Z,Z,Z,Z,Z,Z,Z,Z,Z,Z,Z,Z,Z,Z,Z,Z,Z,Z,Z,Z,Z,Z,Z],sto⟩:=by
 intro rest
 induction rest with
 | nil =>
  intro pre i hi h1 h2
  have ht:i.toNat=pre.length:=by omega
  unfold zoU
  simp (maxSteps:=9999999) (disch:=omega) only [vx,px,ty,↓reduceIte,seval,fx,go_lpc]
 | cons x rest ih =>
  intro pre i hi h1 h2
  have ht:i.toNat=pre.length:=by omega
  rw [zae] at h2
  rw [List.length_cons] at h1
  unfold zoU
  simp (maxSteps:=9999999) (disch:=omega) only [vx,px,ty,↓reduceIte,seval,fx,vxd,Nat.reduceBNe,go_lpc,ht,List.map_cons,ifT,zoe]
  have h:=ih (pre++[x]) (i + 1) (by simp;omega) (by simp;omega) (by omega)
  simp only [zaG] at h
  exact h
theorem zjo (xs:List TBinding) (sto:List (List D)) (h:xs.length<=34359738368) (h2:lsum TBinding.n xs<=34359738368):zaa T 62 [.sl false 5 (xs.map (TBinding.e false)),.sl false 5 (xs.map (TBinding.e false))] sto=some (.bool true,[],sto):=by
 rw [zaf T (g:=v62) rfl rfl rfl _ _ rfl]
 simp (maxSteps:=9999999) (disch:=omega) only [vx,px,ty,↓reduceIte,seval,fx,v62,zAJ,go_lpc]
 have hl:=fun k=>zmR (enF [.tmp 4] []) sto k xs [] 0 rfl (by simp;omega) h2
 simp only [List.map_nil,List.nil_append] at hl
 rw [hl]
 simp (maxSteps:=9999999) (disch:=omega) only [vx,px,ty,↓reduceIte,seval,fx]
abbrev zof (x:TGen):Prop:=∀ (sto:List (List D)) (h:TGen.n x<=34359738368),zaa T 30 [D.agg [D.int .i64 x.Kind,D.int .i64 x.Num,D.str x.Text,D.int .i64 x.Value.Kind,D.int .i64 x.Value.Num,D.str x.Value.Text,D.int .i64 x.Value.Ref,D.sl false 8 (List.map (TGen.e false) x.Kids)],D.agg [D.int .i64 x.Kind,D.int .i64 x.Num,D.str x.Text,D.int .i64 x.Value.Kind,D.int .i64 x.Value.Num,D.str x.Value.Text,D.int .i64 x.Value.Ref,D.sl false 8 (List.map (TGen.e false) x.Kids)]] sto=some (.bool true,[],sto)
theorem zuM {R:Type} (e:En R) (sto:List (List D)) (k:List Fr):∀ (rest pre:List TGen) (i:Int),(∀ y ∈ rest,zof y)->i=pre.length->pre.length + rest.length<=34359738368->lsum TGen.n rest<=34359738368 ->
  go T e zpb (.lp zvT::.bl 0::.sq (.clr [4,5,6,7,8,9,10,11,12,13,14,15,16,17,18,19,20,21,22,23,24,25,26])::k) ⟨[.d (.sl false 8 (pre.map (TGen.e false)++rest.map (TGen.e false))),.d (.sl false 8 (pre.map (TGen.e false)++rest.map (TGen.e false))),Z,Z,Z,.d (.int .i64 i),Z,Z,Z,Z,Z,Z,Z,Z,Z,Z,Z,Z,Z,Z,Z,Z,Z,Z,Z,Z,Z],sto⟩=bk T e k ⟨[.d (.sl false 8 (pre.map (TGen.e false)++rest.map (TGen.e false))),.d (.sl false 8 (pre.map (TGen.e false)++rest.map (TGen.e false))),Z,Z,Z,Z,Z,Z,Z,Z,Z,Z,Z,Z,Z,Z,Z,Z,Z,Z,Z,Z,Z,Z,Z,Z,Z],sto⟩:=by
 intro rest
 induction rest with
 | nil =>
  intro pre i hq hi h1 h2
  have ht:i.toNat=pre.length:=by omega
  unfold zpb
  simp (maxSteps:=9999999) (disch:=omega) only [vx,px,ty,↓reduceIte,seval,fx,go_lpc]
 | cons x rest ih =>
  intro pre i hq hi h1 h2
  have ht:i.toNat=pre.length:=by omega
  have zog:=hq x (List.mem_cons_self ..)
  rw [zae] at h2
  rw [List.length_cons] at h1
  unfold zpb
  simp (maxSteps:=9999999) (disch:=omega) only [vx,px,ty,↓reduceIte,seval,fx,vxd,Nat.reduceBNe,go_lpc,ht,List.map_cons,ifT,zog]
  have h:=ih (pre++[x]) (i + 1) (fun y hy=>hq y (List.mem_cons_of_mem _ hy)) (by simp;omega) (by simp;omega) (by omega)
  simp only [zaG] at h
  exact h
theorem zmS (xs:List TGen) (hq:∀ y ∈ xs,zof y) (sto:List (List D)) (h:xs.length<=34359738368) (h2:lsum TGen.n xs<=34359738368):zaa T 80 [.sl false 8 (xs.map (TGen.e false)),.sl false 8 (xs.map (TGen.e false))] sto=some (.bool true,[],sto):=by
 rw [zaf T (g:=v80) rfl rfl rfl _ _ rfl]
 simp (maxSteps:=9999999) (disch:=omega) only [vx,px,ty,↓reduceIte,seval,fx,v80,zAU,go_lpc]
 have hl:=fun k=>zuM (enF [.tmp 4] []) sto k xs [] 0 hq rfl (by simp;omega) h2
 simp only [List.map_nil,List.nil_append] at hl
 rw [hl]
 simp (maxSteps:=9999999) (disch:=omega) only [vx,px,ty,↓reduceIte,seval,fx]
theorem zmT:∀ x:TGen,zof x:=by
 refine TGen.ind fun x ih=>?_
 intro sto h
 have zpi:=zmS x.Kids ih
 simp only [TGen.n_eq] at h
 rw [zaf T (g:=v30) rfl rfl rfl _ _ rfl]
 simp (maxSteps:=9999999) (disch:=omega) only [vx,px,ty,↓reduceIte,seval,fx,v30,zAr,zpi,ziu]
theorem zog (x:TGen) (sto:List (List D)) (h:TGen.n x<=34359738368):zaa T 30 [D.agg [D.int .i64 x.Kind,D.int .i64 x.Num,D.str x.Text,D.int .i64 x.Value.Kind,D.int .i64 x.Value.Num,D.str x.Value.Text,D.int .i64 x.Value.Ref,D.sl false 8 (List.map (TGen.e false) x.Kids)],D.agg [D.int .i64 x.Kind,D.int .i64 x.Num,D.str x.Text,D.int .i64 x.Value.Kind,D.int .i64 x.Value.Num,D.str x.Value.Text,D.int .i64 x.Value.Ref,D.sl false 8 (List.map (TGen.e false) x.Kids)]] sto=some (.bool true,[],sto):=zmT x sto h
theorem zpi (xs:List TGen) (sto:List (List D)) (h:xs.length<=34359738368) (h2:lsum TGen.n xs<=34359738368):zaa T 80 [.sl false 8 (xs.map (TGen.e false)),.sl false 8 (xs.map (TGen.e false))] sto=some (.bool true,[],sto):=zmS xs (fun y _=>zmT y) sto h h2
abbrev ziS (x:TCursor):Prop:=∀ (sto:List (List D)) (h:TCursor.n x<=34359738368),zaa T 63 [D.agg [D.int .i64 x.Phase,D.int .i64 x.Count,D.sl false 4 (List.map (TValue.e false) x.Vals),D.sl false 4 (List.map (TCursor.e false) x.Kids)],D.agg [D.int .i64 x.Phase,D.int .i64 x.Count,D.sl false 4 (List.map (TValue.e false) x.Vals),D.sl false 4 (List.map (TCursor.e false) x.Kids)]] sto=some (.bool true,[],sto)
theorem zoh {R:Type} (e:En R) (sto:List (List D)) (k:List Fr):∀ (rest pre:List TCursor) (i:Int),(∀ y ∈ rest,ziS y)->i=pre.length->pre.length + rest.length<=34359738368->lsum TCursor.n rest<=34359738368 ->
  go T e zlC (.lp zrR::.bl 0::.sq (.clr [4,5,6,7,8,9,10,11,12,13,14,15,16,17,18,19,20,21,22,23,24,25,26])::k) ⟨[.d (.sl false 4 (pre.map (TCursor.e false)++rest.map (TCursor.e false))),.d (.sl false 4 (pre.map (TCursor.e false)++rest.map (TCursor.e false))),Z,Z,Z,.d (.int .i64 i),Z,Z,Z,Z,Z,Z,Z,Z,Z,Z,Z,Z,Z,Z,Z,Z,Z,Z,Z,Z,Z],sto⟩=bk T e k ⟨[.d (.sl false 4 (pre.map (TCursor.e false)++rest.map (TCursor.e false))),.d (.sl false 4 (pre.map (TCursor.e false)++rest.map (TCursor.e false))),Z,Z,Z,Z,Z,Z,Z,Z,Z,Z,Z,Z,Z,Z,Z,Z,Z,Z,Z,Z,Z,Z,Z,Z,Z],sto⟩:=by
 intro rest
 induction rest with
 | nil =>
  intro pre i hq hi h1 h2
  have ht:i.toNat=pre.length:=by omega
  unfold zlC
  simp (maxSteps:=9999999) (disch:=omega) only [vx,px,ty,↓reduceIte,seval,fx,go_lpc]
 | cons x rest ih =>
  intro pre i hq hi h1 h2
  have ht:i.toNat=pre.length:=by omega
  have ziT:=hq x (List.mem_cons_self ..)
  rw [zae] at h2
  rw [List.length_cons] at h1
  unfold zlC
  simp (maxSteps:=9999999) (disch:=omega) only [vx,px,ty,↓reduceIte,seval,fx,vxd,Nat.reduceBNe,go_lpc,ht,List.map_cons,ifT,ziT]
  have h:=ih (pre++[x]) (i + 1) (fun y hy=>hq y (List.mem_cons_of_mem _ hy)) (by simp;omega) (by simp;omega) (by omega)
  simp only [zaG] at h
  exact h
theorem zjp (xs:List TCursor) (hq:∀ y ∈ xs,ziS y) (sto:List (List D)) (h:xs.length<=34359738368) (h2:lsum TCursor.n xs<=34359738368):zaa T 139 [.sl false 4 (xs.map (TCursor.e false)),.sl false 4 (xs.map (TCursor.e false))] sto=some (.bool true,[],sto):=by
 rw [zaf T (g:=v139) rfl rfl rfl _ _ rfl]
 simp (maxSteps:=9999999) (disch:=omega) only [vx,px,ty,↓reduceIte,seval,fx,v139,zwI,go_lpc]
 have hl:=fun k=>zoh (enF [.tmp 4] []) sto k xs [] 0 hq rfl (by simp;omega) h2
 simp only [List.map_nil,List.nil_append] at hl
 rw [hl]
 simp (maxSteps:=9999999) (disch:=omega) only [vx,px,ty,↓reduceIte,seval,fx]
theorem zjq:∀ x:TCursor,ziS x:=by
 refine TCursor.ind fun x ih=>?_
 intro sto h
 have zkj:=zjp x.Kids ih
 simp only [TCursor.n_eq] at h
 rw [zaf T (g:=v63) rfl rfl rfl _ _ rfl]
 simp (maxSteps:=9999999) (disch:=omega) only [vx,px,ty,↓reduceIte,seval,fx,v63,zAK,zkj,zlb]
theorem ziT (x:TCursor) (sto:List (List D)) (h:TCursor.n x<=34359738368):zaa T 63 [D.agg [D.int .i64 x.Phase,D.int .i64 x.Count,D.sl false 4 (List.map (TValue.e false) x.Vals),D.sl false 4 (List.map (TCursor.e false) x.Kids)],D.agg [D.int .i64 x.Phase,D.int .i64 x.Count,D.sl false 4 (List.map (TValue.e false) x.Vals),D.sl false 4 (List.map (TCursor.e false) x.Kids)]] sto=some (.bool true,[],sto):=zjq x sto h
theorem zkj (xs:List TCursor) (sto:List (List D)) (h:xs.length<=34359738368) (h2:lsum TCursor.n xs<=34359738368):zaa T 139 [.sl false 4 (xs.map (TCursor.e false)),.sl false 4 (xs.map (TCursor.e false))] sto=some (.bool true,[],sto):=zjp xs (fun y _=>zjq y) sto h h2
theorem zpV (x:TCoexpr) (sto:List (List D)) (h:TCoexpr.n x<=34359738368):zaa T 21 [D.agg [D.int .i64 x.Id,D.int .i64 x.Body.Kind,D.int .i64 x.Body.Num,D.str x.Body.Text,D.int .i64 x.Body.Value.Kind,D.int .i64 x.Body.Value.Num,D.str x.Body.Value.Text,D.int .i64 x.Body.Value.Ref,D.sl false 8 (List.map (TGen.e false) x.Body.Kids),D.sl false 5 (List.map (TBinding.e false) x.Start),D.sl false 5 (List.map (TBinding.e false) x.Vars),D.int .i64 x.Cursor.Phase,D.int .i64 x.Cursor.Count,D.sl false 4 (List.map (TValue.e false) x.Cursor.Vals),D.sl false 4 (List.map (TCursor.e false) x.Cursor.Kids),D.int .i64 x.Count,D.bool x.Done],D.agg [D.int .i64 x.Id,D.int .i64 x.Body.Kind,D.int .i64 x.Body.Num,D.str x.Body.Text,D.int .i64 x.Body.Value.Kind,D.int .i64 x.Body.Value.Num,D.str x.Body.Value.Text,D.int .i64 x.Body.Value.Ref,D.sl false 8 (List.map (TGen.e false) x.Body.Kids),D.sl false 5 (List.map (TBinding.e false) x.Start),D.sl false 5 (List.map (TBinding.e false) x.Vars),D.int .i64 x.Cursor.Phase,D.int .i64 x.Cursor.Count,D.sl false 4 (List.map (TValue.e false) x.Cursor.Vals),D.sl false 4 (List.map (TCursor.e false) x.Cursor.Kids),D.int .i64 x.Count,D.bool x.Done]] sto=some (.bool true,[],sto):=by
 simp only [TCoexpr.n] at h
 rw [zaf T (g:=v21) rfl rfl rfl _ _ rfl]
 simp (maxSteps:=9999999) (disch:=omega) only [vx,px,ty,↓reduceIte,seval,fx,v21,zAn,zjo,ziT,zog,beq_self_eq_true,Bool.not_true]
theorem zoi {R:Type} (e:En R) (sto:List (List D)) (k:List Fr):∀ (rest pre:List TCoexpr) (i:Int),i=pre.length->pre.length + rest.length<=34359738368->lsum TCoexpr.n rest<=34359738368 ->
  go T e zoV (.lp zvN::.bl 0::.sq (.clr [4,5,6,7,8,9,10,11,12,13,14,15,16,17,18,19,20,21,22,23,24,25,26])::k) ⟨[.d (.sl false 17 (pre.map (TCoexpr.e false)++rest.map (TCoexpr.e false))),.d (.sl false 17 (pre.map (TCoexpr.e false)++rest.map (TCoexpr.e false))),Z,Z,Z,.d (.int .i64 i),Z,Z,Z,Z,Z,Z,Z,Z,Z,Z,Z,Z,Z,Z,Z,Z,Z,Z,Z,Z,Z],sto⟩=bk T e k ⟨[.d (.sl false 17 (pre.map (TCoexpr.e false)++rest.map (TCoexpr.e false))),.d (.sl false 17 (pre.map (TCoexpr.e false)++rest.map (TCoexpr.e false))),Z,Z,Z,Z,Z,Z,Z,Z,Z,Z,Z,Z,Z,Z,Z,Z,Z,Z,Z,Z,Z,Z,Z,Z,Z],sto⟩:=by
 intro rest
 induction rest with
 | nil =>
  intro pre i hi h1 h2
  have ht:i.toNat=pre.length:=by omega
  unfold zoV
  simp (maxSteps:=9999999) (disch:=omega) only [vx,px,ty,↓reduceIte,seval,fx,go_lpc]
 | cons x rest ih =>
  intro pre i hi h1 h2
  have ht:i.toNat=pre.length:=by omega
  rw [zae] at h2
  rw [List.length_cons] at h1
  unfold zoV
  simp (maxSteps:=9999999) (disch:=omega) only [vx,px,ty,↓reduceIte,seval,fx,vxd,Nat.reduceBNe,go_lpc,ht,List.map_cons,ifT,zpV]
  have h:=ih (pre++[x]) (i + 1) (by simp;omega) (by simp;omega) (by omega)
  simp only [zaG] at h
  exact h
theorem zoj (xs:List TCoexpr) (sto:List (List D)) (h:xs.length<=34359738368) (h2:lsum TCoexpr.n xs<=34359738368):zaa T 64 [.sl false 17 (xs.map (TCoexpr.e false)),.sl false 17 (xs.map (TCoexpr.e false))] sto=some (.bool true,[],sto):=by
 rw [zaf T (g:=v64) rfl rfl rfl _ _ rfl]
 simp (maxSteps:=9999999) (disch:=omega) only [vx,px,ty,↓reduceIte,seval,fx,v64,zAL,go_lpc]
 have hl:=fun k=>zoi (enF [.tmp 4] []) sto k xs [] 0 rfl (by simp;omega) h2
 simp only [List.map_nil,List.nil_append] at hl
 rw [hl]
 simp (maxSteps:=9999999) (disch:=omega) only [vx,px,ty,↓reduceIte,seval,fx]
theorem zfR (x:TGenScope) (sto:List (List D)) (h:TGenScope.n x<=34359738368):zaa T 22 [D.agg [D.sl false 5 (List.map (TBinding.e false) x.Vars),D.int .i64 x.Heap.Next,D.sl false 10 (List.map (TObject.e false) x.Heap.Objects),D.sl false 17 (List.map (TCoexpr.e false) x.Cos),D.int .i64 x.Steps],D.agg [D.sl false 5 (List.map (TBinding.e false) x.Vars),D.int .i64 x.Heap.Next,D.sl false 10 (List.map (TObject.e false) x.Heap.Objects),D.sl false 17 (List.map (TCoexpr.e false) x.Cos),D.int .i64 x.Steps]] sto=some (.bool true,[],sto):=by
 simp only [TGenScope.n] at h
 rw [zaf T (g:=v22) rfl rfl rfl _ _ rfl]
 simp (maxSteps:=9999999) (disch:=omega) only [vx,px,ty,↓reduceIte,seval,fx,v22,zAo,zjo,zoj,zuL]
end Go.Vx.RmZ

