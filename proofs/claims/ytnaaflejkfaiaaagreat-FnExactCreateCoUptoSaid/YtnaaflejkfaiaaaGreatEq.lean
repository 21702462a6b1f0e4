/-
  The laws' own functions: eq.
-/
import Derived.Test.YtnaaflejkfaiaaaGreatTypes
import Derived.Test.YtnaaflejkfaiaaaGreatCode
set_option linter.unusedVariables false
set_option linter.unusedSimpArgs false
namespace Go.Vx.CrZ
set_option linter.unusedVariables false
set_option linter.unusedSimpArgs false
set_option maxRecDepth 4000
set_option maxHeartbeats 4000000
theorem zii (x:TValue) (sto:List (List D)) (h:TValue.n x≤34359738368):zaa T 79 [D.agg [D.int .i64 x.Kind,D.int .i64 x.Num,D.str x.Text,D.int .i64 x.Ref],D.agg [D.int .i64 x.Kind,D.int .i64 x.Num,D.str x.Text,D.int .i64 x.Ref]] sto=some (.bool true,[],sto):=by
 simp only [TValue.n] at h
 rw [zad T (g:=v79) rfl rfl rfl _ _ rfl]
 simp (maxSteps:=9999999) (disch:=omega) only [vx,px,ty,↓reduceIte,seval,fx,v79,zzS]
theorem zpj {R:Type} (e:En R) (sto:List (List D)) (k:List Fr):∀ (rest pre:List TValue) (i:Int),i=pre.length→pre.length + rest.length≤34359738368→lsum TValue.n rest≤34359738368 →
  go T e zld (.lp zqY::.bl 0::.sq (.clr [4,5,6,7,8,9,10,11,12,13,14,15,16,17,18,19,20,21,22,23,24,25,26])::k) ⟨[.d (.sl false 4 (pre.map (TValue.e false)++rest.map (TValue.e false))),.d (.sl false 4 (pre.map (TValue.e false)++rest.map (TValue.e false))),Z,Z,Z,.d (.int .i64 i),Z,Z,Z,Z,Z,Z,Z,Z,Z,Z,Z,Z,Z,Z,Z,Z,Z,Z,Z,Z,Z],sto⟩=bk T e k ⟨[.d (.sl false 4 (pre.map (TValue.e false)++rest.map (TValue.e false))),.d (.sl false 4 (pre.map (TValue.e false)++rest.map (TValue.e false))),Z,Z,Z,Z,Z,Z,Z,Z,Z,Z,Z,Z,Z,Z,Z,Z,Z,Z,Z,Z,Z,Z,Z,Z,Z],sto⟩:=by
 intro rest
 induction rest with
 | nil =>
  intro pre i hi h1 h2
  have ht:i.toNat=pre.length:=by omega
  unfold zld
  simp (maxSteps:=9999999) (disch:=omega) only [vx,px,ty,↓reduceIte,seval,fx,go_lpc]
 | cons x rest ih =>
  intro pre i hi h1 h2
  have ht:i.toNat=pre.length:=by omega
  rw [zae] at h2
  rw [List.length_cons] at h1
  unfold zld
  simp (maxSteps:=9999999) (disch:=omega) only [vx,px,ty,↓reduceIte,seval,fx,vxd,Nat.reduceBNe,go_lpc,ht,List.map_cons,ifT,zii]
  have h:=ih (pre++[x]) (i + 1) (by simp;omega) (by simp;omega) (by omega)
  simp only [zaB] at h
  exact h
theorem zkK (xs:List TValue) (sto:List (List D)) (h:xs.length≤34359738368) (h2:lsum TValue.n xs≤34359738368):zaa T 138 [.sl false 4 (xs.map (TValue.e false)),.sl false 4 (xs.map (TValue.e false))] sto=some (.bool true,[],sto):=by
 rw [zad T (g:=v138) rfl rfl rfl _ _ rfl]
 simp (maxSteps:=9999999) (disch:=omega) only [vx,px,ty,↓reduceIte,seval,fx,v138,zvH,go_lpc]
 have hl:=fun k=>zpj (enF [.tmp 4] []) sto k xs [] 0 rfl (by simp;omega) h2
 simp only [List.map_nil,List.nil_append] at hl
 rw [hl]
 simp (maxSteps:=9999999) (disch:=omega) only [vx,px,ty,↓reduceIte,seval,fx]
theorem zpk (x:TObject) (sto:List (List D)) (h:TObject.n x≤34359738368):zaa T 190 [D.agg [D.int .i64 x.Id,D.int .i64 x.Kind,D.str x.Name,D.int .i64 x.Low,D.sl false 4 (List.map (TValue.e false) x.Keys),D.sl false 4 (List.map (TValue.e false) x.Vals),D.int .i64 x.Default.Kind,D.int .i64 x.Default.Num,D.str x.Default.Text,D.int .i64 x.Default.Ref],D.agg [D.int .i64 x.Id,D.int .i64 x.Kind,D.str x.Name,D.int .i64 x.Low,D.sl false 4 (List.map (TValue.e false) x.Keys),D.sl false 4 (List.map (TValue.e false) x.Vals),D.int .i64 x.Default.Kind,D.int .i64 x.Default.Num,D.str x.Default.Text,D.int .i64 x.Default.Ref]] sto=some (.bool true,[],sto):=by
 simp only [TObject.n] at h
 rw [zad T (g:=v190) rfl rfl rfl _ _ rfl]
 simp (maxSteps:=9999999) (disch:=omega) only [vx,px,ty,↓reduceIte,seval,fx,v190,zwn,zii,zkK]
theorem znC {R:Type} (e:En R) (sto:List (List D)) (k:List Fr):∀ (rest pre:List TObject) (i:Int),i=pre.length→pre.length + rest.length≤34359738368→lsum TObject.n rest≤34359738368 →
  go T e zkY (.lp zqv::.bl 0::.sq (.clr [4,5,6,7,8,9,10,11,12,13,14,15,16,17,18,19,20,21,22,23,24,25,26])::k) ⟨[.d (.sl false 10 (pre.map (TObject.e false)++rest.map (TObject.e false))),.d (.sl false 10 (pre.map (TObject.e false)++rest.map (TObject.e false))),Z,Z,Z,.d (.int .i64 i),Z,Z,Z,Z,Z,Z,Z,Z,Z,Z,Z,Z,Z,Z,Z,Z,Z,Z,Z,Z,Z],sto⟩=bk T e k ⟨[.d (.sl false 10 (pre.map (TObject.e false)++rest.map (TObject.e false))),.d (.sl false 10 (pre.map (TObject.e false)++rest.map (TObject.e false))),Z,Z,Z,Z,Z,Z,Z,Z,Z,Z,Z,Z,Z,Z,Z,Z,Z,Z,Z,Z,Z,Z,Z,Z,Z],sto⟩:=by
 intro rest
 induction rest with
 | nil =>
  intro pre i hi h1 h2
  have ht:i.toNat=pre.length:=by omega
  unfold zkY
  simp (maxSteps:=9999999) (disch:=omega) only [vx,px,ty,↓reduceIte,seval,fx,go_lpc]
 | cons x rest ih =>
  intro pre i hi h1 h2
  have ht:i.toNat=pre.length:=by omega
  rw [zae] at h2
  rw [List.length_cons] at h1
  unfold zkY
  simp (maxSteps:=9999999) (disch:=omega) only [vx,px,ty,↓reduceIte,seval,fx,vxd,Nat.reduceBNe,go_lpc,ht,List.map_cons,ifT,zpk]
  have h:=ih (pre++[x]) (i + 1) (by simp;omega) (by simp;omega) (by omega)
  simp only [zaB] at h
  exact h
theorem znD (xs:List TObject) (sto:List (List D)) (h:xs.length≤34359738368) (h2:lsum TObject.n xs≤34359738368):zaa T 102 [.sl false 10 (xs.map (TObject.e false)),.sl false 10 (xs.map (TObject.e false))] sto=some (.bool true,[],sto):=by
 rw [zad T (g:=v102) rfl rfl rfl _ _ rfl]
 simp (maxSteps:=9999999) (disch:=omega) only [vx,px,ty,↓reduceIte,seval,fx,v102,zvk,go_lpc]
 have hl:=fun k=>znC (enF [.tmp 4] []) sto k xs [] 0 rfl (by simp;omega) h2
 simp only [List.map_nil,List.nil_append] at hl
 rw [hl]
 simp (maxSteps:=9999999) (disch:=omega) only [vx,px,ty,↓reduceIte,seval,fx]
theorem ztO (x:THeap) (sto:List (List D)) (h:THeap.n x≤34359738368):zaa T 40 [D.agg [D.int .i64 x.Next,D.sl false 10 (List.map (TObject.e false) x.Objects)],D.agg [D.int .i64 x.Next,D.sl false 10 (List.map (TObject.e false) x.Objects)]] sto=some (.bool true,[],sto):=by
 simp only [THeap.n] at h
 rw [zad T (g:=v40) rfl rfl rfl _ _ rfl]
 simp (maxSteps:=9999999) (disch:=omega) only [vx,px,ty,↓reduceIte,seval,fx,v40,zzs,znD]
theorem znE (x:TBinding) (sto:List (List D)) (h:TBinding.n x≤34359738368):zaa T 137 [D.agg [D.str x.Name,D.int .i64 x.Value.Kind,D.int .i64 x.Value.Num,D.str x.Value.Text,D.int .i64 x.Value.Ref],D.agg [D.str x.Name,D.int .i64 x.Value.Kind,D.int .i64 x.Value.Num,D.str x.Value.Text,D.int .i64 x.Value.Ref]] sto=some (.bool true,[],sto):=by
 simp only [TBinding.n] at h
 rw [zad T (g:=v137) rfl rfl rfl _ _ rfl]
 simp (maxSteps:=9999999) (disch:=omega) only [vx,px,ty,↓reduceIte,seval,fx,v137,zvG,zii]
theorem zmu {R:Type} (e:En R) (sto:List (List D)) (k:List Fr):∀ (rest pre:List TBinding) (i:Int),i=pre.length→pre.length + rest.length≤34359738368→lsum TBinding.n rest≤34359738368 →
  go T e zoq (.lp zuM::.bl 0::.sq (.clr [4,5,6,7,8,9,10,11,12,13,14,15,16,17,18,19,20,21,22,23,24,25,26])::k) ⟨[.d (.sl false 5 (pre.map (TBinding.e false)++rest.map (TBinding.e false))),.d (.sl false 5 (pre.map (TBinding.e false)++rest.map (TBinding.e false))),Z,Z,Z,.d (.int .i64 i),Z,Z,Z,Z,Z,Z,Z,Z,Z,Z,Z,Z,Z,Z,Z,Z,Z,Z,Z,Z,Z],sto⟩=bk T e k ⟨[.d (.sl false 5 (pre.map (TBinding.e false)++rest.map (TBinding.e false))),.d (.sl false 5 (pre.map (TBinding.e false)++rest.map (TBinding.e false))),Z,Z,Z,Z,Z,Z,Z,Z,Z,Z,Z,Z,Z,Z,Z,Z,Z,Z,Z,Z,Z,Z,Z,Z,Z],sto⟩:=by
 intro rest
 induction rest with
 | nil =>
  intro pre i hi h1 h2
  have ht:i.toNat=pre.length:=by omega
  unfold zoq
  simp (maxSteps:=9999999) (disch:=omega) only [vx,px,ty,↓reduceIte,seval,fx,go_lpc]
 | cons x rest ih =>
  intro pre i hi h1 h2
  have ht:i.toNat=pre.length:=by omega
  rw [zae] at h2
  rw [List.length_cons] at h1
  unfold zoq
  simp (maxSteps:=9999999) (disch:=omega) only [vx,px,ty,↓reduceIte,seval,fx,vxd,Nat.reduceBNe,go_lpc,ht,List.map_cons,ifT,znE]
  have h:=ih (pre++[x]) (i + 1) (by simp;omega) (by simp;omega) (by omega)
  simp only [zaB] at h
  exact h
theorem zja (xs:List TBinding) (sto:List (List D)) (h:xs.length≤34359738368) (h2:lsum TBinding.n xs≤34359738368):zaa T 62 [.sl false 5 (xs.map (TBinding.e false)),.sl false 5 (xs.map (TBinding.e false))] sto=some (.bool true,[],sto):=by
 rw [zad T (g:=v62) rfl rfl rfl _ _ rfl]
 simp (maxSteps:=9999999) (disch:=omega) only [vx,px,ty,↓reduceIte,seval,fx,v62,zzE,go_lpc]
 have hl:=fun k=>zmu (enF [.tmp 4] []) sto k xs [] 0 rfl (by simp;omega) h2
 simp only [List.map_nil,List.nil_append] at hl
 rw [hl]
 simp (maxSteps:=9999999) (disch:=omega) only [vx,px,ty,↓reduceIte,seval,fx]
abbrev znF (x:TGen):Prop:=∀ (sto:List (List D)) (h:TGen.n x≤34359738368),zaa T 30 [D.agg [D.int .i64 x.Kind,D.int .i64 x.Num,D.str x.Text,D.int .i64 x.Value.Kind,D.int .i64 x.Value.Num,D.str x.Value.Text,D.int .i64 x.Value.Ref,D.sl false 8 (List.map (TGen.e false) x.Kids)],D.agg [D.int .i64 x.Kind,D.int .i64 x.Num,D.str x.Text,D.int .i64 x.Value.Kind,D.int .i64 x.Value.Num,D.str x.Value.Text,D.int .i64 x.Value.Ref,D.sl false 8 (List.map (TGen.e false) x.Kids)]] sto=some (.bool true,[],sto)
theorem ztP {R:Type} (e:En R) (sto:List (List D)) (k:List Fr):∀ (rest pre:List TGen) (i:Int),(∀ y ∈ rest,znF y)→i=pre.length→pre.length + rest.length≤34359738368→lsum TGen.n rest≤34359738368 →
  go T e zox (.lp zuX::.bl 0::.sq (.clr [4,5,6,7,8,9,10,11,12,13,14,15,16,17,18,19,20,21,22,23,24,25,26])::k) ⟨[.d (.sl false 8 (pre.map (TGen.e false)++rest.map (TGen.e false))),.d (.sl false 8 (pre.map (TGen.e false)++rest.map (TGen.e false))),Z,Z,Z,.d (.int .i64 i),Z,Z,Z,Z,Z,Z,Z,Z,Z,Z,Z,Z,Z,Z,Z,Z,Z,Z,Z,Z,Z],sto⟩=bk T e k ⟨[.d (.sl false 8 (pre.map (TGen.e false)++rest.map (TGen.e false))),.d (.sl false 8 (pre.map (TGen.e false)++rest.map (TGen.e false))),Z,Z,Z,Z,Z,Z,Z,Z,Z,Z,Z,Z,Z,Z,Z,Z,Z,Z,Z,Z,Z,Z,Z,Z,Z],sto⟩:=by
 intro rest
 induction rest with
 | nil =>
  intro pre i hq hi h1 h2
  have ht:i.toNat=pre.length:=by omega
  unfold zox
  simp (maxSteps:=9999999) (disch:=omega) only [vx,px,ty,↓reduceIte,seval,fx,go_lpc]
 | cons x rest ih =>
  intro pre i hq hi h1 h2
  have ht:i.toNat=pre.length:=by omega
  have zls:=hq x (List.mem_cons_self ..)
  rw [zae] at h2
  rw [List.length_cons] at h1
  unfold zox
  simp (maxSteps:=9999999) (disch:=omega) only [vx,px,ty,↓reduceIte,seval,fx,vxd,Nat.reduceBNe,go_lpc,ht,List.map_cons,ifT,zls]
  have h:=ih (pre++[x]) (i + 1) (fun y hy=>hq y (List.mem_cons_of_mem _ hy)) (by simp;omega) (by simp;omega) (by omega)
  simp only [zaB] at h
  exact h
theorem zmv (xs:List TGen) (hq:∀ y ∈ xs,znF y) (sto:List (List D)) (h:xs.length≤34359738368) (h2:lsum TGen.n xs≤34359738368):zaa T 80 [.sl false 8 (xs.map (TGen.e false)),.sl false 8 (xs.map (TGen.e false))] sto=some (.bool true,[],sto):=by
 rw [zad T (g:=v80) rfl rfl rfl _ _ rfl]
 simp (maxSteps:=9999999) (disch:=omega) only [vx,px,ty,↓reduceIte,seval,fx,v80,zzT,go_lpc]
 have hl:=fun k=>ztP (enF [.tmp 4] []) sto k xs [] 0 hq rfl (by simp;omega) h2
 simp only [List.map_nil,List.nil_append] at hl
 rw [hl]
 simp (maxSteps:=9999999) (disch:=omega) only [vx,px,ty,↓reduceIte,seval,fx]
theorem zmw:∀ x:TGen,znF x:=by
 refine TGen.ind fun x ih=>?_
 intro sto h
 have zoE:=zmv x.Kids ih
 simp only [TGen.n_eq] at h
 rw [zad T (g:=v30) rfl rfl rfl _ _ rfl]
 simp (maxSteps:=9999999) (disch:=omega) only [vx,px,ty,↓reduceIte,seval,fx,v30,zzq,zoE,zii]
theorem zls (x:TGen) (sto:List (List D)) (h:TGen.n x≤34359738368):zaa T 30 [D.agg [D.int .i64 x.Kind,D.int .i64 x.Num,D.str x.Text,D.int .i64 x.Value.Kind,D.int .i64 x.Value.Num,D.str x.Value.Text,D.int .i64 x.Value.Ref,D.sl false 8 (List.map (TGen.e false) x.Kids)],D.agg [D.int .i64 x.Kind,D.int .i64 x.Num,D.str x.Text,D.int .i64 x.Value.Kind,D.int .i64 x.Value.Num,D.str x.Value.Text,D.int .i64 x.Value.Ref,D.sl false 8 (List.map (TGen.e false) x.Kids)]] sto=some (.bool true,[],sto):=zmw x sto h
theorem zoE (xs:List TGen) (sto:List (List D)) (h:xs.length≤34359738368) (h2:lsum TGen.n xs≤34359738368):zaa T 80 [.sl false 8 (xs.map (TGen.e false)),.sl false 8 (xs.map (TGen.e false))] sto=some (.bool true,[],sto):=zmv xs (fun y _=>zmw y) sto h h2
abbrev ziG (x:TCursor):Prop:=∀ (sto:List (List D)) (h:TCursor.n x≤34359738368),zaa T 63 [D.agg [D.int .i64 x.Phase,D.int .i64 x.Count,D.sl false 4 (List.map (TValue.e false) x.Vals),D.sl false 4 (List.map (TCursor.e false) x.Kids)],D.agg [D.int .i64 x.Phase,D.int .i64 x.Count,D.sl false 4 (List.map (TValue.e false) x.Vals),D.sl false 4 (List.map (TCursor.e false) x.Kids)]] sto=some (.bool true,[],sto)
theorem znG {R:Type} (e:En R) (sto:List (List D)) (k:List Fr):∀ (rest pre:List TCursor) (i:Int),(∀ y ∈ rest,ziG y)→i=pre.length→pre.length + rest.length≤34359738368→lsum TCursor.n rest≤34359738368 →
  go T e zle (.lp zqZ::.bl 0::.sq (.clr [4,5,6,7,8,9,10,11,12,13,14,15,16,17,18,19,20,21,22,23,24,25,26])::k) ⟨[.d (.sl false 4 (pre.map (TCursor.e false)++rest.map (TCursor.e false))),.d (.sl false 4 (pre.map (TCursor.e false)++rest.map (TCursor.e false))),Z,Z,Z,.d (.int .i64 i),Z,Z,Z,Z,Z,Z,Z,Z,Z,Z,Z,Z,Z,Z,Z,Z,Z,Z,Z,Z,Z],sto⟩=bk T e k ⟨[.d (.sl false 4 (pre.map (TCursor.e false)++rest.map (TCursor.e false))),.d (.sl false 4 (pre.map (TCursor.e false)++rest.map (TCursor.e false))),Z,Z,Z,Z,Z,Z,Z,Z,Z,Z,Z,Z,Z,Z,Z,Z,Z,Z,Z,Z,Z,Z,Z,Z,Z],sto⟩:=by
 intro rest
 induction rest with
 | nil =>
  intro pre i hq hi h1 h2
  have ht:i.toNat=pre.length:=by omega
  unfold zle
  simp (maxSteps:=9999999) (disch:=omega) only [vx,px,ty,↓reduceIte,seval,fx,go_lpc]
 | cons x rest ih =>
  intro pre i hq hi h1 h2
  have ht:i.toNat=pre.length:=by omega
  have ziH:=hq x (List.mem_cons_self ..)
  rw [zae] at h2
  rw [List.length_cons] at h1
  unfold zle
  simp (maxSteps:=9999999) (disch:=omega) only [vx,px,ty,↓reduceIte,seval,fx,vxd,Nat.reduceBNe,go_lpc,ht,List.map_cons,ifT,ziH]
  have h:=ih (pre++[x]) (i + 1) (fun y hy=>hq y (List.mem_cons_of_mem _ hy)) (by simp;omega) (by simp;omega) (by omega)
  simp only [zaB] at h
  exact h
theorem zjb (xs:List TCursor) (hq:∀ y ∈ xs,ziG y) (sto:List (List D)) (h:xs.length≤34359738368) (h2:lsum TCursor.n xs≤34359738368):zaa T 139 [.sl false 4 (xs.map (TCursor.e false)),.sl false 4 (xs.map (TCursor.e false))] sto=some (.bool true,[],sto):=by
 rw [zad T (g:=v139) rfl rfl rfl _ _ rfl]
 simp (maxSteps:=9999999) (disch:=omega) only [vx,px,ty,↓reduceIte,seval,fx,v139,zvI,go_lpc]
 have hl:=fun k=>znG (enF [.tmp 4] []) sto k xs [] 0 hq rfl (by simp;omega) h2
 simp only [List.map_nil,List.nil_append] at hl
 rw [hl]
 simp (maxSteps:=9999999) (disch:=omega) only [vx,px,ty,↓reduceIte,seval,fx]
theorem zjc:∀ x:TCursor,ziG x:=by
 refine TCursor.ind fun x ih=>?_
 intro sto h
 have zjU:=zjb x.Kids ih
 simp only [TCursor.n_eq] at h
 rw [zad T (g:=v63) rfl rfl rfl _ _ rfl]
 simp (maxSteps:=9999999) (disch:=omega) only [vx,px,ty,↓reduceIte,seval,fx,v63,zzF,zjU,zkK]
theorem ziH (x:TCursor) (sto:List (List D)) (h:TCursor.n x≤34359738368):zaa T 63 [D.agg [D.int .i64 x.Phase,D.int .i64 x.Count,D.sl false 4 (List.map (TValue.e false) x.Vals),D.sl false 4 (List.map (TCursor.e false) x.Kids)],D.agg [D.int .i64 x.Phase,D.int .i64 x.Count,D.sl false 4 (List.map (TValue.e false) x.Vals),D.sl false 4 (List.map (TCursor.e false) x.Kids)]] sto=some (.bool true,[],sto):=zjc x sto h
theorem zjU (xs:List TCursor) (sto:List (List D)) (h:xs.length≤34359738368) (h2:lsum TCursor.n xs≤34359738368):zaa T 139 [.sl false 4 (xs.map (TCursor.e false)),.sl false 4 (xs.map (TCursor.e false))] sto=some (.bool true,[],sto):=zjb xs (fun y _=>zjc y) sto h h2
theorem zpl (x:TCoexpr) (sto:List (List D)) (h:TCoexpr.n x≤34359738368):zaa T 21 [D.agg [D.int .i64 x.Id,D.int .i64 x.Body.Kind,D.int .i64 x.Body.Num,D.str x.Body.Text,D.int .i64 x.Body.Value.Kind,D.int .i64 x.Body.Value.Num,D.str x.Body.Value.Text,D.int .i64 x.Body.Value.Ref,D.sl false 8 (List.map (TGen.e false) x.Body.Kids),D.sl false 5 (List.map (TBinding.e false) x.Start),D.sl false 5 (List.map (TBinding.e false) x.Vars),D.int .i64 x.Cursor.Phase,D.int .i64 x.Cursor.Count,D.sl false 4 (List.map (TValue.e false) x.Cursor.Vals),D.sl false 4 (List.map (TCursor.e false) x.Cursor.Kids),D.int .i64 x.Count,D.bool x.Done],D.agg [D.int .i64 x.Id,D.int .i64 x.Body.Kind,D.int .i64 x.Body.Num,D.str x.Body.Text,D.int .i64 x.Body.Value.Kind,D.int .i64 x.Body.Value.Num,D.str x.Body.Value.Text,D.int .i64 x.Body.Value.Ref,D.sl false 8 (List.map (TGen.e false) x.Body.Kids),D.sl false 5 (List.map (TBinding.e false) x.Start),D.sl false 5 (List.map (TBinding.e false) x.Vars),D.int .i64 x.Cursor.Phase,D.int .i64 x.Cursor.Count,D.sl false 4 (List.map (TValue.e false) x.Cursor.Vals),D.sl false 4 (List.map (TCursor.e false) x.Cursor.Kids),D.int .i64 x.Count,D.bool x.Done]] sto=some (.bool true,[],sto):=by
 simp only [TCoexpr.n] at h
 rw [zad T (g:=v21) rfl rfl rfl _ _ rfl]
 simp (maxSteps:=9999999) (disch:=omega) only [vx,px,ty,↓reduceIte,seval,fx,v21,zzk,zja,ziH,zls,beq_self_eq_true,Bool.not_true]
theorem znH {R:Type} (e:En R) (sto:List (List D)) (k:List Fr):∀ (rest pre:List TCoexpr) (i:Int),i=pre.length→pre.length + rest.length≤34359738368→lsum TCoexpr.n rest≤34359738368 →
  go T e zor (.lp zuN::.bl 0::.sq (.clr [4,5,6,7,8,9,10,11,12,13,14,15,16,17,18,19,20,21,22,23,24,25,26])::k) ⟨[.d (.sl false 17 (pre.map (TCoexpr.e false)++rest.map (TCoexpr.e false))),.d (.sl false 17 (pre.map (TCoexpr.e false)++rest.map (TCoexpr.e false))),Z,Z,Z,.d (.int .i64 i),Z,Z,Z,Z,Z,Z,Z,Z,Z,Z,Z,Z,Z,Z,Z,Z,Z,Z,Z,Z,Z],sto⟩=bk T e k ⟨[.d (.sl false 17 (pre.map (TCoexpr.e false)++rest.map (TCoexpr.e false))),.d (.sl false 17 (pre.map (TCoexpr.e false)++rest.map (TCoexpr.e false))),Z,Z,Z,Z,Z,Z,Z,Z,Z,Z,Z,Z,Z,Z,Z,Z,Z,Z,Z,Z,Z,Z,Z,Z,Z],sto⟩:=by
 intro rest
 induction rest with
 | nil =>
  intro pre i hi h1 h2
  have ht:i.toNat=pre.length:=by omega
  unfold zor
  simp (maxSteps:=9999999) (disch:=omega) only [vx,px,ty,↓reduceIte,seval,fx,go_lpc]
 | cons x rest ih =>
  intro pre i hi h1 h2
  have ht:i.toNat=pre.length:=by omega
  rw [zae] at h2
  rw [List.length_cons] at h1
  unfold zor
  simp (maxSteps:=9999999) (disch:=omega) only [vx,px,ty,↓reduceIte,seval,fx,vxd,Nat.reduceBNe,go_lpc,ht,List.map_cons,ifT,zpl]
  have h:=ih (pre++[x]) (i + 1) (by simp;omega) (by simp;omega) (by omega)
  simp only [zaB] at h
  exact h
theorem znI (xs:List TCoexpr) (sto:List (List D)) (h:xs.length≤34359738368) (h2:lsum TCoexpr.n xs≤34359738368):zaa T 64 [.sl false 17 (xs.map (TCoexpr.e false)),.sl false 17 (xs.map (TCoexpr.e false))] sto=some (.bool true,[],sto):=by
 rw [zad T (g:=v64) rfl rfl rfl _ _ rfl]
 simp (maxSteps:=9999999) (disch:=omega) only [vx,px,ty,↓reduceIte,seval,fx,v64,zzG,go_lpc]
 have hl:=fun k=>znH (enF [.tmp 4] []) sto k xs [] 0 rfl (by simp;omega) h2
 simp only [List.map_nil,List.nil_append] at hl
 rw [hl]
 simp (maxSteps:=9999999) (disch:=omega) only [vx,px,ty,↓reduceIte,seval,fx]
theorem zjd (x:TGenScope) (sto:List (List D)) (h:TGenScope.n x≤34359738368):zaa T 22 [D.agg [D.sl false 5 (List.map (TBinding.e false) x.Vars),D.int .i64 x.Heap.Next,D.sl false 10 (List.map (TObject.e false) x.Heap.Objects),D.sl false 17 (List.map (TCoexpr.e false) x.Cos),D.int .i64 x.Steps],D.agg [D.sl false 5 (List.map (TBinding.e false) x.Vars),D.int .i64 x.Heap.Next,D.sl false 10 (List.map (TObject.e false) x.Heap.Objects),D.sl false 17 (List.map (TCoexpr.e false) x.Cos),D.int .i64 x.Steps]] sto=some (.bool true,[],sto):=by
 simp only [TGenScope.n] at h
 rw [zad T (g:=v22) rfl rfl rfl _ _ rfl]
 simp (maxSteps:=9999999) (disch:=omega) only [vx,px,ty,↓reduceIte,seval,fx,v22,zzl,zja,znI,ztO]
end Go.Vx.CrZ
