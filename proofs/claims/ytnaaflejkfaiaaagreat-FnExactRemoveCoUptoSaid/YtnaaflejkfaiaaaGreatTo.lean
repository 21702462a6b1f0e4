/-
  The laws' own functions: to.
-/
import Derived.Test.YtnaaflejkfaiaaaGreatTypes
import Derived.Test.YtnaaflejkfaiaaaGreatCode
set_option linter.unusedVariables false
set_option linter.unusedSimpArgs false
namespace Go.Vx.RmZ
set_option maxRecDepth 4000
set_option maxHeartbeats 4000000
theorem zit (x:TValue) (sto:List (List D)) (h:TValue.n x<=1048576):zaa T 75 [D.agg [D.int .i64 x.Kind,D.int .i64 x.Num,D.str x.Text,D.int .i64 x.Ref]] sto=some (D.agg [D.int .i64 x.Kind,D.int .i64 x.Num,D.str x.Text,D.int .i64 x.Ref],[],sto):=by
 simp only [TValue.n] at h
 rw [zaf T (g:=v75) rfl rfl rfl _ _ rfl]
 simp (maxSteps:=9999999) (disch:=omega) only [vx,px,ty,↓reduceIte,seval,fx,v75,zAR]
theorem zpQ {R:Type} (e:En R) (sto:List (List D)) (k:List Fr):∀ (rest pre:List TValue) (i:Int),i=pre.length->pre.length + rest.length<=1048576->lsum TValue.n rest<=1048576 ->
  go T e zlK (.lp zte::.bl 0::.sq (.clr [2,4,5,6,7,8,9,10,11,12,13,14,15,16,17,18,19,20,21])::k) ⟨[.d (.sl false 4 (pre.map (TValue.e false)++rest.map (TValue.e false))),Z,Z,.d (.sl true 4 (pre.map (TValue.e false)++zda (.agg [.int .i64 0,.int .i64 0,.str .empty,.int .i64 0]) rest.length)),.d (.int .i64 i),Z,Z,Z,Z,Z,Z,Z,Z,Z,Z,Z,Z,Z,Z,Z,Z,Z,Z],sto⟩=bk T e k ⟨[.d (.sl false 4 (pre.map (TValue.e false)++rest.map (TValue.e false))),Z,Z,.d (.sl true 4 (pre.map (TValue.e false)++rest.map (TValue.e false))),Z,Z,Z,Z,Z,Z,Z,Z,Z,Z,Z,Z,Z,Z,Z,Z,Z,Z,Z],sto⟩:=by
 intro rest
 induction rest with
 | nil =>
  intro pre i hi h1 h2
  have ht:i.toNat=pre.length:=by omega
  unfold zlK
  simp (maxSteps:=9999999) (disch:=omega) only [vx,px,ty,↓reduceIte,seval,fx,go_lpc]
 | cons x rest ih =>
  intro pre i hi h1 h2
  have ht:i.toNat=pre.length:=by omega
  rw [zae] at h2
  rw [List.length_cons] at h1
  unfold zlK
  simp (maxSteps:=9999999) (disch:=omega) only [vx,px,ty,↓reduceIte,seval,fx,go_lpc,ht,List.map_cons,ifT,zit]
  have h:=ih (pre++[x]) (i + 1) (by simp;omega) (by simp;omega) (by omega)
  simp only [zaG] at h
  exact h
theorem zla (xs:List TValue) (sto:List (List D)) (h:xs.length<=1048576) (h2:lsum TValue.n xs<=1048576):zaa T 240 [.sl false 4 (xs.map (TValue.e false))] sto=some (.sl true 4 (xs.map (TValue.e false)),[],sto):=by
 have hm:xs.length<=xs.length∧xs.length<=most:=⟨Nat.le_refl _,by unfold most;omega⟩
 rw [zaf T (g:=v240) rfl rfl rfl _ _ rfl]
 simp (maxSteps:=9999999) (disch:=omega) only [vx,px,ty,↓reduceIte,seval,fx,v240,zxZ,go_lpc,hm,ifT]
 have hl:=fun k=>zpQ (enF [.tmp 2] []) sto k xs [] 0 rfl (by simp;omega) h2
 simp only [List.map_nil,List.nil_append] at hl
 rw [hl]
 simp (maxSteps:=9999999) (disch:=omega) only [vx,px,ty,↓reduceIte,seval,fx]
theorem zpR (x:TObject) (sto:List (List D)) (h:TObject.n x<=1048576):zaa T 200 [D.agg [D.int .i64 x.Id,D.int .i64 x.Kind,D.str x.Name,D.int .i64 x.Low,D.sl false 4 (List.map (TValue.e false) x.Keys),D.sl false 4 (List.map (TValue.e false) x.Vals),D.int .i64 x.Default.Kind,D.int .i64 x.Default.Num,D.str x.Default.Text,D.int .i64 x.Default.Ref]] sto=some (D.agg [D.int .i64 x.Id,D.int .i64 x.Kind,D.str x.Name,D.int .i64 x.Low,D.sl true 4 (List.map (TValue.e false) x.Keys),D.sl true 4 (List.map (TValue.e false) x.Vals),D.int .i64 x.Default.Kind,D.int .i64 x.Default.Num,D.str x.Default.Text,D.int .i64 x.Default.Ref],[],sto):=by
 simp only [TObject.n] at h
 rw [zaf T (g:=v200) rfl rfl rfl _ _ rfl]
 simp (maxSteps:=9999999) (disch:=omega) only [vx,px,ty,↓reduceIte,seval,fx,v200,zxu,zit,zla]
theorem znU {R:Type} (e:En R) (sto:List (List D)) (k:List Fr):∀ (rest pre:List TObject) (i:Int),i=pre.length->pre.length + rest.length<=1048576->lsum TObject.n rest<=1048576 ->
  go T e zlA (.lp zrD::.bl 0::.sq (.clr [2,4,5,6,7,8,9,10,11,12,13,14,15,16,17,18,19,20,21])::k) ⟨[.d (.sl false 10 (pre.map (TObject.e false)++rest.map (TObject.e false))),Z,Z,.d (.sl true 10 (pre.map (TObject.e true)++zda (.agg [.int .i64 0,.int .i64 0,.str .empty,.int .i64 0,.sl true 4 [],.sl true 4 [],.int .i64 0,.int .i64 0,.str .empty,.int .i64 0]) rest.length)),.d (.int .i64 i),Z,Z,Z,Z,Z,Z,Z,Z,Z,Z,Z,Z,Z,Z,Z,Z,Z,Z],sto⟩=bk T e k ⟨[.d (.sl false 10 (pre.map (TObject.e false)++rest.map (TObject.e false))),Z,Z,.d (.sl true 10 (pre.map (TObject.e true)++rest.map (TObject.e true))),Z,Z,Z,Z,Z,Z,Z,Z,Z,Z,Z,Z,Z,Z,Z,Z,Z,Z,Z],sto⟩:=by
 intro rest
 induction rest with
 | nil =>
  intro pre i hi h1 h2
  have ht:i.toNat=pre.length:=by omega
  unfold zlA
  simp (maxSteps:=9999999) (disch:=omega) only [vx,px,ty,↓reduceIte,seval,fx,go_lpc]
 | cons x rest ih =>
  intro pre i hi h1 h2
  have ht:i.toNat=pre.length:=by omega
  rw [zae] at h2
  rw [List.length_cons] at h1
  unfold zlA
  simp (maxSteps:=9999999) (disch:=omega) only [vx,px,ty,↓reduceIte,seval,fx,go_lpc,ht,List.map_cons,ifT,zpR]
  have h:=ih (pre++[x]) (i + 1) (by simp;omega) (by simp;omega) (by omega)
  simp only [zaG] at h
  exact h
theorem znV (xs:List TObject) (sto:List (List D)) (h:xs.length<=1048576) (h2:lsum TObject.n xs<=1048576):zaa T 126 [.sl false 10 (xs.map (TObject.e false))] sto=some (.sl true 10 (xs.map (TObject.e true)),[],sto):=by
 have hm:xs.length<=xs.length∧xs.length<=most:=⟨Nat.le_refl _,by unfold most;omega⟩
 rw [zaf T (g:=v126) rfl rfl rfl _ _ rfl]
 simp (maxSteps:=9999999) (disch:=omega) only [vx,px,ty,↓reduceIte,seval,fx,v126,zww,go_lpc,hm,ifT]
 have hl:=fun k=>znU (enF [.tmp 2] []) sto k xs [] 0 rfl (by simp;omega) h2
 simp only [List.map_nil,List.nil_append] at hl
 rw [hl]
 simp (maxSteps:=9999999) (disch:=omega) only [vx,px,ty,↓reduceIte,seval,fx]
theorem zuJ (x:THeap) (sto:List (List D)) (h:THeap.n x<=1048576):zaa T 57 [D.agg [D.int .i64 x.Next,D.sl false 10 (List.map (TObject.e false) x.Objects)]] sto=some (D.agg [D.int .i64 x.Next,D.sl true 10 (List.map (TObject.e true) x.Objects)],[],sto):=by
 simp only [THeap.n] at h
 rw [zaf T (g:=v57) rfl rfl rfl _ _ rfl]
 simp (maxSteps:=9999999) (disch:=omega) only [vx,px,ty,↓reduceIte,seval,fx,v57,zAE,znV]
theorem znW (x:TBinding) (sto:List (List D)) (h:TBinding.n x<=1048576):zaa T 125 [D.agg [D.str x.Name,D.int .i64 x.Value.Kind,D.int .i64 x.Value.Num,D.str x.Value.Text,D.int .i64 x.Value.Ref]] sto=some (D.agg [D.str x.Name,D.int .i64 x.Value.Kind,D.int .i64 x.Value.Num,D.str x.Value.Text,D.int .i64 x.Value.Ref],[],sto):=by
 simp only [TBinding.n] at h
 rw [zaf T (g:=v125) rfl rfl rfl _ _ rfl]
 simp (maxSteps:=9999999) (disch:=omega) only [vx,px,ty,↓reduceIte,seval,fx,v125,zwv,zit]
theorem zmO {R:Type} (e:En R) (sto:List (List D)) (k:List Fr):∀ (rest pre:List TBinding) (i:Int),i=pre.length->pre.length + rest.length<=1048576->lsum TBinding.n rest<=1048576 ->
  go T e zoS (.lp zvH::.bl 0::.sq (.clr [2,4,5,6,7,8,9,10,11,12,13,14,15,16,17,18,19,20,21])::k) ⟨[.d (.sl false 5 (pre.map (TBinding.e false)++rest.map (TBinding.e false))),Z,Z,.d (.sl true 5 (pre.map (TBinding.e false)++zda (.agg [.str .empty,.int .i64 0,.int .i64 0,.str .empty,.int .i64 0]) rest.length)),.d (.int .i64 i),Z,Z,Z,Z,Z,Z,Z,Z,Z,Z,Z,Z,Z,Z,Z,Z,Z,Z],sto⟩=bk T e k ⟨[.d (.sl false 5 (pre.map (TBinding.e false)++rest.map (TBinding.e false))),Z,Z,.d (.sl true 5 (pre.map (TBinding.e false)++rest.map (TBinding.e false))),Z,Z,Z,Z,Z,Z,Z,Z,Z,Z,Z,Z,Z,Z,Z,Z,Z,Z,Z],sto⟩:=by
 intro rest
 induction rest with
 | nil =>
  intro pre i hi h1 h2
  have ht:i.toNat=pre.length:=by omega
  unfold zoS
  simp (maxSteps:=9999999) (disch:=omega) only [vx,px,ty,↓reduceIte,seval,fx,go_lpc]
 | cons x rest ih =>
  intro pre i hi h1 h2
  have ht:i.toNat=pre.length:=by omega
  rw [zae] at h2
  rw [List.length_cons] at h1
  unfold zoS
  simp (maxSteps:=9999999) (disch:=omega) only [vx,px,ty,↓reduceIte,seval,fx,go_lpc,ht,List.map_cons,ifT,znW]
  have h:=ih (pre++[x]) (i + 1) (by simp;omega) (by simp;omega) (by omega)
  simp only [zaG] at h
  exact h
theorem zjk (xs:List TBinding) (sto:List (List D)) (h:xs.length<=1048576) (h2:lsum TBinding.n xs<=1048576):zaa T 56 [.sl false 5 (xs.map (TBinding.e false))] sto=some (.sl true 5 (xs.map (TBinding.e false)),[],sto):=by
 have hm:xs.length<=xs.length∧xs.length<=most:=⟨Nat.le_refl _,by unfold most;omega⟩
 rw [zaf T (g:=v56) rfl rfl rfl _ _ rfl]
 simp (maxSteps:=9999999) (disch:=omega) only [vx,px,ty,↓reduceIte,seval,fx,v56,zAD,go_lpc,hm,ifT]
 have hl:=fun k=>zmO (enF [.tmp 2] []) sto k xs [] 0 rfl (by simp;omega) h2
 simp only [List.map_nil,List.nil_append] at hl
 rw [hl]
 simp (maxSteps:=9999999) (disch:=omega) only [vx,px,ty,↓reduceIte,seval,fx]
abbrev znX (x:TGen):Prop:=∀ (sto:List (List D)) (h:TGen.n x<=1048576),zaa T 28 [D.agg [D.int .i64 x.Kind,D.int .i64 x.Num,D.str x.Text,D.int .i64 x.Value.Kind,D.int .i64 x.Value.Num,D.str x.Value.Text,D.int .i64 x.Value.Ref,D.sl false 8 (List.map (TGen.e false) x.Kids)]] sto=some (D.agg [D.int .i64 x.Kind,D.int .i64 x.Num,D.str x.Text,D.int .i64 x.Value.Kind,D.int .i64 x.Value.Num,D.str x.Value.Text,D.int .i64 x.Value.Ref,D.sl true 8 (List.map (TGen.e true) x.Kids)],[],sto)
theorem zuK {R:Type} (e:En R) (sto:List (List D)) (k:List Fr):∀ (rest pre:List TGen) (i:Int),(∀ y ∈ rest,znX y)->i=pre.length->pre.length + rest.length<=1048576->lsum TGen.n rest<=1048576 ->
  go T e zpa (.lp zvS::.bl 0::.sq (.clr [2,4,5,6,7,8,9,10,11,12,13,14,15,16,17,18,19,20,21])::k) ⟨[.d (.sl false 8 (pre.map (TGen.e false)++rest.map (TGen.e false))),Z,Z,.d (.sl true 8 (pre.map (TGen.e true)++zda (.agg [.int .i64 0,.int .i64 0,.str .empty,.int .i64 0,.int .i64 0,.str .empty,.int .i64 0,.sl true 8 []]) rest.length)),.d (.int .i64 i),Z,Z,Z,Z,Z,Z,Z,Z,Z,Z,Z,Z,Z,Z,Z,Z,Z,Z],sto⟩=bk T e k ⟨[.d (.sl false 8 (pre.map (TGen.e false)++rest.map (TGen.e false))),Z,Z,.d (.sl true 8 (pre.map (TGen.e true)++rest.map (TGen.e true))),Z,Z,Z,Z,Z,Z,Z,Z,Z,Z,Z,Z,Z,Z,Z,Z,Z,Z,Z],sto⟩:=by
 intro rest
 induction rest with
 | nil =>
  intro pre i hq hi h1 h2
  have ht:i.toNat=pre.length:=by omega
  unfold zpa
  simp (maxSteps:=9999999) (disch:=omega) only [vx,px,ty,↓reduceIte,seval,fx,go_lpc]
 | cons x rest ih =>
  intro pre i hq hi h1 h2
  have ht:i.toNat=pre.length:=by omega
  have znY:=hq x (List.mem_cons_self ..)
  rw [zae] at h2
  rw [List.length_cons] at h1
  unfold zpa
  simp (maxSteps:=9999999) (disch:=omega) only [vx,px,ty,↓reduceIte,seval,fx,go_lpc,ht,List.map_cons,ifT,znY]
  have h:=ih (pre++[x]) (i + 1) (fun y hy=>hq y (List.mem_cons_of_mem _ hy)) (by simp;omega) (by simp;omega) (by omega)
  simp only [zaG] at h
  simp only [TGen.e_eq true] at h
  try simp only [TGen.e_eq true]
  exact h
theorem zmP (xs:List TGen) (hq:∀ y ∈ xs,znX y) (sto:List (List D)) (h:xs.length<=1048576) (h2:lsum TGen.n xs<=1048576):zaa T 76 [.sl false 8 (xs.map (TGen.e false))] sto=some (.sl true 8 (xs.map (TGen.e true)),[],sto):=by
 have hm:xs.length<=xs.length∧xs.length<=most:=⟨Nat.le_refl _,by unfold most;omega⟩
 rw [zaf T (g:=v76) rfl rfl rfl _ _ rfl]
 simp (maxSteps:=9999999) (disch:=omega) only [vx,px,ty,↓reduceIte,seval,fx,v76,zAS,go_lpc,hm,ifT]
 have hl:=fun k=>zuK (enF [.tmp 2] []) sto k xs [] 0 hq rfl (by simp;omega) h2
 simp only [List.map_nil,List.nil_append] at hl
 rw [hl]
 simp (maxSteps:=9999999) (disch:=omega) only [vx,px,ty,↓reduceIte,seval,fx]
theorem zmQ:∀ x:TGen,znX x:=by
 refine TGen.ind fun x ih=>?_
 intro sto h
 have zph:=zmP x.Kids ih
 simp only [TGen.n_eq] at h
 rw [zaf T (g:=v28) rfl rfl rfl _ _ rfl]
 simp (maxSteps:=9999999) (disch:=omega) only [vx,px,ty,↓reduceIte,seval,fx,v28,zAq,zph,zit]
theorem znY (x:TGen) (sto:List (List D)) (h:TGen.n x<=1048576):zaa T 28 [D.agg [D.int .i64 x.Kind,D.int .i64 x.Num,D.str x.Text,D.int .i64 x.Value.Kind,D.int .i64 x.Value.Num,D.str x.Value.Text,D.int .i64 x.Value.Ref,D.sl false 8 (List.map (TGen.e false) x.Kids)]] sto=some (D.agg [D.int .i64 x.Kind,D.int .i64 x.Num,D.str x.Text,D.int .i64 x.Value.Kind,D.int .i64 x.Value.Num,D.str x.Value.Text,D.int .i64 x.Value.Ref,D.sl true 8 (List.map (TGen.e true) x.Kids)],[],sto):=zmQ x sto h
theorem zph (xs:List TGen) (sto:List (List D)) (h:xs.length<=1048576) (h2:lsum TGen.n xs<=1048576):zaa T 76 [.sl false 8 (xs.map (TGen.e false))] sto=some (.sl true 8 (xs.map (TGen.e true)),[],sto):=zmP xs (fun y _=>zmQ y) sto h h2
abbrev ziQ (x:TCursor):Prop:=∀ (sto:List (List D)) (h:TCursor.n x<=1048576),zaa T 201 [D.agg [D.int .i64 x.Phase,D.int .i64 x.Count,D.sl false 4 (List.map (TValue.e false) x.Vals),D.sl false 4 (List.map (TCursor.e false) x.Kids)]] sto=some (D.agg [D.int .i64 x.Phase,D.int .i64 x.Count,D.sl true 4 (List.map (TValue.e false) x.Vals),D.sl true 4 (List.map (TCursor.e true) x.Kids)],[],sto)
theorem znZ {R:Type} (e:En R) (sto:List (List D)) (k:List Fr):∀ (rest pre:List TCursor) (i:Int),(∀ y ∈ rest,ziQ y)->i=pre.length->pre.length + rest.length<=1048576->lsum TCursor.n rest<=1048576 ->
  go T e zlL (.lp ztf::.bl 0::.sq (.clr [2,4,5,6,7,8,9,10,11,12,13,14,15,16,17,18,19,20,21])::k) ⟨[.d (.sl false 4 (pre.map (TCursor.e false)++rest.map (TCursor.e false))),Z,Z,.d (.sl true 4 (pre.map (TCursor.e true)++zda (.agg [.int .i64 0,.int .i64 0,.sl true 4 [],.sl true 4 []]) rest.length)),.d (.int .i64 i),Z,Z,Z,Z,Z,Z,Z,Z,Z,Z,Z,Z,Z,Z,Z,Z,Z,Z],sto⟩=bk T e k ⟨[.d (.sl false 4 (pre.map (TCursor.e false)++rest.map (TCursor.e false))),Z,Z,.d (.sl true 4 (pre.map (TCursor.e true)++rest.map (TCursor.e true))),Z,Z,Z,Z,Z,Z,Z,Z,Z,Z,Z,Z,Z,Z,Z,Z,Z,Z,Z],sto⟩:=by
 intro rest
 induction rest with
 | nil =>
  intro pre i hq hi h1 h2
  have ht:i.toNat=pre.length:=by omega
  unfold zlL
  simp (maxSteps:=9999999) (disch:=omega) only [vx,px,ty,↓reduceIte,seval,fx,go_lpc]
 | cons x rest ih =>
  intro pre i hq hi h1 h2
  have ht:i.toNat=pre.length:=by omega
  have ziR:=hq x (List.mem_cons_self ..)
  rw [zae] at h2
  rw [List.length_cons] at h1
  unfold zlL
  simp (maxSteps:=9999999) (disch:=omega) only [vx,px,ty,↓reduceIte,seval,fx,go_lpc,ht,List.map_cons,ifT,ziR]
  have h:=ih (pre++[x]) (i + 1) (fun y hy=>hq y (List.mem_cons_of_mem _ hy)) (by simp;omega) (by simp;omega) (by omega)
  simp only [zaG] at h
  simp only [TCursor.e_eq true] at h
  try simp only [TCursor.e_eq true]
  exact h
theorem zjl (xs:List TCursor) (hq:∀ y ∈ xs,ziQ y) (sto:List (List D)) (h:xs.length<=1048576) (h2:lsum TCursor.n xs<=1048576):zaa T 241 [.sl false 4 (xs.map (TCursor.e false))] sto=some (.sl true 4 (xs.map (TCursor.e true)),[],sto):=by
 have hm:xs.length<=xs.length∧xs.length<=most:=⟨Nat.le_refl _,by unfold most;omega⟩
 rw [zaf T (g:=v241) rfl rfl rfl _ _ rfl]
 simp (maxSteps:=9999999) (disch:=omega) only [vx,px,ty,↓reduceIte,seval,fx,v241,zya,go_lpc,hm,ifT]
 have hl:=fun k=>znZ (enF [.tmp 2] []) sto k xs [] 0 hq rfl (by simp;omega) h2
 simp only [List.map_nil,List.nil_append] at hl
 rw [hl]
 simp (maxSteps:=9999999) (disch:=omega) only [vx,px,ty,↓reduceIte,seval,fx]
theorem zjm:∀ x:TCursor,ziQ x:=by
 refine TCursor.ind fun x ih=>?_
 intro sto h
 have zki:=zjl x.Kids ih
 simp only [TCursor.n_eq] at h
 rw [zaf T (g:=v201) rfl rfl rfl _ _ rfl]
 simp (maxSteps:=9999999) (disch:=omega) only [vx,px,ty,↓reduceIte,seval,fx,v201,zxv,zki,zla]
theorem ziR (x:TCursor) (sto:List (List D)) (h:TCursor.n x<=1048576):zaa T 201 [D.agg [D.int .i64 x.Phase,D.int .i64 x.Count,D.sl false 4 (List.map (TValue.e false) x.Vals),D.sl false 4 (List.map (TCursor.e false) x.Kids)]] sto=some (D.agg [D.int .i64 x.Phase,D.int .i64 x.Count,D.sl true 4 (List.map (TValue.e false) x.Vals),D.sl true 4 (List.map (TCursor.e true) x.Kids)],[],sto):=zjm x sto h
theorem zki (xs:List TCursor) (sto:List (List D)) (h:xs.length<=1048576) (h2:lsum TCursor.n xs<=1048576):zaa T 241 [.sl false 4 (xs.map (TCursor.e false))] sto=some (.sl true 4 (xs.map (TCursor.e true)),[],sto):=zjl xs (fun y _=>zjm y) sto h h2
theorem zpS (x:TCoexpr) (sto:List (List D)) (h:TCoexpr.n x<=1048576):zaa T 127 [D.agg [D.int .i64 x.Id,D.int .i64 x.Body.Kind,D.int .i64 x.Body.Num,D.str x.Body.Text,D.int .i64 x.Body.Value.Kind,D.int .i64 x.Body.Value.Num,D.str x.Body.Value.Text,D.int .i64 x.Body.Value.Ref,D.sl false 8 (List.map (TGen.e false) x.Body.Kids),D.sl false 5 (List.map (TBinding.e false) x.Start),D.sl false 5 (List.map (TBinding.e false) x.Vars),D.int .i64 x.Cursor.Phase,D.int .i64 x.Cursor.Count,D.sl false 4 (List.map (TValue.e false) x.Cursor.Vals),D.sl false 4 (List.map (TCursor.e false) x.Cursor.Kids),D.int .i64 x.Count,D.bool x.Done]] sto=some (D.agg [D.int .i64 x.Id,D.int .i64 x.Body.Kind,D.int .i64 x.Body.Num,D.str x.Body.Text,D.int .i64 x.Body.Value.Kind,D.int .i64 x.Body.Value.Num,D.str x.Body.Value.Text,D.int .i64 x.Body.Value.Ref,D.sl true 8 (List.map (TGen.e true) x.Body.Kids),D.sl true 5 (List.map (TBinding.e false) x.Start),D.sl true 5 (List.map (TBinding.e false) x.Vars),D.int .i64 x.Cursor.Phase,D.int .i64 x.Cursor.Count,D.sl true 4 (List.map (TValue.e false) x.Cursor.Vals),D.sl true 4 (List.map (TCursor.e true) x.Cursor.Kids),D.int .i64 x.Count,D.bool x.Done],[],sto):=by
 simp only [TCoexpr.n] at h
 rw [zaf T (g:=v127) rfl rfl rfl _ _ rfl]
 simp (maxSteps:=9999999) (disch:=omega) only [vx,px,ty,↓reduceIte,seval,fx,v127,zwx,zjk,ziR,znY]
theorem zoa {R:Type} (e:En R) (sto:List (List D)) (k:List Fr):∀ (rest pre:List TCoexpr) (i:Int),i=pre.length->pre.length + rest.length<=1048576->lsum TCoexpr.n rest<=1048576 ->
  go T e zoT (.lp zvI::.bl 0::.sq (.clr [2,4,5,6,7,8,9,10,11,12,13,14,15,16,17,18,19,20,21])::k) ⟨[.d (.sl false 17 (pre.map (TCoexpr.e false)++rest.map (TCoexpr.e false))),Z,Z,.d (.sl true 17 (pre.map (TCoexpr.e true)++zda (.agg [.int .i64 0,.int .i64 0,.int .i64 0,.str .empty,.int .i64 0,.int .i64 0,.str .empty,.int .i64 0,.sl true 8 [],.sl true 5 [],.sl true 5 [],.int .i64 0,.int .i64 0,.sl true 4 [],.sl true 4 [],.int .i64 0,.bool false]) rest.length)),.d (.int .i64 i),Z,Z,Z,Z,Z,Z,Z,Z,Z,Z,Z,Z,Z,Z,Z,Z,Z,Z],sto⟩=bk T e k ⟨[.d (.sl false 17 (pre.map (TCoexpr.e false)++rest.map (TCoexpr.e false))),Z,Z,.d (.sl true 17 (pre.map (TCoexpr.e true)++rest.map (TCoexpr.e true))),Z,Z,Z,Z,Z,Z,Z,Z,Z,Z,Z,Z,Z,Z,Z,Z,Z,Z,Z],sto⟩:=by
 intro rest
 induction rest with
 | nil =>
  intro pre i hi h1 h2
  have ht:i.toNat=pre.length:=by omega
  unfold zoT
  simp (maxSteps:=9999999) (disch:=omega) only [vx,px,ty,↓reduceIte,seval,fx,go_lpc]
 | cons x rest ih =>
  intro pre i hi h1 h2
  have ht:i.toNat=pre.length:=by omega
  rw [zae] at h2
  rw [List.length_cons] at h1
  unfold zoT
  simp (maxSteps:=9999999) (disch:=omega) only [vx,px,ty,↓reduceIte,seval,fx,go_lpc,ht,List.map_cons,ifT,zpS]
  have h:=ih (pre++[x]) (i + 1) (by simp;omega) (by simp;omega) (by omega)
  simp only [zaG] at h
  exact h
theorem zob (xs:List TCoexpr) (sto:List (List D)) (h:xs.length<=1048576) (h2:lsum TCoexpr.n xs<=1048576):zaa T 58 [.sl false 17 (xs.map (TCoexpr.e false))] sto=some (.sl true 17 (xs.map (TCoexpr.e true)),[],sto):=by
 have hm:xs.length<=xs.length∧xs.length<=most:=⟨Nat.le_refl _,by unfold most;omega⟩
 rw [zaf T (g:=v58) rfl rfl rfl _ _ rfl]
 simp (maxSteps:=9999999) (disch:=omega) only [vx,px,ty,↓reduceIte,seval,fx,v58,zAF,go_lpc,hm,ifT]
 have hl:=fun k=>zoa (enF [.tmp 2] []) sto k xs [] 0 rfl (by simp;omega) h2
 simp only [List.map_nil,List.nil_append] at hl
 rw [hl]
 simp (maxSteps:=9999999) (disch:=omega) only [vx,px,ty,↓reduceIte,seval,fx]
theorem zjn (x:TGenScope) (sto:List (List D)) (h:TGenScope.n x<=1048576):zaa T 19 [D.agg [D.sl false 5 (List.map (TBinding.e false) x.Vars),D.int .i64 x.Heap.Next,D.sl false 10 (List.map (TObject.e false) x.Heap.Objects),D.sl false 17 (List.map (TCoexpr.e false) x.Cos),D.int .i64 x.Steps]] sto=some (D.agg [D.sl true 5 (List.map (TBinding.e false) x.Vars),D.int .i64 x.Heap.Next,D.sl true 10 (List.map (TObject.e true) x.Heap.Objects),D.sl true 17 (List.map (TCoexpr.e true) x.Cos),D.int .i64 x.Steps],[],sto):=by
 simp only [TGenScope.n] at h
 rw [zaf T (g:=v19) rfl rfl rfl _ _ rfl]
 simp (maxSteps:=9999999) (disch:=omega) only [vx,px,ty,↓reduceIte,seval,fx,v19,zAm,zjk,zob,zuJ]
end Go.Vx.RmZ

