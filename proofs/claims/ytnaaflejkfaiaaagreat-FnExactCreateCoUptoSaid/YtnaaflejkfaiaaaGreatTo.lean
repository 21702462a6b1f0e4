/-
  The laws' own functions: to.
-/
import Derived.Test.YtnaaflejkfaiaaaGreatTypes
import Derived.Test.YtnaaflejkfaiaaaGreatCode
set_option linter.unusedVariables false
set_option linter.unusedSimpArgs false
namespace Go.Vx.CrZ
set_option linter.unusedVariables false
set_option linter.unusedSimpArgs false
set_option maxRecDepth 4000
set_option maxHeartbeats 4000000
theorem zih (x:TValue) (sto:List (List D)) (h:TValue.n x≤1048576):zaa T 75 [D.agg [D.int .i64 x.Kind,D.int .i64 x.Num,D.str x.Text,D.int .i64 x.Ref]] sto=some (D.agg [D.int .i64 x.Kind,D.int .i64 x.Num,D.str x.Text,D.int .i64 x.Ref],[],sto):=by
 simp only [TValue.n] at h
 rw [zad T (g:=v75) rfl rfl rfl _ _ rfl]
 simp (maxSteps:=9999999) (disch:=omega) only [vx,px,ty,↓reduceIte,seval,fx,v75,zzO]
theorem zpg {R:Type} (e:En R) (sto:List (List D)) (k:List Fr):∀ (rest pre:List TValue) (i:Int),i=pre.length→pre.length + rest.length≤1048576→lsum TValue.n rest≤1048576 →
  go T e zlm (.lp zsm::.bl 0::.sq (.clr [2,4,5,6,7,8,9,10,11,12,13,14,15,16,17,18,19,20,21])::k) ⟨[.d (.sl false 4 (pre.map (TValue.e false)++rest.map (TValue.e false))),Z,Z,.d (.sl true 4 (pre.map (TValue.e false)++zdb (.agg [.int .i64 0,.int .i64 0,.str .empty,.int .i64 0]) rest.length)),.d (.int .i64 i),Z,Z,Z,Z,Z,Z,Z,Z,Z,Z,Z,Z,Z,Z,Z,Z,Z,Z],sto⟩=bk T e k ⟨[.d (.sl false 4 (pre.map (TValue.e false)++rest.map (TValue.e false))),Z,Z,.d (.sl true 4 (pre.map (TValue.e false)++rest.map (TValue.e false))),Z,Z,Z,Z,Z,Z,Z,Z,Z,Z,Z,Z,Z,Z,Z,Z,Z,Z,Z],sto⟩:=by
 intro rest
 induction rest with
 | nil =>
  intro pre i hi h1 h2
  have ht:i.toNat=pre.length:=by omega
  unfold zlm
  simp (maxSteps:=9999999) (disch:=omega) only [vx,px,ty,↓reduceIte,seval,fx,go_lpc]
 | cons x rest ih =>
  intro pre i hi h1 h2
  have ht:i.toNat=pre.length:=by omega
  rw [zae] at h2
  rw [List.length_cons] at h1
  unfold zlm
  simp (maxSteps:=9999999) (disch:=omega) only [vx,px,ty,↓reduceIte,seval,fx,go_lpc,ht,List.map_cons,ifT,zih]
  have h:=ih (pre++[x]) (i + 1) (by simp;omega) (by simp;omega) (by omega)
  simp only [zaB] at h
  exact h
theorem zkJ (xs:List TValue) (sto:List (List D)) (h:xs.length≤1048576) (h2:lsum TValue.n xs≤1048576):zaa T 240 [.sl false 4 (xs.map (TValue.e false))] sto=some (.sl true 4 (xs.map (TValue.e false)),[],sto):=by
 have hm:xs.length≤xs.length∧xs.length≤most:=⟨Nat.le_refl _,by unfold most;omega⟩
 rw [zad T (g:=v240) rfl rfl rfl _ _ rfl]
 simp (maxSteps:=9999999) (disch:=omega) only [vx,px,ty,↓reduceIte,seval,fx,v240,zwZ,go_lpc,hm,ifT]
 have hl:=fun k=>zpg (enF [.tmp 2] []) sto k xs [] 0 rfl (by simp;omega) h2
 simp only [List.map_nil,List.nil_append] at hl
 rw [hl]
 simp (maxSteps:=9999999) (disch:=omega) only [vx,px,ty,↓reduceIte,seval,fx]
theorem zph (x:TObject) (sto:List (List D)) (h:TObject.n x≤1048576):zaa T 200 [D.agg [D.int .i64 x.Id,D.int .i64 x.Kind,D.str x.Name,D.int .i64 x.Low,D.sl false 4 (List.map (TValue.e false) x.Keys),D.sl false 4 (List.map (TValue.e false) x.Vals),D.int .i64 x.Default.Kind,D.int .i64 x.Default.Num,D.str x.Default.Text,D.int .i64 x.Default.Ref]] sto=some (D.agg [D.int .i64 x.Id,D.int .i64 x.Kind,D.str x.Name,D.int .i64 x.Low,D.sl true 4 (List.map (TValue.e false) x.Keys),D.sl true 4 (List.map (TValue.e false) x.Vals),D.int .i64 x.Default.Kind,D.int .i64 x.Default.Num,D.str x.Default.Text,D.int .i64 x.Default.Ref],[],sto):=by
 simp only [TObject.n] at h
 rw [zad T (g:=v200) rfl rfl rfl _ _ rfl]
 simp (maxSteps:=9999999) (disch:=omega) only [vx,px,ty,↓reduceIte,seval,fx,v200,zwu,zih,zkJ]
theorem znv {R:Type} (e:En R) (sto:List (List D)) (k:List Fr):∀ (rest pre:List TObject) (i:Int),i=pre.length→pre.length + rest.length≤1048576→lsum TObject.n rest≤1048576 →
  go T e zlc (.lp zqN::.bl 0::.sq (.clr [2,4,5,6,7,8,9,10,11,12,13,14,15,16,17,18,19,20,21])::k) ⟨[.d (.sl false 10 (pre.map (TObject.e false)++rest.map (TObject.e false))),Z,Z,.d (.sl true 10 (pre.map (TObject.e true)++zdb (.agg [.int .i64 0,.int .i64 0,.str .empty,.int .i64 0,.sl true 4 [],.sl true 4 [],.int .i64 0,.int .i64 0,.str .empty,.int .i64 0]) rest.length)),.d (.int .i64 i),Z,Z,Z,Z,Z,Z,Z,Z,Z,Z,Z,Z,Z,Z,Z,Z,Z,Z],sto⟩=bk T e k ⟨[.d (.sl false 10 (pre.map (TObject.e false)++rest.map (TObject.e false))),Z,Z,.d (.sl true 10 (pre.map (TObject.e true)++rest.map (TObject.e true))),Z,Z,Z,Z,Z,Z,Z,Z,Z,Z,Z,Z,Z,Z,Z,Z,Z,Z,Z],sto⟩:=by
 intro rest
 induction rest with
 | nil =>
  intro pre i hi h1 h2
  have ht:i.toNat=pre.length:=by omega
  unfold zlc
  simp (maxSteps:=9999999) (disch:=omega) only [vx,px,ty,↓reduceIte,seval,fx,go_lpc]
 | cons x rest ih =>
  intro pre i hi h1 h2
  have ht:i.toNat=pre.length:=by omega
  rw [zae] at h2
  rw [List.length_cons] at h1
  unfold zlc
  simp (maxSteps:=9999999) (disch:=omega) only [vx,px,ty,↓reduceIte,seval,fx,go_lpc,ht,List.map_cons,ifT,zph]
  have h:=ih (pre++[x]) (i + 1) (by simp;omega) (by simp;omega) (by omega)
  simp only [zaB] at h
  exact h
theorem znw (xs:List TObject) (sto:List (List D)) (h:xs.length≤1048576) (h2:lsum TObject.n xs≤1048576):zaa T 126 [.sl false 10 (xs.map (TObject.e false))] sto=some (.sl true 10 (xs.map (TObject.e true)),[],sto):=by
 have hm:xs.length≤xs.length∧xs.length≤most:=⟨Nat.le_refl _,by unfold most;omega⟩
 rw [zad T (g:=v126) rfl rfl rfl _ _ rfl]
 simp (maxSteps:=9999999) (disch:=omega) only [vx,px,ty,↓reduceIte,seval,fx,v126,zvy,go_lpc,hm,ifT]
 have hl:=fun k=>znv (enF [.tmp 2] []) sto k xs [] 0 rfl (by simp;omega) h2
 simp only [List.map_nil,List.nil_append] at hl
 rw [hl]
 simp (maxSteps:=9999999) (disch:=omega) only [vx,px,ty,↓reduceIte,seval,fx]
theorem ztM (x:THeap) (sto:List (List D)) (h:THeap.n x≤1048576):zaa T 57 [D.agg [D.int .i64 x.Next,D.sl false 10 (List.map (TObject.e false) x.Objects)]] sto=some (D.agg [D.int .i64 x.Next,D.sl true 10 (List.map (TObject.e true) x.Objects)],[],sto):=by
 simp only [THeap.n] at h
 rw [zad T (g:=v57) rfl rfl rfl _ _ rfl]
 simp (maxSteps:=9999999) (disch:=omega) only [vx,px,ty,↓reduceIte,seval,fx,v57,zzA,znw]
theorem znx (x:TBinding) (sto:List (List D)) (h:TBinding.n x≤1048576):zaa T 125 [D.agg [D.str x.Name,D.int .i64 x.Value.Kind,D.int .i64 x.Value.Num,D.str x.Value.Text,D.int .i64 x.Value.Ref]] sto=some (D.agg [D.str x.Name,D.int .i64 x.Value.Kind,D.int .i64 x.Value.Num,D.str x.Value.Text,D.int .i64 x.Value.Ref],[],sto):=by
 simp only [TBinding.n] at h
 rw [zad T (g:=v125) rfl rfl rfl _ _ rfl]
 simp (maxSteps:=9999999) (disch:=omega) only [vx,px,ty,↓reduceIte,seval,fx,v125,zvx,zih]
theorem zmq {R:Type} (e:En R) (sto:List (List D)) (k:List Fr):∀ (rest pre:List TBinding) (i:Int),i=pre.length→pre.length + rest.length≤1048576→lsum TBinding.n rest≤1048576 →
  go T e zoo (.lp zuH::.bl 0::.sq (.clr [2,4,5,6,7,8,9,10,11,12,13,14,15,16,17,18,19,20,21])::k) ⟨[.d (.sl false 5 (pre.map (TBinding.e false)++rest.map (TBinding.e false))),Z,Z,.d (.sl true 5 (pre.map (TBinding.e false)++zdb (.agg [.str .empty,.int .i64 0,.int .i64 0,.str .empty,.int .i64 0]) rest.length)),.d (.int .i64 i),Z,Z,Z,Z,Z,Z,Z,Z,Z,Z,Z,Z,Z,Z,Z,Z,Z,Z],sto⟩=bk T e k ⟨[.d (.sl false 5 (pre.map (TBinding.e false)++rest.map (TBinding.e false))),Z,Z,.d (.sl true 5 (pre.map (TBinding.e false)++rest.map (TBinding.e false))),Z,Z,Z,Z,Z,Z,Z,Z,Z,Z,Z,Z,Z,Z,Z,Z,Z,Z,Z],sto⟩:=by
 intro rest
 induction rest with
 | nil =>
  intro pre i hi h1 h2
  have ht:i.toNat=pre.length:=by omega
  unfold zoo
  simp (maxSteps:=9999999) (disch:=omega) only [vx,px,ty,↓reduceIte,seval,fx,go_lpc]
 | cons x rest ih =>
  intro pre i hi h1 h2
  have ht:i.toNat=pre.length:=by omega
  rw [zae] at h2
  rw [List.length_cons] at h1
  unfold zoo
  simp (maxSteps:=9999999) (disch:=omega) only [vx,px,ty,↓reduceIte,seval,fx,go_lpc,ht,List.map_cons,ifT,znx]
  have h:=ih (pre++[x]) (i + 1) (by simp;omega) (by simp;omega) (by omega)
  simp only [zaB] at h
  exact h
theorem ziX (xs:List TBinding) (sto:List (List D)) (h:xs.length≤1048576) (h2:lsum TBinding.n xs≤1048576):zaa T 56 [.sl false 5 (xs.map (TBinding.e false))] sto=some (.sl true 5 (xs.map (TBinding.e false)),[],sto):=by
 have hm:xs.length≤xs.length∧xs.length≤most:=⟨Nat.le_refl _,by unfold most;omega⟩
 rw [zad T (g:=v56) rfl rfl rfl _ _ rfl]
 simp (maxSteps:=9999999) (disch:=omega) only [vx,px,ty,↓reduceIte,seval,fx,v56,zzz,go_lpc,hm,ifT]
 have hl:=fun k=>zmq (enF [.tmp 2] []) sto k xs [] 0 rfl (by simp;omega) h2
 simp only [List.map_nil,List.nil_append] at hl
 rw [hl]
 simp (maxSteps:=9999999) (disch:=omega) only [vx,px,ty,↓reduceIte,seval,fx]
abbrev zny (x:TGen):Prop:=∀ (sto:List (List D)) (h:TGen.n x≤1048576),zaa T 28 [D.agg [D.int .i64 x.Kind,D.int .i64 x.Num,D.str x.Text,D.int .i64 x.Value.Kind,D.int .i64 x.Value.Num,D.str x.Value.Text,D.int .i64 x.Value.Ref,D.sl false 8 (List.map (TGen.e false) x.Kids)]] sto=some (D.agg [D.int .i64 x.Kind,D.int .i64 x.Num,D.str x.Text,D.int .i64 x.Value.Kind,D.int .i64 x.Value.Num,D.str x.Value.Text,D.int .i64 x.Value.Ref,D.sl true 8 (List.map (TGen.e true) x.Kids)],[],sto)
theorem ztN {R:Type} (e:En R) (sto:List (List D)) (k:List Fr):∀ (rest pre:List TGen) (i:Int),(∀ y ∈ rest,zny y)→i=pre.length→pre.length + rest.length≤1048576→lsum TGen.n rest≤1048576 →
  go T e zow (.lp zuU::.bl 0::.sq (.clr [2,4,5,6,7,8,9,10,11,12,13,14,15,16,17,18,19,20,21])::k) ⟨[.d (.sl false 8 (pre.map (TGen.e false)++rest.map (TGen.e false))),Z,Z,.d (.sl true 8 (pre.map (TGen.e true)++zdb (.agg [.int .i64 0,.int .i64 0,.str .empty,.int .i64 0,.int .i64 0,.str .empty,.int .i64 0,.sl true 8 []]) rest.length)),.d (.int .i64 i),Z,Z,Z,Z,Z,Z,Z,Z,Z,Z,Z,Z,Z,Z,Z,Z,Z,Z],sto⟩=bk T e k ⟨[.d (.sl false 8 (pre.map (TGen.e false)++rest.map (TGen.e false))),Z,Z,.d (.sl true 8 (pre.map (TGen.e true)++rest.map (TGen.e true))),Z,Z,Z,Z,Z,Z,Z,Z,Z,Z,Z,Z,Z,Z,Z,Z,Z,Z,Z],sto⟩:=by
 intro rest
 induction rest with
 | nil =>
  intro pre i hq hi h1 h2
  have ht:i.toNat=pre.length:=by omega
  unfold zow
  simp (maxSteps:=9999999) (disch:=omega) only [vx,px,ty,↓reduceIte,seval,fx,go_lpc]
 | cons x rest ih =>
  intro pre i hq hi h1 h2
  have ht:i.toNat=pre.length:=by omega
  have zlr:=hq x (List.mem_cons_self ..)
  rw [zae] at h2
  rw [List.length_cons] at h1
  unfold zow
  simp (maxSteps:=9999999) (disch:=omega) only [vx,px,ty,↓reduceIte,seval,fx,go_lpc,ht,List.map_cons,ifT,zlr]
  have h:=ih (pre++[x]) (i + 1) (fun y hy=>hq y (List.mem_cons_of_mem _ hy)) (by simp;omega) (by simp;omega) (by omega)
  simp only [zaB] at h
  simp only [TGen.e_eq true] at h
  try simp only [TGen.e_eq true]
  exact h
theorem zmr (xs:List TGen) (hq:∀ y ∈ xs,zny y) (sto:List (List D)) (h:xs.length≤1048576) (h2:lsum TGen.n xs≤1048576):zaa T 76 [.sl false 8 (xs.map (TGen.e false))] sto=some (.sl true 8 (xs.map (TGen.e true)),[],sto):=by
 have hm:xs.length≤xs.length∧xs.length≤most:=⟨Nat.le_refl _,by unfold most;omega⟩
 rw [zad T (g:=v76) rfl rfl rfl _ _ rfl]
 simp (maxSteps:=9999999) (disch:=omega) only [vx,px,ty,↓reduceIte,seval,fx,v76,zzP,go_lpc,hm,ifT]
 have hl:=fun k=>ztN (enF [.tmp 2] []) sto k xs [] 0 hq rfl (by simp;omega) h2
 simp only [List.map_nil,List.nil_append] at hl
 rw [hl]
 simp (maxSteps:=9999999) (disch:=omega) only [vx,px,ty,↓reduceIte,seval,fx]
theorem zms:∀ x:TGen,zny x:=by
 refine TGen.ind fun x ih=>?_
 intro sto h
 have zoD:=zmr x.Kids ih
 simp only [TGen.n_eq] at h
 rw [zad T (g:=v28) rfl rfl rfl _ _ rfl]
 simp (maxSteps:=9999999) (disch:=omega) only [vx,px,ty,↓reduceIte,seval,fx,v28,zzo,zoD,zih]
theorem zlr (x:TGen) (sto:List (List D)) (h:TGen.n x≤1048576):zaa T 28 [D.agg [D.int .i64 x.Kind,D.int .i64 x.Num,D.str x.Text,D.int .i64 x.Value.Kind,D.int .i64 x.Value.Num,D.str x.Value.Text,D.int .i64 x.Value.Ref,D.sl false 8 (List.map (TGen.e false) x.Kids)]] sto=some (D.agg [D.int .i64 x.Kind,D.int .i64 x.Num,D.str x.Text,D.int .i64 x.Value.Kind,D.int .i64 x.Value.Num,D.str x.Value.Text,D.int .i64 x.Value.Ref,D.sl true 8 (List.map (TGen.e true) x.Kids)],[],sto):=zms x sto h
theorem zoD (xs:List TGen) (sto:List (List D)) (h:xs.length≤1048576) (h2:lsum TGen.n xs≤1048576):zaa T 76 [.sl false 8 (xs.map (TGen.e false))] sto=some (.sl true 8 (xs.map (TGen.e true)),[],sto):=zmr xs (fun y _=>zms y) sto h h2
abbrev ziE (x:TCursor):Prop:=∀ (sto:List (List D)) (h:TCursor.n x≤1048576),zaa T 201 [D.agg [D.int .i64 x.Phase,D.int .i64 x.Count,D.sl false 4 (List.map (TValue.e false) x.Vals),D.sl false 4 (List.map (TCursor.e false) x.Kids)]] sto=some (D.agg [D.int .i64 x.Phase,D.int .i64 x.Count,D.sl true 4 (List.map (TValue.e false) x.Vals),D.sl true 4 (List.map (TCursor.e true) x.Kids)],[],sto)
theorem znz {R:Type} (e:En R) (sto:List (List D)) (k:List Fr):∀ (rest pre:List TCursor) (i:Int),(∀ y ∈ rest,ziE y)→i=pre.length→pre.length + rest.length≤1048576→lsum TCursor.n rest≤1048576 →
  go T e zln (.lp zsn::.bl 0::.sq (.clr [2,4,5,6,7,8,9,10,11,12,13,14,15,16,17,18,19,20,21])::k) ⟨[.d (.sl false 4 (pre.map (TCursor.e false)++rest.map (TCursor.e false))),Z,Z,.d (.sl true 4 (pre.map (TCursor.e true)++zdb (.agg [.int .i64 0,.int .i64 0,.sl true 4 [],.sl true 4 []]) rest.length)),.d (.int .i64 i),Z,Z,Z,Z,Z,Z,Z,Z,Z,Z,Z,Z,Z,Z,Z,Z,Z,Z],sto⟩=bk T e k ⟨[.d (.sl false 4 (pre.map (TCursor.e false)++rest.map (TCursor.e false))),Z,Z,.d (.sl true 4 (pre.map (TCursor.e true)++rest.map (TCursor.e true))),Z,Z,Z,Z,Z,Z,Z,Z,Z,Z,Z,Z,Z,Z,Z,Z,Z,Z,Z],sto⟩:=by
 intro rest
 induction rest with
 | nil =>
  intro pre i hq hi h1 h2
  have ht:i.toNat=pre.length:=by omega
  unfold zln
  simp (maxSteps:=9999999) (disch:=omega) only [vx,px,ty,↓reduceIte,seval,fx,go_lpc]
 | cons x rest ih =>
  intro pre i hq hi h1 h2
  have ht:i.toNat=pre.length:=by omega
  have ziF:=hq x (List.mem_cons_self ..)
  rw [zae] at h2
  rw [List.length_cons] at h1
  unfold zln
  simp (maxSteps:=9999999) (disch:=omega) only [vx,px,ty,↓reduceIte,seval,fx,go_lpc,ht,List.map_cons,ifT,ziF]
  have h:=ih (pre++[x]) (i + 1) (fun y hy=>hq y (List.mem_cons_of_mem _ hy)) (by simp;omega) (by simp;omega) (by omega)
  simp only [zaB] at h
  simp only [TCursor.e_eq true] at h
  try simp only [TCursor.e_eq true]
  exact h
theorem ziY (xs:List TCursor) (hq:∀ y ∈ xs,ziE y) (sto:List (List D)) (h:xs.length≤1048576) (h2:lsum TCursor.n xs≤1048576):zaa T 241 [.sl false 4 (xs.map (TCursor.e false))] sto=some (.sl true 4 (xs.map (TCursor.e true)),[],sto):=by
 have hm:xs.length≤xs.length∧xs.length≤most:=⟨Nat.le_refl _,by unfold most;omega⟩
 rw [zad T (g:=v241) rfl rfl rfl _ _ rfl]
 simp (maxSteps:=9999999) (disch:=omega) only [vx,px,ty,↓reduceIte,seval,fx,v241,zxa,go_lpc,hm,ifT]
 have hl:=fun k=>znz (enF [.tmp 2] []) sto k xs [] 0 hq rfl (by simp;omega) h2
 simp only [List.map_nil,List.nil_append] at hl
 rw [hl]
 simp (maxSteps:=9999999) (disch:=omega) only [vx,px,ty,↓reduceIte,seval,fx]
theorem ziZ:∀ x:TCursor,ziE x:=by
 refine TCursor.ind fun x ih=>?_
 intro sto h
 have zjT:=ziY x.Kids ih
 simp only [TCursor.n_eq] at h
 rw [zad T (g:=v201) rfl rfl rfl _ _ rfl]
 simp (maxSteps:=9999999) (disch:=omega) only [vx,px,ty,↓reduceIte,seval,fx,v201,zwv,zjT,zkJ]
theorem ziF (x:TCursor) (sto:List (List D)) (h:TCursor.n x≤1048576):zaa T 201 [D.agg [D.int .i64 x.Phase,D.int .i64 x.Count,D.sl false 4 (List.map (TValue.e false) x.Vals),D.sl false 4 (List.map (TCursor.e false) x.Kids)]] sto=some (D.agg [D.int .i64 x.Phase,D.int .i64 x.Count,D.sl true 4 (List.map (TValue.e false) x.Vals),D.sl true 4 (List.map (TCursor.e true) x.Kids)],[],sto):=ziZ x sto h
theorem zjT (xs:List TCursor) (sto:List (List D)) (h:xs.length≤1048576) (h2:lsum TCursor.n xs≤1048576):zaa T 241 [.sl false 4 (xs.map (TCursor.e false))] sto=some (.sl true 4 (xs.map (TCursor.e true)),[],sto):=ziY xs (fun y _=>ziZ y) sto h h2
theorem zpi (x:TCoexpr) (sto:List (List D)) (h:TCoexpr.n x≤1048576):zaa T 127 [D.agg [D.int .i64 x.Id,D.int .i64 x.Body.Kind,D.int .i64 x.Body.Num,D.str x.Body.Text,D.int .i64 x.Body.Value.Kind,D.int .i64 x.Body.Value.Num,D.str x.Body.Value.Text,D.int .i64 x.Body.Value.Ref,D.sl false 8 (List.map (TGen.e false) x.Body.Kids),D.sl false 5 (List.map (TBinding.e false) x.Start),D.sl false 5 (List.map (TBinding.e false) x.Vars),D.int .i64 x.Cursor.Phase,D.int .i64 x.Cursor.Count,D.sl false 4 (List.map (TValue.e false) x.Cursor.Vals),D.sl false 4 (List.map (TCursor.e false) x.Cursor.Kids),D.int .i64 x.Count,D.bool x.Done]] sto=some (D.agg [D.int .i64 x.Id,D.int .i64 x.Body.Kind,D.int .i64 x.Body.Num,D.str x.Body.Text,D.int .i64 x.Body.Value.Kind,D.int .i64 x.Body.Value.Num,D.str x.Body.Value.Text,D.int .i64 x.Body.Value.Ref,D.sl true 8 (List.map (TGen.e true) x.Body.Kids),D.sl true 5 (List.map (TBinding.e false) x.Start),D.sl true 5 (List.map (TBinding.e false) x.Vars),D.int .i64 x.Cursor.Phase,D.int .i64 x.Cursor.Count,D.sl true 4 (List.map (TValue.e false) x.Cursor.Vals),D.sl true 4 (List.map (TCursor.e true) x.Cursor.Kids),D.int .i64 x.Count,D.bool x.Done],[],sto):=by
 simp only [TCoexpr.n] at h
 rw [zad T (g:=v127) rfl rfl rfl _ _ rfl]
 simp (maxSteps:=9999999) (disch:=omega) only [vx,px,ty,↓reduceIte,seval,fx,v127,zvz,ziX,ziF,zlr]
theorem znA {R:Type} (e:En R) (sto:List (List D)) (k:List Fr):∀ (rest pre:List TCoexpr) (i:Int),i=pre.length→pre.length + rest.length≤1048576→lsum TCoexpr.n rest≤1048576 →
  go T e zop (.lp zuI::.bl 0::.sq (.clr [2,4,5,6,7,8,9,10,11,12,13,14,15,16,17,18,19,20,21])::k) ⟨[.d (.sl false 17 (pre.map (TCoexpr.e false)++rest.map (TCoexpr.e false))),Z,Z,.d (.sl true 17 (pre.map (TCoexpr.e true)++zdb (.agg [.int .i64 0,.int .i64 0,.int .i64 0,.str .empty,.int .i64 0,.int .i64 0,.str .empty,.int .i64 0,.sl true 8 [],.sl true 5 [],.sl true 5 [],.int .i64 0,.int .i64 0,.sl true 4 [],.sl true 4 [],.int .i64 0,.bool false]) rest.length)),.d (.int .i64 i),Z,Z,Z,Z,Z,Z,Z,Z,Z,Z,Z,Z,Z,Z,Z,Z,Z,Z],sto⟩=bk T e k ⟨[.d (.sl false 17 (pre.map (TCoexpr.e false)++rest.map (TCoexpr.e false))),Z,Z,.d (.sl true 17 (pre.map (TCoexpr.e true)++rest.map (TCoexpr.e true))),Z,Z,Z,Z,Z,Z,Z,Z,Z,Z,Z,Z,Z,Z,Z,Z,Z,Z,Z],sto⟩:=by
 intro rest
 induction rest with
 | nil =>
  intro pre i hi h1 h2
  have ht:i.toNat=pre.length:=by omega
  unfold zop
  simp (maxSteps:=9999999) (disch:=omega) only [vx,px,ty,↓reduceIte,seval,fx,go_lpc]
 | cons x rest ih =>
  intro pre i hi h1 h2
  have ht:i.toNat=pre.length:=by omega
  rw [zae] at h2
  rw [List.length_cons] at h1
  unfold zop
  simp (maxSteps:=9999999) (disch:=omega) only [vx,px,ty,↓reduceIte,seval,fx,go_lpc,ht,List.map_cons,ifT,zpi]
  have h:=ih (pre++[x]) (i + 1) (by simp;omega) (by simp;omega) (by omega)
  simp only [zaB] at h
  exact h
theorem znB (xs:List TCoexpr) (sto:List (List D)) (h:xs.length≤1048576) (h2:lsum TCoexpr.n xs≤1048576):zaa T 58 [.sl false 17 (xs.map (TCoexpr.e false))] sto=some (.sl true 17 (xs.map (TCoexpr.e true)),[],sto):=by
 have hm:xs.length≤xs.length∧xs.length≤most:=⟨Nat.le_refl _,by unfold most;omega⟩
 rw [zad T (g:=v58) rfl rfl rfl _ _ rfl]
 simp (maxSteps:=9999999) (disch:=omega) only [vx,px,ty,↓reduceIte,seval,fx,v58,zzB,go_lpc,hm,ifT]
 have hl:=fun k=>znA (enF [.tmp 2] []) sto k xs [] 0 rfl (by simp;omega) h2
 simp only [List.map_nil,List.nil_append] at hl
 rw [hl]
 simp (maxSteps:=9999999) (disch:=omega) only [vx,px,ty,↓reduceIte,seval,fx]
theorem zmt (x:TGenScope) (sto:List (List D)) (h:TGenScope.n x≤1048576):zaa T 19 [D.agg [D.sl false 5 (List.map (TBinding.e false) x.Vars),D.int .i64 x.Heap.Next,D.sl false 10 (List.map (TObject.e false) x.Heap.Objects),D.sl false 17 (List.map (TCoexpr.e false) x.Cos),D.int .i64 x.Steps]] sto=some (D.agg [D.sl true 5 (List.map (TBinding.e false) x.Vars),D.int .i64 x.Heap.Next,D.sl true 10 (List.map (TObject.e true) x.Heap.Objects),D.sl true 17 (List.map (TCoexpr.e true) x.Cos),D.int .i64 x.Steps],[],sto):=by
 simp only [TGenScope.n] at h
 rw [zad T (g:=v19) rfl rfl rfl _ _ rfl]
 simp (maxSteps:=9999999) (disch:=omega) only [vx,px,ty,↓reduceIte,seval,fx,v19,zzj,ziX,znB,ztM]
end Go.Vx.CrZ
