/-
  The laws' own functions: held.
-/
import Derived.Test.YtnaaflejkfaiaaaGreatTypes
import Derived.Test.YtnaaflejkfaiaaaGreatCode
import Derived.Test.YtnaaflejkfaiaaaGreatMark
set_option linter.unusedVariables false
set_option linter.unusedSimpArgs false
namespace Go.Vx.CpZ
set_option linter.unusedVariables false
set_option linter.unusedSimpArgs false
set_option maxRecDepth 4000
set_option maxHeartbeats 4000000
theorem zmd {R:Type} (e:En R) (sto:List (List D)) (k:List Fr):∀ (rest pre:List TValue) (i q:Int),i=pre.length→pre.length + rest.length≤34359738368→lsum TValue.n rest≤34359738368→0≤q→q + ((lsum TValue.m rest:Nat):Int)≤1099511627776 →
  go T e zkQ (.lp zqD::.bl 0::.sq (.clr [4,5,6,7,8,9,10,11,12,13,14,15,16,17,18,19,20,21,22,23,24,25,26,27,28,29,30,31,32,33,34,35,36,37,38,39,40,41,42,43,44,45,46,47,48])::k) ⟨[.d (.sl false 4 (pre.map (TValue.e false)++(mkL TValue.mk_ TValue.nx rest q).map (TValue.e false))),.d (.int .i64 q),Z,Z,Z,.d (.int .i64 i),Z,Z,Z,Z,Z,Z,Z,Z,Z,Z,Z,Z,Z,Z,Z,Z,Z,Z,Z,Z,Z,Z,Z,Z,Z,Z,Z,Z,Z,Z,Z,Z,Z,Z,Z,Z,Z,Z,Z,Z,Z,Z,Z,Z],sto⟩=bk T e k ⟨[.d (.sl false 4 (pre.map (TValue.e false)++(mkL TValue.mk_ TValue.nx rest q).map (TValue.e false))),.d (.int .i64 (zab TValue.nx rest q)),Z,Z,Z,Z,Z,Z,Z,Z,Z,Z,Z,Z,Z,Z,Z,Z,Z,Z,Z,Z,Z,Z,Z,Z,Z,Z,Z,Z,Z,Z,Z,Z,Z,Z,Z,Z,Z,Z,Z,Z,Z,Z,Z,Z,Z,Z,Z,Z],sto⟩:=by
 intro rest
 induction rest with
 | nil =>
  intro pre i q hi h1 h2 h3 h4
  have ht:i.toNat=pre.length:=by omega
  unfold zkQ
  simp (maxSteps:=9999999) (disch:=omega) only [vx,px,ty,↓reduceIte,seval,fx,go_lpc,mkL,zab]
 | cons x rest ih =>
  intro pre i q hi h1 h2 h3 h4
  have ht:i.toNat=pre.length:=by omega
  simp only [zae,TValue.m,TValue.n] at h2 h4
  rw [List.length_cons] at h1
  have hnx:=TValue.nxm x q
  have h:=ih (pre++[TValue.mk_ x q]) (i + 1) (TValue.nx x q) (by simp;omega) (by simp;omega) (by omega) (by omega) (by simp only [hnx,TValue.m];omega)
  simp only [zaD] at h
  simp only [mkL,zab,List.map_cons]
  unfold zkQ
  simp (maxSteps:=9999999) (disch:=omega) only [vx,px,ty,↓reduceIte,seval,fx,vxd,Nat.reduceBNe,go_lpc,ht,ifT,zdV,TValue.mk_]
  exact h
theorem ziK (xs:List TValue) (q:Int) (sto:List (List D)) (h:xs.length≤34359738368) (h2:lsum TValue.n xs≤34359738368) (h3:0≤q) (h4:q + ((lsum TValue.m xs:Nat):Int)≤1099511627776):zaa T 143 [.sl false 4 ((mkL TValue.mk_ TValue.nx xs q).map (TValue.e false)),.int .i64 q] sto=some (.int .i64 (zab TValue.nx xs q),[],sto):=by
 rw [zad T (g:=v143) rfl rfl rfl _ _ rfl]
 simp (maxSteps:=9999999) (disch:=omega) only [vx,px,ty,↓reduceIte,seval,fx,v143,zvf,go_lpc]
 have hl:=fun k=>zmd (enF [.tmp 4] []) sto k xs [] 0 q rfl (by simp;omega) h2 h3 h4
 simp only [List.map_nil,List.nil_append] at hl
 rw [hl]
 simp (maxSteps:=9999999) (disch:=omega) only [vx,px,ty,↓reduceIte,seval,fx]
theorem zjU {R:Type} (e:En R) (sto:List (List D)) (k:List Fr):∀ (rest pre:List TBinding) (i q:Int),i=pre.length→pre.length + rest.length≤34359738368→lsum TBinding.n rest≤34359738368→0≤q→q + ((lsum TBinding.m rest:Nat):Int)≤1099511627776 →
  go T e znY (.lp zut::.bl 0::.sq (.clr [4,5,6,7,8,9,10,11,12,13,14,15,16,17,18,19,20,21,22,23,24,25,26,27,28,29,30,31,32,33,34,35,36,37,38,39,40,41,42,43,44,45,46,47,48,49,50,51,52,53,54,55,56,57,58,59,60,61,62])::k) ⟨[.d (.sl false 5 (pre.map (TBinding.e false)++(mkL TBinding.mk_ TBinding.nx rest q).map (TBinding.e false))),.d (.int .i64 q),Z,Z,Z,.d (.int .i64 i),Z,Z,Z,Z,Z,Z,Z,Z,Z,Z,Z,Z,Z,Z,Z,Z,Z,Z,Z,Z,Z,Z,Z,Z,Z,Z,Z,Z,Z,Z,Z,Z,Z,Z,Z,Z,Z,Z,Z,Z,Z,Z,Z,Z,Z,Z,Z,Z,Z,Z,Z,Z,Z,Z,Z,Z,Z,Z],sto⟩=bk T e k ⟨[.d (.sl false 5 (pre.map (TBinding.e false)++(mkL TBinding.mk_ TBinding.nx rest q).map (TBinding.e false))),.d (.int .i64 (zab TBinding.nx rest q)),Z,Z,Z,Z,Z,Z,Z,Z,Z,Z,Z,Z,Z,Z,Z,Z,Z,Z,Z,Z,Z,Z,Z,Z,Z,Z,Z,Z,Z,Z,Z,Z,Z,Z,Z,Z,Z,Z,Z,Z,Z,Z,Z,Z,Z,Z,Z,Z,Z,Z,Z,Z,Z,Z,Z,Z,Z,Z,Z,Z,Z,Z],sto⟩:=by
 intro rest
 induction rest with
 | nil =>
  intro pre i q hi h1 h2 h3 h4
  have ht:i.toNat=pre.length:=by omega
  unfold znY
  simp (maxSteps:=9999999) (disch:=omega) only [vx,px,ty,↓reduceIte,seval,fx,go_lpc,mkL,zab]
 | cons x rest ih =>
  intro pre i q hi h1 h2 h3 h4
  have ht:i.toNat=pre.length:=by omega
  simp only [zae,TBinding.m,TBinding.n,TValue.m,TValue.n] at h2 h4
  rw [List.length_cons] at h1
  have hnx:=TBinding.nxm x q
  have h:=ih (pre++[TBinding.mk_ x q]) (i + 1) (TBinding.nx x q) (by simp;omega) (by simp;omega) (by omega) (by omega) (by simp only [hnx,TBinding.m,TValue.m,TValue.n];omega)
  simp only [zaD] at h
  simp only [mkL,zab,List.map_cons]
  unfold znY
  simp (maxSteps:=9999999) (disch:=omega) only [vx,px,ty,↓reduceIte,seval,fx,vxd,Nat.reduceBNe,go_lpc,ht,ifT,zdV,TBinding.mk_,TValue.mk_]
  exact h
theorem zjV (xs:List TBinding) (q:Int) (sto:List (List D)) (h:xs.length≤34359738368) (h2:lsum TBinding.n xs≤34359738368) (h3:0≤q) (h4:q + ((lsum TBinding.m xs:Nat):Int)≤1099511627776):zaa T 69 [.sl false 5 ((mkL TBinding.mk_ TBinding.nx xs q).map (TBinding.e false)),.int .i64 q] sto=some (.int .i64 (zab TBinding.nx xs q),[],sto):=by
 rw [zad T (g:=v69) rfl rfl rfl _ _ rfl]
 simp (maxSteps:=9999999) (disch:=omega) only [vx,px,ty,↓reduceIte,seval,fx,v69,zzd,go_lpc]
 have hl:=fun k=>zjU (enF [.tmp 4] []) sto k xs [] 0 q rfl (by simp;omega) h2 h3 h4
 simp only [List.map_nil,List.nil_append] at hl
 rw [hl]
 simp (maxSteps:=9999999) (disch:=omega) only [vx,px,ty,↓reduceIte,seval,fx]
abbrev ziq (xs:List TGen):Prop:=∀ (q:Int) (sto:List (List D)) (h:xs.length≤34359738368) (h2:lsum TGen.n xs≤34359738368) (h3:0≤q) (h4:q + ((lsum TGen.m xs:Nat):Int)≤1099511627776),zaa T 142 [.sl false 8 ((mkL TGen.mk_ TGen.nx xs q).map (TGen.e false)),.int .i64 q] sto=some (.int .i64 (zab TGen.nx xs q),[],sto)
theorem zoR {R:Type} (e:En R) (sto:List (List D)) (k:List Fr):∀ (rest pre:List TGen) (i q:Int),(∀ y ∈ rest,ziq y.Kids)→i=pre.length→pre.length + rest.length≤34359738368→lsum TGen.n rest≤34359738368→0≤q→q + ((lsum TGen.m rest:Nat):Int)≤1099511627776 →
  go T e zkP (.lp zqC::.bl 0::.sq (.clr [4,5,6,7,8,9,10,11,12,13,14,15,16,17,18,19,20,21,22,23,24,25,26,27,28,29,30,31,32,33,34,35,36,37,38,39,40,41,42,43,44,45,46,47,48,49,50,51,52,53,54,55,56,57,58,59,60,61,62,63,64,65,66,67,68,69,70,71,72,73,74,75,76,77,78,79,80,81,82,83,84,85,86,87,88,89])::k) ⟨[.d (.sl false 8 (pre.map (TGen.e false)++(mkL TGen.mk_ TGen.nx rest q).map (TGen.e false))),.d (.int .i64 q),Z,Z,Z,.d (.int .i64 i),Z,Z,Z,Z,Z,Z,Z,Z,Z,Z,Z,Z,Z,Z,Z,Z,Z,Z,Z,Z,Z,Z,Z,Z,Z,Z,Z,Z,Z,Z,Z,Z,Z,Z,Z,Z,Z,Z,Z,Z,Z,Z,Z,Z,Z,Z,Z,Z,Z,Z,Z,Z,Z,Z,Z,Z,Z,Z,Z,Z,Z,Z,Z,Z,Z,Z,Z,Z,Z,Z,Z,Z,Z,Z,Z,Z,Z,Z,Z,Z,Z,Z,Z,Z,Z],sto⟩=bk T e k ⟨[.d (.sl false 8 (pre.map (TGen.e false)++(mkL TGen.mk_ TGen.nx rest q).map (TGen.e false))),.d (.int .i64 (zab TGen.nx rest q)),Z,Z,Z,Z,Z,Z,Z,Z,Z,Z,Z,Z,Z,Z,Z,Z,Z,Z,Z,Z,Z,Z,Z,Z,Z,Z,Z,Z,Z,Z,Z,Z,Z,Z,Z,Z,Z,Z,Z,Z,Z,Z,Z,Z,Z,Z,Z,Z,Z,Z,Z,Z,Z,Z,Z,Z,Z,Z,Z,Z,Z,Z,Z,Z,Z,Z,Z,Z,Z,Z,Z,Z,Z,Z,Z,Z,Z,Z,Z,Z,Z,Z,Z,Z,Z,Z,Z,Z,Z],sto⟩:=by
 intro rest
 induction rest with
 | nil =>
  intro pre i q hq hi h1 h2 h3 h4
  have ht:i.toNat=pre.length:=by omega
  unfold zkP
  simp (maxSteps:=9999999) (disch:=omega) only [vx,px,ty,↓reduceIte,seval,fx,go_lpc,mkL,zab]
 | cons x rest ih =>
  intro pre i q hq hi h1 h2 h3 h4
  have ht:i.toNat=pre.length:=by omega
  have zir:=hq x (List.mem_cons_self ..)
  simp only [zae,TGen.m_eq,TGen.n_eq,TValue.m,TValue.n] at h2 h4
  rw [List.length_cons] at h1
  have hf0:=zak TGen.nxm x.Kids (q + 1 + 1 + 1 + 1 + 1 + 1 + 1)
  have hnx:=TGen.nxm x q
  have h:=ih (pre++[TGen.mk_ x q]) (i + 1) (TGen.nx x q) (fun y hy=>hq y (List.mem_cons_of_mem _ hy)) (by simp;omega) (by simp;omega) (by omega) (by omega) (by simp only [hnx,TGen.m_eq,TValue.m,TValue.n];omega)
  simp only [zaD] at h
  simp only [TGen.mk_eq,TGen.nx_eq] at h
  simp only [mkL,zab,List.map_cons]
  unfold zkP
  simp (maxSteps:=9999999) (disch:=omega) only [vx,px,ty,↓reduceIte,seval,fx,vxd,Nat.reduceBNe,go_lpc,ht,ifT,zir,zdV,TGen.mk_eq,TValue.mk_]
  try simp only [TGen.mk_eq,TGen.nx_eq]
  exact h
theorem zjD (xs:List TGen) (hq:∀ y ∈ xs,ziq y.Kids) (q:Int) (sto:List (List D)) (h:xs.length≤34359738368) (h2:lsum TGen.n xs≤34359738368) (h3:0≤q) (h4:q + ((lsum TGen.m xs:Nat):Int)≤1099511627776):zaa T 142 [.sl false 8 ((mkL TGen.mk_ TGen.nx xs q).map (TGen.e false)),.int .i64 q] sto=some (.int .i64 (zab TGen.nx xs q),[],sto):=by
 rw [zad T (g:=v142) rfl rfl rfl _ _ rfl]
 simp (maxSteps:=9999999) (disch:=omega) only [vx,px,ty,↓reduceIte,seval,fx,v142,zve,go_lpc]
 have hl:=fun k=>zoR (enF [.tmp 4] []) sto k xs [] 0 q hq rfl (by simp;omega) h2 h3 h4
 simp only [List.map_nil,List.nil_append] at hl
 rw [hl]
 simp (maxSteps:=9999999) (disch:=omega) only [vx,px,ty,↓reduceIte,seval,fx]
theorem zme:∀ x:TGen,ziq x.Kids:=TGen.ind fun x ih=>by
 intro q sto h h2 h3 h4
 exact zjD x.Kids ih q sto h h2 h3 h4
theorem zir (xs:List TGen) (q:Int) (sto:List (List D)) (h:xs.length≤34359738368) (h2:lsum TGen.n xs≤34359738368) (h3:0≤q) (h4:q + ((lsum TGen.m xs:Nat):Int)≤1099511627776):zaa T 142 [.sl false 8 ((mkL TGen.mk_ TGen.nx xs q).map (TGen.e false)),.int .i64 q] sto=some (.int .i64 (zab TGen.nx xs q),[],sto):=zjD xs (fun y _=>zme y) q sto h h2 h3 h4
theorem zsi (x:TGen) (q:Int) (sto:List (List D)) (h:TGen.n x≤34359738368) (h3:0≤q) (h4:q + ((lsum TGen.m x.Kids:Nat):Int)≤1099511627776):zaa T 68 [D.agg [D.int .i64 x.Kind,D.int .i64 x.Num,D.str x.Text,D.int .i64 x.Value.Kind,D.int .i64 x.Value.Num,D.str x.Value.Text,D.int .i64 x.Value.Ref,D.sl false 8 (List.map (TGen.e false) (mkL TGen.mk_ TGen.nx x.Kids (q)))],.int .i64 q] sto=some (.int .i64 (zab TGen.nx x.Kids (q)),[],sto):=by
 simp only [TGen.n_eq] at h
 have hfKidsx:=zak TGen.nxm x.Kids (q)
 rw [zad T (g:=v68) rfl rfl rfl _ _ rfl]
 simp (maxSteps:=9999999) (disch:=omega) only [vx,px,ty,↓reduceIte,seval,fx,v68,zzc,zir]
abbrev zgv (xs:List TCursor):Prop:=∀ (q:Int) (sto:List (List D)) (h:xs.length≤34359738368) (h2:lsum TCursor.n xs≤34359738368) (h3:0≤q) (h4:q + ((lsum TCursor.m xs:Nat):Int)≤1099511627776),zaa T 144 [.sl false 4 ((mkL TCursor.mk_ TCursor.nx xs q).map (TCursor.e false)),.int .i64 q] sto=some (.int .i64 (zab TCursor.nx xs q),[],sto)
theorem zlf {R:Type} (e:En R) (sto:List (List D)) (k:List Fr):∀ (rest pre:List TCursor) (i q:Int),(∀ y ∈ rest,zgv y.Kids)→i=pre.length→pre.length + rest.length≤34359738368→lsum TCursor.n rest≤34359738368→0≤q→q + ((lsum TCursor.m rest:Nat):Int)≤1099511627776 →
  go T e zkR (.lp zqE::.bl 0::.sq (.clr [4,5,6,7,8,9,10,11,12,13,14,15,16,17,18,19,20,21,22,23,24,25,26,27,28,29,30,31,32,33,34,35,36,37,38,39,40,41,42,43,44,45,46,47])::k) ⟨[.d (.sl false 4 (pre.map (TCursor.e false)++(mkL TCursor.mk_ TCursor.nx rest q).map (TCursor.e false))),.d (.int .i64 q),Z,Z,Z,.d (.int .i64 i),Z,Z,Z,Z,Z,Z,Z,Z,Z,Z,Z,Z,Z,Z,Z,Z,Z,Z,Z,Z,Z,Z,Z,Z,Z,Z,Z,Z,Z,Z,Z,Z,Z,Z,Z,Z,Z,Z,Z,Z,Z,Z,Z],sto⟩=bk T e k ⟨[.d (.sl false 4 (pre.map (TCursor.e false)++(mkL TCursor.mk_ TCursor.nx rest q).map (TCursor.e false))),.d (.int .i64 (zab TCursor.nx rest q)),Z,Z,Z,Z,Z,Z,Z,Z,Z,Z,Z,Z,Z,Z,Z,Z,Z,Z,Z,Z,Z,Z,Z,Z,Z,Z,Z,Z,Z,Z,Z,Z,Z,Z,Z,Z,Z,Z,Z,Z,Z,Z,Z,Z,Z,Z,Z],sto⟩:=by
 intro rest
 induction rest with
 | nil =>
  intro pre i q hq hi h1 h2 h3 h4
  have ht:i.toNat=pre.length:=by omega
  unfold zkR
  simp (maxSteps:=9999999) (disch:=omega) only [vx,px,ty,↓reduceIte,seval,fx,go_lpc,mkL,zab]
 | cons x rest ih =>
  intro pre i q hq hi h1 h2 h3 h4
  have ht:i.toNat=pre.length:=by omega
  have zgw:=hq x (List.mem_cons_self ..)
  simp only [zae,TCursor.m_eq,TCursor.n_eq] at h2 h4
  rw [List.length_cons] at h1
  have hf0:=zak TValue.nxm x.Vals (q + 1 + 1)
  have hf1:=zak TCursor.nxm x.Kids (zab TValue.nx x.Vals (q + 1 + 1))
  have hnx:=TCursor.nxm x q
  have h:=ih (pre++[TCursor.mk_ x q]) (i + 1) (TCursor.nx x q) (fun y hy=>hq y (List.mem_cons_of_mem _ hy)) (by simp;omega) (by simp;omega) (by omega) (by omega) (by simp only [hnx,TCursor.m_eq];omega)
  simp only [zaD] at h
  simp only [TCursor.mk_eq,TCursor.nx_eq] at h
  simp only [mkL,zab,List.map_cons]
  unfold zkR
  simp (maxSteps:=9999999) (disch:=omega) only [vx,px,ty,↓reduceIte,seval,fx,vxd,Nat.reduceBNe,go_lpc,ht,ifT,zgw,ziK,TCursor.mk_eq]
  try simp only [TCursor.mk_eq,TCursor.nx_eq]
  exact h
theorem zhq (xs:List TCursor) (hq:∀ y ∈ xs,zgv y.Kids) (q:Int) (sto:List (List D)) (h:xs.length≤34359738368) (h2:lsum TCursor.n xs≤34359738368) (h3:0≤q) (h4:q + ((lsum TCursor.m xs:Nat):Int)≤1099511627776):zaa T 144 [.sl false 4 ((mkL TCursor.mk_ TCursor.nx xs q).map (TCursor.e false)),.int .i64 q] sto=some (.int .i64 (zab TCursor.nx xs q),[],sto):=by
 rw [zad T (g:=v144) rfl rfl rfl _ _ rfl]
 simp (maxSteps:=9999999) (disch:=omega) only [vx,px,ty,↓reduceIte,seval,fx,v144,zvg,go_lpc]
 have hl:=fun k=>zlf (enF [.tmp 4] []) sto k xs [] 0 q hq rfl (by simp;omega) h2 h3 h4
 simp only [List.map_nil,List.nil_append] at hl
 rw [hl]
 simp (maxSteps:=9999999) (disch:=omega) only [vx,px,ty,↓reduceIte,seval,fx]
theorem zjE:∀ x:TCursor,zgv x.Kids:=TCursor.ind fun x ih=>by
 intro q sto h h2 h3 h4
 exact zhq x.Kids ih q sto h h2 h3 h4
theorem zgw (xs:List TCursor) (q:Int) (sto:List (List D)) (h:xs.length≤34359738368) (h2:lsum TCursor.n xs≤34359738368) (h3:0≤q) (h4:q + ((lsum TCursor.m xs:Nat):Int)≤1099511627776):zaa T 144 [.sl false 4 ((mkL TCursor.mk_ TCursor.nx xs q).map (TCursor.e false)),.int .i64 q] sto=some (.int .i64 (zab TCursor.nx xs q),[],sto):=zhq xs (fun y _=>zjE y) q sto h h2 h3 h4
theorem zmf (x:TCursor) (q:Int) (sto:List (List D)) (h:TCursor.n x≤34359738368) (h3:0≤q) (h4:q + ((lsum TValue.m x.Vals + lsum TCursor.m x.Kids:Nat):Int)≤1099511627776):zaa T 70 [D.agg [D.int .i64 x.Phase,D.int .i64 x.Count,D.sl false 4 (List.map (TValue.e false) (mkL TValue.mk_ TValue.nx x.Vals (q))),D.sl false 4 (List.map (TCursor.e false) (mkL TCursor.mk_ TCursor.nx x.Kids (zab TValue.nx x.Vals (q))))],.int .i64 q] sto=some (.int .i64 (zab TCursor.nx x.Kids (zab TValue.nx x.Vals (q))),[],sto):=by
 simp only [TCursor.n_eq] at h
 have hfValsx:=zak TValue.nxm x.Vals (q)
 have hfKidsx:=zak TCursor.nxm x.Kids (zab TValue.nx x.Vals (q))
 rw [zad T (g:=v70) rfl rfl rfl _ _ rfl]
 simp (maxSteps:=9999999) (disch:=omega) only [vx,px,ty,↓reduceIte,seval,fx,v70,zze,zgw,ziK]
theorem zmg (x:TCoexpr) (q:Int) (sto:List (List D)) (h:TCoexpr.n x≤34359738368) (h3:0≤q) (h4:q + ((lsum TGen.m x.Body.Kids + lsum TBinding.m x.Start + lsum TBinding.m x.Vars + lsum TValue.m x.Cursor.Vals + lsum TCursor.m x.Cursor.Kids:Nat):Int)≤1099511627776):zaa T 25 [D.agg [D.int .i64 x.Id,D.int .i64 x.Body.Kind,D.int .i64 x.Body.Num,D.str x.Body.Text,D.int .i64 x.Body.Value.Kind,D.int .i64 x.Body.Value.Num,D.str x.Body.Value.Text,D.int .i64 x.Body.Value.Ref,D.sl false 8 (List.map (TGen.e false) (mkL TGen.mk_ TGen.nx x.Body.Kids (q))),D.sl false 5 (List.map (TBinding.e false) (mkL TBinding.mk_ TBinding.nx x.Start (zab TGen.nx x.Body.Kids (q)))),D.sl false 5 (List.map (TBinding.e false) (mkL TBinding.mk_ TBinding.nx x.Vars (zab TBinding.nx x.Start (zab TGen.nx x.Body.Kids (q))))),D.int .i64 x.Cursor.Phase,D.int .i64 x.Cursor.Count,D.sl false 4 (List.map (TValue.e false) (mkL TValue.mk_ TValue.nx x.Cursor.Vals (zab TBinding.nx x.Vars (zab TBinding.nx x.Start (zab TGen.nx x.Body.Kids (q)))))),D.sl false 4 (List.map (TCursor.e false) (mkL TCursor.mk_ TCursor.nx x.Cursor.Kids (zab TValue.nx x.Cursor.Vals (zab TBinding.nx x.Vars (zab TBinding.nx x.Start (zab TGen.nx x.Body.Kids (q))))))),D.int .i64 x.Count,D.bool x.Done],.int .i64 q] sto=some (.int .i64 (zab TCursor.nx x.Cursor.Kids (zab TValue.nx x.Cursor.Vals (zab TBinding.nx x.Vars (zab TBinding.nx x.Start (zab TGen.nx x.Body.Kids (q)))))),[],sto):=by
 simp only [TCoexpr.n] at h
 have hfKidsx_Body:=zak TGen.nxm x.Body.Kids (q)
 have hfStartx:=zak TBinding.nxm x.Start (zab TGen.nx x.Body.Kids (q))
 have hfVarsx:=zak TBinding.nxm x.Vars (zab TBinding.nx x.Start (zab TGen.nx x.Body.Kids (q)))
 have hfValsx_Cursor:=zak TValue.nxm x.Cursor.Vals (zab TBinding.nx x.Vars (zab TBinding.nx x.Start (zab TGen.nx x.Body.Kids (q))))
 have hfKidsx_Cursor:=zak TCursor.nxm x.Cursor.Kids (zab TValue.nx x.Cursor.Vals (zab TBinding.nx x.Vars (zab TBinding.nx x.Start (zab TGen.nx x.Body.Kids (q)))))
 rw [zad T (g:=v25) rfl rfl rfl _ _ rfl]
 simp (maxSteps:=9999999) (disch:=omega) only [vx,px,ty,↓reduceIte,seval,fx,v25,zyG,zjV,zmf,zsi]
end Go.Vx.CpZ
