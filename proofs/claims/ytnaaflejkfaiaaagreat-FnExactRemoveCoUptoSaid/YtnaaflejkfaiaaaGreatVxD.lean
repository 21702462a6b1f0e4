/-
  An evaluator for the model's code on values, and the proof that what it tells of a call the program does; part 4.
-/
import Derived.Test.YtnaaflejkfaiaaaGreatVxC
import GoSem.ClaimChange
import Derived.ChangeArms
import Derived.Below
import Derived.Test.YtnaaflejkfaiaaaGreatVxA
import Derived.Laws.Strings
import Derived.OpenShut
import Derived.WideShapes
set_option linter.unusedVariables false
set_option linter.unusedSimpArgs false
namespace Go.Vx
theorem All2.at {α β:Type} {R:α->β->Prop}:∀ {l:List α} {r:List β},All2 R l r->∀ (i:Nat) (x:α),l[i]? = some x->∃ y,r[i]? = some y∧R x y
 | _,_,.nil,i,x,h=>by simp at h
 | _,_,.cons h t,i,x,hx=>by
  cases i with
  | zero=>simp only [List.getElem?_cons_zero,Option.some.injEq] at hx;subst hx;exact ⟨_,rfl,h⟩
  | succ i=>exact All2.at t i x (by simpa using hx)
section
variable {P:Program} {E:Env} [TE:TabEnv P E]
theorem zzR {mo:Nat->List M} {hh:H} (hok:HOK P mo hh) {ops:Array Oper} {l:List Vx.I} {fs:List FPt} (hl:All2 (fun o i=>zjL P mo ops o=some i) ops.toList l) (hb:zho ops=true)
  (hp:∀ o ∈ ops.toList,∀ t,o.dst=some t->∀ v,(t,v) ∉ E.pin) (hall:(zqk l (zjM ops)).all (zfS fs)=true) {s':St} {Q:Exit->Act->World->Prop}
  (hQ:∀ a' w' I' ι' Fs' Gs',Sim E [] a' w' s' I' ι' Fs' Gs'->Q .normal a' w') :
  ∀ (fuel:Nat) (listed:Array Bool) (rem:List Nat) {a:Act} {w:World} {s:St} {I:Nat->Prop} {ι:List Nat} {Fs Gs:List (List Nat)},rem.length=fuel->rem.Pairwise (· < ·)->listed.size=ops.size->(∀ i,i ∈ rem ↔ i<ops.size∧listed.getD i true=false)->Down ops listed ->
   zdB hh (rem.map fun i=>l.getD i .no) s=some (s',rem.map fun i=>fs.getD i none)->Sim E [] a w s I ι Fs Gs->wpAny P .any ops Q fuel listed a w:=by
 intro fuel
 induction fuel with
 | zero =>
  intro listed rem a w s I ι Fs Gs hlen hpw hsz hrem hdown hv h
  obtain rfl:rem=[]:=List.eq_nil_of_length_eq_zero hlen
  simp only [List.map_nil,zdB,Option.some.injEq,Prod.mk.injEq,and_true] at hv
  subst hv
  refine ⟨?_,hQ a w I ι Fs Gs h⟩
  refine List.eq_nil_iff_forall_not_mem.2 fun i hi=>?_
  obtain ⟨h1,o,ho,_⟩:=mem_ready.1 hi
  have:=(hrem i).2 ⟨(Array.getElem?_eq_some_iff.1 ho).1,h1⟩
  cases this
 | succ fuel ih =>
  intro listed rem a w s I ι Fs Gs hlen hpw hsz hrem hdown hv h
  refine ⟨fun hnil=>?_,fun i hi=>?_⟩
  ·exfalso
   cases rem with
   | nil=>simp at hlen
   | cons r rem =>
    obtain ⟨hr1,hr2⟩:=(hrem r).1 (List.mem_cons_self ..)
    have hr:r ∈ Region.ready .any ops listed:=by
     refine mem_ready.2 ⟨hr2,ops[r],Array.getElem?_eq_getElem hr1,fun e he hbd=>?_⟩
     have hlt:e.on<r:=by
      have:=List.all_eq_true.1 hb r (List.mem_range.2 hr1)
      simp only [Array.getElem?_eq_getElem hr1] at this
      have:=Array.all_eq_true_iff_forall_mem.1 this e he
      simpa [hbd] using this
     have hnot:¬ (e.on<ops.size∧listed.getD e.on true=false):=by
      intro hc
      have:=(hrem e.on).2 hc
      rcases List.mem_cons.1 this with e1|e1
      ·omega
      ·have:=(List.pairwise_cons.1 hpw).1 _ e1;omega
     have hlt2:e.on<listed.size:=by omega
     have:listed.getD e.on true ≠ false:=fun hc=>hnot ⟨by omega,hc⟩
     simp only [Array.getD_eq_getD_getElem?,Array.getElem?_eq_getElem hlt2,Option.getD_some] at this ⊢
     simpa using this
    rw [hnil] at hr
    cases hr
  ·obtain ⟨h1,o,ho,_⟩:=mem_ready.1 hi
   have hilt:=(Array.getElem?_eq_some_iff.1 ho).1
   have hir:=(hrem i).2 ⟨hilt,h1⟩
   obtain ⟨pre,post,rfl⟩:=List.append_of_mem hir
   obtain ⟨pw1,pw2,pw3⟩:=List.pairwise_append.1 hpw
   have hpre:∀ j ∈ pre,j<i:=fun j hj=>pw3 j hj i (List.mem_cons_self ..)
   have hap:∀ (n:Nat) f ij,(pre.map (fun i=>fs.getD i none))[n]? = some f->(pre.map fun i=>l.getD i .no)[n]? = some ij->zjI f (fs.getD i none)=true ∨ ziz ij (l.getD i .no)=true:=by
    intro n f ij hf hij
    rw [List.getElem?_map] at hf hij
    obtain ⟨j,hj,rfl⟩:=Option.map_eq_some_iff.1 hf
    rw [hj,Option.map_some,Option.some.injEq] at hij
    subst hij
    have hj:=List.mem_of_getElem? hj
    have hjr:=(hrem j).1 (mAL _ hj)
    have hbit:((Region.before ops).getD i 0).testBit j=false:=by
     cases hc:((Region.before ops).getD i 0).testBit j with
     | false=>rfl
     | true =>
      have:=zkV hb hdown hi j hc
      have hj2:=hjr.2
      have hjl:j<listed.size:=by omega
      simp only [Array.getD_eq_getD_getElem?,Array.getElem?_eq_getElem hjl,Option.getD_some] at this hj2
      rw [this] at hj2;cases hj2
    cases hxp:ziz (l.getD j .no) (l.getD i .no) with
    | true=>exact .inr rfl
    | false =>
     have:=List.all_eq_true.1 hall (j,i) (List.mem_filter.2 ⟨zqR hilt (hpre j hj) hbit,by simp only [hxp];rfl⟩)
     unfold zfS at this
     simp only at this
     split at this
     ·rename_i fa fb e1 e2
      left
      simp only [List.getD,e1,e2,Option.getD_some]
      exact this
     ·cases this
   simp only [List.map_append,List.map_cons] at hv
   obtain ⟨s1,g1,_,g3⟩:=zvj hv (by simp) hap
   obtain ⟨ii,hii,hc⟩:=hl.at i o (by simpa using ho)
   have hli:l.getD i .no=ii:=by simp [List.getD,hii]
   rw [hli] at g1
   unfold wpOp
   simp only [ho]
   refine zzP hok hc h (hp o (by simpa using Array.mem_toList_iff.2 (Array.mem_of_getElem? ho))) g1 ?_
   intro a' w' I' ι' Fs' Gs' hsim
   have hnot:i ∉ pre++post:=by
    intro hm
    rcases List.mem_append.1 hm with hm|hm
    ·have:=hpre i hm;omega
    ·have:=(List.pairwise_cons.1 pw2).1 i hm;omega
   refine ih (listed.setIfInBounds i true) (pre++post) (by simp at hlen ⊢;omega) ?_ (by simpa using hsz) ?_ (hdown.set hb hi) (by simpa using g3) hsim
   ·exact hpw.sublist (by simp)
   ·intro k
    by_cases hki:i=k
    ·subst hki
     refine ⟨fun hm=>absurd hm hnot,fun hm=>?_⟩
     have hil:i<listed.size:=by omega
     have:=hm.2
     simp [hil] at this
    ·rw [getD_set_ne true hki,<- hrem k]
     simp only [List.mem_append,List.mem_cons]
     constructor
     ·exact fun hm=>hm.imp id .inr
     ·exact fun hm=>hm.imp id (fun hm=>hm.resolve_left (fun e=>hki e.symm))
theorem zzS {mo:Nat->List M} (hm:P.follows .mixedOrders=true):zkN P mo:=by
 intro hh hok E _ ops l id hl hb hp a w s I ι Fs Gs h q hq hall Q hQ
 have hl2:=zbR hl
 have hlen:l.length=ops.size:=by have:=hl2.length;simpa using this.symm
 have hfl:∀ {l:List Vx.I} {s:St} {q:St × List FPt},zdB hh l s=some q->q.2.length=l.length:=by
  intro l
  induction l with
  | nil=>intro s q h;cases h;rfl
  | cons i l ih =>
   intro s q h
   simp only [zdB] at h
   split at h
   ·obtain ⟨q',h1,rfl⟩:=Option.map_eq_some_iff.1 h
    simp [ih h1]
   ·cases h
 have hgetD:∀ {α:Type} (x:List α) (d:α) (n:Nat),x.length=n->(List.range n).map (fun i=>x.getD i d)=x:=by
  intro α x d n hn
  apply List.ext_getElem?
  intro i
  rw [List.getElem?_map]
  by_cases hi:i<n
  ·rw [List.getElem?_range hi,Option.map_some]
   exact (zaQ d (by omega)).symm
  ·rw [List.getElem?_eq_none_iff.2 (by simpa using hi),List.getElem?_eq_none_iff.2 (by omega)]
   rfl
 refine wp_region_any hm ?_
 have hsim:Sim E [] a { w with drawn:=w.drawn + 1 } s I ι Fs Gs:=by
  refine h.world (w2:={ w with drawn:=w.drawn + 1 }) (hand2:=[]) (I2:=I) ⟨rfl,rfl,rfl,Nat.le_refl _,fun _ _ _=>rfl⟩ (fun _ h=>h) (fun _ h=>.inl h) List.nodup_nil (fun _ hb=>by cases hb)
 refine zzR hok hl2 hb hp hall hQ ops.size (Array.replicate ops.size false) (List.range ops.size) (by simp) List.pairwise_lt_range (by simp) ?_ ?_ ?_ hsim
 ·intro i
  rw [List.mem_range]
  constructor
  ·intro hi
   refine ⟨hi,?_⟩
   simp [hi]
  ·exact fun h=>h.1
 ·intro i hi j hj
  by_cases hlt:i<ops.size
  ·simp [hlt] at hi
  ·simp [hlt] at hi
 ·rw [hgetD l .no ops.size hlen,hgetD q.2 none ops.size ((hfl hq).trans hlen)]
  exact hq
end
end Go.Vx
namespace Go.Vx
inductive Ty where
 | int (k:IntKind)
 | bool
 | str
 | sl (e:Ty) (z:Nat)
 | st (ts:List Ty)
 | ex (i z:Nat)
 deriving Inhabited
mutual
def Ty.size:Ty->Nat
 | .st ts=>Ty.sizeL ts
 | .ex _ z=>z
 | _=>1
def Ty.sizeL:List Ty->Nat
 | []=>0
 | t::r=>t.size + Ty.sizeL r
end
def tyF (rec:TypeId->Option Ty) (P:Program):Nat->List Field->Option (List Ty)
 | _,[]=>some []
 | off,f::fs =>
  match rec f.type,zcd P f.type with
  | some t,some n=>if f.offset=off∧n=t.size then (tyF rec P (off + n) fs).map (t :: ·) else none
  | _,_=>none
def tyOf (P:Program) (ext:TypeId->Option Nat):Nat->TypeId->Option Ty
 | 0,_=>none
 | d + 1,t =>
  match ext t with
  | some i=>(zcd P t).map (.ex i)
  | none =>
  match P.underlying t with
  | some (.int k)=>some (.int k)
  | some .bool=>some .bool
  | some .string=>some .str
  | some (.slice e) =>
   match tyOf P ext d e,zcd P e with
   | some u,some n=>if n=u.size∧0<n then some (.sl u n) else none
   | _,_=>none
  | some (.struct fs) =>
   match tyF (tyOf P ext d) P 0 fs.toList with
   | some ts=>if zcd P t=some (Ty.sizeL ts) then some (.st ts) else none
   | none=>none
  | _=>none
def zce:Ty->List D->D
 | .st _,cs=>.agg cs
 | .ex _ _,cs=>.agg cs
 | _,cs=>cs.headD .dead
mutual
def zbq (Ex:Nat->List D->Prop):Ty->List D->Prop
 | .int k,ds=>∃ n,ds=[.int k n]∧(Lit.int k n).wf=true
 | .bool,ds=>∃ b,ds=[.bool b]
 | .str,ds=>∃ s,ds=[.str s]
 | .sl e z,ds=>∃ xs,ds=[.sl false z xs]∧∀ x ∈ xs,∃ cs,x=zce e cs∧zbq Ex e cs
 | .ex i _,ds=>Ex i ds
 | .st ts,ds=>zfN Ex ts ds
def zfN (Ex:Nat->List D->Prop):List Ty->List D->Prop
 | [],ds=>ds=[]
 | t::ts,ds=>∃ a b,ds=a++b∧zbq Ex t a∧zfN Ex ts b
end
mutual
def D.bulk:D->Nat
 | .str s=>s.size + 1
 | .sl _ _ xs=>zbp xs + 1
 | .agg cs=>zbp cs + 1
 | _=>1
def zbp:List D->Nat
 | []=>0
 | d::r=>d.bulk + zbp r
end
structure UB {H:Type} (ub:DataW H->Nat):Prop where
 lit:∀ l,1<=ub (.lit l)
 str:∀ b,b.length + 1<=ub (.lit (.string b))
 nil:1<=ub .nil
 slice:∀ es sp,(es.map ub).sum + 1<=ub (.slice es sp)
 agg:∀ ps,(ps.map ub).sum + 1<=ub (.agg ps)
def zgx:Ty->List D->Nat
 | .st _,ds=>zbp ds + 1
 | .ex _ _,ds=>zbp ds + 1
 | _,ds=>zbp ds
theorem zbS (a b:List D):zbp (a++b)=zbp a + zbp b:=by
 induction a with
 | nil=>simp [zbp]
 | cons x r ih=>simp [zbp,ih];omega
theorem znx {Ex:Nat->List D->Prop} {T:Ty} {ds:List D} (h:zbq Ex T ds):(zce T ds).cells=ds:=by
 cases T with
 | int k=>simp only [zbq] at h;obtain ⟨n,rfl,_⟩:=h;rfl
 | bool=>simp only [zbq] at h;obtain ⟨n,rfl⟩:=h;rfl
 | str=>simp only [zbq] at h;obtain ⟨n,rfl⟩:=h;rfl
 | sl e z=>simp only [zbq] at h;obtain ⟨n,rfl,_⟩:=h;rfl
 | st ts=>rfl
 | ex i z=>rfl
theorem zpD {Ex:Nat->List D->Prop} {T:Ty} {ds:List D} (h:zbq Ex T ds):(zce T ds).bulk=zgx T ds:=by
 cases T with
 | int k=>simp only [zbq] at h;obtain ⟨n,rfl,_⟩:=h;rfl
 | bool=>simp only [zbq] at h;obtain ⟨n,rfl⟩:=h;rfl
 | str=>simp only [zbq] at h;obtain ⟨n,rfl⟩:=h;simp [zce,zgx,zbp,D.bulk]
 | sl e z=>simp only [zbq] at h;obtain ⟨n,rfl,_⟩:=h;simp [zce,zgx,zbp,D.bulk]
 | st ts=>rfl
 | ex i z=>rfl
theorem cells?_some {w:World} {a:Addr} {n:Nat} {cs:List Value} (h:w.cells? 0 a n=some cs):cs.length=n∧∀ j,j<n->w.cell? (a.add j)=cs[j]? := by
 unfold World.cells? at h
 rw [if_pos (Nat.zero_le _)] at h
 have h2:=zbR h
 have hl:=h2.length
 simp only [List.length_range] at hl
 refine ⟨hl.symm,fun j hj=>?_⟩
 obtain ⟨y,hy,e⟩:=h2.at j j (by rw [List.getElem?_range hj])
 rw [e,hy]
def Old (w:World) (b:Nat):Prop:=b<w.heap.size
end Go.Vx
namespace Go.Vx
section
variable {H:Type} {enc:TypeId × Value->H} {P:Program} {w:World} {spare:Nat->Bool} {held:Bool}
theorem zup (a:Addr) (m j:Nat):(a.add m).add j=a.add (m + j):=by
 by_cases hm:m=0
 ·subst hm;simp [Addr.add]
 ·by_cases hj:j=0
  ·subst hj;simp [Addr.add,hm]
  ·simp [Addr.add,hm,hj,Nat.add_assoc]
theorem zfl {t:TypeId} {n:Nat} (h:zcd P t=some n):P.cellsOf t=n:=by
 unfold zcd at h
 unfold Program.cellsOf
 rw [h];rfl
theorem zhX {Ex:Nat->List D->Prop} {n:Nat} {rec:TypeId->Option Ty} {ub:DataW H->Nat} (hub:UB ub)
  (IH:∀ (t:TypeId) (T:Ty) (cs:List Value) (x:DataW H × List MemPlace),rec t=some T->DataW.trod enc P w 0 spare held n t cs=some x ->
   ∃ ds,RepL w (Old w) [] cs ds []∧ones cs∧zbq Ex T ds∧cs.length=T.size∧zgx T ds<=ub x.1) :
  ∀ (fs:List Field) (off:Nat) (ts:List Ty) (cs:List Value) (xs:List (DataW H × List MemPlace)),tyF rec P off fs=some ts->xs.length=fs.length ->
   (∀ (i:Nat) (f:Field),fs[i]? = some f->DataW.trod enc P w 0 spare held n f.type ((cs.drop f.offset).take (P.cellsOf f.type))=xs[i]?) ->
   off + Ty.sizeL ts=cs.length ->
   ∃ ds,RepL w (Old w) [] (cs.drop off) ds []∧ones (cs.drop off)∧zfN Ex ts ds∧zbp ds<=(xs.map fun x=>ub x.1).sum
 | [],off,ts,cs,xs,ht,hl,hx,hs=>by
  simp only [tyF,Option.some.injEq] at ht
  subst ht
  simp only [Ty.sizeL,Nat.add_zero] at hs
  have:cs.drop off=[]:=by rw [hs];simp
  rw [this]
  exact ⟨[],.nil _,fun _ h=>(by cases h),rfl,by simp [zbp]⟩
 | f::fs,off,ts,cs,xs,ht,hl,hx,hs=>by
  simp only [tyF] at ht
  split at ht
  ·rename_i t m h1 h2
   split at ht
   ·rename_i hcond
    obtain ⟨hoff,hm⟩:=hcond
    obtain ⟨ts',h3,rfl⟩:=Option.map_eq_some_iff.1 ht
    cases xs with
    | nil=>simp at hl
    | cons x xs =>
     have hx0:=hx 0 f rfl
     rw [zfl h2,hoff] at hx0
     simp only [List.getElem?_cons_zero] at hx0
     obtain ⟨d1,g1,g2,g3,g4,g5⟩:=IH _ _ _ _ h1 hx0
     simp only [Ty.sizeL] at hs
     obtain ⟨d2,k1,k2,k3,k4⟩:=zhX hub IH fs (off + m) ts' cs xs h3 (by simpa using hl) (fun i g hg=>hx (i + 1) g hg) (by omega)
     have e:cs.drop off=(cs.drop off).take m++cs.drop (off + m):=by
      rw [<- List.drop_drop,List.take_append_drop]
     refine ⟨d1++d2,?_,?_,⟨d1,d2,rfl,g3,k3⟩,?_⟩
     ·rw [e];have:=g1.append k1;simpa using this
     ·rw [e];exact g2.append k2
     ·rw [zbS]
      simp only [List.map_cons,List.sum_cons]
      have:zbp d1<=zgx t d1:=by cases t <;> simp [zgx]
      omega
   ·cases ht
  ·cases ht
def ExOK (P:Program) (ext:TypeId->Option Nat) (Ex:Nat->List D->Prop):Prop:=∀ t i,ext t=some i->∃ fs ts,P.underlying t=some (.struct fs)∧tyF (tyOf P ext 20) P 0 fs.toList=some ts∧zcd P t=some (Ty.sizeL ts)∧∀ ds,zfN Ex ts ds->Ex i ds
theorem zgj {ext:TypeId->Option Nat} {Ex:Nat->List D->Prop} (hex:ExOK P ext Ex) {ub:DataW H->Nat} (hub:UB ub):∀ (n d:Nat) (t:TypeId) (T:Ty) (cs:List Value) (x:DataW H × List MemPlace),tyOf P ext d t=some T->DataW.trod enc P w 0 spare held n t cs=some x ->
  ∃ ds,RepL w (Old w) [] cs ds []∧ones cs∧zbq Ex T ds∧cs.length=T.size∧zgx T ds<=ub x.1:=by
 intro n
 induction n with
 | zero=>intro d t T cs x ht h;simp [DataW.trod] at h
 | succ n ih =>
  intro d t T cs x ht h
  cases d with
  | zero=>cases ht
  | succ d =>
   have one1:∀ {v:Value},v.oneCell'=true->ones [v]:=fun hv u hu=>by
    simp only [List.mem_singleton] at hu
    subst hu;exact hv
   simp only [tyOf] at ht
   split at ht
   ·rename_i i hi
    obtain ⟨fs,ts,hu,h1,hsz,hE⟩:=hex t i hi
    obtain ⟨z,hz,rfl⟩:=Option.map_eq_some_iff.1 ht
    rw [hsz] at hz
    cases hz
    obtain ⟨xs,n',hn,rfl,hcl,hxl,hx⟩:=DataW.trod_struct hu h
    obtain rfl:n'=n:=by omega
    rw [zfl hsz] at hcl
    obtain ⟨ds,g1,g2,g3,g4⟩:=zhX hub (fun t T cs x h1 h2=>ih 20 t T cs x h1 h2) fs.toList 0 ts cs xs h1 (by simpa using hxl) (fun i f hf=>hx i f (by simpa using hf)) (by omega)
    simp only [List.drop_zero] at g1 g2
    refine ⟨ds,g1,g2,hE ds g3,hcl,?_⟩
    have:=hub.agg (xs.map (·.1))
    simp only [List.map_map] at this
    have e2:(xs.map fun x=>ub x.1)=xs.map (ub ∘ fun x=>x.1):=rfl
    rw [e2] at g4
    simp only [zgx]
    omega
   split at ht
   ·rename_i k hu
    cases ht
    obtain ⟨m,rfl,rfl,hw⟩:=DataW.trod_int hu h
    exact ⟨[.int k m],RepL.one (.int ..),one1 rfl,⟨m,rfl,hw⟩,rfl,by simpa [zgx,zbp,D.bulk] using hub.lit _⟩
   ·rename_i hu
    cases ht
    obtain ⟨m,rfl,rfl⟩:=DataW.trod_bool hu h
    exact ⟨[.bool m],RepL.one (.bool ..),one1 rfl,⟨m,rfl⟩,rfl,by simpa [zgx,zbp,D.bulk] using hub.lit _⟩
   ·rename_i hu
    cases ht
    obtain ⟨m,rfl,rfl,hw⟩:=DataW.trod_string hu h
    refine ⟨[.str m],RepL.one (.str ..),one1 rfl,⟨m,rfl⟩,rfl,?_⟩
    have:=hub.str m.data.toList
    simp only [zgx,zbp,D.bulk,Nat.add_zero]
    rw [Array.length_toList] at this
    exact this
   ·rename_i e hu
    split at ht
    ·rename_i u z h1 h2
     split at ht
     ·rename_i hz
      obtain ⟨hz,hz0⟩:=hz
      cases ht
      rcases DataW.trod_slice hu h with ⟨rfl,rfl⟩|⟨a,len,cap,elems,rest,n',hn,rfl,rfl,hb,hl,hm,hlen,hel,hsp,hns⟩
      ·exact ⟨[.sl false z []],RepL.one (.nil ..),one1 rfl,⟨[],rfl,fun x hx=>by cases hx⟩,rfl,by simpa [zgx,zbp,D.bulk] using hub.nil⟩
      ·obtain rfl:n'=n:=by omega
       rw [zfl h2] at hel
       have key:∀ (es:List (DataW H × List MemPlace)) (s:Nat),(∀ i,i<es.length->(w.cells? 0 (a.add ((s + i) * z)) z).bind (DataW.trod enc P w 0 spare held n' e)=es[i]?) ->
         ∃ (vs:List Value) (xs:List D),(∀ j u,vs[j]? = some u->w.cell? (a.add (s * z + j))=some u)∧ones vs∧RepL w (Old w) [] vs (zaj xs) []∧xs.length=es.length ∧
          (∀ x ∈ xs,∃ cs,x=zce u cs∧zbq Ex u cs)∧(∀ x ∈ xs,x.cells.length=z)∧zbp xs<=(es.map fun x=>ub x.1).sum:=by
        intro es
        induction es with
        | nil=>intro s _;exact ⟨[],[],fun j u h=>by simp at h,fun _ h=>(by cases h),.nil _,rfl,fun _ h=>(by cases h),fun _ h=>(by cases h),by simp [zbp]⟩
        | cons y es ihe =>
         intro s hes
         obtain ⟨vs,xs,q1,q2,q3,q4,q5,q6,q7⟩:=ihe (s + 1) (fun i hi=>by
          have:=hes (i + 1) (by simpa using hi)
          simpa [Nat.add_assoc,Nat.add_comm 1 i] using this)
         have h0:=hes 0 (by simp)
         simp only [Nat.add_zero,List.getElem?_cons_zero] at h0
         obtain ⟨cs0,h3,h4⟩:=Option.bind_eq_some_iff.1 h0
         obtain ⟨c1,c2⟩:=cells?_some h3
         obtain ⟨ds,g1,g2,g3,g4,g5⟩:=ih d e u cs0 y h1 h4
         have hec:=znx g3
         refine ⟨cs0++vs,zce u ds::xs,?_,g2.append q2,?_,by simp [q4],?_,?_,?_⟩
         ·intro j v hj
          rw [List.getElem?_append] at hj
          split at hj
          ·rename_i hlt
           have:=c2 j (by omega)
           rw [hj] at this
           rw [<- this]
           rw [zup]
          ·rename_i hge
           have:=q1 (j - cs0.length) v hj
           rw [<- this]
           congr 2
           rw [c1,Nat.add_mul]
           omega
         ·simp only [zaj,hec]
          have:=g1.append q3
          simpa using this
         ·intro x hx
          rcases List.mem_cons.1 hx with rfl|hx
          ·exact ⟨ds,rfl,g3⟩
          ·exact q5 x hx
         ·intro x hx
          rcases List.mem_cons.1 hx with rfl|hx
          ·rw [hec]
           have:=g1.length
           omega
          ·exact q6 x hx
         ·simp only [zbp,List.map_cons,List.sum_cons]
          rw [zpD g3]
          omega
       obtain ⟨vs,xs,q1,q2,q3,q4,q5,q6,q7⟩:=key elems 0 (fun i hi=>by simpa using hel i (by omega))
       have hbulk:zgx (.sl u z) [.sl false z xs]<=ub (.slice (elems.map (·.1)) (rest.map (·.1))):=by
        have:=hub.slice (elems.map (·.1)) (rest.map (·.1))
        simp only [List.map_map] at this
        simp only [zgx,zbp,D.bulk,Nat.add_zero]
        have e2:(elems.map fun x=>ub x.1)=elems.map (ub ∘ fun x=>x.1):=rfl
        rw [e2] at q7
        omega
       refine ⟨[.sl false z xs],?_,one1 rfl,⟨xs,rfl,q5⟩,rfl,hbulk⟩
       refine RepL.one ?_
       by_cases h0:xs=[]
       ·subst h0
        simp only [List.length_nil] at q4
        have:len=0:=by omega
        subst this
        exact .empS ..
       ·
        have hpos:0<xs.length:=List.length_pos_iff.2 h0
        have hvl:vs.length=xs.length * z:=by rw [q3.length,zaq q6]
        have hvpos:0<vs.length:=by rw [hvl];exact Nat.mul_pos hpos hz0
        have h3:=q1 0 vs[0] (List.getElem?_eq_getElem hvpos)
        simp only [Nat.zero_mul,Nat.add_zero] at h3
        obtain ⟨b,o,sp⟩:=a
        have hcell:∃ c E fz,w.heap[b]? = some (.cells c E fz)∧sp=none:=by
         have hbl:((⟨b,o,sp⟩:Addr).add 0).block=b∧((⟨b,o,sp⟩:Addr).add 0).spot=sp:=by unfold Addr.add;split <;> simp_all
         unfold World.cell? at h3
         rw [hbl.1,hbl.2] at h3
         split at h3
         ·rename_i c E fz hh
          split at h3
          ·cases h3
          ·rename_i hs
           exact ⟨c,E,fz,hh,by simpa using hs⟩
         ·cases h3
        obtain ⟨c,E,fz,hh,rfl⟩:=hcell
        refine .shr _ _ _ _ _ _ _ vs ⟨by rw [q4];omega,hl⟩ (Array.getElem?_eq_some_iff.1 hh).1 ?_ q2 q3 q6
        intro j v hj
        have:=q1 j v hj
        rw [Addr.add_lit] at this
        simpa using this
     ·cases ht
    ·cases ht
   ·rename_i fs hu
    split at ht
    ·rename_i ts h1
     split at ht
     ·rename_i hsz
      cases ht
      obtain ⟨xs,n',hn,rfl,hcl,hxl,hx⟩:=DataW.trod_struct hu h
      obtain rfl:n'=n:=by omega
      rw [zfl hsz] at hcl
      obtain ⟨ds,g1,g2,g3,g4⟩:=zhX hub (fun t T cs x h1 h2=>ih d t T cs x h1 h2) fs.toList 0 ts cs xs h1 (by simpa using hxl) (fun i f hf=>hx i f (by simpa using hf)) (by omega)
      simp only [List.drop_zero] at g1 g2
      refine ⟨ds,g1,g2,g3,hcl,?_⟩
      have:=hub.agg (xs.map (·.1))
      simp only [List.map_map] at this
      have e2:(xs.map fun x=>ub x.1)=xs.map (ub ∘ fun x=>x.1):=rfl
      rw [e2] at g4
      simp only [zgx]
      omega
     ·cases ht
    ·cases ht
   ·cases ht
end
end Go.Vx
namespace Go.Vx
section
variable {P:Program}
inductive ArgsOK (w:World):List Value->List D->Prop
 | nil:ArgsOK w [] []
 | cons (v:Value) (d:D) (vs:List Value) (ds:List D):Rep w (Old w) [] v d []->ArgsOK w vs ds->ArgsOK w (v::vs) (d::ds)
theorem ArgsOK.reps {w:World} {vs:List Value} {ds:List D} (h:ArgsOK w vs ds):∃ Fs,RepS w (Old w) [] vs ds Fs∧Fs.flatten=[]:=by
 induction h with
 | nil=>exact ⟨[],.nil,rfl⟩
 | cons v d vs ds h1 _ ih =>
  obtain ⟨Fs,h2,h3⟩:=ih
  exact ⟨[]::Fs,.cons _ _ _ _ _ _ h1 h2,by simp [h3]⟩
theorem zqS {mo:Nat->List M} {hh:H} (hok:HOK P mo hh) {f:Nat} {w:World} {vs:List Value} {ds:List D} (ha:ArgsOK w vs ds) (hT:zpu P w) {b:Bool} {outs:List D} {sto:List (List D)} (hv:hh f ds []=some (.bool b,outs,sto)) :
  Calls P f vs.toArray w fun e w'=>e=.returned (.bool b)∧RowKit.Below w.heap.size w w':=by
 obtain ⟨Fs,h1,h2⟩:=ha.reps
 have:=(hok f ds [] _ hv).2 w (Old w) [] vs Fs [] h1 ⟨rfl,rfl,fun r cs e=>by simp at e⟩ (by rw [h2];exact List.nodup_nil) (by rw [h2];intro b hb;cases hb) (fun b hb=>hb) ⟨hT,fun g hg=>hT.lt hg⟩
 refine Calls.mono this ?_
 rintro e w2 ⟨v,rfl,I2,ι2,Fr,Fo,Gs2,a1,a2,a3,a4,_⟩
 have hv:=a4.is_bool
 subst hv
 refine ⟨rfl,a1.os,a1.tape,a1.output,a1.size,fun k hk=>a1.block k hk ?_⟩
 rw [h2]
 intro hm
 cases hm
end
end Go.Vx
namespace Go.Vx
inductive Fr where
 | sq (c:C)
 | bl (id:Nat)
 | lp (c:C)
 | ck (x:X) (a b r:C)
structure En (R:Type) where
 f:Ex->St->Option R
def En.raw:En (Ex × St):=⟨fun e s=>some (e,s)⟩
def enF (res:List RV) (mus:List Nat):En Res:=⟨fun e s =>
 match e with
 | .exit _=>none
 | _ =>
  match s.fin res with
  | some r=>(r.2.outs mus).map fun outs=>(zjs r.1,outs,r.2.sto)
  | none=>none⟩
open Classical in
noncomputable def both {R:Type} (a b:Option R):Option R :=
 match a,b with
 | some r,some r'=>if r=r' then some r else none
 | _,_=>none
theorem zqT {R:Type} (a:R):both (some a) (some a)=some a:=by simp [both]
section
variable {R:Type} (tab:Tab) (fn:En R)
noncomputable def kont:List Fr->Option (Ex × St)->Option R
 | [],r=>r.bind fun p=>fn.f p.1 p.2
 | .sq c::k,some (.nrm,s)=>kont k (vrun tab c s)
 | .sq c::k,r=>kont k r
 | .bl id::k,some (.exit j,s)=>if j=id then kont k (some (.nrm,s)) else kont k (some (.exit j,s))
 | .bl id::k,r=>kont k r
 | .lp c::k,some (.nrm,s)=>kont k (vrun tab (.loop c) s)
 | .lp c::k,r=>kont k r
 | .ck x a b c::k,some (.nrm,s)=>kont k (match s.rd x with
  | some (.bool true)=>zdW (vrun tab a s) fun s=>vrun tab c s
  | some (.bool false)=>zdW (vrun tab b s) fun s=>vrun tab c s
  | some .anyb=>zpn (zdW (vrun tab a s) fun s=>vrun tab c s) (zdW (vrun tab b s) fun s=>vrun tab c s)
  | _=>none)
 | .ck x a b c::k,r=>kont k r
noncomputable def go (c:C) (k:List Fr) (s:St):Option R:=kont tab fn k (vrun tab c s)
noncomputable def bk (k:List Fr) (s:St):Option R:=kont tab fn k (some (.nrm,s))
noncomputable def exi (id:Nat) (k:List Fr) (s:St):Option R:=kont tab fn k (some (.exit id,s))
noncomputable def act (a:Option Act') (r:List I) (k:List Fr):Option R :=
 match a with
 | some (.st s)=>go tab fn (.ops r) k s
 | some (.rq q)=>((zaa tab q.f q.args q.sto).bind q.post).bind (go tab fn (.ops r) k)
 | none=>none
noncomputable def got (a:Option Res) (post:Res->Option St) (r:List I) (k:List Fr):Option R:=(a.bind post).bind (go tab fn (.ops r) k)
noncomputable def thn (a:Option St) (r:List I) (k:List Fr):Option R:=a.bind (go tab fn (.ops r) k)
noncomputable def cnd (a:Option D) (x y:C) (k:List Fr) (s:St):Option R :=
 match a with
 | some (.bool t)=>if t=true then go tab fn x k s else go tab fn y k s
 | some .anyb=>kont tab fn k (both (vrun tab x s) (vrun tab y s))
 | _=>none
noncomputable def drw (a:Option (St × List FPt)) (ps:List (Nat × Nat)) (k:List Fr):Option R :=
 match a with
 | some q=>if ps.all (zfS q.2)=true then bk tab fn k q.1 else none
 | none=>none
theorem zcf:∀ k,kont tab fn k none=none
 | []=>rfl
 | .sq c::k=>by simp only [kont];exact zcf k
 | .bl c::k=>by simp only [kont];exact zcf k
 | .lp c::k=>by simp only [kont];exact zcf k
 | .ck ..::k=>by simp only [kont];exact zcf k
theorem zhu:∀ k s,kont tab fn k (some (.ret,s))=fn.f .ret s
 | [],s=>rfl
 | .sq c::k,s=>by simp only [kont];exact zhu k s
 | .bl c::k,s=>by simp only [kont];exact zhu k s
 | .lp c::k,s=>by simp only [kont];exact zhu k s
 | .ck ..::k,s=>by simp only [kont];exact zhu k s
theorem zaf {f:Nat} {g:F} (hp:tab.pr f=none) (hmk:tab.mrk f=none) (hf:tab.fn f=some g) (args:List D) (sto:List (List D)) (hl:args.length=g.np) :
  zaa tab f args sto=go tab (enF g.res g.mus) g.body [] (g.init args sto):=by
 rw [zub tab hp hmk hf args sto hl]
 unfold go
 generalize vrun tab g.body (g.init args sto)=r
 simp only [kont]
 cases r with
 | none=>rfl
 | some p =>
  obtain ⟨e,s⟩:=p
  cases e <;> rfl
theorem zqU (c:C) (s:St):vrun tab c s=go tab En.raw c [] s:=by
 unfold go
 simp only [kont,En.raw]
 cases vrun tab c s <;> rfl
theorem go_seq (a b:C) (k:List Fr) (s:St):go tab fn (.seq a b) k s=go tab fn a (.sq b::k) s:=by
 unfold go
 rw [zld]
 cases vrun tab a s with
 | none=>simp only [kont]
 | some x=>obtain ⟨e,s'⟩:=x;cases e <;> simp only [kont]
theorem go_block (id:Nat) (a:C) (k:List Fr) (s:St):go tab fn (.block id a) k s=go tab fn a (.bl id::k) s:=by
 unfold go
 rw [zpp]
 cases vrun tab a s with
 | none=>simp only [kont]
 | some x =>
  obtain ⟨e,s'⟩:=x
  cases e <;> simp only [kont]
  split <;> rfl
theorem go_loop (a:C) (k:List Fr) (s:St):go tab fn (.loop a) k s=go tab fn a (.lp a::k) s:=by
 unfold go
 rw [zqn]
 cases vrun tab a s with
 | none=>simp only [kont]
 | some x=>obtain ⟨e,s'⟩:=x;cases e <;> simp only [kont]
theorem go_lpc (l:List Nat) (b:C) (k:List Fr) (s:St):go tab fn (.loop (.seq (.clr l) b)) k s=go tab fn b (.lp (.seq (.clr l) b)::k) (s.clr l):=by
 rw [go_loop]
 unfold go
 rw [zld,zot]
theorem go_cond (x:X) (a b:C) (k:List Fr) (s:St):go tab fn (.cond x a b) k s=cnd tab fn (s.rd x) a b k s:=by
 unfold go cnd
 rw [zqm]
 generalize s.rd x=o
 rcases o with _|d
 ·exact zcf ..
 ·cases d with
  | bool t=>cases t <;> rfl
  | anyb =>
   simp only [both]
   cases vrun tab a s with
   | none=>rfl
   | some p =>
    cases vrun tab b s with
    | none=>rfl
    | some q =>
     simp only
     by_cases e:p=q
     ·rw [if_pos e,if_pos e]
     ·rw [if_neg e,if_neg e]
  | _=>exact zcf ..
theorem go_cnk (p:C) (x:X) (a b c:C) (k:List Fr) (s:St):go tab fn (.cnk p x a b c) k s=go tab fn p (.ck x a b c::k) s:=by
 unfold go
 rw [zua]
 cases vrun tab p s with
 | none=>simp only [zdW,zcf]
 | some q =>
  obtain ⟨e,s'⟩:=q
  cases e with
  | nrm =>
   simp only [zdW,kont]
   rfl
  | exit j=>simp only [zdW,kont]
  | ret=>simp only [zdW,kont]
theorem zqV (a c:C) (s:St):zdW (vrun tab a s) (fun s=>vrun tab c s)=vrun tab (.seq a c) s:=by
 rw [zld]
 cases vrun tab a s with
 | none=>rfl
 | some q =>
  obtain ⟨e,s'⟩:=q
  cases e <;> rfl
theorem zzT (x:X) (a b c:C) (k:List Fr) (s:St):bk tab fn (.ck x a b c::k) s=cnd tab fn (s.rd x) (.seq a c) (.seq b c) k s:=by
 unfold bk
 simp only [kont,zqV]
 unfold cnd
 generalize s.rd x=o
 rcases o with _|d
 ·exact zcf ..
 ·cases d with
  | bool t=>cases t <;> rfl
  | anyb =>
   simp only [both,zpn]
   cases vrun tab (.seq a c) s with
   | none=>rfl
   | some p =>
    cases vrun tab (.seq b c) s with
    | none=>rfl
    | some q =>
     simp only
     by_cases e:p=q
     ·rw [if_pos e,if_pos e]
     ·rw [if_neg e,if_neg e]
  | _=>exact zcf ..
theorem zvk (j:Nat) (x:X) (a b c:C) (k:List Fr) (s:St):exi tab fn j (.ck x a b c::k) s=exi tab fn j k s:=by simp only [exi,kont]
theorem go_exit (id:Nat) (k:List Fr) (s:St):go tab fn (.exit id) k s=exi tab fn id k s:=by
 unfold go exi;rw [zqo]
theorem go_ret (k:List Fr) (s:St):go tab fn .ret k s=fn.f .ret s:=by
 unfold go;rw [ztZ];exact zhu ..
theorem go_skip (k:List Fr) (s:St):go tab fn .skip k s=bk tab fn k s:=by
 unfold go bk;rw [zqp]
theorem go_clr (l:List Nat) (k:List Fr) (s:St):go tab fn (.clr l) k s=bk tab fn k (s.clr l):=by
 unfold go bk;rw [zot]
theorem go_nil (k:List Fr) (s:St):go tab fn (.ops []) k s=bk tab fn k s:=by
 unfold go bk;rw [zjy];rfl
theorem go_cons (i:I) (r:List I) (k:List Fr) (s:St):go tab fn (.ops (i::r)) k s=act tab fn (vact i s) r k:=by
 unfold go act
 rw [zjy]
 simp only [vops,zbg]
 cases vact i s with
 | none=>simp [zcf]
 | some a =>
  cases a with
  | st s'=>simp only [Option.bind_some,go,zjy]
  | rq q =>
   simp only
   cases (zaa tab q.f q.args q.sto).bind q.post with
   | none=>simp [zcf]
   | some s'=>simp only [Option.bind_some,go,zjy]
theorem zvl (s:St) (r:List I) (k:List Fr):act tab fn (some (.st s)) r k=go tab fn (.ops r) k s:=rfl
theorem zvm (f:Nat) (args:List D) (sto:List (List D)) (post:Res->Option St) (r:List I) (k:List Fr):act tab fn (some (.rq ⟨f,args,sto,post⟩)) r k=got tab fn (zaa tab f args sto) post r k:=rfl
theorem zoH (x:Res) (post:Res->Option St) (r:List I) (k:List Fr):got tab fn (some x) post r k=thn tab fn (post x) r k:=rfl
theorem zoI (s:St) (r:List I) (k:List Fr):thn tab fn (some s) r k=go tab fn (.ops r) k s:=rfl
theorem zoJ (x y:C) (k:List Fr) (s:St):cnd tab fn (some (.bool true)) x y k s=go tab fn x k s:=rfl
theorem zuq (x y:C) (k:List Fr) (s:St):cnd tab fn (some .anyb) x y k s=kont tab fn k (both (go tab En.raw x [] s) (go tab En.raw y [] s)):=by
 rw [<- zqU,<- zqU];rfl
theorem zur (k:List Fr) (s:St):kont tab fn k (some (.nrm,s))=bk tab fn k s:=rfl
theorem zqW (k:List Fr) (s:St):kont tab fn k (some (.ret,s))=fn.f .ret s:=zhu ..
theorem zus (id:Nat) (k:List Fr) (s:St):kont tab fn k (some (.exit id,s))=exi tab fn id k s:=rfl
theorem zmB (x y:C) (k:List Fr) (s:St):cnd tab fn (some (.bool false)) x y k s=go tab fn y k s:=rfl
theorem go_draw (l:List I) (ps:List (Nat × Nat)) (k:List Fr) (s:St):go tab fn (.draw l ps) k s=drw tab fn (zdB (zaa tab) l s) ps k:=by
 unfold go drw bk
 rw [zql]
 generalize zdB (zaa tab) l s=o
 cases o with
 | none=>exact zcf ..
 | some q =>
  simp only
  split
  ·rfl
  ·exact zcf ..
theorem zqX (res:List RV) (mus:List Nat) (s:St):(enF res mus).f .ret s=match s.fin res with
  | some r=>(r.2.outs mus).map fun outs=>(zjs r.1,outs,r.2.sto)
  | none=>none:=rfl
theorem zqY (res:List RV) (mus:List Nat) (s:St):(enF res mus).f .nrm s=match s.fin res with
  | some r=>(r.2.outs mus).map fun outs=>(zjs r.1,outs,r.2.sto)
  | none=>none:=rfl
theorem zBC (e:Ex) (s:St):En.raw.f e s=some (e,s):=rfl
theorem zvn (s:St):bk tab fn [] s=fn.f .nrm s:=rfl
theorem zzU (c:C) (k:List Fr) (s:St):bk tab fn (.sq c::k) s=go tab fn c k s:=by simp only [bk,kont,go]
theorem zzV (id:Nat) (k:List Fr) (s:St):bk tab fn (.bl id::k) s=bk tab fn k s:=by simp only [bk,kont]
theorem zzW (c:C) (k:List Fr) (s:St):bk tab fn (.lp c::k) s=go tab fn (.loop c) k s:=by simp only [bk,kont,go]
theorem zvo (j:Nat) (c:C) (k:List Fr) (s:St):exi tab fn j (.sq c::k) s=exi tab fn j k s:=by simp only [exi,kont]
theorem zvp (j:Nat) (c:C) (k:List Fr) (s:St):exi tab fn j (.lp c::k) s=exi tab fn j k s:=by simp only [exi,kont]
theorem zmC (j:Nat) (k:List Fr) (s:St):exi tab fn j (.bl j::k) s=bk tab fn k s:=by simp only [exi,kont,if_true,bk]
theorem zvq (j id:Nat) (k:List Fr) (s:St):exi tab fn j (.bl id::k) s=if j=id then bk tab fn k s else exi tab fn j k s:=by
 simp only [exi,kont,bk]
end
end Go.Vx
namespace Go.Vx
set_option maxRecDepth 8000
theorem Root.beq_slot (a b:Nat):(Root.slot a == Root.slot b)=decide (a=b):=by
 by_cases h:a=b
 ·subst h;simp
 ·have:Root.slot a ≠ Root.slot b:=fun e=>h (by cases e;rfl)
  simp [h,this]
theorem zvr (a b:ByteArray):(a.toList == b.toList)=decide (a=b):=by
 have h:a.toList=a.data.toList:=ByteArray.toList_eq a
 have h2:b.toList=b.data.toList:=ByteArray.toList_eq b
 rw [h,h2]
 by_cases e:a=b
 ·subst e;simp
 ·have:a.data.toList ≠ b.data.toList:=fun q=>e (by cases a;cases b;simpa using q)
  rw [decide_eq_false e]
  exact beq_eq_false_iff_ne.2 this
theorem zny (a b:Int):(a == b)=decide (a=b):=by
 by_cases h:a=b
 ·subst h;simp
 ·rw [decide_eq_false h];exact beq_eq_false_iff_ne.2 h
theorem zlq (a b:Bool):(a == b)=decide (a=b):=by cases a <;> cases b <;> rfl
theorem zqZ:(∀ s x,St.lendM s .rd x=s.lend x)∧(∀ s x,St.lendM s .fz x=s.lend x)∧(∀ s x,St.lendM s .mv x=s.lend x)∧(∀ s x,St.lendM s .mu x=s.lend x)∧(∀ s n x,St.lendM s (.im n) x=s.lendI n x):=⟨fun _ _=>rfl,fun _ _=>rfl,fun _ _=>rfl,fun _ _=>rfl,fun _ _ _=>rfl⟩
theorem zra (s:St) (lent:Bool) (j off:Nat) (sto':List (List D)):ztY s lent [] none (.ref j off) [] sto'=match sto'[j]? with|some cs=>if zah cs=false∧(lent=false ∨ noSL cs=true) then some (s.putSto (s.sto++[cs]),.ref s.sto.length off) else none|none=>none:=by
 cases h:sto'[j]? with
 | none=>exact ztY.eq_2 _ _ _ _ _ _ _ (fun cs e=>by rw [h] at e;cases e)
 | some cs=>exact ztY.eq_1 _ _ _ _ _ _ h
abbrev vxa :=
 And.intro @vact.eq_1 <|
 And.intro @vact.eq_2 <|
 And.intro @vact.eq_3 <|
 And.intro @vact.eq_4 <|
 And.intro @vact.eq_5 <|
 And.intro @vact.eq_6 <|
 And.intro @vact.eq_7 <|
 And.intro @vact.eq_8 <|
 And.intro @vact.eq_9 <|
 And.intro @vact.eq_10 <|
 And.intro @vact.eq_11 <|
 And.intro @vact.eq_12 <|
 And.intro @vact.eq_13 <|
 And.intro @vact.eq_14 <|
 And.intro @vact.eq_15 <|
 And.intro @vact.eq_16 <|
 And.intro @vact.eq_17 <|
 And.intro @vact.eq_18 <|
 And.intro @vact.eq_19 <|
 And.intro @vact.eq_20 <|
 And.intro @vact.eq_21 <|
 And.intro @vact.eq_22 <|
 And.intro @vact.eq_23 <|
 And.intro @vact.eq_24 <|
 And.intro @vact.eq_25 <|
 And.intro @vact.eq_26 <|
 And.intro @vact.eq_27 <|
 And.intro @vact.eq_28 <|
 And.intro @vact.eq_29 <|
 And.intro @vact.eq_30 <|
 And.intro @vact.eq_31 <|
 And.intro @vact.eq_32 <|
 And.intro @vact.eq_33 <|
 And.intro @vact.eq_34 <|
 And.intro @vact.eq_35 <|
 And.intro @vact.eq_36 <|
 And.intro @vact.eq_37 <|
 And.intro @St.shuts.eq_1 <|
 And.intro @St.shuts.eq_2 <|
 And.intro @St.shutX.eq_1 <|
 And.intro @St.shutX.eq_2 <|
 And.intro @St.shut1.eq_1 <|
 And.intro @St.rd.eq_1 <|
 And.intro @St.rd.eq_2 <|
 And.intro @St.sv.eq_1 <|
 And.intro @St.sv.eq_2 <|
 And.intro @St.rdP.eq_1 <|
 And.intro @St.root.eq_1 <|
 And.intro @St.root.eq_2 <|
 And.intro @St.wrP.eq_1 <|
 And.intro @St.setRoot.eq_1 <|
 And.intro @St.setRoot.eq_2 <|
 And.intro @focus.eq_1 <|
 And.intro @focus.eq_2 <|
 And.intro @upd.eq_1 <|
 And.intro @upd.eq_2 <|
 And.intro @zdA.eq_1 <|
 And.intro @St.setD.eq_1 <|
 And.intro @St.setO.eq_1 <|
 And.intro @St.setO.eq_2 <|
 And.intro @zgc.eq_1 <|
 And.intro @zgc.eq_2 <|
 And.intro @noSL.eq_1 <|
 And.intro @noSL.eq_2 <|
 And.intro @zah.eq_1 <|
 And.intro @zah.eq_2 <|
 And.intro @zad.eq_1 <|
 And.intro @zad.eq_2 <|
 And.intro @St.take.eq_1 <|
 And.intro @St.take.eq_2 <|
 And.intro @St.place.eq_1 <|
 And.intro @St.place.eq_2 <|
 And.intro @St.imm.eq_1 <|
 And.intro @St.imm.eq_2 <|
 And.intro @St.bound.eq_1 <|
 And.intro @St.bound.eq_2 <|
 And.intro @St.num.eq_1 <|
 And.intro @St.elemAt.eq_1 <|
 And.intro @St.elemAt.eq_2 <|
 And.intro @St.slice.eq_1 <|
 And.intro @St.sliceS.eq_1 <|
 And.intro @St.tupAt.eq_1 <|
 And.intro @St.tupAt.eq_2 <|
 And.intro @St.reg.eq_1 <|
 And.intro @St.news.eq_1 <|
 And.intro @okS.eq_1 <|
 And.intro @zdz.eq_1 <|
 And.intro @putBack.eq_1 <|
 And.intro @putBack.eq_2 <|
 And.intro @St.args.eq_1 <|
 And.intro @St.lends.eq_1 <|
 And.intro @St.lends.eq_2 <|
 And.intro @St.lends.eq_3 <|
 And.intro zqZ <|
 And.intro @St.lendI.eq_1 <|
 And.intro @St.lend.eq_1 <|
 And.intro @St.lend.eq_2 <|
 And.intro @St.takes.eq_1 <|
 And.intro @St.takes.eq_2 <|
 And.intro @St.takes.eq_3 <|
 And.intro @St.takes.eq_4 <|
 And.intro @St.takes.eq_5 <|
 And.intro @St.takes.eq_6 <|
 And.intro @St.hand.eq_1 <|
 And.intro @St.hand.eq_2 <|
 And.intro @St.handG.eq_1 <|
 And.intro @St.handG.eq_2 <|
 And.intro @St.takesG.eq_1 <|
 And.intro @putBackG.eq_1 <|
 And.intro @putBackG.eq_2 <|
 And.intro @St.frzs.eq_1 <|
 And.intro @St.frzs.eq_2 <|
 And.intro @St.frzO.eq_1 <|
 And.intro @St.frzO.eq_2 <|
 And.intro @pimN.eq_1 <|
 And.intro @St.frz.eq_1 <|
 And.intro @St.frz.eq_2 <|
 And.intro @St.frzP.eq_1 <|
 And.intro @St.proms.eq_1 <|
 And.intro @St.proms.eq_2 <|
 And.intro @St.prom.eq_1 <|
 And.intro @St.prom.eq_2 <|
 And.intro @St.promote.eq_1 <|
 And.intro @St.caps.eq_1 <|
 And.intro @St.caps.eq_2 <|
 And.intro @St.elems.eq_1 <|
 And.intro @St.elems.eq_2 <|
 And.intro @St.fill.eq_1 <|
 And.intro @St.fill.eq_2 <|
 And.intro @St.isPtr.eq_1 <|
 And.intro @St.isPtr.eq_2 <|
 And.intro @St.clr1.eq_1 <|
 And.intro @St.clr.eq_1 <|
 And.intro @St.clr.eq_2 <|
 And.intro @St.results.eq_1 <|
 And.intro @St.results.eq_2 <|
 And.intro @St.results.eq_3 <|
 And.intro @St.fin.eq_1 <|
 And.intro @RV.xs.eq_1 <|
 And.intro @RV.xs.eq_2 <|
 And.intro @RV.xs.eq_3 <|
 And.intro @zra <|
 And.intro @St.outs.eq_1 <|
 And.intro @St.outs.eq_2 <|
 And.intro @F.init.eq_1 <|
 And.intro @zhD.eq_1 <|
 And.intro @St.kill.eq_1 <|
 And.intro @St.killD.eq_1 <|
 And.intro @St.killS.eq_1 <|
 And.intro @St.putSto.eq_1 <|
 And.intro @zdB.eq_1 <|
 And.intro @zdB.eq_2 <|
 And.intro @zbg.eq_1 <|
 And.intro @vops.eq_1 <|
 And.intro @vops.eq_2 <|
 And.intro @List.map_cons.{0,0} <|
 And.intro @List.map_nil.{0,0} <|
 And.intro @List.length_cons.{0} <|
 And.intro @List.length_nil.{0} <|
 And.intro @List.cons_append.{0} <|
 And.intro @List.nil_append.{0} <|
 And.intro @List.getElem?_cons_succ.{0} <|
 And.intro @List.getElem?_cons_zero.{0} <|
 And.intro @List.set_cons_succ.{0} <|
 And.intro @List.set_cons_zero.{0} <|
 And.intro @List.length_map.{0,0} <|
 And.intro @Option.bind_some.{0,0} <|
 And.intro @Option.bind_none.{0,0} <|
 And.intro @Option.map_some.{0,0} <|
 And.intro @Option.map_none.{0,0} <|
 And.intro @decide_true <|
 And.intro @decide_false <|
 And.intro @Option.isSome_some.{0} <|
 And.intro @Option.isSome_none.{0} <|
 And.intro @List.all_cons.{0} <|
 And.intro @List.all_nil.{0} <|
 And.intro @List.headD_cons.{0} <|
 And.intro @List.drop_succ_cons.{0} <|
 And.intro @List.drop_zero.{0} <|
 And.intro @List.take_succ_cons.{0} <|
 And.intro @List.take_zero.{0} <|
 And.intro @List.append_nil.{0} <|
 And.intro @List.isEmpty_nil.{0} <|
 And.intro @List.isEmpty_cons.{0} <|
 And.intro @Bool.and_true <|
 And.intro @Bool.true_and <|
 And.intro @Bool.and_false <|
 And.intro @Bool.false_and <|
 And.intro @Bool.or_false <|
 And.intro @Bool.false_or <|
 And.intro @Bool.or_true <|
 And.intro @Bool.true_or <|
 And.intro @Bool.not_true <|
 And.intro @Bool.not_false <|
 And.intro @zda.eq_1 <|
 And.intro @zda.eq_2 <|
 And.intro @Nat.zero_add <|
 And.intro @Nat.add_zero @Nat.sub_zero
theorem vxb :
 (∀ cs off,zej cs off .one=cs[off]?) ∧
 (∀ cs off n,zej cs off (.many n)=if off + n<=cs.length then some (.agg ((cs.drop off).take n)) else none) ∧
 (∀ r x,SV.killD r (.d x)=.d x) ∧
 (∀ r x,SV.killD r (.box x)=.box x) ∧
 (∀ r p,SV.killD r (.ptr p)=if p.root=r∧p.steps ≠ [] then .d .dead else .ptr p) ∧
 (∀ r q o,SV.killD r (.bor ⟨q,[],o⟩ .one)=.bor ⟨q,[],o⟩ .one) ∧
 (∀ r q a b o k,SV.killD r (.bor ⟨q,a::b,o⟩ k)=if q=r then .d .dead else .bor ⟨q,a::b,o⟩ k) ∧
 (∀ r q o n,SV.killD r (.bor ⟨q,[],o⟩ (.many n))=if q=r then .d .dead else .bor ⟨q,[],o⟩ (.many n)) ∧
 (∀ r q o a b,SV.killD r (.bor ⟨q,[],o⟩ (.cut a b))=if q=r then .d .dead else .bor ⟨q,[],o⟩ (.cut a b)) ∧
 (∀ r all x,SV.kill r all (.d x)=.d x) ∧
 (∀ r all x,SV.kill r all (.box x)=.box x) ∧
 (∀ r all p k,SV.kill r all (.bor p k)=if p.root=r then .d .dead else .bor p k) ∧
 (∀ r all p,SV.kill r all (.ptr p)=if p.root=r∧(all=true ∨ p.steps ≠ []) then .d .dead else .ptr p) ∧
 (∀ t x,SV.into t (.d x)=false) ∧
 (∀ t x,SV.into t (.box x)=false) ∧
 (∀ t u st o k,SV.into t (.bor ⟨.slot u,st,o⟩ k)=decide (u=t)) ∧
 (∀ t u st o k,SV.into t (.bor ⟨.sto u,st,o⟩ k)=false) ∧
 (∀ t u st o,SV.into t (.ptr ⟨.slot u,st,o⟩)=decide (u=t)) ∧
 (∀ t u st o,SV.into t (.ptr ⟨.sto u,st,o⟩)=false) ∧
 (∀ cs,SV.isRoot (.box cs)=true) ∧
 (∀ p k,SV.isRoot (.bor p k)=false) ∧
 (∀ p,SV.isRoot (.ptr p)=false) ∧
 (∀ k n,SV.isRoot (.d (.int k n))=false) ∧
 (∀ k n,D.hasX (.int k n)=false) ∧
 (∀ k n,D.noS (.int k n)=true) ∧
 (∀ k n,D.hasRef (.int k n)=false) ∧
 (∀ k n,D.freeze (.int k n)=(.int k n)) ∧
 (∀ k n,D.left (.int k n)=(.int k n)) ∧
 (∀ k n,D.asl (.int k n)=(.int k n)) ∧
 (∀ k n,D.cells (.int k n)=[(.int k n)]) ∧
 (∀ k n m,D.cellsN m (.int k n)=if m=1 then some [(.int k n)] else none) ∧
 (∀ k n l,D.withCells (.int k n) l=l.headD .dead) ∧
 (∀ b,SV.isRoot (.d (.bool b))=false) ∧
 (∀ b,D.hasX (.bool b)=false) ∧
 (∀ b,D.noS (.bool b)=true) ∧
 (∀ b,D.hasRef (.bool b)=false) ∧
 (∀ b,D.freeze (.bool b)=(.bool b)) ∧
 (∀ b,D.left (.bool b)=(.bool b)) ∧
 (∀ b,D.asl (.bool b)=(.bool b)) ∧
 (∀ b,D.cells (.bool b)=[(.bool b)]) ∧
 (∀ b m,D.cellsN m (.bool b)=if m=1 then some [(.bool b)] else none) ∧
 (∀ b l,D.withCells (.bool b) l=l.headD .dead) ∧
 (∀ s,SV.isRoot (.d (.str s))=false) ∧
 (∀ s,D.hasX (.str s)=false) ∧
 (∀ s,D.noS (.str s)=true) ∧
 (∀ s,D.hasRef (.str s)=false) ∧
 (∀ s,D.freeze (.str s)=(.str s)) ∧
 (∀ s,D.left (.str s)=(.str s)) ∧
 (∀ s,D.asl (.str s)=(.str s)) ∧
 (∀ s,D.cells (.str s)=[(.str s)]) ∧
 (∀ s m,D.cellsN m (.str s)=if m=1 then some [(.str s)] else none) ∧
 (∀ s l,D.withCells (.str s) l=l.headD .dead) ∧
 (∀ o z xs,SV.isRoot (.d (.sl o z xs))=o) ∧
 (∀ o z xs,D.hasX (.sl o z xs)=o) ∧
 (∀ o z xs,D.noS (.sl o z xs)=(o && noSL xs)) ∧
 (∀ o z xs,D.hasRef (.sl o z xs)=false) ∧
 (∀ o z xs,D.freeze (.sl o z xs)=.sl false z (zad xs)) ∧
 (∀ o z xs,D.left (.sl o z xs)=(if o=true then .gho xs.length else .sl o z xs)) ∧
 (∀ o z xs,D.asl (.sl o z xs)=(.sl o z xs)) ∧
 (∀ o z xs,D.cells (.sl o z xs)=[(.sl o z xs)]) ∧
 (∀ o z xs m,D.cellsN m (.sl o z xs)=if m=1 then some [(.sl o z xs)] else none) ∧
 (∀ o z xs l,D.withCells (.sl o z xs) l=l.headD .dead) ∧
 (∀ cs,SV.isRoot (.d (.agg cs))=zgc cs) ∧
 (∀ cs,D.hasX (.agg cs)=zgc cs) ∧
 (∀ cs,D.noS (.agg cs)=noSL cs) ∧
 (∀ cs,D.hasRef (.agg cs)=zah cs) ∧
 (∀ cs,D.freeze (.agg cs)=.agg (zad cs)) ∧
 (∀ cs,D.left (.agg cs)=.agg (zjr cs)) ∧
 (∀ cs,D.asl (.agg cs)=(.agg cs)) ∧
 (∀ cs,D.cells (.agg cs)=cs) ∧
 (∀ n cs,D.cellsN n (.agg cs)=if cs.length=n then some cs else none) ∧
 (∀ cs l,D.withCells (.agg cs) l=.agg l) ∧
 (∀ ps,SV.isRoot (.d (.tup ps))=true) ∧
 (∀ ps,D.hasX (.tup ps)=zgc ps) ∧
 (∀ ps,D.noS (.tup ps)=noSL ps) ∧
 (∀ ps,D.hasRef (.tup ps)=zah ps) ∧
 (∀ ps,D.freeze (.tup ps)=.tup (zad ps)) ∧
 (∀ ps,D.left (.tup ps)=.dead) ∧
 (∀ ps,D.asl (.tup ps)=(.tup ps)) ∧
 (∀ ps,D.cells (.tup ps)=[(.tup ps)]) ∧
 (∀ ps l,D.withCells (.tup ps) l=l.headD .dead) ∧
 (∀ f c,SV.isRoot (.d (.fn f c))=false) ∧
 (∀ f c,D.hasX (.fn f c)=false) ∧
 (∀ f c,D.noS (.fn f c)=noSL c) ∧
 (∀ f c,D.hasRef (.fn f c)=zah c) ∧
 (∀ f c,D.freeze (.fn f c)=(.fn f c)) ∧
 (∀ f c,D.left (.fn f c)=(.fn f c)) ∧
 (∀ f c,D.asl (.fn f c)=(.fn f c)) ∧
 (∀ f c,D.cells (.fn f c)=[(.fn f c)]) ∧
 (∀ f c m,D.cellsN m (.fn f c)=if m=1 then some [(.fn f c)] else none) ∧
 (∀ f c l,D.withCells (.fn f c) l=l.headD .dead) ∧
 (∀ f c,SV.isRoot (.d (.bf f c))=false) ∧
 (∀ f c,D.hasX (.bf f c)=false) ∧
 (∀ f c,D.noS (.bf f c)=noSL c) ∧
 (∀ f c,D.hasRef (.bf f c)=zah c) ∧
 (∀ f c,D.freeze (.bf f c)=(.bf f c)) ∧
 (∀ f c,D.left (.bf f c)=(.bf f c)) ∧
 (∀ f c,D.asl (.bf f c)=(.bf f c)) ∧
 (∀ f c,D.cells (.bf f c)=[(.bf f c)]) ∧
 (∀ f c m,D.cellsN m (.bf f c)=if m=1 then some [(.bf f c)] else none) ∧
 (∀ f c l,D.withCells (.bf f c) l=l.headD .dead) ∧
 (SV.isRoot (.d .nilp)=false) ∧
 (D.hasX .nilp=false) ∧
 (D.noS .nilp=true) ∧
 (D.hasRef .nilp=false) ∧
 (D.freeze .nilp=.nilp) ∧
 (D.left .nilp=.nilp) ∧
 (D.asl .nilp=.nilp) ∧
 (D.cells .nilp=[.nilp]) ∧
 (∀ m,D.cellsN m .nilp=if m=1 then some [.nilp] else none) ∧
 (∀ l,D.withCells .nilp l=l.headD .dead) ∧
 (SV.isRoot (.d .nilf)=false) ∧
 (D.hasX .nilf=false) ∧
 (D.noS .nilf=true) ∧
 (D.hasRef .nilf=false) ∧
 (D.freeze .nilf=.nilf) ∧
 (D.left .nilf=.nilf) ∧
 (D.asl .nilf=.nilf) ∧
 (D.cells .nilf=[.nilf]) ∧
 (∀ m,D.cellsN m .nilf=if m=1 then some [.nilf] else none) ∧
 (∀ l,D.withCells .nilf l=l.headD .dead) ∧
 (∀ r o,SV.isRoot (.d (.ref r o))=false) ∧
 (∀ r o,D.hasX (.ref r o)=false) ∧
 (∀ r o,D.noS (.ref r o)=true) ∧
 (∀ r o,D.hasRef (.ref r o)=true) ∧
 (∀ r o,D.freeze (.ref r o)=(.ref r o)) ∧
 (∀ r o,D.left (.ref r o)=(.ref r o)) ∧
 (∀ r o,D.asl (.ref r o)=(.ref r o)) ∧
 (∀ r o,D.cells (.ref r o)=[(.ref r o)]) ∧
 (∀ r o m,D.cellsN m (.ref r o)=if m=1 then some [(.ref r o)] else none) ∧
 (∀ r o l,D.withCells (.ref r o) l=l.headD .dead) ∧
 (∀ cs o,SV.isRoot (.d (.pim cs o))=false) ∧
 (∀ cs o,D.hasX (.pim cs o)=false) ∧
 (∀ cs o,D.noS (.pim cs o)=false) ∧
 (∀ cs o,D.hasRef (.pim cs o)=false) ∧
 (∀ cs o,D.freeze (.pim cs o)=(.pim cs o)) ∧
 (∀ cs o,D.left (.pim cs o)=(.pim cs o)) ∧
 (∀ cs o,D.asl (.pim cs o)=(.pim cs o)) ∧
 (∀ cs o,D.cells (.pim cs o)=[(.pim cs o)]) ∧
 (∀ cs o m,D.cellsN m (.pim cs o)=if m=1 then some [(.pim cs o)] else none) ∧
 (∀ cs o l,D.withCells (.pim cs o) l=l.headD .dead) ∧
 (SV.isRoot (.d .anyb)=false) ∧
 (D.hasX .anyb=false) ∧
 (D.noS .anyb=true) ∧
 (D.hasRef .anyb=false) ∧
 (D.freeze .anyb=.anyb) ∧
 (D.left .anyb=.anyb) ∧
 (D.asl .anyb=.anyb) ∧
 (D.cells .anyb=[.anyb]) ∧
 (∀ m,D.cellsN m .anyb=if m=1 then some [.anyb] else none) ∧
 (∀ l,D.withCells .anyb l=l.headD .dead) ∧
 (∀ z,SV.isRoot (.d (.nils z))=false) ∧
 (∀ z,D.hasX (.nils z)=false) ∧
 (∀ z,D.noS (.nils z)=true) ∧
 (∀ z,D.hasRef (.nils z)=false) ∧
 (∀ z,D.freeze (.nils z)=(.nils z)) ∧
 (∀ z,D.left (.nils z)=(.nils z)) ∧
 (∀ z,D.asl (.nils z)=.sl true z []) ∧
 (∀ z,D.cells (.nils z)=[(.nils z)]) ∧
 (∀ z m,D.cellsN m (.nils z)=if m=1 then some [(.nils z)] else none) ∧
 (∀ z l,D.withCells (.nils z) l=l.headD .dead) ∧
 (∀ n,SV.isRoot (.d (.gho n))=false) ∧
 (∀ n,D.hasX (.gho n)=false) ∧
 (∀ n,D.noS (.gho n)=true) ∧
 (∀ n,D.hasRef (.gho n)=false) ∧
 (∀ n,D.freeze (.gho n)=(.gho n)) ∧
 (∀ n,D.left (.gho n)=(.gho n)) ∧
 (∀ n,D.asl (.gho n)=(.gho n)) ∧
 (∀ n,D.cells (.gho n)=[(.gho n)]) ∧
 (∀ n m,D.cellsN m (.gho n)=if m=1 then some [(.gho n)] else none) ∧
 (∀ n l,D.withCells (.gho n) l=l.headD .dead) ∧
 (SV.isRoot (.d .dead)=false) ∧
 (D.hasX .dead=false) ∧
 (D.noS .dead=true) ∧
 (D.hasRef .dead=false) ∧
 (D.freeze .dead=.dead) ∧
 (D.left .dead=.dead) ∧
 (D.asl .dead=.dead) ∧
 (D.cells .dead=[.dead]) ∧
 (∀ l,D.withCells .dead l=l.headD .dead) ∧
 (∀ k a k' b,dbin .add (.int k a) (.int k' b)=if k=k' then some (.int k (k.wrap (a + b))) else none) ∧
 (∀ k a k' b,dbin .sub (.int k a) (.int k' b)=if k=k' then some (.int k (k.wrap (a - b))) else none) ∧
 (∀ k a k' b,dbin .mul (.int k a) (.int k' b)=if k=k' then some (.int k (k.wrap (a * b))) else none) ∧
 (∀ k a k' b,dbin .quo (.int k a) (.int k' b)=if k=k'∧b ≠ 0 then some (.int k (k.wrap (a.tdiv b))) else none) ∧
 (∀ k a k' b,dbin .rem (.int k a) (.int k' b)=if k=k'∧b ≠ 0 then some (.int k (a.tmod b)) else none) ∧
 (∀ k a k' b,dbin .eql (.int k a) (.int k' b)=if k=k' then some (.bool (decide (a=b))) else none) ∧
 (∀ k a k' b,dbin .neq (.int k a) (.int k' b)=if k=k' then some (.bool (!decide (a=b))) else none) ∧
 (∀ k a k' b,dbin .lss (.int k a) (.int k' b)=if k=k' then some (.bool (decide (a<b))) else none) ∧
 (∀ k a k' b,dbin .leq (.int k a) (.int k' b)=if k=k' then some (.bool (decide (a<=b))) else none) ∧
 (∀ k a k' b,dbin .gtr (.int k a) (.int k' b)=if k=k' then some (.bool (decide (a > b))) else none) ∧
 (∀ k a k' b,dbin .geq (.int k a) (.int k' b)=if k=k' then some (.bool (decide (a ≥ b))) else none) ∧
 (∀ k a k' b,dbin .shl (.int k a) (.int k' b)=if 0<=b then some (.int k (k.wrap (a * 2 ^ (min b.toNat k.bits)))) else none) ∧
 (∀ k a k' b,dbin .shr (.int k a) (.int k' b)=if 0<=b then some (.int k (a.fdiv (2 ^ (min b.toNat k.bits)))) else none) ∧
 (∀ k a k' b,dbin .and (.int k a) (.int k' b)=if k=k' then some (.int k (dand k a b)) else none) ∧
 (∀ a b,dbin .add (.str a) (.str b)=if a.size + b.size<=zgQ then some (.str (a++b)) else none) ∧
 (∀ a b,dbin .eql (.str a) (.str b)=some (.bool (decide (a=b)))) ∧
 (∀ a b,dbin .neq (.str a) (.str b)=some (.bool (!decide (a=b)))) ∧
 (∀ a b,dbin .lss (.str a) (.str b)=some (.bool (Op.bytesLess a.toList b.toList))) ∧
 (∀ a b,dbin .leq (.str a) (.str b)=some (.bool (Op.bytesLess a.toList b.toList || decide (a=b)))) ∧
 (∀ a b,dbin .gtr (.str a) (.str b)=some (.bool (!(Op.bytesLess a.toList b.toList || decide (a=b))))) ∧
 (∀ a b,dbin .geq (.str a) (.str b)=some (.bool (!(Op.bytesLess a.toList b.toList)))) ∧
 (∀ b,dun .not (.bool b)=some (.bool (!b))) ∧
 (∀ k n,dun .neg (.int k n)=some (.int k (k.wrap (0 - n)))) ∧
 (∀ k j n,zlc (.int k) (.int j n)=some (.int k (k.wrap n))) ∧
 (∀ s,zlc .same (.str s)=some (.str s)) ∧
 (∀ s,zlc .bytes (.str s)=some (.sl false 1 (s.data.toList.map zhE))) ∧
 (∀ o xs,zlc .text (.sl o 1 xs)=(zhF xs).map fun l=>.str ⟨l.toArray⟩) ∧
 (∀ s x r,St.takesG s ((.mu,x)::r)=if (r.all fun a=>a.1.calm)=true then (s.handG x).map fun y=>(some y.1::r.map (fun _=>none),y.2) else none) ∧
 (∀ s x r,St.takesG s ((.rd,x)::r)=(s.takesG r).map fun a=>(none::a.1,a.2)) ∧
 (∀ s x r,St.takesG s ((.fz,x)::r)=(s.takesG r).map fun a=>(none::a.1,a.2)) ∧
 (∀ n s x r,St.takesG s ((.im n,x)::r)=(s.takesG r).map fun a=>(none::a.1,a.2)) ∧
 (∀ s x r,St.takesG s ((.mv,x)::r)=none) ∧
 (calM []=.rd) ∧
 (∀ x l,calM (x::l)=.fz) ∧
 (M.calm .rd=true) ∧
 (M.calm .fz=true) ∧
 (∀ n,M.calm (.im n)=true) ∧
 (M.calm .mv=false) ∧
 (M.calm .mu=false) ∧
 (∀ x,BK.news .one x=some [x]) ∧
 (∀ n cs,BK.news (.many n) (.agg cs)=if cs.length=n then some cs else none) ∧
 (∀ d,znh .one d=[d.left]) ∧
 (∀ n cs,znh (.many n) (.agg cs)=zjr cs) ∧
 (zjr []=[]) ∧
 (∀ d r,zjr (d::r)=d.left::zjr r) ∧
 (∀ a b d,znh (.cut a b) d=[.dead]) ∧
 (BK.width .one=1) ∧
 (∀ n:Nat,BK.width (.many n)=n) ∧
 (∀ a b:Nat,BK.width (.cut a b)=1) ∧
 (∀ k a k' b,zgP .int (.int k a) (.int k' b)=if k=k' then some (decide (a=b)) else none) ∧
 (∀ a b,zgP .bool (.bool a) (.bool b)=some (decide (a=b))) ∧
 (∀ a b,zgP .str (.str a) (.str b)=some (decide (a=b))) ∧
 (zcc [] [] []=some true) ∧
 (∀ k ks a as b bs,zcc (k::ks) (a::as) (b::bs)=match zgP k a b with|some x=>(match zcc ks as bs with|some y=>some (x && y)|none=>none)|none=>none) ∧
 (∀ d,zjs [d]=d) ∧
 (zjs []=.tup []) ∧
 (∀ a b l,zjs (a::b::l)=.tup (a::b::l)) ∧
 (∀ s r l,St.frzs s ((.rd,r)::l)=s.frzs l) ∧
 (∀ s r l,St.frzs s ((.mv,r)::l)=s.frzs l) ∧
 (∀ s r l,St.frzs s ((.mu,r)::l)=s.frzs l) ∧
 (∀ n s r l,St.frzs s ((.im n,r)::l)=s.frzs l) ∧
 (∀ a b:Nat,(Root.slot a=Root.slot b)=(a=b)) ∧
 (∀ a b:Nat,(Root.sto a=Root.sto b)=(a=b)) ∧
 (∀ a b:Nat,(Root.sto a=Root.slot b)=False) ∧
 (∀ a b:Nat,(Root.slot a=Root.sto b)=False) ∧
 (∀ x:Bool,(x=true ∨ ([]:List (Nat × Nat)) ≠ [])=(x=true)) ∧
 (∀ d x,I.dst (.mv d x)=some d) ∧
 (∀ d x,I.dst (.nc d x)=some d) ∧
 (∀ d x,I.dst (.asg d x)=some d) ∧
 (∀ d c a b,I.dst (.pick d c a b)=some d) ∧
 (∀ d z,I.dst (.alloc d z)=some d) ∧
 (∀ d n x,I.dst (.box d n x)=some d) ∧
 (∀ d z ps,I.dst (.build d z ps)=some d) ∧
 (∀ d sz z len ps,I.dst (.bsl d sz z len ps)=some d) ∧
 (∀ d k a,I.dst (.ld d k a)=some d) ∧
 (∀ d off wd x,I.dst (.fad d off wd x)=some d) ∧
 (∀ d k off x,I.dst (.fld d k off x)=some d) ∧
 (∀ d sz x i,I.dst (.iad d sz x i)=some d) ∧
 (∀ d len sz x i,I.dst (.iar d len sz x i)=some d) ∧
 (∀ d x i,I.dst (.ixs d x i)=some d) ∧
 (∀ d op x y,I.dst (.bin d op x y)=some d) ∧
 (∀ d neg x y,I.dst (.eqb d neg x y)=some d) ∧
 (∀ d neg x,I.dst (.isn d neg x)=some d) ∧
 (∀ d neg ks x y,I.dst (.eqa d neg ks x y)=some d) ∧
 (∀ d op x,I.dst (.un d op x)=some d) ∧
 (∀ d c x,I.dst (.conv d c x)=some d) ∧
 (∀ d sz x lo hi,I.dst (.slc d sz x lo hi)=some d) ∧
 (∀ d x lo hi,I.dst (.sls d x lo hi)=some d) ∧
 (∀ d sz z len cap,I.dst (.mks d sz z len cap)=some d) ∧
 (∀ d x i,I.dst (.ext d x i)=some d) ∧
 (∀ d x,I.dst (.len d x)=some d) ∧
 (∀ d x,I.dst (.les d x)=some d) ∧
 (∀ d sz x y,I.dst (.app d sz x y)=some d) ∧
 (∀ d f cs,I.dst (.mkf d f cs)=some d) ∧
 (∀ d f fs,I.dst (.mkb d f fs)=some d) ∧
 (∀ d x,I.dst (.cap d x)=some d) ∧
 (∀ d sz z x n,I.dst (.apn d sz z x n)=some d) ∧
 (∀ d f cs,I.dst (.mkz d f cs)=some d) ∧
 (∀ d f as,I.dst (.call d f as)=d) ∧
 (∀ d f as,I.dst (.cal d f as)=d) ∧
 (∀ n a x,I.dst (.st n a x)=none):=by
 refine ⟨?_,?_,?_,?_,?_,?_,?_,?_,?_,?_,?_,?_,?_,?_,?_,?_,?_,?_,?_,?_,?_,?_,?_,?_,?_,?_,?_,?_,?_,?_,?_,?_,?_,?_,?_,?_,?_,?_,?_,?_,?_,?_,?_,?_,?_,?_,?_,?_,?_,?_,?_,?_,?_,?_,?_,?_,?_,?_,?_,?_,?_,?_,?_,?_,?_,?_,?_,?_,?_,?_,?_,?_,?_,?_,?_,?_,?_,?_,?_,?_,?_,?_,?_,?_,?_,?_,?_,?_,?_,?_,?_,?_,?_,?_,?_,?_,?_,?_,?_,?_,?_,?_,?_,?_,?_,?_,?_,?_,?_,?_,?_,?_,?_,?_,?_,?_,?_,?_,?_,?_,?_,?_,?_,?_,?_,?_,?_,?_,?_,?_,?_,?_,?_,?_,?_,?_,?_,?_,?_,?_,?_,?_,?_,?_,?_,?_,?_,?_,?_,?_,?_,?_,?_,?_,?_,?_,?_,?_,?_,?_,?_,?_,?_,?_,?_,?_,?_,?_,?_,?_,?_,?_,?_,?_,?_,?_,?_,?_,?_,?_,?_,?_,?_,?_,?_,?_,?_,?_,?_,?_,?_,?_,?_,?_,?_,?_,?_,?_,?_,?_,?_,?_,?_,?_,?_,?_,?_,?_,?_,?_,?_,?_,?_,?_,?_,?_,?_,?_,?_,?_,?_,?_,?_,?_,?_,?_,?_,?_,?_,?_,?_,?_,?_,?_,?_,?_,?_,?_,?_,?_,?_,?_,?_,?_,?_,?_,?_,?_,?_,?_,?_,?_,?_,?_,?_,?_,?_,?_,?_,?_,?_,?_,?_,?_,?_,?_,?_,?_,?_,?_,?_,?_,?_,?_,?_,?_,?_,?_,?_,?_,?_⟩ <;> intros <;> first|rfl|(simp [SV.kill];done)|(simp [SV.killD,SV.kill];done)|(simp [SV.into,Root.beq_slot];done)|(cases ‹Bool› <;> rfl)|(simp [dbin,zvr,zny,zlq];done)|(simp [zgP,zvr,zny,zlq];done)|(simp [dbin,bne,zny,zlq];done)
def znz (r:Root) (l:List Root):Bool:=!l.contains r
theorem zpE (x y:Root) (b:List Root):znz x (y::b)=(decide (x ≠ y) && znz x b):=by
 unfold znz
 rw [List.contains_cons]
 by_cases h:x=y
 ·subst h;simp
 ·have:(x == y)=false:=beq_eq_false_iff_ne.2 h
  simp [this,h]
theorem zut (a b:Nat):decide (Root.slot a ≠ Root.slot b)=(a != b):=by
 by_cases h:a=b
 ·subst h;simp
 ·simp [h]
theorem zyJ (a b:Nat):decide (Root.sto a ≠ Root.sto b)=(a != b):=by
 by_cases h:a=b
 ·subst h;simp
 ·simp [h]
theorem vxd :
 (∀ d x s,fpI (.mv d x) s=fpI1 (.mv d x) s) ∧
 (∀ d x s,fpI1 (.mv d x) s=match I.xs (.mv d x) with|some xs=>(match s.tchs xs with|some t=>(if s.takesI (.mv d x)=true then some (t,.slot d::t) else some (t,[.slot d]))|none=>none)|none=>none) ∧
 (∀ d x s,fpI (.nc d x) s=fpI1 (.nc d x) s) ∧
 (∀ d x s,fpI1 (.nc d x) s=match I.xs (.nc d x) with|some xs=>(match s.tchs xs with|some t=>(if s.takesI (.nc d x)=true then some (t,.slot d::t) else some (t,[.slot d]))|none=>none)|none=>none) ∧
 (∀ d x s,fpI (.asg d x) s=fpI1 (.asg d x) s) ∧
 (∀ d x s,fpI1 (.asg d x) s=match I.xs (.asg d x) with|some xs=>(match s.tchs xs with|some t=>(if s.takesI (.asg d x)=true then some (t,.slot d::t) else some (t,[.slot d]))|none=>none)|none=>none) ∧
 (∀ d c a b s,fpI (.pick d c a b) s=fpI1 (.pick d c a b) s) ∧
 (∀ d c a b s,fpI1 (.pick d c a b) s=match I.xs (.pick d c a b) with|some xs=>(match s.tchs xs with|some t=>(if s.takesI (.pick d c a b)=true then some (t,.slot d::t) else some (t,[.slot d]))|none=>none)|none=>none) ∧
 (∀ d z s,fpI (.alloc d z) s=fpI1 (.alloc d z) s) ∧
 (∀ d z s,fpI1 (.alloc d z) s=match I.xs (.alloc d z) with|some xs=>(match s.tchs xs with|some t=>(if s.takesI (.alloc d z)=true then some (t,.slot d::t) else some (t,[.slot d]))|none=>none)|none=>none) ∧
 (∀ d n x s,fpI (.box d n x) s=fpI1 (.box d n x) s) ∧
 (∀ d n x s,fpI1 (.box d n x) s=match I.xs (.box d n x) with|some xs=>(match s.tchs xs with|some t=>(if s.takesI (.box d n x)=true then some (t,.slot d::t) else some (t,[.slot d]))|none=>none)|none=>none) ∧
 (∀ d z ps s,fpI (.build d z ps) s=fpI1 (.build d z ps) s) ∧
 (∀ d z ps s,fpI1 (.build d z ps) s=match I.xs (.build d z ps) with|some xs=>(match s.tchs xs with|some t=>(if s.takesI (.build d z ps)=true then some (t,.slot d::t) else some (t,[.slot d]))|none=>none)|none=>none) ∧
 (∀ d sz z len ps s,fpI (.bsl d sz z len ps) s=fpI1 (.bsl d sz z len ps) s) ∧
 (∀ d sz z len ps s,fpI1 (.bsl d sz z len ps) s=match I.xs (.bsl d sz z len ps) with|some xs=>(match s.tchs xs with|some t=>(if s.takesI (.bsl d sz z len ps)=true then some (t,.slot d::t) else some (t,[.slot d]))|none=>none)|none=>none) ∧
 (∀ d k a s,fpI (.ld d k a) s=fpI1 (.ld d k a) s) ∧
 (∀ d k a s,fpI1 (.ld d k a) s=match I.xs (.ld d k a) with|some xs=>(match s.tchs xs with|some t=>(if s.takesI (.ld d k a)=true then some (t,.slot d::t) else some (t,[.slot d]))|none=>none)|none=>none) ∧
 (∀ d off wd x s,fpI (.fad d off wd x) s=fpI1 (.fad d off wd x) s) ∧
 (∀ d off wd x s,fpI1 (.fad d off wd x) s=match I.xs (.fad d off wd x) with|some xs=>(match s.tchs xs with|some t=>(if s.takesI (.fad d off wd x)=true then some (t,.slot d::t) else some (t,[.slot d]))|none=>none)|none=>none) ∧
 (∀ d k off x s,fpI (.fld d k off x) s=fpI1 (.fld d k off x) s) ∧
 (∀ d k off x s,fpI1 (.fld d k off x) s=match I.xs (.fld d k off x) with|some xs=>(match s.tchs xs with|some t=>(if s.takesI (.fld d k off x)=true then some (t,.slot d::t) else some (t,[.slot d]))|none=>none)|none=>none) ∧
 (∀ d sz x i s,fpI (.iad d sz x i) s=fpI1 (.iad d sz x i) s) ∧
 (∀ d sz x i s,fpI1 (.iad d sz x i) s=match I.xs (.iad d sz x i) with|some xs=>(match s.tchs xs with|some t=>(if s.takesI (.iad d sz x i)=true then some (t,.slot d::t) else some (t,[.slot d]))|none=>none)|none=>none) ∧
 (∀ d len sz x i s,fpI (.iar d len sz x i) s=fpI1 (.iar d len sz x i) s) ∧
 (∀ d len sz x i s,fpI1 (.iar d len sz x i) s=match I.xs (.iar d len sz x i) with|some xs=>(match s.tchs xs with|some t=>(if s.takesI (.iar d len sz x i)=true then some (t,.slot d::t) else some (t,[.slot d]))|none=>none)|none=>none) ∧
 (∀ d x i s,fpI (.ixs d x i) s=fpI1 (.ixs d x i) s) ∧
 (∀ d x i s,fpI1 (.ixs d x i) s=match I.xs (.ixs d x i) with|some xs=>(match s.tchs xs with|some t=>(if s.takesI (.ixs d x i)=true then some (t,.slot d::t) else some (t,[.slot d]))|none=>none)|none=>none) ∧
 (∀ d op x y s,fpI (.bin d op x y) s=fpI1 (.bin d op x y) s) ∧
 (∀ d op x y s,fpI1 (.bin d op x y) s=match I.xs (.bin d op x y) with|some xs=>(match s.tchs xs with|some t=>(if s.takesI (.bin d op x y)=true then some (t,.slot d::t) else some (t,[.slot d]))|none=>none)|none=>none) ∧
 (∀ d neg x y s,fpI (.eqb d neg x y) s=fpI1 (.eqb d neg x y) s) ∧
 (∀ d neg x y s,fpI1 (.eqb d neg x y) s=match I.xs (.eqb d neg x y) with|some xs=>(match s.tchs xs with|some t=>(if s.takesI (.eqb d neg x y)=true then some (t,.slot d::t) else some (t,[.slot d]))|none=>none)|none=>none) ∧
 (∀ d neg x s,fpI (.isn d neg x) s=fpI1 (.isn d neg x) s) ∧
 (∀ d neg x s,fpI1 (.isn d neg x) s=match I.xs (.isn d neg x) with|some xs=>(match s.tchs xs with|some t=>(if s.takesI (.isn d neg x)=true then some (t,.slot d::t) else some (t,[.slot d]))|none=>none)|none=>none) ∧
 (∀ d neg ks x y s,fpI (.eqa d neg ks x y) s=fpI1 (.eqa d neg ks x y) s) ∧
 (∀ d neg ks x y s,fpI1 (.eqa d neg ks x y) s=match I.xs (.eqa d neg ks x y) with|some xs=>(match s.tchs xs with|some t=>(if s.takesI (.eqa d neg ks x y)=true then some (t,.slot d::t) else some (t,[.slot d]))|none=>none)|none=>none) ∧
 (∀ d op x s,fpI (.un d op x) s=fpI1 (.un d op x) s) ∧
 (∀ d op x s,fpI1 (.un d op x) s=match I.xs (.un d op x) with|some xs=>(match s.tchs xs with|some t=>(if s.takesI (.un d op x)=true then some (t,.slot d::t) else some (t,[.slot d]))|none=>none)|none=>none) ∧
 (∀ d c x s,fpI (.conv d c x) s=fpI1 (.conv d c x) s) ∧
 (∀ d c x s,fpI1 (.conv d c x) s=match I.xs (.conv d c x) with|some xs=>(match s.tchs xs with|some t=>(if s.takesI (.conv d c x)=true then some (t,.slot d::t) else some (t,[.slot d]))|none=>none)|none=>none) ∧
 (∀ d sz x lo hi s,fpI (.slc d sz x lo hi) s=fpI1 (.slc d sz x lo hi) s) ∧
 (∀ d sz x lo hi s,fpI1 (.slc d sz x lo hi) s=match I.xs (.slc d sz x lo hi) with|some xs=>(match s.tchs xs with|some t=>(if s.takesI (.slc d sz x lo hi)=true then some (t,.slot d::t) else some (t,[.slot d]))|none=>none)|none=>none) ∧
 (∀ d x lo hi s,fpI (.sls d x lo hi) s=fpI1 (.sls d x lo hi) s) ∧
 (∀ d x lo hi s,fpI1 (.sls d x lo hi) s=match I.xs (.sls d x lo hi) with|some xs=>(match s.tchs xs with|some t=>(if s.takesI (.sls d x lo hi)=true then some (t,.slot d::t) else some (t,[.slot d]))|none=>none)|none=>none) ∧
 (∀ d sz z len cap s,fpI (.mks d sz z len cap) s=fpI1 (.mks d sz z len cap) s) ∧
 (∀ d sz z len cap s,fpI1 (.mks d sz z len cap) s=match I.xs (.mks d sz z len cap) with|some xs=>(match s.tchs xs with|some t=>(if s.takesI (.mks d sz z len cap)=true then some (t,.slot d::t) else some (t,[.slot d]))|none=>none)|none=>none) ∧
 (∀ d x i s,fpI (.ext d x i) s=fpI1 (.ext d x i) s) ∧
 (∀ d x i s,fpI1 (.ext d x i) s=match I.xs (.ext d x i) with|some xs=>(match s.tchs xs with|some t=>(if s.takesI (.ext d x i)=true then some (t,.slot d::t) else some (t,[.slot d]))|none=>none)|none=>none) ∧
 (∀ d x s,fpI (.len d x) s=fpI1 (.len d x) s) ∧
 (∀ d x s,fpI1 (.len d x) s=match I.xs (.len d x) with|some xs=>(match s.tchs xs with|some t=>(if s.takesI (.len d x)=true then some (t,.slot d::t) else some (t,[.slot d]))|none=>none)|none=>none) ∧
 (∀ d x s,fpI (.les d x) s=fpI1 (.les d x) s) ∧
 (∀ d x s,fpI1 (.les d x) s=match I.xs (.les d x) with|some xs=>(match s.tchs xs with|some t=>(if s.takesI (.les d x)=true then some (t,.slot d::t) else some (t,[.slot d]))|none=>none)|none=>none) ∧
 (∀ d sz x y s,fpI (.app d sz x y) s=fpI1 (.app d sz x y) s) ∧
 (∀ d sz x y s,fpI1 (.app d sz x y) s=match I.xs (.app d sz x y) with|some xs=>(match s.tchs xs with|some t=>(if s.takesI (.app d sz x y)=true then some (t,.slot d::t) else some (t,[.slot d]))|none=>none)|none=>none) ∧
 (∀ d f cs s,fpI (.mkf d f cs) s=fpI1 (.mkf d f cs) s) ∧
 (∀ d f cs s,fpI1 (.mkf d f cs) s=match I.xs (.mkf d f cs) with|some xs=>(match s.tchs xs with|some t=>(if s.takesI (.mkf d f cs)=true then some (t,.slot d::t) else some (t,[.slot d]))|none=>none)|none=>none) ∧
 (∀ d f fs s,fpI (.mkb d f fs) s=fpI1 (.mkb d f fs) s) ∧
 (∀ d f fs s,fpI1 (.mkb d f fs) s=match I.xs (.mkb d f fs) with|some xs=>(match s.tchs xs with|some t=>(if s.takesI (.mkb d f fs)=true then some (t,.slot d::t) else some (t,[.slot d]))|none=>none)|none=>none) ∧
 (∀ d x s,fpI (.cap d x) s=fpI1 (.cap d x) s) ∧
 (∀ d x s,fpI1 (.cap d x) s=match I.xs (.cap d x) with|some xs=>(match s.tchs xs with|some t=>(if s.takesI (.cap d x)=true then some (t,.slot d::t) else some (t,[.slot d]))|none=>none)|none=>none) ∧
 (∀ d sz z x n s,fpI (.apn d sz z x n) s=fpI1 (.apn d sz z x n) s) ∧
 (∀ d sz z x n s,fpI1 (.apn d sz z x n) s=match I.xs (.apn d sz z x n) with|some xs=>(match s.tchs xs with|some t=>(if s.takesI (.apn d sz z x n)=true then some (t,.slot d::t) else some (t,[.slot d]))|none=>none)|none=>none) ∧
 (∀ n m x s,fpI (.st n (.t m) x) s=match s.sl[m]? with|some (.ptr _)=>((s.tchs [.t m,x]).map fun t=>(t,t))|some (.box _)=>((s.tchs [.t m,x]).map fun t=>(t,t))|_=>none) ∧
 (∀ d f as s,fpI (.call d f as) s=fpI1 (.call d f as) s) ∧
 (∀ d f as s,fpI1 (.call (some d) f as) s=match s.tchs (as.map fun a=>a.2) with|some t=>(if as.all s.plainArg=true then (match s.args as with|some a=>if zah a.vals=true then none else some (t,[.slot d])|none=>none) else none)|none=>none) ∧
 (∀ g w j s,fpI (.gd g w j) s=match s.sl[g]? with|some (.d (.bool b))=>(if b=w then (fpI1 j s).map fun p=>(.slot g::p.1,p.2) else match j.dst with|some d=>some ([.slot g],[.slot d])|none=>none)|some (.d (.tup []))=>(match j.dst with|some d=>some ([.slot g],[.slot d])|none=>none)|_=>none) ∧
 (∀ d n as s,fpI (.cal d (.t n) as) s=match s.sl[n]? with|some (.d (.fn f []))=>((fpI1 (.call d f (as.map fun a=>(M.rd,a.2))) s).map fun p=>(.slot n::p.1,p.2))|_=>none) ∧
 (∀ d x,I.xs (.mv d x)=some [x]) ∧
 (∀ d x s,St.takesI s (.mv d x)=(s.tupAt x).isSome) ∧
 (∀ d x,I.xs (.nc d x)=some [x]) ∧
 (∀ d x s,St.takesI s (.nc d x)=false) ∧
 (∀ d x,I.xs (.asg d x)=some [x]) ∧
 (∀ d x s,St.takesI s (.asg d x)=true) ∧
 (∀ d c a b,I.xs (.pick d c a b)=some [c,a,b]) ∧
 (∀ d c a b s,St.takesI s (.pick d c a b)=false) ∧
 (∀ d z,I.xs (.alloc d z)=some []) ∧
 (∀ d z s,St.takesI s (.alloc d z)=false) ∧
 (∀ d n x,I.xs (.box d n x)=some [x]) ∧
 (∀ d n x s,St.takesI s (.box d n x)=true) ∧
 (∀ d z ps,I.xs (.build d z ps)=some (ps.map fun p=>p.2.2)) ∧
 (∀ d z ps s,St.takesI s (.build d z ps)=true) ∧
 (∀ d sz z len ps,I.xs (.bsl d sz z len ps)=some (ps.map fun p=>p.2)) ∧
 (∀ d sz z len ps s,St.takesI s (.bsl d sz z len ps)=true) ∧
 (∀ d k a,I.xs (.ld d k a)=some [a]) ∧
 (∀ d k a s,St.takesI s (.ld d k a)=false) ∧
 (∀ d off wd x,I.xs (.fad d off wd x)=some [x]) ∧
 (∀ d off wd x s,St.takesI s (.fad d off wd x)=false) ∧
 (∀ d k off x,I.xs (.fld d k off x)=some [x]) ∧
 (∀ d k off x s,St.takesI s (.fld d k off x)=false) ∧
 (∀ d sz x i,I.xs (.iad d sz x i)=some [x,i]) ∧
 (∀ d sz x i s,St.takesI s (.iad d sz x i)=false) ∧
 (∀ d len sz x i,I.xs (.iar d len sz x i)=some [x,i]) ∧
 (∀ d len sz x i s,St.takesI s (.iar d len sz x i)=false) ∧
 (∀ d x i,I.xs (.ixs d x i)=some [x,i]) ∧
 (∀ d x i s,St.takesI s (.ixs d x i)=false) ∧
 (∀ d op x y,I.xs (.bin d op x y)=some [x,y]) ∧
 (∀ d op x y s,St.takesI s (.bin d op x y)=false) ∧
 (∀ d neg x y,I.xs (.eqb d neg x y)=some [x,y]) ∧
 (∀ d neg x y s,St.takesI s (.eqb d neg x y)=false) ∧
 (∀ d neg x,I.xs (.isn d neg x)=some [x]) ∧
 (∀ d neg x s,St.takesI s (.isn d neg x)=false) ∧
 (∀ d neg ks x y,I.xs (.eqa d neg ks x y)=some [x,y]) ∧
 (∀ d neg ks x y s,St.takesI s (.eqa d neg ks x y)=false) ∧
 (∀ d op x,I.xs (.un d op x)=some [x]) ∧
 (∀ d op x s,St.takesI s (.un d op x)=false) ∧
 (∀ d c x,I.xs (.conv d c x)=some [x]) ∧
 (∀ d c x s,St.takesI s (.conv d c x)=false) ∧
 (∀ d sz x lo hi,I.xs (.slc d sz x lo hi)=some (x::(optX lo++optX hi))) ∧
 (∀ d sz x lo hi s,St.takesI s (.slc d sz x lo hi)=false) ∧
 (∀ d x lo hi,I.xs (.sls d x lo hi)=some (x::(optX lo++optX hi))) ∧
 (∀ d x lo hi s,St.takesI s (.sls d x lo hi)=false) ∧
 (∀ d sz z len cap,I.xs (.mks d sz z len cap)=some [len,cap]) ∧
 (∀ d sz z len cap s,St.takesI s (.mks d sz z len cap)=false) ∧
 (∀ d x i,I.xs (.ext d x i)=some [x]) ∧
 (∀ d x i s,St.takesI s (.ext d x i)=match s.tupAt x with|some (_,ps)=>(match ps[i]? with|some p=>p.hasX|none=>true)|none=>true) ∧
 (∀ d x,I.xs (.len d x)=some [x]) ∧
 (∀ d x s,St.takesI s (.len d x)=false) ∧
 (∀ d x,I.xs (.les d x)=some [x]) ∧
 (∀ d x s,St.takesI s (.les d x)=false) ∧
 (∀ d sz x y,I.xs (.app d sz x y)=some [x,y]) ∧
 (∀ d sz x y s,St.takesI s (.app d sz x y)=true) ∧
 (∀ d f cs,I.xs (.mkf d f cs)=none) ∧
 (∀ d f cs s,St.takesI s (.mkf d f cs)=false) ∧
 (∀ d f fs,I.xs (.mkb d f fs)=some fs) ∧
 (∀ d f fs s,St.takesI s (.mkb d f fs)=false) ∧
 (∀ d x,I.xs (.cap d x)=none) ∧
 (∀ d x s,St.takesI s (.cap d x)=false) ∧
 (∀ d sz z x n,I.xs (.apn d sz z x n)=none) ∧
 (∀ d sz z x n s,St.takesI s (.apn d sz z x n)=false) ∧
 (∀ s,St.tchs s []=some []) ∧
 (∀ s x r,St.tchs s (x::r)=match s.tch x,s.tchs r with|some a,some b=>some (a++b)|_,_=>none) ∧
 (∀ s d,St.tch s (.c d)=some []) ∧
 (∀ s n,St.tch s (.t n)=match s.sl[n]? with|some (.d .dead)=>none|some v=>(if v.refs.all s.rootOK=true then some (.slot n::v.refs) else none)|none=>none) ∧
 (∀ p k,SV.refs (.bor p k)=[p.root]) ∧
 (∀ p,SV.refs (.ptr p)=[p.root]) ∧
 (∀ cs,SV.refs (.box cs)=[]) ∧
 (∀ k n,SV.refs (.d (.int k n))=[]) ∧
 (∀ b,SV.refs (.d (.bool b))=[]) ∧
 (∀ s,SV.refs (.d (.str s))=[]) ∧
 (∀ o z xs,SV.refs (.d (.sl o z xs))=[]) ∧
 (∀ cs,SV.refs (.d (.agg cs))=[]) ∧
 (∀ ps,SV.refs (.d (.tup ps))=[]) ∧
 (∀ f c,SV.refs (.d (.fn f c))=[]) ∧
 (∀ f c,SV.refs (.d (.bf f c))=[]) ∧
 (SV.refs (.d .nilp)=[]) ∧
 (SV.refs (.d .nilf)=[]) ∧
 (∀ r o,SV.refs (.d (.ref r o))=[.sto r]) ∧
 (∀ cs o,SV.refs (.d (.pim cs o))=[]) ∧
 (SV.refs (.d .anyb)=[]) ∧
 (∀ z,SV.refs (.d (.nils z))=[]) ∧
 (∀ n,SV.refs (.d (.gho n))=[]) ∧
 (SV.refs (.d .dead)=[]) ∧
 (∀ s u,St.rootOK s (.slot u)=match s.sl[u]? with|some x=>x.isRoot|none=>false) ∧
 (∀ s u,St.rootOK s (.sto u)=true) ∧
 (∀ s x,St.plainArg s (.mv,x)=false) ∧
 (∀ s x,St.plainArg s (.mu,x)=false) ∧
 (∀ k s d,St.plainArg s (.im k,.c d)=true) ∧
 (∀ k s n,St.plainArg s (.im k,.t n)=match s.sl[n]? with|some (.d y)=>!y.hasX|some (.ptr ⟨.sto _,[],_⟩)=>true|_=>false) ∧
 (∀ s d,St.plainArg s (.rd,.c d)=true) ∧
 (∀ s d,St.plainArg s (.fz,.c d)=true) ∧
 (∀ s n,St.plainArg s (.rd,.t n)=match s.sl[n]? with|some (.d y)=>true|some (.bor _ _)=>true|_=>false) ∧
 (∀ s n,St.plainArg s (.fz,.t n)=match s.sl[n]? with|some (.d y)=>!y.hasX|some (.bor _ _)=>false|_=>false) ∧
 (∀ fs i j,zfS fs (i,j)=match fs[i]?,fs[j]? with|some a,some b=>zjI a b|_,_=>false) ∧
 (∀ a b c d,zjI (some (a,b)) (some (c,d))=(zgR b c && zgR b d && zgR d a)) ∧
 (∀ b,zgR [] b=true) ∧
 (∀ x a b,zgR (x::a) b=(znz x b && zgR a b)) ∧
 (∀ x,znz x []=true) ∧
 (∀ x y b,znz x (y::b)=(decide (x ≠ y) && znz x b)) ∧
 (∀ (a b:Nat),decide (Root.slot a ≠ Root.slot b)=(a != b)) ∧
 (∀ (a b:Nat),decide (Root.sto a ≠ Root.sto b)=(a != b)) ∧
 (∀ (a b:Nat),decide (Root.sto a ≠ Root.slot b)=true) ∧
 (∀ (a b:Nat),decide (Root.slot a ≠ Root.sto b)=true) ∧
 (∀ {R:Type} (tab:Tab) (fn:En R) q ps k,drw tab fn (some q) ps k=if ps.all (zfS q.2)=true then bk tab fn k q.1 else none) ∧
 (∀ x,optX (some x)=[x]) ∧
 (optX none=[]):=by
 refine ⟨?_,?_,?_,?_,?_,?_,?_,?_,?_,?_,?_,?_,?_,?_,?_,?_,?_,?_,?_,?_,?_,?_,?_,?_,?_,?_,?_,?_,?_,?_,?_,?_,?_,?_,?_,?_,?_,?_,?_,?_,?_,?_,?_,?_,?_,?_,?_,?_,?_,?_,?_,?_,?_,?_,?_,?_,?_,?_,?_,?_,?_,?_,?_,?_,?_,?_,?_,?_,?_,?_,?_,?_,?_,?_,?_,?_,?_,?_,?_,?_,?_,?_,?_,?_,?_,?_,?_,?_,?_,?_,?_,?_,?_,?_,?_,?_,?_,?_,?_,?_,?_,?_,?_,?_,?_,?_,?_,?_,?_,?_,?_,?_,?_,?_,?_,?_,?_,?_,?_,?_,?_,?_,?_,?_,?_,?_,?_,?_,?_,?_,?_,?_,?_,?_,?_,?_,?_,?_,?_,?_,?_,?_,?_,?_,?_,?_,?_,?_,?_,?_,?_,?_,?_,?_,?_,?_,?_,?_,?_,?_,?_,?_,?_,?_,?_,?_,?_,?_,?_,?_,?_,?_,?_,?_,?_⟩ <;> intros <;> first|rfl|exact zpE .. | exact zut .. | exact zyJ .. | (simp;done)|(simp [St.plainArg];split <;> simp_all;done)|(simp [St.tch];done)
abbrev vxg :=
 And.intro @go_seq <|
 And.intro @go_block <|
 And.intro @go_cond <|
 And.intro @go_cnk <|
 And.intro @zzT <|
 And.intro @zvk <|
 And.intro @go_exit <|
 And.intro @go_ret <|
 And.intro @go_skip <|
 And.intro @go_clr <|
 And.intro @go_nil <|
 And.intro @go_cons <|
 And.intro @zvl <|
 And.intro @zvm <|
 And.intro @zoH <|
 And.intro @zoI <|
 And.intro @zoJ <|
 And.intro @zmB <|
 And.intro @zuq <|
 And.intro @zqT <|
 And.intro @zur <|
 And.intro @zqW <|
 And.intro @zus <|
 And.intro @zBC <|
 And.intro @go_draw <|
 And.intro @zvn <|
 And.intro @zzU <|
 And.intro @zzV <|
 And.intro @zzW <|
 And.intro @zvo <|
 And.intro @zvp <|
 And.intro @zmC <|
 And.intro @zvq <|
 And.intro @zqX @zqY
abbrev vx:=And.intro vxa <| And.intro vxb vxg
end Go.Vx
namespace Go.Vx
def look {α:Type}:List (Nat × α)->Nat->Option α
 | [],_=>none
 | (k,x)::r,n =>
  match Nat.beq k n with
  | true=>some x
  | false=>look r n
def Tab.of (fns:List (Nat × F)) (mrks:List (Nat × List (Nat × BK × Nat))) (prs:List (Nat × (List D->Option (D × List D))):=[]):Tab:=⟨look fns,look prs,look mrks⟩
def mo.of (l:List (Nat × List M)) (n:Nat):List M:=(look l n).getD []
def AllP {α:Type} (p:Nat->α->Prop):List (Nat × α)->Prop
 | []=>True
 | (k,x)::r=>p k x∧AllP p r
theorem AllP.look {α:Type} {p:Nat->α->Prop}:∀ {l:List (Nat × α)},AllP p l->∀ {n:Nat} {x:α},look l n=some x->p n x
 | [],_,n,x,h=>by cases h
 | (k,y)::r,ha,n,x,h=>by
  simp only [Vx.look] at h
  cases hb:Nat.beq k n with
  | true =>
   rw [hb] at h
   simp only [Option.some.injEq] at h
   have:=Nat.eq_of_beq_eq_true hb
   subst this;subst h
   exact ha.1
  | false=>rw [hb] at h;exact ha.2.look h
end Go.Vx
namespace Go.Vx
abbrev Z:SV:=.d .dead
theorem zvs {n:Int} (h1:-9223372036854775808<=n) (h2:n<9223372036854775808):IntKind.wrap .i64 n=n:=by
 simp [IntKind.wrap,IntKind.signed,IntKind.bits];omega
def lsum {α:Type} (f:α->Nat) (xs:List α):Nat:=(xs.map f).sum
theorem zcq {α:Type} (f:α->Nat):lsum f []=0:=rfl
theorem zae {α:Type} (f:α->Nat) (x:α) (xs:List α):lsum f (x::xs)=f x + lsum f xs:=by simp [lsum]
def zab {α:Type} (f:α->Int->Int):List α->Int->Int
 | [],k=>k
 | x::r,k=>zab f r (f x k)
def mkL {α:Type} (mk:α->Int->α) (nx:α->Int->Int):List α->Int->List α
 | [],_=>[]
 | x::r,k=>mk x k::mkL mk nx r (nx x k)
theorem zao {α:Type} {f:α->Int->Int} {m:α->Nat} (h:∀ x k,f x k=k + m x):∀ (xs:List α) (k:Int),zab f xs k=k + lsum m xs
 | [],k=>by simp [zab,zcq]
 | x::r,k=>by rw [zab,h,zao h r,zae];omega
theorem zbr {α:Type} {m n:α->Nat} (h:∀ x,m x<=16 + 16 * n x) (xs:List α):lsum m xs<=16 * (xs.length + lsum n xs):=by
 induction xs with
 | nil=>simp [zcq]
 | cons x r ih=>rw [zae,zae,List.length_cons];have:=h x;omega
def digs:Nat->Nat->ByteArray->ByteArray
 | 0,_,acc=>acc
 | f + 1,k,acc=>if k=0 then acc else digs f (k / 10) (⟨#[(48 + k % 10).toUInt8]⟩++acc)
def mt (k:Int):ByteArray:=if k<=0 then ⟨#[109,48]⟩ else ⟨#[109]⟩++digs k.toNat k.toNat ⟨#[]⟩
theorem zaG {α:Type} (f:α->D) (pre:List α) (x:α) (r:List D):(pre++[x]).map f++r=pre.map f++f x::r:=by simp
theorem decT {p:Prop} [Decidable p] (h:p):decide p=true:=decide_eq_true h
theorem decF {p:Prop} [Decidable p] (h:¬ p):decide p=false:=decide_eq_false h
theorem ifT {α:Type} {p:Prop} [Decidable p] (h:p) (a b:α):(if p then a else b)=a:=if_pos h
theorem ifF {α:Type} {p:Prop} [Decidable p] (h:¬ p) (a b:α):(if p then a else b)=b:=if_neg h
theorem zyL {α:Type} (f:α->D) (pre:List α) (v:D) (r:List D):(pre.map f++v::r)[pre.length]? = some v:=by
 rw [List.getElem?_append_right (by simp)];simp
theorem zyM {α:Type} (f:α->D) (pre:List α) (v u:D) (r:List D):(pre.map f++v::r).set pre.length u=pre.map f++u::r:=by
 induction pre with
 | nil=>rfl
 | cons x p ih=>simp [ih]
theorem zyN {α:Type} (f:α->D) (pre:List α) (v:D) (r:List D):(pre.map f++v::r).length=pre.length + (r.length + 1):=by simp
theorem zyO {α:Type} (f:α->D) (pre:List α):(pre.map f++[]).length=pre.length:=by simp
theorem zaV {α:Type} {f g:α->D} (h:∀ x,(f x).freeze=g x) (xs:List α):zad (xs.map f)=xs.map g:=by
 induction xs with
 | nil=>rfl
 | cons x r ih=>simp [zad,h,ih]
theorem zbH {α:Type} {f g:α->D} (h:∀ x,(f x).freeze=g x) (xs:List α) (r:List D):zad (xs.map f++r)=xs.map g++zad r:=by
 induction xs with
 | nil=>rfl
 | cons x r ih=>simp [zad,h,ih]
theorem zcr {α:Type} {f:α->D} (h:∀ x,(f x).noS=true) (xs:List α):noSL (xs.map f)=true:=by
 induction xs with
 | nil=>rfl
 | cons x r ih=>simp [noSL,h,ih]
theorem zpF (z:D) (n:Nat):(zda z n).length=n:=by
 induction n with
 | zero=>rfl
 | succ n ih=>simp [zda,ih]
theorem zyP (xs:List ByteArray):zad (xs.map D.str)=xs.map D.str:=zaV (fun _=>rfl) xs
theorem D.strFrzA (xs:List ByteArray) (r:List D):zad (xs.map D.str++r)=xs.map D.str++zad r:=zbH (fun _=>rfl) xs r
theorem D.intFrzA (xs:List Int) (r:List D):zad (xs.map (D.int .i64)++r)=xs.map (D.int .i64)++zad r:=zbH (fun _=>rfl) xs r
theorem zyQ (xs:List ByteArray):noSL (xs.map D.str)=true:=zcr (fun _=>rfl) xs
theorem zrb (xs:List Int):zad (xs.map (D.int .i64))=xs.map (D.int .i64):=zaV (fun _=>rfl) xs
theorem zrc (xs:List Int):noSL (xs.map (D.int .i64))=true:=zcr (fun _=>rfl) xs
theorem zvt (n:Nat):((0:Int)<=(n:Int))=True:=by simp
theorem zhc (a:Int):decide (a=a)=true:=by simp
theorem zmD (a:ByteArray):decide (a=a)=true:=by simp
abbrev px:=And.intro @zyL <| And.intro @zyM <| And.intro @zyN <| And.intro @zyO <| And.intro zyP <| And.intro zyQ <| And.intro zrb <| And.intro zrc <| And.intro zvt <| And.intro zhc <| And.intro zmD <| And.intro @zvs <| And.intro @decT <| And.intro @decF @Int.toNat_natCast
abbrev fx:=And.intro @Bool.false_eq_true <| And.intro @and_true <| And.intro @true_and <| And.intro @and_false <| And.intro @false_and <| And.intro @and_self <| And.intro @or_true <| And.intro @true_or <| And.intro @or_false <| And.intro @false_or <| And.intro @not_true_eq_false <| And.intro @not_false_eq_true @ne_eq.{1}
end Go.Vx
namespace Go.Vx
theorem zfA {Ex:Nat->List D->Prop} {α:Type} (f:α->D) (n:α->Nat) (E:Ty) (h:∀ cs,zbq Ex E cs->∃ y,zce E cs=f y∧n y + 1<=(zce E cs).bulk):∀ (xs:List D),(∀ x ∈ xs,∃ cs,x=zce E cs∧zbq Ex E cs) ->
  ∃ ys:List α,xs=ys.map f∧ys.length + lsum n ys<=zbp xs
 | [],_=>⟨[],rfl,by simp [zcq,zbp]⟩
 | x::xs,hx=>by
  obtain ⟨cs,h1,h2⟩:=hx x (List.mem_cons_self ..)
  obtain ⟨y,h3,h4⟩:=h cs h2
  obtain ⟨ys,h5,h6⟩:=zfA f n E h xs (fun z hz=>hx z (List.mem_cons_of_mem _ hz))
  refine ⟨y::ys,by rw [h1,h3,h5];rfl,?_⟩
  rw [List.length_cons,zae,zbp]
  rw [h1]
  omega
section
variable {H:Type} {enc:TypeId × Value->H} {P:Program} {W:World}
theorem zpG {ext:TypeId->Option Nat} {Ex:Nat->List D->Prop} (hex:ExOK P ext Ex) {ub:DataW H->Nat} (hub:UB ub) {t:TypeId} {fs:Array Field} {base:Nat} {ts:List Ty} {v:Value} {d:DataW H} {ps:List MemPlace} (hu:P.underlying t=some (.struct fs)) (hty:tyOf P ext 20 t=some (.st ts))
  (hok:Value.okWide P W .any base t v) (h:DataW.Trod enc P W 0 (fun _=>true) true t v d ps):∃ ds,Rep W (Old W) [] v (.agg ds) []∧zbq Ex (.st ts) ds∧zbp ds<=ub d:=by
 obtain ⟨cs,rfl,_⟩:=WideShapes.okWide_struct hu hok
 obtain ⟨fuel,hf⟩:=h
 obtain ⟨ds,g1,g2,g3,g4,g5⟩:=zgj hex hub fuel 20 t _ _ _ hty hf
 have g1':RepL W (Old W) [] cs.toList ds []:=g1
 refine ⟨ds,?_,g3,?_⟩
 ·have:=Rep.agg (w:=W) (I:=Old W) [] cs.toList ds [] g1' g2
  simpa using this
 ·simp only [zgx] at g5;omega
theorem zyR {ext:TypeId->Option Nat} {Ex:Nat->List D->Prop} (hex:ExOK P ext Ex) {ub:DataW H->Nat} (hub:UB ub) {t:TypeId} {base:Nat} {k:IntKind} {v:Value} {d:DataW H} {ps:List MemPlace} (hu:P.underlying t=some (.int k)) (hty:tyOf P ext 20 t=some (.int k))
  (hok:Value.okWide P W .any base t v) (h:DataW.Trod enc P W 0 (fun _=>true) true t v d ps):∃ n:Int,Rep W (Old W) [] v (.int k n) []∧(Lit.int k n).wf=true:=by
 obtain ⟨n,rfl⟩:=WideShapes.okWide_int hu hok
 obtain ⟨fuel,hf⟩:=h
 obtain ⟨ds,g1,g2,g3,g4,g5⟩:=zgj hex hub fuel 20 t _ _ _ hty hf
 simp only [zbq] at g3
 obtain ⟨s',rfl,hw⟩:=g3
 have g1':RepL W (Old W) [] [Value.int k n] [.int k s'] []:=g1
 obtain ⟨v',e1,e2⟩:=RepL.of_one g1'
 simp only [List.cons.injEq,and_true] at e1
 subst e1
 exact ⟨s',e2,hw⟩
end
end Go.Vx
namespace Go.Vx
def Le {α R:Type} (K:α->Option R->Prop) (a:Option α) (x:Option R):Prop:=∀ t,a=some t->K t x
section
variable {α β γ R:Type} {K:α->Option R->Prop} {x y:Option R}
theorem Le.ret {t:α} (h:K t x):Le K (some t) x:=fun s hs=>by cases hs;exact h
theorem Le.none:Le K none x:=fun s hs=>by cases hs
theorem Le.r {a:Option α} (e:x=y) (h:Le K a y):Le K a x:=e ▸ h
theorem Le.l {a b:Option α} (e:a=b) (h:Le K b x):Le K a x:=e ▸ h
theorem Le.ite {p:Prop} [Decidable p] {a b:Option α} (h1:p->Le K a x) (h2:¬ p->Le K b x):Le K (if p then a else b) x:=by
 by_cases h:p
 ·rw [if_pos h];exact h1 h
 ·rw [if_neg h];exact h2 h
theorem Le.itq {p:Prop} [Decidable p] {a b:Option α} (h1:(p=True)->Le K a x) (h2:(p=False)->Le K b x):Le K (if p then a else b) x:=Le.ite (fun h=>h1 (eq_true h)) (fun h=>h2 (eq_false h))
theorem Le.bool {b:Bool} {a c:Option α} (h1:b=true->Le K a x) (h2:b=false->Le K c x):Le K (if b=true then a else c) x:=by
 cases b with
 | true=>rw [if_pos rfl];exact h1 rfl
 | false=>rw [if_neg (by simp)];exact h2 rfl
theorem Le.bnd {o:Option β} {f:β->Option α} (h:∀ b,o=some b->Le K (f b) x):Le K (o >>= f) x:=by
 cases o with
 | none=>exact Le.none
 | some b=>exact h b rfl
def chk (p:Prop) [Decidable p]:Option Unit:=if p then some () else none
theorem Le.chk {p:Prop} [Decidable p] {f:Unit->Option α} (h:p->Le K (f ()) x):Le K (chk p >>= f) x:=by
 refine Le.bnd fun b hb=>?_
 unfold Go.Vx.chk at hb
 by_cases hp:p
 ·cases b;exact h hp
 ·rw [if_neg hp] at hb;cases hb
def idx (l:List β) (i:Int):Option β:=if 0<=i then l[i.toNat]? else none
theorem Le.idx {l:List β} {i:Int} {f:β->Option α} (h:∀ b,0<=i->i.toNat<l.length->l[i.toNat]? = some b->Le K (f b) x):Le K (idx l i >>= f) x:=by
 refine Le.bnd fun b hb=>?_
 unfold Go.Vx.idx at hb
 by_cases hp:0<=i
 ·rw [if_pos hp] at hb
  exact h b hp (List.getElem?_eq_some_iff.1 hb).1 hb
 ·rw [if_neg hp] at hb;cases hb
def idxB (s:ByteArray) (i:Int):Option UInt8:=idx s.data.toList i
theorem Le.idxB {s:ByteArray} {i:Int} {f:UInt8->Option α} (h:∀ b,0<=i->i.toNat<s.data.toList.length->s.data.toList[i.toNat]? = some b->Le K (f b) x):Le K (idxB s i >>= f) x:=Le.idx h
def idxN (l:List β) (i:Nat):Option β:=l[i]?
theorem Le.idxN {l:List β} {i:Nat} {f:β->Option α} (h:∀ b,i<l.length->l[i]? = some b->Le K (f b) x):Le K (idxN l i >>= f) x:=by
 refine Le.bnd fun b hb=>?_
 unfold Go.Vx.idxN at hb
 exact h b (List.getElem?_eq_some_iff.1 hb).1 hb
def idxBN (s:ByteArray) (i:Nat):Option UInt8:=idxN s.data.toList i
theorem Le.idxBN {s:ByteArray} {i:Nat} {f:UInt8->Option α} (h:∀ b,i<s.data.toList.length->s.data.toList[i]? = some b->Le K (f b) x):Le K (idxBN s i >>= f) x:=Le.idxN h
def sub (l:List β) (lo hi:Int):Option (List β):=if 0<=lo∧lo<=hi∧hi<=l.length then some ((l.drop lo.toNat).take (hi.toNat - lo.toNat)) else none
theorem Le.sub {l:List β} {lo hi:Int} {f:List β->Option α} (h:∀ b,b=(l.drop lo.toNat).take (hi.toNat - lo.toNat)->0<=lo->0<=hi->lo.toNat<=hi.toNat->hi.toNat<=l.length->Le K (f b) x):Le K (sub l lo hi >>= f) x:=by
 refine Le.bnd fun b hb=>?_
 unfold Go.Vx.sub at hb
 by_cases hp:0<=lo∧lo<=hi∧hi<=l.length
 ·rw [if_pos hp] at hb;cases hb;exact h _ rfl hp.1 (by omega) (by omega) (by omega)
 ·rw [if_neg hp] at hb;cases hb
def subL (l:List β) (lo:Int):Option (List β):=if 0<=lo∧lo<=l.length then some (l.drop lo.toNat) else none
theorem Le.subL {l:List β} {lo:Int} {f:List β->Option α} (h:∀ b,b=l.drop lo.toNat->0<=lo->lo.toNat<=l.length->Le K (f b) x):Le K (subL l lo >>= f) x:=by
 refine Le.bnd fun b hb=>?_
 unfold Go.Vx.subL at hb
 by_cases hp:0<=lo∧lo<=l.length
 ·rw [if_pos hp] at hb;cases hb;exact h _ rfl hp.1 (by omega)
 ·rw [if_neg hp] at hb;cases hb
def subH (l:List β) (hi:Int):Option (List β):=if 0<=hi∧hi<=l.length then some (l.take hi.toNat) else none
theorem Le.subH {l:List β} {hi:Int} {f:List β->Option α} (h:∀ b,b=l.take hi.toNat->0<=hi->hi.toNat<=l.length->Le K (f b) x):Le K (subH l hi >>= f) x:=by
 refine Le.bnd fun b hb=>?_
 unfold Go.Vx.subH at hb
 by_cases hp:0<=hi∧hi<=l.length
 ·rw [if_pos hp] at hb;cases hb;exact h _ rfl hp.1 (by omega)
 ·rw [if_neg hp] at hb;cases hb
def subB (s:ByteArray) (lo hi:Int):Option ByteArray:=if 0<=lo∧lo<=hi∧hi<=s.size then some (s.extract lo.toNat hi.toNat) else none
theorem Le.subB {s:ByteArray} {lo hi:Int} {f:ByteArray->Option α} (h:∀ b,s.extract lo.toNat hi.toNat=b->0<=lo->0<=hi->lo.toNat<=hi.toNat->hi.toNat<=s.size->Le K (f b) x):Le K (subB s lo hi >>= f) x:=by
 refine Le.bnd fun b hb=>?_
 unfold Go.Vx.subB at hb
 by_cases hp:0<=lo∧lo<=hi∧hi<=s.size
 ·rw [if_pos hp] at hb;cases hb;exact h _ rfl hp.1 (by omega) (by omega) (by omega)
 ·rw [if_neg hp] at hb;cases hb
def subBL (s:ByteArray) (lo:Int):Option ByteArray:=if 0<=lo∧lo<=s.size then some (s.extract lo.toNat s.size) else none
theorem Le.subBL {s:ByteArray} {lo:Int} {f:ByteArray->Option α} (h:∀ b,s.extract lo.toNat s.size=b->0<=lo->lo.toNat<=s.size->Le K (f b) x):Le K (subBL s lo >>= f) x:=by
 refine Le.bnd fun b hb=>?_
 unfold Go.Vx.subBL at hb
 by_cases hp:0<=lo∧lo<=s.size
 ·rw [if_pos hp] at hb;cases hb;exact h _ rfl hp.1 (by omega)
 ·rw [if_neg hp] at hb;cases hb
def subBH (s:ByteArray) (hi:Int):Option ByteArray:=if 0<=hi∧hi<=s.size then some (s.extract 0 hi.toNat) else none
theorem Le.subBH {s:ByteArray} {hi:Int} {f:ByteArray->Option α} (h:∀ b,s.extract 0 hi.toNat=b->0<=hi->hi.toNat<=s.size->Le K (f b) x):Le K (subBH s hi >>= f) x:=by
 refine Le.bnd fun b hb=>?_
 unfold Go.Vx.subBH at hb
 by_cases hp:0<=hi∧hi<=s.size
 ·rw [if_pos hp] at hb;cases hb;exact h _ rfl hp.1 (by omega)
 ·rw [if_neg hp] at hb;cases hb
def app (a b:List β):Option (List β):=if a.length + b.length<=most then some (a++b) else none
theorem Le.app {a b:List β} {f:List β->Option α} (h:∀ c,c=a++b->a.length + b.length<=most->Le K (f c) x):Le K (app a b >>= f) x:=by
 refine Le.bnd fun c hb=>?_
 unfold Go.Vx.app at hb
 by_cases hp:a.length + b.length<=most
 ·rw [if_pos hp] at hb;cases hb;exact h _ rfl hp
 ·rw [if_neg hp] at hb;cases hb
def appB (a b:ByteArray):Option ByteArray:=if a.size + b.size<=zgQ then some (a++b) else none
theorem Le.appB {a b:ByteArray} {f:ByteArray->Option α} (h:∀ c,a++b=c->a.size + b.size<=zgQ->Le K (f c) x):Le K (appB a b >>= f) x:=by
 refine Le.bnd fun c hb=>?_
 unfold Go.Vx.appB at hb
 by_cases hp:a.size + b.size<=zgQ
 ·rw [if_pos hp] at hb;cases hb;exact h _ rfl hp
 ·rw [if_neg hp] at hb;cases hb
def mkz (z:β) (n m:Int):Option (List β):=if 0<=n∧n<=m∧m<=most then some (List.replicate n.toNat z) else none
theorem Le.mkz {z:β} {n m:Int} {f:List β->Option α} (h:∀ b,b=List.replicate n.toNat z->0<=n->0<=m->n.toNat<=m.toNat->m.toNat<=most->Le K (f b) x):Le K (mkz z n m >>= f) x:=by
 refine Le.bnd fun b hb=>?_
 unfold Go.Vx.mkz at hb
 by_cases hp:0<=n∧n<=m∧m<=most
 ·rw [if_pos hp] at hb;cases hb;exact h _ rfl hp.1 (by omega) (by omega) (by omega)
 ·rw [if_neg hp] at hb;cases hb
def mk0 (m:Int):Option Unit:=if 0<=m∧m<=most then some () else none
theorem Le.mk0 {m:Int} {f:Unit->Option α} (h:0<=m->m.toNat<=most->Le K (f ()) x):Le K (mk0 m >>= f) x:=by
 refine Le.bnd fun b hb=>?_
 unfold Go.Vx.mk0 at hb
 by_cases hp:0<=m∧m<=most
 ·cases b;exact h hp.1 (by omega)
 ·rw [if_neg hp] at hb;cases hb
def strI (s:ByteArray):List Int:=s.data.toList.map fun b=>(b.toNat:Int)
def txtI (l:List Int):ByteArray:=⟨(l.map fun n=>n.toNat.toUInt8).toArray⟩
theorem go_cong {R:Type} {T:Tab} {e:En R} {c:C} {k:List Fr} {st st':St} (h:st=st'):go T e c k st=go T e c k st':=by rw [h]
theorem Le.tail {o:Option α} (hl:Le K o x):Le K o x:=hl
theorem Le.pc {ι:Sort _} {a:Option α} {X:ι->Option R} {Q:ι->α->Option R->Prop} (h:∀ k,Le (Q k) a (X k)):∀ r,a=some r->∀ k,Q k r (X k):=fun r hr k=>h k r hr
end
section
variable {α β R:Type} {K:α->Option R->Prop} {tab:Tab} {fn:En R}
theorem Le.call {em:β->Option Res->Prop} {o:Option β} {v:Option Res} {f:β->Option α} {post:Res->Option St} {r:List I} {k:List Fr} (hg:Le em o v) (h:∀ b,o=some b->∀ y,em b y->Le K (f b) (got tab fn y post r k)):Le K (o >>= f) (got tab fn v post r k):=Le.bnd fun b hb=>h b hb v (hg b hb)
theorem Le.enter {g:F} {n:Nat} {Kf:β->Option Res->Prop} {a:Option β} {args:List D} {sto:List (List D)} (hp:tab.pr n=Option.none) (hmk:tab.mrk n=Option.none) (hf:tab.fn n=some g) (hl:args.length=g.np) (h:Le Kf a (go tab (enF g.res g.mus) g.body [] (g.init args sto))):Le Kf a (zaa tab n args sto):=by
 rw [zaf tab hp hmk hf args sto hl];exact h
def Pu (v:D) (outs:List D) (x:Option Res):Prop:=∃ y,x=some (v,outs,y)
theorem Pu.mk {v:D} {outs:List D} {y:List (List D)}:Pu v outs (some (v,outs,y)):=⟨y,rfl⟩
end
section
variable {R:Type} (tab:Tab) (fn:En R)
noncomputable def dg (acc:List FPt) (l:List I) (ps:List (Nat × Nat)) (k:List Fr) (s:St):Option R :=
 match zdB (zaa tab) l s with
 | some q=>if ps.all (zfS (acc++q.2))=true then bk tab fn k q.1 else none
 | none=>none
noncomputable def dgt (acc:List FPt) (a:Option Res) (post:Res->Option St) (l:List I) (ps:List (Nat × Nat)) (k:List Fr):Option R:=(a.bind post).bind (dg tab fn acc l ps k)
noncomputable def dth (acc:List FPt) (a:Option St) (l:List I) (ps:List (Nat × Nat)) (k:List Fr):Option R:=a.bind (dg tab fn acc l ps k)
noncomputable def dac (acc:List FPt) (a:Option Act') (l:List I) (ps:List (Nat × Nat)) (k:List Fr):Option R :=
 match a with
 | some (.st s)=>dg tab fn acc l ps k s
 | some (.rq q)=>dgt tab fn acc (zaa tab q.f q.args q.sto) q.post l ps k
 | none=>none
theorem go_dg (l:List I) (ps:List (Nat × Nat)) (k:List Fr) (s:St):go tab fn (.draw l ps) k s=dg tab fn [] l ps k s:=by
 rw [go_draw]
 unfold drw dg
 cases zdB (zaa tab) l s <;> rfl
theorem zvu (acc:List FPt) (ps:List (Nat × Nat)) (k:List Fr) (s:St):dg tab fn acc [] ps k s=if ps.all (zfS acc)=true then bk tab fn k s else none:=by
 unfold dg
 simp only [zdB]
 rw [List.append_nil]
theorem zyS (acc:List FPt) (k:List Fr) (s:St):dg tab fn acc [] [] k s=bk tab fn k s:=by
 rw [zvu];rfl
theorem zrd (acc:List FPt) (i:I) (r:List I) (ps:List (Nat × Nat)) (k:List Fr) (s:St):dg tab fn acc (i::r) ps k s=dac tab fn (acc++[fpI i s]) (vact i s) r ps k:=by
 unfold dg dac
 simp only [zdB,zbg]
 cases vact i s with
 | none=>rfl
 | some a =>
  cases a with
  | st s' =>
   simp only [dg]
   cases zdB (zaa tab) r s' with
   | none=>rfl
   | some q=>simp only [Option.map_some];rw [List.append_assoc];rfl
  | rq q =>
   simp only [dgt,dg]
   cases (zaa tab q.f q.args q.sto).bind q.post with
   | none=>rfl
   | some s' =>
    simp only [Option.bind_some]
    simp only [dg]
    cases zdB (zaa tab) r s' with
    | none=>rfl
    | some q=>simp only [Option.map_some];rw [List.append_assoc];rfl
theorem zzZ (acc:List FPt) (l:List I) (k:List Fr) (s:St):dg tab fn acc l [] k s=go tab fn (.ops l) k s:=by
 induction l generalizing acc s with
 | nil=>rw [zyS,go_nil]
 | cons i r ih =>
  rw [zrd,go_cons]
  unfold dac act
  cases vact i s with
  | none=>rfl
  | some a =>
   cases a with
   | st s'=>exact ih ..
   | rq q =>
    simp only [dgt,got]
    cases (zaa tab q.f q.args q.sto).bind q.post with
    | none=>rfl
    | some s'=>exact ih ..
theorem zAa (acc:List FPt) (s:St) (r:List I) (ps:List (Nat × Nat)) (k:List Fr):dac tab fn acc (some (.st s)) r ps k=dg tab fn acc r ps k s:=rfl
theorem zAb (acc:List FPt) (f:Nat) (args:List D) (sto:List (List D)) (post:Res->Option St) (r:List I) (ps:List (Nat × Nat)) (k:List Fr):dac tab fn acc (some (.rq ⟨f,args,sto,post⟩)) r ps k=dgt tab fn acc (zaa tab f args sto) post r ps k:=rfl
theorem zuv (acc:List FPt) (x:Res) (post:Res->Option St) (r:List I) (ps:List (Nat × Nat)) (k:List Fr):dgt tab fn acc (some x) post r ps k=dth tab fn acc (post x) r ps k:=rfl
theorem zuw (acc:List FPt) (s:St) (r:List I) (ps:List (Nat × Nat)) (k:List Fr):dth tab fn acc (some s) r ps k=dg tab fn acc r ps k s:=rfl
end
section
variable {α β R:Type} {K:α->Option R->Prop} {tab:Tab} {fn:En R}
theorem Le.dcall {acc:List FPt} {em:β->Option Res->Prop} {o:Option β} {v:Option Res} {f:β->Option α} {post:Res->Option St} {r:List I} {ps:List (Nat × Nat)} {k:List Fr} (hg:Le em o v) (h:∀ b,o=some b->∀ y,em b y->Le K (f b) (dgt tab fn acc y post r ps k)):Le K (o >>= f) (dgt tab fn acc v post r ps k):=Le.bnd fun b hb=>h b hb v (hg b hb)
end
theorem go_dgc {R:Type} (tab:Tab) (fn:En R) (l:List I) (p:Nat × Nat) (ps:List (Nat × Nat)) (k:List Fr) (s:St):go tab fn (.draw l (p::ps)) k s=dg tab fn [] l (p::ps) k s:=go_dg ..
theorem go_dgn {R:Type} (tab:Tab) (fn:En R) (l:List I) (k:List Fr) (s:St):go tab fn (.draw l []) k s=go tab fn (.ops l) k s:=by rw [go_dg,zzZ]
theorem zux {α:Type} (f:α->D) (xs:List α) (a b:Nat):List.take b (List.drop a (xs.map f))=((xs.drop a).take b).map f:=by rw [List.map_take,List.map_drop]
theorem zre {α:Type} (f:α->D) (xs:List α) (a:Nat):List.take (xs.length - a) (List.drop a (xs.map f))=(xs.drop a).map f:=by
 rw [List.map_drop];exact List.take_of_length_le (by simp)
theorem zmE {α:Type} (f:α->D) (xs:List α) (b:Nat):List.take b (xs.map f)=(xs.take b).map f:=by rw [List.map_take]
theorem zpH (s:ByteArray):List.map zhE s.data.toList=List.map (D.int .u8) (strI s):=by simp [strI,zhE]
theorem znA (l:List Int):(zhF (l.map (D.int .u8))).map (fun l=>D.str ⟨l.toArray⟩)=some (D.str (txtI l)):=by
 have:zhF (l.map (D.int .u8))=some (l.map fun n=>n.toNat.toUInt8):=by
  induction l with
  | nil=>rfl
  | cons x r ih=>simp only [List.map_cons,zhF,ih,Option.map_some]
 rw [this];rfl
theorem zij (s:ByteArray):(strI s).length=s.size:=by unfold strI;rw [List.length_map,Array.length_toList];rfl
theorem zuy (b:UInt8):zhE b=.int .u8 (b.toNat:Int):=rfl
theorem zyT (k:IntKind) (l:List Int):noSL (l.map (D.int k))=true:=zcr (fun _=>rfl) l
theorem zyU (l:List ByteArray):noSL (l.map D.str)=true:=zcr (fun _=>rfl) l
theorem zuz (l:List Bool):noSL (l.map D.bool)=true:=zcr (fun _=>rfl) l
theorem zyV (k:IntKind) (l:List Int):zad (l.map (D.int k))=l.map (D.int k):=zaV (fun _=>rfl) l
theorem zyW (l:List ByteArray):zad (l.map D.str)=l.map D.str:=zaV (fun _=>rfl) l
theorem zuA (l:List Bool):zad (l.map D.bool)=l.map D.bool:=zaV (fun _=>rfl) l
theorem znB:(∀ n x,SV.killSto n (.d x)=.d x)∧(∀ n x,SV.killSto n (.box x)=.box x)∧(∀ n u st o k,SV.killSto n (.bor ⟨.slot u,st,o⟩ k)=.bor ⟨.slot u,st,o⟩ k)∧(∀ n u st o k,SV.killSto n (.bor ⟨.sto u,st,o⟩ k)=.d .dead)∧(∀ n u st o,SV.killSto n (.ptr ⟨.slot u,st,o⟩)=.ptr ⟨.slot u,st,o⟩)∧(∀ n u o,SV.killSto n (.ptr ⟨.sto u,[],o⟩)=if u<n then .ptr ⟨.sto u,[],o⟩ else .d .dead)∧(∀ n u p st o,SV.killSto n (.ptr ⟨.sto u,p::st,o⟩)=.d .dead):=by
 refine ⟨?_,?_,?_,?_,?_,?_,?_⟩ <;> intros <;> first|rfl|simp [SV.killSto]
theorem zuB:(∀ t n x,SV.prom t n (.d x)=.d x)∧(∀ t n x,SV.prom t n (.box x)=.box x)∧(∀ t n u o,SV.prom t n (.ptr ⟨.slot u,[],o⟩)=if u=t then .d (.ref n o) else .ptr ⟨.slot u,[],o⟩)∧(∀ t n u p st o,SV.prom t n (.ptr ⟨.slot u,p::st,o⟩)=if u=t then .d .dead else .ptr ⟨.slot u,p::st,o⟩)∧(∀ t n u st o,SV.prom t n (.ptr ⟨.sto u,st,o⟩)=if u<n then .ptr ⟨.sto u,st,o⟩ else .d .dead)∧(∀ t n u st o k,SV.prom t n (.bor ⟨.sto u,st,o⟩ k)=if u<n then .bor ⟨.sto u,st,o⟩ k else .d .dead)∧(∀ t n u st o k,SV.prom t n (.bor ⟨.slot u,st,o⟩ k)=if u=t then .d .dead else .bor ⟨.slot u,st,o⟩ k):=by
 refine ⟨?_,?_,?_,?_,?_,?_,?_⟩ <;> intros <;> first|rfl|(simp [SV.prom,SV.kill];done)|(simp [SV.prom,SV.kill])
theorem zuC:(∀ t cs x,SV.shut t cs (.d x)=.d x)∧(∀ t cs x,SV.shut t cs (.box x)=.box x)∧(∀ t cs u o,SV.shut t cs (.ptr ⟨.slot u,[],o⟩)=if u=t then .d (.pim cs o) else .ptr ⟨.slot u,[],o⟩) ∧
  (∀ t cs u a b o,SV.shut t cs (.ptr ⟨.slot u,a::b,o⟩)=if u=t then .d .dead else .ptr ⟨.slot u,a::b,o⟩)∧(∀ t cs r st o,SV.shut t cs (.ptr ⟨.sto r,st,o⟩)=.ptr ⟨.sto r,st,o⟩) ∧
  (∀ t cs u st o k,SV.shut t cs (.bor ⟨.slot u,st,o⟩ k)=if u=t then .d .dead else .bor ⟨.slot u,st,o⟩ k)∧(∀ t cs r st o k,SV.shut t cs (.bor ⟨.sto r,st,o⟩ k)=.bor ⟨.sto r,st,o⟩ k):=by
 refine ⟨fun _ _ _=>rfl,fun _ _ _=>rfl,fun _ _ _ _=>rfl,?_,?_,?_,?_⟩
 ·intros;simp [SV.shut,SV.kill]
 ·intro t cs r st o;cases st <;> simp [SV.shut,SV.kill]
 ·intros;simp [SV.shut,SV.kill]
 ·intros;simp [SV.shut,SV.kill]
theorem zpI (n:Int):(zhF [D.int .u8 n]).map (fun l=>D.str ⟨l.toArray⟩)=some (D.str (txtI [n])):=rfl
abbrev sx:=And.intro znB <| And.intro zuB <| And.intro zuC <| And.intro @eq_self.{1} <| And.intro vxa <| And.intro vxb <| And.intro vxd <| And.intro @and_true <| And.intro @true_and <| And.intro @and_false <| And.intro @false_and <| And.intro @and_self <| And.intro @or_true <| And.intro @true_or <| And.intro @or_false <| And.intro @false_or <| And.intro @not_true_eq_false <| And.intro @not_false_eq_true <| And.intro @ne_eq.{1} <| And.intro @Bool.false_eq_true <| And.intro @decide_eq_true_eq <| And.intro @go_seq <| And.intro @go_block <| And.intro @go_cond <| And.intro @go_cnk <| And.intro @zzT <| And.intro @zvk <| And.intro @go_exit <| And.intro @go_ret <| And.intro @go_skip <| And.intro @go_clr <| And.intro @go_nil <| And.intro @go_cons <| And.intro @zvl <| And.intro @zvm <| And.intro @zoH <| And.intro @zoI <| And.intro @zoJ <| And.intro @zmB <| And.intro @zvn <| And.intro @zzU <| And.intro @zzV <| And.intro @zzW <| And.intro @zvo <| And.intro @zvp <| And.intro @zmC <| And.intro @zvq <| And.intro @zqX <| And.intro @zqY <| And.intro @go_dgc <| And.intro @go_dgn <| And.intro @zvu <| And.intro @zrd <| And.intro @zAa <| And.intro @zAb <| And.intro @zuv <| And.intro @zuw <| And.intro @zpH <| And.intro @znA <| And.intro @zpI <| And.intro @zij <| And.intro @zuy <| And.intro @zyT <| And.intro @zyU <| And.intro @zuz <| And.intro @zyV <| And.intro @zyW <| And.intro @zuA <| And.intro @zvt <| And.intro @Int.toNat_natCast <| And.intro @List.getElem?_map.{0,0} <| And.intro @List.length_map.{0,0} <| And.intro @Nat.zero_le <| And.intro @Nat.le_refl @Nat.sub_zero
end Go.Vx
namespace Go.Vx
class Lw {β:Type} (K:outParam (β->Option Res->Prop)) (a:Option β) (v:outParam (Option Res)):Prop where
 h:Le K a v
class Lp {β:Type} (K:outParam (List Fr->β->Option Res->Prop)) (a:Option β) (X:outParam (List Fr->Option Res)):Prop where
 h:∀ k,Le (K k) a (X k)
section
variable {α β R:Type} {K:α->Option R->Prop} {tab:Tab} {fn:En R}
theorem Le.callI {em:β->Option Res->Prop} {o:Option β} {v:Option Res} {f:β->Option α} {post:Res->Option St} {r:List I} {k:List Fr} [hg:Lw em o v] (h:∀ b y,em b y->Le K (f b) (got tab fn y post r k)):Le K (o >>= f) (got tab fn v post r k):=Le.bnd fun b hb=>h b v (hg.h b hb)
theorem Le.dcallI {acc:List FPt} {em:β->Option Res->Prop} {o:Option β} {v:Option Res} {f:β->Option α} {post:Res->Option St} {r:List I} {ps:List (Nat × Nat)} {k:List Fr} [hg:Lw em o v] (h:∀ b y,em b y->Le K (f b) (dgt tab fn acc y post r ps k)):Le K (o >>= f) (dgt tab fn acc v post r ps k):=Le.bnd fun b hb=>h b v (hg.h b hb)
end
section
variable {α β:Type} {K:α->Option Res->Prop} {x:Option Res}
theorem Le.viaI {K':List Fr->β->Option Res->Prop} {X:List Fr->Option Res} {o:Option β} {f:β->Option α} [i:Lp K' o X] (k:List Fr) (hx:x=X k) (h:∀ b y,K' k b y->Le K (f b) y):Le K (o >>= f) x:=Le.bnd fun b hb=>h b x (hx ▸ i.h k b hb)
theorem Le.tlI {K':List Fr->α->Option Res->Prop} {X:List Fr->Option Res} {o:Option α} [i:Lp K' o X] (k:List Fr) (hx:x=X k) (hk:K' k=K):Le K o x:=by rw [<- hk,hx];exact i.h k
end
def kN {α:Type} (tab:Tab) (en:En Res) (st:α->St):List Fr->α->Option Res->Prop:=fun k t x=>x=bk tab en k (st t)
def kX {α:Type} (tab:Tab) (en:En Res) (id:Nat) (st:α->St):List Fr->α->Option Res->Prop:=fun k t x=>x=exi tab en id k (st t)
def kR {α:Type} (K:α->Option Res->Prop):List Fr->α->Option Res->Prop:=fun _=>K
def kS {α β:Type} (A:List Fr->α->Option Res->Prop) (B:List Fr->β->Option Res->Prop):List Fr->α ⊕ β->Option Res->Prop:=fun k t x=>match t with
 | .inl t=>A k t x
 | .inr t=>B k t x
def PV {α:Type} (f:α->D):α->Option Res->Prop:=fun r x=>Pu (f r) [] x
def kT {α β:Type} (A:α->Option Res->Prop) (B:β->Option Res->Prop):α ⊕ β->Option Res->Prop:=fun t x=>match t with
 | .inl t=>A t x
 | .inr t=>B t x
section
variable {α β γ R:Type} {K:γ->Option R->Prop} {k:List Fr} {w:Option Res->Option R}
theorem zBG {A:List Fr->α->Option Res->Prop} {B:List Fr->β->Option Res->Prop} {f:α ⊕ β->Option γ} (h1:∀ t y,A k t y->Le K (f (.inl t)) (w y)) (h2:∀ t y,B k t y->Le K (f (.inr t)) (w y)):∀ t y,kS A B k t y->Le K (f t) (w y)
 | .inl t,y,h=>h1 t y h
 | .inr t,y,h=>h2 t y h
theorem zBH {A:α->Option Res->Prop} {B:β->Option Res->Prop} {f:α ⊕ β->Option γ} (h1:∀ t y,A t y->Le K (f (.inl t)) (w y)) (h2:∀ t y,B t y->Le K (f (.inr t)) (w y)):∀ t y,kT A B t y->Le K (f t) (w y)
 | .inl t,y,h=>h1 t y h
 | .inr t,y,h=>h2 t y h
theorem zBI {tab:Tab} {en:En Res} {st:α->St} {f:α->Option γ} (h:∀ t,Le K (f t) (w (bk tab en k (st t)))):∀ t y,kN tab en st k t y->Le K (f t) (w y):=fun t y e=>by cases e;exact h t
theorem zBJ {tab:Tab} {en:En Res} {id:Nat} {st:α->St} {f:α->Option γ} (h:∀ t,Le K (f t) (w (exi tab en id k (st t)))):∀ t y,kX tab en id st k t y->Le K (f t) (w y):=fun t y e=>by cases e;exact h t
theorem zBK {K':α->Option Res->Prop} {f:α->Option γ} (h:∀ t y,K' t y->Le K (f t) (w y)):∀ t y,kR K' k t y->Le K (f t) (w y):=h
theorem zBL {g:α->D} {f:α->Option γ} (h:∀ t z,Le K (f t) (w (some (g t,[],z)))):∀ t y,PV g t y->Le K (f t) (w y):=fun t y e=>by obtain ⟨z,rfl⟩:=e;exact h t z
theorem E0 {α:Type} {Kf:α->Option Res->Prop} {a b:Option α} {tab:Tab} {g:F} {n:Nat} {args:List D} {sto:List (List D)} (e:a=b) (hf:tab.fn n=some g:=by rfl) (hp:tab.pr n=Option.none:=by rfl) (hmk:tab.mrk n=Option.none:=by rfl) (hl:args.length=g.np:=by rfl) (h:Le Kf b (go tab (enF g.res g.mus) g.body [] (g.init args sto))):Le Kf a (zaa tab n args sto):=e ▸ Le.enter hp hmk hf hl h
theorem G0 {α:Type} {K:α->Option Res->Prop} {a:Option α} {tab:Tab} {en:En Res} {c c':C} {k:List Fr} {st:St} (e:c=c') (h:Le K a (go tab en c' k st)):Le K a (go tab en c k st):=e ▸ h
theorem G1 {α:Type} {K:α->Option Res->Prop} {a b:Option α} {tab:Tab} {en:En Res} {c c':C} {k:List Fr} {st:St} (d:a=b) (e:c=c') (h:Le K b (go tab en c' k st)):Le K a (go tab en c k st):=d ▸ e ▸ h
end
theorem Lp1 {A0 β:Type} {P:A0->Option β} {F:(A0->Option β)->A0->Option β} {K:List Fr->β->Option Res->Prop} {X:A0->List Fr->Option Res} (pc:∀ m:A0->β->Prop,(∀ rec:A0->Option β,(∀ a r,rec a=some r->m a r)->∀ a r,F rec a=some r->m a r)->∀ a r,P a=some r->m a r) (step:∀ rec:A0->Option β,(∀ a,Lp K (rec a) (X a))->∀ a k,Le (K k) (F rec a) (X a k)):∀ a,Lp K (P a) (X a) :=
 fun a=>⟨fun k r h=>pc (fun a r=>∀ k,K k r (X a k)) (fun rec hr a r h k=>step rec (fun a=>⟨fun k r h=>hr a r h k⟩) a k r h) a r h k⟩
theorem Lp2 {A0 A1 β:Type} {P:A0->A1->Option β} {F:(A0->A1->Option β)->A0->A1->Option β} {K:List Fr->β->Option Res->Prop} {X:A0->A1->List Fr->Option Res} (pc:∀ m:A0->A1->β->Prop,(∀ rec:A0->A1->Option β,(∀ a b r,rec a b=some r->m a b r)->∀ a b r,F rec a b=some r->m a b r)->∀ a b r,P a b=some r->m a b r) (step:∀ rec:A0->A1->Option β,(∀ a b,Lp K (rec a b) (X a b))->∀ a b k,Le (K k) (F rec a b) (X a b k)):∀ a b,Lp K (P a b) (X a b) :=
 fun a b=>⟨fun k r h=>pc (fun a b r=>∀ k,K k r (X a b k)) (fun rec hr a b r h k=>step rec (fun a b=>⟨fun k r h=>hr a b r h k⟩) a b k r h) a b r h k⟩
abbrev sI (n:Int):SV:=.d (.int .i64 n)
abbrev sB (b:Bool):SV:=.d (.bool b)
abbrev sT (s:ByteArray):SV:=.d (.str s)
abbrev sL {α:Type} (o:Bool) (z:Nat) (f:α->D) (xs:List α):SV:=.d (.sl o z (List.map f xs))
abbrev dI (n:Int):D:=.int .i64 n
abbrev dL {α:Type} (o:Bool) (z:Nat) (f:α->D) (xs:List α):D:=.sl o z (List.map f xs)
def zs:Nat->List SV->List SV
 | 0,l=>l
 | n + 1,l=>Z::zs n l
def rg:Nat->Nat->List Nat
 | _,0=>[]
 | a,n + 1=>a::rg (a + 1) n
abbrev qm (a b:Nat):I:=.mv a (.t b)
abbrev qa (a b:Nat):I:=.asg a (.t b)
abbrev qi (a:Nat) (n:Int):I:=.asg a (.c (.int .i64 n))
abbrev qb (a:Nat) (b:Bool):I:=.asg a (.c (.bool b))
abbrev qf (a o w b:Nat):I:=.fad a o w (.t b)
abbrev ql (a b:Nat):I:=.ld a .one (.t b)
abbrev qL (a n b:Nat):I:=.ld a (.many n) (.t b)
abbrev qx (a n b c:Nat):I:=.iad a n (.t b) (.t c)
abbrev qn (a b:Nat):I:=.len a (.t b)
abbrev qs (n a b:Nat):I:=.st n (.t a) (.t b)
abbrev qo (a:Nat) (op:BinOp) (b c:Nat):I:=.bin a op (.t b) (.t c)
abbrev qk (a:Nat) (op:BinOp) (b:Nat) (n:Int):I:=.bin a op (.t b) (.c (.int .i64 n))
abbrev qu (a b:Nat):I:=.un a .not (.t b)
abbrev qp (a b c:Nat):I:=.pick a (.t b) (.t c) (.c (.bool false))
abbrev qr (a b c:Nat):I:=.pick a (.t b) (.c (.bool true)) (.t c)
abbrev qg (a:Nat) (i:I):I:=.gd a false i
abbrev qh (a:Nat) (i:I):I:=.gd a true i
def rds:List Nat->List (M × X)
 | []=>[]
 | a::r=>(.rd,.t a)::rds r
abbrev qc (d f:Nat) (l:List Nat):I:=.call (some d) f (rds l)
abbrev qq (l:List I) (c:C):C:=.seq (.ops l) c
end Go.Vx
namespace Go.Vx
theorem zat {β:Type} (l:List β) (i:Nat):idx l (i:Int)=l[i]? := by simp [idx]
theorem zAc {β:Type} (l:List β) {i:Int} (h:0<=i):idx l i=l[i.toNat]? := by simp [idx,h]
theorem zdX {p:Prop} [Decidable p] (h:p):chk p=some ():=if_pos h
theorem zrf {β:Type} {a b:List β} (h:a.length + b.length<=most):app a b=some (a++b):=if_pos h
theorem w64 {n:Int} (h1:-9223372036854775808<=n) (h2:n<9223372036854775808):IntKind.wrap .i64 n=n:=zvs h1 h2
theorem zdP {α:Type} (xs:List α) (P:Nat->List α->Prop) (h0:P xs.length []) (h1:∀ i a rest,i<xs.length->xs[i]? = some a->xs.drop i=a::rest->P (i + 1) rest->P i (a::rest)):P 0 xs:=by
 have key:∀ (rest:List α) (i:Nat),xs.drop i=rest->i<=xs.length->P i rest:=by
  intro rest
  induction rest with
  | nil =>
   intro i hd hi
   have:i=xs.length:=by
    have:=congrArg List.length hd
    simp at this;omega
   subst this;exact h0
  | cons a r ih =>
   intro i hd hi
   have hlt:i<xs.length:=by
    have:=congrArg List.length hd
    simp at this;omega
   have hg:xs[i]? = some a:=by
    have:=congrArg List.head? hd
    simpa [List.head?_drop] using this
   have hd2:xs.drop (i + 1)=r:=by
    have:=congrArg List.tail hd
    simpa using this
   exact h1 i a r hlt hg hd (ih (i + 1) hd2 hlt)
 exact key xs 0 rfl (Nat.zero_le _)
theorem zoK (s:ByteArray):s.data.toList.length=s.size:=by rw [Array.length_toList];rfl
theorem zdQ {α:Type} (xs:List α) (n:Int) (L:Int->Option (Unit ⊕ Bool)) (P:α->Option Bool) (p:α->Bool)
  (hL:∀ i,L i=if i<n then (idx xs i >>= fun a=>P a >>= fun r=>if r=true then L (IntKind.wrap .i64 (i + 1)) else some (.inr false)) else some (.inl ()))
  (hn:n=xs.length) (hs:xs.length<=1099511627776) (hp:∀ a ∈ xs,P a=some (p a)):L 0=if xs.all p=true then some (.inl ()) else some (.inr false):=by
 subst hn
 refine zdP xs (fun i rest=>L (i:Int)=if rest.all p=true then some (.inl ()) else some (.inr false)) ?_ ?_
 ·rw [hL,if_neg (by omega)];rfl
 ·intro i a rest hi hg hd ih
  rw [hL,if_pos (by omega),zat,hg]
  have hm:a ∈ xs:=by
   obtain ⟨h1,h2⟩:=List.getElem?_eq_some_iff.1 hg
   exact h2 ▸ List.getElem_mem h1
  simp only [Option.bind_eq_bind,Option.bind_some,hp a hm]
  rw [w64 (by omega) (by omega)]
  have ih':L ((i:Int) + 1)=if rest.all p=true then some (.inl ()) else some (.inr false):=ih
  have hc:(a::rest).all p=(p a && rest.all p):=List.all_cons
  by_cases hpa:p a=true
  ·rw [if_pos hpa,ih']
   by_cases hr:rest.all p=true
   ·rw [if_pos hr,if_pos (by rw [hc,hpa,hr];rfl)]
   ·rw [if_neg hr,if_neg (by rw [hc,hpa,Bool.true_and];exact hr)]
  ·rw [if_neg hpa,if_neg (by rw [hc,Bool.eq_false_iff.2 hpa];simp)]
theorem zmF {α:Type} (l:List α):l.Nodup ↔ ∀ i j:Nat,i<j->j<l.length->l[i]? ≠ l[j]? := by
 rw [List.Nodup,List.pairwise_iff_getElem]
 constructor
 ·intro h i j hij hj e
  rw [List.getElem?_eq_getElem hj,List.getElem?_eq_getElem (by omega)] at e
  exact h i j (by omega) hj hij (Option.some.inj e)
 ·intro h i j hi hj hij e
  exact h i j hij hj (by rw [List.getElem?_eq_getElem hj,List.getElem?_eq_getElem hi,e])
open Classical in
theorem zdE {α ρ:Type} (xs:List α) (L:Int->Option (Unit ⊕ ρ)) (f:ρ) (p:Nat->α->Prop) (j:Nat) (hj:j<=xs.length)
  (h1:∀ (i:Nat) a,j<=i->i<xs.length->xs[i]? = some a->p i a->L i=L ((i:Int) + 1)) (h2:∀ (i:Nat) a,j<=i->i<xs.length->xs[i]? = some a->¬ p i a->L i=some (.inr f))
  (h3:L xs.length=some (.inl ())):L j=if (∀ (i:Nat) a,j<=i->xs[i]? = some a->p i a) then some (.inl ()) else some (.inr f):=by
 have key:∀ (n i:Nat),i + n=xs.length->j<=i->L i=if (∀ (k:Nat) a,i<=k->xs[k]? = some a->p k a) then some (.inl ()) else some (.inr f):=by
  intro n
  induction n with
  | zero =>
   intro i hi _
   obtain rfl:i=xs.length:=by omega
   rw [h3,if_pos]
   intro k a hk hg
   have:=(List.getElem?_eq_some_iff.1 hg).1
   omega
  | succ n ih =>
   intro i hi hji
   have hlt:i<xs.length:=by omega
   have hg:=List.getElem?_eq_getElem hlt
   by_cases hp:p i xs[i]
   ·rw [h1 i _ hji hlt hg hp]
    have:=ih (i + 1) (by omega) (by omega)
    rw [show ((i:Int) + 1)=((i + 1:Nat):Int) by omega,this]
    have hiff:(∀ (k:Nat) a,i + 1<=k->xs[k]? = some a->p k a) ↔ (∀ (k:Nat) a,i<=k->xs[k]? = some a->p k a):=by
     constructor
     ·intro h k a hk hka
      rcases Nat.eq_or_lt_of_le hk with e|e
      ·subst e;rw [hg] at hka;cases hka;exact hp
      ·exact h k a e hka
     ·intro h k a hk hka;exact h k a (by omega) hka
    by_cases hall:∀ (k:Nat) a,i<=k->xs[k]? = some a->p k a
    ·rw [if_pos hall,if_pos (hiff.2 hall)]
    ·rw [if_neg hall,if_neg (fun h=>hall (hiff.1 h))]
   ·rw [h2 i _ hji hlt hg hp,if_neg]
    intro h
    exact hp (h i _ (Nat.le_refl _) hg)
 exact key (xs.length - j) j (by omega) (Nat.le_refl _)
def ltB (a b:ByteArray):Bool:=Op.bytesLess a.toList b.toList
theorem zoL:∀ {a b c:List UInt8},Op.bytesLess a b=true->Op.bytesLess b c=true->Op.bytesLess a c=true
 | _,_,[],_,h=>by simp [Op.bytesLess] at h
 | _,[],_::_,h,_=>by simp [Op.bytesLess] at h
 | [],_::_,_::_,_,_=>rfl
 | a::x,b::y,c::z,h1,h2=>by
  simp only [Op.bytesLess,Bool.or_eq_true,Bool.and_eq_true,decide_eq_true_eq,beq_iff_eq] at h1 h2 ⊢
  rcases h1 with h1|⟨e1,h1⟩
  ·rcases h2 with h2|⟨e2,h2⟩
   ·left;rw [UInt8.lt_iff_toNat_lt] at *;omega
   ·subst e2;exact .inl h1
  ·subst e1
   rcases h2 with h2|⟨e2,h2⟩
   ·exact .inl h2
   ·exact .inr ⟨e2,zoL h1 h2⟩
theorem toList_inj {a b:ByteArray} (h:a.toList=b.toList):a=b:=by
 rw [ByteArray.toList_eq a,ByteArray.toList_eq b] at h
 obtain ⟨⟨x⟩⟩:=a
 obtain ⟨⟨y⟩⟩:=b
 simp only at h
 subst h;rfl
theorem zke {a b c:ByteArray} (h1:ltB a b=true) (h2:ltB b c=true):ltB a c=true:=zoL h1 h2
def Srt {α:Type} (nm:α->ByteArray) (xs:List α):Prop:=∀ (i:Nat) a b,xs[i]? = some a->xs[i + 1]? = some b->ltB (nm a) (nm b)=true
theorem Srt.tail {α:Type} {nm:α->ByteArray} {a:α} {r:List α} (h:Srt nm (a::r)):Srt nm r:=fun i x y h1 h2=>h (i + 1) x y h1 h2
theorem Srt.head {α:Type} {nm:α->ByteArray}:∀ {r:List α} {a:α},Srt nm (a::r)->∀ b ∈ r,ltB (nm a) (nm b)=true
 | c::r,a,h,b,hb=>by
  have h0:=h 0 a c rfl rfl
  rcases List.mem_cons.1 hb with e|e
  ·subst e;exact h0
  ·exact zke h0 (Srt.head h.tail b e)
def pos {α:Type} (nm:α->ByteArray) (xs:List α) (x:ByteArray):Nat:=(xs.takeWhile fun a=>ltB (nm a) x).length
theorem zvy (a b:Nat) (h:a + b<4611686018427387904):IntKind.wrap .i64 ((IntKind.wrap .u64 (IntKind.wrap .i64 ((a:Int) + b))).fdiv (2 ^ (min 1 (IntKind.bits .u64))))=(((a + b) / 2:Nat):Int):=by
 rw [w64 (n:=(a:Int) + b) (by omega) (by omega)]
 have e1:IntKind.wrap .u64 ((a:Int) + b)=(a:Int) + b:=by
  simp [IntKind.wrap,IntKind.signed,IntKind.bits];omega
 have e2:(2:Int) ^ (min 1 (IntKind.bits .u64))=2:=rfl
 rw [e1,e2,Int.fdiv_eq_ediv_of_nonneg _ (by omega)]
 have e3:((a:Int) + b) / 2=(((a + b) / 2:Nat):Int):=by omega
 rw [e3,w64 (by omega) (by omega)]
def posQ {α:Type} (q:α->Bool) (xs:List α):Nat:=(xs.takeWhile q).length
theorem zyX {α:Type} (q:α->Bool) (xs:List α):posQ q xs<=xs.length:=by
 unfold posQ
 have:=congrArg List.length (List.takeWhile_append_dropWhile (p:=q) (l:=xs))
 rw [List.length_append] at this;omega
theorem zpJ {α:Type} (q:α->Bool) (xs:List α) (hx:xs.length<=1073741824) (hq:∀ (i:Nat) a,xs[i]? = some a->(q a=true ↔ i<posQ q xs)) (L:Int->Int->Option Int)
  (hL:∀ (lo hi:Nat),L lo hi=if (lo:Int)<hi then (idx xs (IntKind.wrap .i64 ((IntKind.wrap .u64 (IntKind.wrap .i64 ((lo:Int) + hi))).fdiv (2 ^ (min 1 (IntKind.bits .u64))))) >>= fun a=>if q a=true then L (IntKind.wrap .i64 (IntKind.wrap .i64 ((IntKind.wrap .u64 (IntKind.wrap .i64 ((lo:Int) + hi))).fdiv (2 ^ (min 1 (IntKind.bits .u64)))) + 1)) hi else L lo (IntKind.wrap .i64 ((IntKind.wrap .u64 (IntKind.wrap .i64 ((lo:Int) + hi))).fdiv (2 ^ (min 1 (IntKind.bits .u64)))))) else some (lo:Int)) :
  L 0 xs.length=some ((posQ q xs:Nat):Int):=by
 have key:∀ (n lo hi:Nat),hi - lo<=n->lo<=posQ q xs->posQ q xs<=hi->hi<=xs.length->L lo hi=some ((posQ q xs:Nat):Int):=by
  intro n
  induction n with
  | zero =>
   intro lo hi h1 h2 h3 h4
   rw [hL,if_neg (by omega)]
   exact congrArg some (by omega)
  | succ n ih =>
   intro lo hi h1 h2 h3 h4
   rw [hL]
   by_cases hlt:lo<hi
   ·rw [if_pos (by omega),zvy lo hi (by omega),zat,List.getElem?_eq_getElem (show (lo + hi) / 2<xs.length by omega)]
    simp only [Option.bind_eq_bind,Option.bind_some]
    have hq':=hq _ _ (List.getElem?_eq_getElem (show (lo + hi) / 2<xs.length by omega))
    by_cases hc:q xs[(lo + hi) / 2]=true
    ·rw [if_pos hc,w64 (by omega) (by omega)]
     have:=hq'.1 hc
     exact ih ((lo + hi) / 2 + 1) hi (by omega) (by omega) h3 h4
    ·rw [if_neg hc]
     have:¬ (lo + hi) / 2<posQ q xs:=fun e=>hc (hq'.2 e)
     exact ih lo ((lo + hi) / 2) (by omega) h2 (by omega) (by omega)
   ·rw [if_neg (by omega)]
    exact congrArg some (by omega)
 exact key xs.length 0 xs.length (by omega) (Nat.zero_le _) (zyX ..) (Nat.le_refl _)
def SrtI {α:Type} (nm:α->Int) (xs:List α):Prop:=xs.Pairwise fun a b=>nm a<nm b
theorem znC {α:Type} {nm:α->Int}:∀ {xs:List α},SrtI nm xs->∀ {x:Int} (i:Nat) (a:α),xs[i]? = some a->(decide (nm a<x)=true ↔ i<posQ (fun a=>decide (nm a<x)) xs)
 | [],_,x,i,a,h=>by cases h
 | b::r,hS,x,i,a,h=>by
  cases hS with
  | cons h1 h2 =>
   unfold posQ
   rw [List.takeWhile_cons]
   by_cases hb:nm b<x
   ·simp only [hb,decide_true,if_true,List.length_cons]
    cases i with
    | zero=>cases h;simp [hb]
    | succ i =>
     have:=znC (nm:=nm) h2 (x:=x) i a h
     unfold posQ at this
     rw [this];omega
   ·simp only [hb,decide_false,Bool.false_eq_true,if_false,List.length_nil,Nat.not_lt_zero,iff_false]
    cases i with
    | zero=>cases h;simp [hb]
    | succ i =>
     have:=h1 a (List.mem_of_getElem? h)
     simp only [decide_eq_true_eq];omega
theorem zkf {α:Type} {nm:α->Int}:∀ {xs:List α},SrtI nm xs->∀ (x:Int),(xs.find? fun a=>decide (nm a=x))=(xs[posQ (fun a=>decide (nm a<x)) xs]?).bind fun a=>if nm a=x then some a else none
 | [],_,x=>rfl
 | b::r,hS,x=>by
  cases hS with
  | cons h1 h2 =>
   unfold posQ
   rw [List.takeWhile_cons,List.find?_cons]
   by_cases hb:nm b<x
   ·have:¬ nm b=x:=by omega
    simp only [decide_eq_false this,hb,decide_true,if_true,List.length_cons,List.getElem?_cons_succ]
    exact zkf h2 x
   ·simp only [hb,decide_false,Bool.false_eq_true,if_false,List.length_nil,List.getElem?_cons_zero,Option.bind_some]
    by_cases he:nm b=x
    ·simp [he]
    ·simp only [decide_eq_false he,if_neg he]
     rw [List.find?_eq_none]
     intro a ha
     have:=h1 a ha
     simp only [decide_eq_true_eq];omega
theorem zfg {α:Type} {l:List α} {i:Nat} {a:α} (h:l[i]? = some a):a ∈ l:=List.mem_of_getElem? h
theorem zAh {b:Bool} {p:Prop} {d:Decidable p} (h:b=true ↔ p):some b=some (@decide p d):=by
 cases b with
 | true=>rw [@decide_eq_true p d (h.1 rfl)]
 | false=>rw [@decide_eq_false p d (fun q=>by have:=h.2 q;cases this)]
open Classical in
theorem zkg {α:Type} (l:List α) (p:α->Prop):(l.all fun a=>decide (p a))=decide (∀ a ∈ l,p a):=by
 rw [Bool.eq_iff_iff,List.all_eq_true,decide_eq_true_iff]
 exact ⟨fun h a ha=>of_decide_eq_true (h a ha),fun h a ha=>decide_eq_true (h a ha)⟩
end Go.Vx

