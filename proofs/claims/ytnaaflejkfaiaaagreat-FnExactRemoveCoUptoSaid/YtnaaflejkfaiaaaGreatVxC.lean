/-
  An evaluator for the model's code on values, and the proof that what it tells of a call the program does; part 3.
-/
import Derived.Test.YtnaaflejkfaiaaaGreatVxB
import Derived.Lib.LaidTab
import Derived.Lib.ItoaNum
import Derived.LoopN
import Derived.Test.YtnaaflejkfaiaaaGreatVxA
import Derived.Orders
set_option linter.unusedVariables false
set_option linter.unusedSimpArgs false
namespace Go.Vx
def zjR (w:World) (I:Nat->Prop) (ι:List Nat) (sto:List (List D)) (Gs:List (List Nat)):Prop :=
 Gs.length=sto.length∧ι.length=sto.length∧∀ r cs,sto[r]? = some cs->zif w I ι (ι.getD r 0) cs (Gs.getD r [])
def zqv (w:World) (I:Nat->Prop) (ι F0:List Nat) (ms:List M) (vs:List Value) (res:Res) (v:Value) (w2:World):Prop :=
 ∃ (I2:Nat->Prop) (ι2 Fr:List Nat) (Fo Gs2:List (List Nat)),Ext (· ∈ F0) w w2∧(∀ b,I b->I2 b)∧(∀ b,I2 b->b<w2.heap.size∧(I b ∨ b ∈ F0 ∨ w.heap.size<=b))∧Rep w2 I2 ι2 v res.1 Fr ∧
  RepS w2 I2 ι2 (musV ms vs) res.2.1 Fo∧zjR w2 I2 ι2 res.2.2 Gs2∧(∀ r b:Nat,ι[r]? = some b->ι2[r]? = some b)∧(Fr++(Fo.flatten++Gs2.flatten)).Nodup ∧
  ∀ b ∈ Fr++(Fo.flatten++Gs2.flatten),¬ I2 b∧(b ∈ F0 ∨ w.heap.size<=b)∧b<w2.heap.size
def zpu (P:Program) (w:World):Prop:=∀ g,P.globalNamed "internal/strconv.uint64pow10" = some g->Lib.TabIs P w "internal/strconv.uint64pow10" .u64 Lib.pow10Tab
def zlk (P:Program) (w:World) (I:Nat->Prop):Prop:=zpu P w∧∀ g,P.globalNamed "internal/strconv.uint64pow10" = some g->I g
theorem zpu.lt {P:Program} {w:World} (h:zpu P w) {g:Nat} (hg:P.globalNamed "internal/strconv.uint64pow10" = some g):g<w.heap.size:=by
 have h1:=h g hg
 unfold Lib.TabIs World.var? at h1
 rw [hg] at h1
 simp only [Option.bind_some] at h1
 cases hh:w.heap[g]? with
 | none=>rw [hh] at h1;cases h1
 | some o=>exact (Array.getElem?_eq_some_iff.1 hh).1
theorem zpu.frame {P:Program} {w w2:World} (h:zpu P w) (hb:∀ g,P.globalNamed "internal/strconv.uint64pow10" = some g->w2.heap[g]? = w.heap[g]?):zpu P w2:=by
 intro g hg
 have h1:=h g hg
 unfold Lib.TabIs World.var? at h1 ⊢
 rw [hg] at h1 ⊢
 simp only [Option.bind_some] at h1 ⊢
 rw [hb g hg]
 exact h1
theorem zlk.mono {P:Program} {w:World} {I I':Nat->Prop} (h:zlk P w I) (hI:∀ b,I b->I' b):zlk P w I':=⟨h.1,fun g hg=>hI g (h.2 g hg)⟩
theorem zlk.ext {P:Program} {w w2:World} {I I' S:Nat->Prop} (h:zlk P w I) (he:Ext S w w2) (hS:∀ b,I b->¬ S b) (hI:∀ b,I b->I' b):zlk P w2 I' :=
 ⟨h.1.frame fun g hg=>he.block g (h.1.lt hg) (hS g (h.2 g hg)),fun g hg=>hI g (h.2 g hg)⟩
class TabEnv (P:Program) (E:Env):Prop where
 tab:zlk P E.w0 E.I0
 apart:∀ b,E.I0 b->b ∉ E.F0
theorem Sim.tab {P:Program} {E:Env} [T:TabEnv P E] {hand:List Nat} {a:Act} {w:World} {s:St} {I:Nat->Prop} {ι:List Nat} {Fs Gs:List (List Nat)} (h:Sim E hand a w s I ι Fs Gs):zlk P w I :=
 T.tab.ext h.ext T.apart h.immUp
def zfy (P:Program) (ms:List M) (f:Nat) (args:List D) (sto:List (List D)) (res:Res):Prop :=
 ∀ (w:World) (I:Nat->Prop) (ι:List Nat) (vs:List Value) (Fs Gs:List (List Nat)),RepS w I ι vs args Fs->zjR w I ι sto Gs->(Fs.flatten++Gs.flatten).Nodup ->
  (∀ b ∈ Fs.flatten++Gs.flatten,¬ I b∧b<w.heap.size)->(∀ b,I b->b<w.heap.size)->zlk P w I ->
  Calls P f vs.toArray w fun e w2=>∃ v,e=.returned v∧zqv w I ι (Fs.flatten++Gs.flatten) ms vs res v w2
def HOK (P:Program) (mo:Nat->List M) (h:H):Prop:=∀ f args sto res,h f args sto=some res->zfi P f=true∧zfy P (mo f) f args sto res
theorem SV.killSto_cases (n:Nat) (v:SV):SV.killSto n v=.d .dead ∨ (SV.killSto n v=v∧(∀ p k,v=.bor p k->∀ r,p.root ≠ .sto r)∧(∀ p,v=.ptr p->∀ r,p.root=.sto r->p.steps=[]∧r<n)):=by
 cases v with
 | d x=>exact .inr ⟨rfl,fun _ _ h=>(by cases h),fun _ h=>(by cases h)⟩
 | box cs=>exact .inr ⟨rfl,fun _ _ h=>(by cases h),fun _ h=>(by cases h)⟩
 | bor p k =>
  obtain ⟨root,st,off⟩:=p
  cases root with
  | slot u=>exact .inr ⟨rfl,fun p' k' e r=>(by cases e;simp),fun _ e=>(by cases e)⟩
  | sto r=>exact .inl rfl
 | ptr p =>
  obtain ⟨root,st,off⟩:=p
  cases root with
  | slot u=>exact .inr ⟨rfl,fun _ _ e=>(by cases e),fun p' e r h=>(by cases e;cases h)⟩
  | sto r =>
   by_cases h:st=[]∧r<n
   ·refine .inr ⟨by simp [SV.killSto,h],fun _ _ e=>(by cases e),fun p' e r' hr=>?_⟩
    cases e
    simp only [Root.sto.injEq] at hr
    subst hr
    exact h
   ·exact .inl (by simp only [SV.killSto,if_neg h])
theorem ziD.putSto (s:St) (sto:List (List D)):ziD s (s.putSto sto) :=
 ⟨fun t x h=>⟨x,by simp [St.putSto,h,SV.killSto]⟩,fun t cs h=>⟨cs,by simp [St.putSto,h,SV.killSto]⟩⟩
section
variable {P:Program} {E:Env} [TE:TabEnv P E] {hand:List Nat} {a:Act} {w:World} {s:St} {I:Nat->Prop} {ι:List Nat} {Fs Gs:List (List Nat)}
theorem Sim.stoRep (h:Sim E hand a w s I ι Fs Gs):zjR w I ι s.sto Gs:=⟨h.lenG,h.lenI,h.sto⟩
theorem Sim.putSto (h:Sim E hand a w s I ι Fs Gs) {w2:World} {sto':List (List D)} {ι2:List Nat} {Gs2:List (List Nat)} {I2:Nat->Prop} {hand2:List Nat} (hx:Ext (fun b=>b ∈ hand ∨ b ∈ Gs.flatten) w w2) (hI:∀ b,I b->I2 b)
  (hI2:∀ b,I2 b->I b ∨ ((b ∈ hand ∨ b ∈ Gs.flatten ∨ w.heap.size<=b)∧b<w2.heap.size)) (hι:∀ r b:Nat,ι[r]? = some b->ι2[r]? = some b) (hsto:zjR w2 I2 ι2 sto' Gs2) (hn:(Gs2.flatten++hand2).Nodup)
  (hh:∀ b ∈ Gs2.flatten++hand2,¬ I2 b∧(b ∈ hand ∨ b ∈ Gs.flatten ∨ w.heap.size<=b)∧b<w2.heap.size):Sim E hand2 a w2 (s.putSto sto') I2 ι2 Fs Gs2:=by
 obtain ⟨n1,n2,n3⟩:=h.nodup2
 obtain ⟨m1,m2,m3⟩:=List.nodup_append.1 n1
 have hlt:∀ b,b ∈ Fs.flatten->b<w.heap.size∧¬ I b∧(b ∈ E.F0 ∨ E.w0.heap.size<=b):=fun b hb=>by
  have:=h.apart b (mAL _ hb)
  exact ⟨this.2.2,this.1,this.2.1⟩
 have hsame:∀ b,b ∈ Fs.flatten->w2.heap[b]? = w.heap[b]? := fun b hb=>hx.block b (hlt b hb).1 (fun e=>e.elim (n3 b (mAL _ hb)) (fun e=>m3 b hb b e rfl))
 have hIw:∀ b,I b->w2.heap[b]? = w.heap[b]? := fun b hb=>hx.block b (h.imm b hb).1 (fun e=>e.elim
  (fun e=>(h.apart b (mAR _ (mAR _ e))).1 hb) (fun e=>(h.apart b (mAR _ (mAL _ e))).1 hb))
 have hget:∀ (u:Nat) (sv:SV),(s.putSto sto').sl[u]? = some sv->∃ sv0,s.sl[u]? = some sv0∧sv=SV.killSto s.sto.length sv0:=by
  intro u sv hu
  simp only [St.putSto,List.getElem?_map] at hu
  obtain ⟨sv0,h0,rfl⟩:=Option.map_eq_some_iff.1 hu
  exact ⟨sv0,h0,rfl⟩
 have hroot:∀ (u:Nat) (x:SV),s.sl[u]? = some x->x.isRoot=true->(s.putSto sto').sl[u]? = some x:=by
  intro u x hu hr
  simp only [St.putSto,List.getElem?_map,hu,Option.map_some]
  cases x with
  | d x=>rfl
  | box cs=>rfl
  | bor p k=>simp [SV.isRoot] at hr
  | ptr p=>simp [SV.isRoot] at hr
 have back:∀ {u:Nat} {sv:SV} {p:Place} {vs:List Value} {ds:List D} {bo:Option (Nat × Nat)} {q:Nat},s.sl[u]? = some sv->p.root=.slot q->sv.into q=true ->
   zaC w2 a (s.putSto sto') ι2 p.root vs ds bo->zaC w a s ι p.root vs ds bo∧∀ {st:List (Nat × Nat)} {vs':List Value} {ds':List D} {bo':Option (Nat × Nat)},Foc w2 vs ds bo st vs' ds' bo'->Foc w vs ds bo st vs' ds' bo':=by
  intro u sv p vs ds bo q hu hpq hin hri
  have hri0:zaC w a s ι p.root vs ds bo:=by
   rw [hpq] at hri ⊢
   obtain ⟨y,hy,hyr,_⟩:=h.rooted u sv q hu hin
   have hy':=hroot q y hy hyr
   rcases hri with ⟨b1,c1,T1,k1,k2,k3,rfl,rfl⟩|⟨y1,k1,rfl,rfl,rfl⟩
   ·rw [hy'] at k1;cases k1
    refine .inl ⟨b1,c1,T1,hy,k2,?_,rfl,rfl⟩
    rw [<- hsame b1 ?_];exact k3
    obtain ⟨b',hv,c',T',G,q1,q2,q3,q4⟩:=h.slot q _ hy
    rw [k2] at hv
    simp only [Value.pointer.injEq,Option.some.injEq,Addr.mk.injEq,and_true] at hv
    subst hv
    exact h.memF (t:=q) (by rw [q4];exact List.mem_cons_self ..)
   ·rw [hy'] at k1;cases k1
    exact .inr ⟨y1,hy,rfl,rfl,rfl⟩
  refine ⟨hri0,fun hf=>?_⟩
  obtain ⟨F,hr,hFP,_⟩:=h.rootRep hri0
  refine hf.frame hr (fun b hb=>hsame b ?_)
  have:b ∈ FP Fs Gs (.slot q):=by
   rw [<- hpq,hFP]
   cases bo with
   | none=>exact hb
   | some q=>exact List.mem_cons_of_mem _ hb
  exact h.memF this
 refine ⟨h.defers,by simpa [St.putSto] using h.size,by simpa [St.putSto] using h.lenF,hsto.1,hsto.2.1,?_,?_,hsto.2.2,?_,?_,?_,fun b hb=>hI b (h.immUp b hb),?_,h.pin,?_,fun r b e=>hι r b (h.stoUp r b e)⟩
 ·intro u sv hu
  obtain ⟨sv0,h0,rfl⟩:=hget u sv hu
  have hs0:=h.slot u _ h0
  rcases SV.killSto_cases s.sto.length sv0 with e|⟨e,_,_⟩
  ·rw [e]
   have hFn:Fs.getD u []=[]:=by
    cases sv0 with
    | d x=>simp only [SV.killSto] at e;cases e;exact hs0.noX rfl
    | box cs0=>simp [SV.killSto] at e
    | bor p k=>exact hs0
    | ptr p=>exact hs0
   rw [hFn]
   exact .dead ..
  ·rw [e]
   exact (hs0.monoSto hι).frame hI hIw (fun b hb=>hsame b (h.memF hb))
 ·intro u sv hu
  obtain ⟨sv0,h0,rfl⟩:=hget u sv hu
  have hg:=h.good u _ h0
  rcases SV.killSto_cases s.sto.length sv0 with e|⟨e,hb1,hp1⟩
  ·rw [e];trivial
  ·rw [e]
   cases sv0 with
   | d x=>trivial
   | box cs0=>trivial
   | bor p k =>
    intro vs ds bo vs' ds' bo' h1 h2
    cases hr:p.root with
    | slot q =>
     obtain ⟨g1,g2⟩:=back h0 hr (by simp [SV.into,hr]) h1
     exact hg vs ds bo vs' ds' bo' g1 (g2 h2)
    | sto r=>exact absurd hr (hb1 p k rfl r)
   | ptr p =>
    intro vs ds bo vs' ds' bo' h1 h2
    cases hr:p.root with
    | slot q =>
     obtain ⟨g1,g2⟩:=back h0 hr (by simp [SV.into,hr]) h1
     exact hg vs ds bo vs' ds' bo' g1 (g2 h2)
    | sto r =>
     obtain ⟨e1,e2⟩:=hp1 p rfl r hr
     rw [e1] at h2
     cases h2
     rw [hr] at h1
     obtain ⟨b1,c1,T1,k1,k2,k3,rfl,rfl⟩:=h1
     have hroot0:s.root p.root=some s.sto[r]:=by rw [hr];exact List.getElem?_eq_getElem e2
     obtain ⟨vs0,bo0,h3⟩:=h.root_open hroot0
     have h3':=h3
     rw [hr] at h3'
     obtain ⟨b2,c2,T2,j1,j2,j3,rfl,rfl⟩:=h3'
     obtain ⟨b3,o3,e3,hv3⟩:=hg _ _ _ _ _ _ h3 (by rw [e1];exact .nil _ _ _)
     simp only [Option.some.injEq,Prod.mk.injEq] at e3
     obtain ⟨rfl,rfl⟩:=e3
     have:=hι r b2 j2
     rw [k2] at this
     simp only [Option.some.injEq] at this
     subst this
     exact ⟨b1,0,rfl,hv3⟩
 ·refine List.nodup_append.2 ⟨m1,hn,?_⟩
  intro x hx1 y hy e
  subst e
  rcases (hh x hy).2.1 with e|e|e
  ·exact n3 x (mAL _ hx1) e
  ·exact m3 x hx1 x e rfl
  ·have:=(hlt x hx1).1;omega
 ·intro b hb
  rcases List.mem_append.1 hb with hb|hb
  ·refine ⟨fun e=>?_,(hlt b hb).2.2,Nat.lt_of_lt_of_le (hlt b hb).1 hx.size⟩
   rcases hI2 b e with e|⟨e|e|e,_⟩
   ·exact (hlt b hb).2.1 e
   ·exact n3 b (mAL _ hb) e
   ·exact m3 b hb b e rfl
   ·have:=(hlt b hb).1;omega
  ·refine ⟨(hh b hb).1,?_,(hh b hb).2.2⟩
   rcases (hh b hb).2.1 with e|e|e
   ·exact (h.apart b (mAR _ (mAR _ e))).2.1
   ·exact (h.apart b (mAR _ (mAL _ e))).2.1
   ·have:=h.ext.size;exact .inr (by omega)
 ·intro b hb
  rcases hI2 b hb with e|⟨e,hl⟩
  ·exact ⟨Nat.lt_of_lt_of_le (h.imm b e).1 hx.size,(h.imm b e).2⟩
  ·refine ⟨hl,?_⟩
   rcases e with e|e|e
   ·exact .inr (h.apart b (mAR _ (mAR _ e))).2.1
   ·exact .inr (h.apart b (mAR _ (mAL _ e))).2.1
   ·have:=h.ext.size;exact .inr (.inr (by omega))
 ·refine h.ext.trans hx ?_
  intro x hx1 hx2
  have:x ∈ E.F0 ∨ E.w0.heap.size<=x:=by
   rcases hx2 with hx2|hx2
   ·exact (h.apart x (mAR _ (mAR _ hx2))).2.1
   ·exact (h.apart x (mAR _ (mAL _ hx2))).2.1
  rcases this with e|e
  ·exact e
  ·omega
 ·intro u sv q hu hin
  obtain ⟨sv0,h0,rfl⟩:=hget u sv hu
  rcases SV.killSto_cases s.sto.length sv0 with e|⟨e,_,_⟩
  ·rw [e] at hin;simp [SV.into] at hin
  ·rw [e] at hin ⊢
   obtain ⟨y,hy,hyr,hyb⟩:=h.rooted u sv0 q h0 hin
   exact ⟨y,hroot q y hy hyr,hyr,hyb⟩
theorem Sim.setO {F:List Nat} (h:Sim E (F++[]) a w s I ι Fs Gs) {d:Option Nat} (hp:∀ t,d=some t->∀ v,(t,v) ∉ E.pin) {v:Value} {x:D} {s':St} (hs:s.setO d (.d x)=some s') (hr:Rep w I ι v x F) :
  ∃ Fs2,Sim E [] (a.put d v) w s' I ι Fs2 Gs:=by
 cases d with
 | none =>
  simp only [St.setO,Option.some.injEq] at hs
  subst hs
  exact ⟨Fs,h.less List.nodup_nil (fun _ hb=>by cases hb)⟩
 | some t=>exact Sim.setVal h hs (hp t rfl) hr
theorem Sim.setF {F:List Nat} (h:Sim E (F++[]) a w s I ι Fs Gs) {d:Option Nat} (hp:∀ t,d=some t->∀ v,(t,v) ∉ E.pin) {v:Value} {x:D} {g0:Bool} {s':St}
  (hs:(if g0=true then (s.setO d (.d x)).bind fun s=>s.frzO d else s.setO d (.d x))=some s') (hr:Rep w I ι v x F):∃ I' Fs2 Gs2,Sim E [] (a.put d v) w s' I' ι Fs2 Gs2:=by
 split at hs
 ·obtain ⟨s1,h1,h2⟩:=zaB hs
  obtain ⟨Fs2,hsim⟩:=h.setO hp h1 hr
  cases d with
  | none=>cases h2;exact ⟨I,Fs2,Gs,hsim⟩
  | some t =>
   obtain ⟨I',Fs3,Gs3,h3,_⟩:=hsim.frz (x:=.t t) (show s1.frz (.t t)=some s' from h2)
   exact ⟨I',Fs3,Gs3,h3⟩
 ·obtain ⟨Fs2,hsim⟩:=h.setO hp hs hr
  exact ⟨I,Fs2,Gs,hsim⟩
theorem znm.putSto {ps:List Place} {gb:Option (Place × BK)} {vs:List Value} (sto:List (List D)) (hb:znm a w s ps gb vs):znm a w (s.putSto sto) ps gb vs:=by
 rcases hb with ⟨h1,h2⟩|⟨q,v,h1,h2,h3,n,t,st,off,e1,e2,e3,e4⟩
 ·exact .inl ⟨h1,h2.imp (fun p v hv=>hv.keep (.putSto _ _))⟩
 ·refine .inr ⟨q,v,h1,h2,h3,n,t,st,off,e1,?_,e3,e4⟩
  simp [St.putSto,e2,SV.killSto]
theorem zif.monoSto {w:World} {I:Nat->Prop} {ι ι':List Nat} (hι:∀ r b:Nat,ι[r]? = some b->ι'[r]? = some b) {b:Nat} {cs:List D} {F:List Nat} (h:zif w I ι b cs F):zif w I ι' b cs F:=by
 obtain ⟨c,T,G,e1,e2,e3,e4⟩:=h
 exact ⟨c,T,G,e1,e2.monoSto hι,e3,e4⟩
theorem zpv {s:St} {lent:Bool} {ps:List Place} {gb:Option (Place × BK)} {r:D} {outs:List D} {sto':List (List D)} {p:St × D} (h:ztY s lent ps gb r outs sto'=some p) :
  ∃ j off cs,r=.ref j off∧outs=[]∧ps=[]∧gb=none∧sto'[j]? = some cs∧zah cs=false∧(lent=false ∨ noSL cs=true)∧p=(s.putSto (s.sto++[cs]),.ref s.sto.length off):=by
 unfold ztY at h
 split at h
 ·split at h
  ·split at h
   ·cases h
    rename_i h1 h2
    exact ⟨_,_,_,rfl,rfl,rfl,rfl,h1,h2.1,h2.2,rfl⟩
   ·cases h
  ·cases h
 ·cases h
theorem Sim.addSto {b:Nat} {G:List Nat} {cs:List D} (h:Sim E (b::G) a w s I ι Fs Gs) (hb:zif w I ι b cs (b::G)):Sim E [] a w (s.putSto (s.sto++[cs])) I (ι++[b]) Fs (Gs++[b::G]):=by
 have hι:∀ r x:Nat,ι[r]? = some x->(ι++[b])[r]? = some x:=fun r x hr=>by rw [List.getElem?_append_left (getElem?_lt hr)];exact hr
 have hfl:(Gs++[b::G]).flatten=Gs.flatten++(b::G):=by simp
 refine h.putSto (Ext.refl _ _) (fun _ h=>h) (fun _ h=>.inl h) hι ⟨by simp [h.lenG],by simp [h.lenI],fun r x hr=>?_⟩ ?_ (fun x hx=>?_)
 ·by_cases hlt:r<s.sto.length
  ·rw [List.getElem?_append_left hlt] at hr
   have:=(h.sto r x hr).monoSto hι
   rw [List.getD_eq_getElem?_getD,List.getElem?_append_left (by rw [h.lenI];exact hlt),<- List.getD_eq_getElem?_getD,List.getD_eq_getElem?_getD (l:=Gs++_),List.getElem?_append_left (by rw [h.lenG];exact hlt),<- List.getD_eq_getElem?_getD]
   exact this
  ·have hr2:=getElem?_lt hr
   rw [List.length_append,List.length_cons,List.length_nil] at hr2
   obtain rfl:r=s.sto.length:=by omega
   rw [List.getElem?_append_right (Nat.le_refl _),Nat.sub_self] at hr
   cases hr
   rw [List.getD_eq_getElem?_getD,List.getElem?_append_right (by rw [h.lenI];exact Nat.le_refl _),h.lenI,Nat.sub_self,List.getD_eq_getElem?_getD,List.getElem?_append_right (by rw [h.lenG];exact Nat.le_refl _),h.lenG,Nat.sub_self]
   exact hb.monoSto hι
 ·rw [List.append_nil,hfl]
  exact (List.nodup_append.1 h.nodup).2.1
 ·rw [List.append_nil,hfl] at hx
  have:=h.apart x (mAR _ hx)
  refine ⟨this.1,?_,this.2.2⟩
  exact (List.mem_append.1 hx).elim (fun e=>.inr (.inl e)) .inl
theorem zhr {mo:Nat->List M} {hh:H} (hok:HOK P mo hh) (h:Sim E [] a w s I ι Fs Gs) {d:Option Nat} (hp:∀ t,d=some t->∀ v,(t,v) ∉ E.pin) {f:Nat} {as:List (M × X)}
  {vs mvs:List Value} {more:List D} (hv:All2 (fun (p:M × X) v=>XV a p.2 v) as vs) (hm:RepL w I ι mvs more []) {pvs:List Value} {pre:List D} (hpm:RepL w I ι pvs pre []) {s2:St} {os:List (Option D)} {ps:List Place} {gb:Option (Place × BK)} {ds:List D} {lent:Bool}
  {ι1:List Nat} {I1:Nat->Prop} {Fs3 Gs3 Hs:List (List Nat)} (hι1:∀ (r b:Nat),ι[r]? = some b->ι1[r]? = some b) (hI1:∀ b,I b->I1 b)
  (hro:RepO w I1 ι1 vs os Hs) (hsim3:Sim E (Hs.flatten++[]) a w s2 I1 ι1 Fs3 Gs3) (hheld:znm a w s2 ps gb (musV (as.map fun p=>p.1) vs)) (hl:s2.lends as os=some (ds,lent))
  {g0:Bool} {q:Req} (hq:zdz g0 d f ⟨pre++ds,lent,ps,gb,s2⟩ more=some q) {s':St} (hr:(hh q.f q.args q.sto).bind q.post=some s')
  (hmus:musV (mo f) (pvs++(vs++mvs))=musV (as.map fun p=>p.1) vs ∨ musV (as.map fun p=>p.1) vs=[]) :
  Calls P f (pvs++(vs++mvs)).toArray w fun e w2=>∃ v,e=.returned v∧∃ I' ι' Fs' Gs',Sim E [] (a.put d v) w2 s' I' ι' Fs' Gs':=by
 obtain ⟨hl1,hl2⟩:=hsim3.lends hv hro hl
 rw [List.append_nil] at hsim3
 obtain ⟨n1,n2,n3⟩:=hsim3.nodup2
 have hm1:RepL w I1 ι1 mvs more []:=(hm.monoSto hι1).monoI hI1
 obtain ⟨Ms,hms,hms0⟩:=hm1.toS
 obtain ⟨Ps,hps,hps0⟩:=((hpm.monoSto hι1).monoI hI1).toS
 obtain ⟨res,hres,hpost⟩:=zaB hr
 have hap:∀ b,b ∈ Hs.flatten->¬ I1 b∧b<w.heap.size:=fun b hb=>by
  have:=hsim3.apart b (mAR _ (mAR _ hb))
  exact ⟨this.1,this.2.2⟩
 have hfl:(Ps++(Hs++Ms)).flatten=Hs.flatten:=by rw [List.flatten_append,List.flatten_append,hms0,hps0,List.append_nil,List.nil_append]
 simp only [zdz] at hq
 split at hq
 ·rename_i hcond
  cases hq
  simp only at hres hpost
  by_cases hpure:(!zah (pre++ds++more))=true
  ·
   rw [if_pos hpure] at hres
   have hnr:zah (pre++ds++more)=false:=by simpa using hpure
   obtain ⟨r,outs,sto'⟩:=res
   simp only [hpure,if_true,true_and] at hpost
   obtain ⟨I0,hI0,hRep0,hI0a,hI0s⟩:∃ I0:Nat->Prop,(∀ b,I1 b->I0 b)∧RepS w I0 ι1 vs ds Hs∧(∀ b,I0 b->I1 b ∨ (lent=true∧b ∈ Fs3.flatten++Gs3.flatten))∧(lent=false->∀ b,I0 b->I1 b):=by
    cases hlt:lent with
    | false=>exact ⟨I1,fun _ h=>h,hl2 hlt,fun _ h=>.inl h,fun _ _ h=>h⟩
    | true=>exact ⟨_,fun _ h=>.inl h,hl1,fun _ h=>h.imp id (fun h=>⟨rfl,h⟩),fun e=>by cases e⟩
   have hall:RepS w I0 [] (pvs++(vs++mvs)) (pre++ds++more) (Ps++(Hs++Ms)):=by
    refine RepS.noRef (ι:=ι1) ?_ hnr
    rw [List.append_assoc]
    exact (hps.frame hI0 (fun _ _=>rfl) (fun _ _=>rfl)).append (hRep0.append (hms.frame hI0 (fun _ _=>rfl) (fun _ _=>rfl)))
   have hcall:=(hok f _ [] _ hres).2 w I0 [] (pvs++(vs++mvs)) (Ps++(Hs++Ms)) [] hall ⟨rfl,rfl,fun r cs e=>by simp at e⟩
    (by rw [hfl];simpa using n2)
    (by
     intro b hb
     rw [hfl] at hb
     have hb:b ∈ Hs.flatten:=by simpa using hb
     refine ⟨fun hI=>?_,(hap b hb).2⟩
     rcases hI0a b hI with e|⟨_,e⟩
     ·exact (hap b hb).1 e
     ·exact n3 b e hb)
    (by
     intro b hb
     rcases hI0a b hb with e|⟨_,e⟩
     ·exact (hsim3.imm b e).1
     ·exact (hsim3.apart b (by rw [<- List.append_assoc];exact mAL _ e)).2.2)
    (hsim3.tab.mono hI0)
   split at hpost
   ·rename_i hrr
    split at hpost
    ·split at hpost
     ·rename_i p hg
      obtain ⟨j,off,cs,rfl,rfl,rfl,rfl,hcs,hnr2,hls,rfl⟩:=zpv hg
      simp only at hpost
      refine Calls.mono hcall ?_
      rintro e w2 ⟨v,rfl,I2,ι2,Fr,Fo,Gs4,a1,a2,a3,a4,a5,a6,a7,a8,a9⟩
      refine ⟨v,rfl,?_⟩
      rw [hfl,List.flatten_nil,List.append_nil] at a1 a3 a9
      cases a4 with
      | ref _ _ _ b hb =>
       obtain ⟨c,T,G,e1,e2,e3,e4⟩:=a6.2.2 j cs hcs
       have hbj:ι2.getD j 0=b:=by rw [List.getD_eq_getElem?_getD,hb];rfl
       rw [hbj] at e1 e4
       obtain ⟨I3,hI3,hI3b,hrep3⟩:∃ I3:Nat->Prop,(∀ b,I1 b->I3 b)∧(∀ b,I3 b->I2 b∧(I1 b ∨ b ∈ Hs.flatten ∨ w.heap.size<=b))∧RepL w2 I3 ι1 c.toList cs G:=by
        cases hlt:lent with
        | false=>exact ⟨I2,fun b hb=>a2 b (hI0 b hb),fun b hb=>⟨hb,(a3 b hb).2.imp (hI0s hlt b) id⟩,e2.noRef hnr2⟩
        | true=>exact ⟨I1,fun _ h=>h,fun b hb=>⟨a2 b (hI0 b hb),.inl hb⟩,(e2.noRef hnr2).noS (hls.resolve_left (by rw [hlt];simp))⟩
       have hlt:j<Gs4.length:=by rw [a6.1];exact (List.getElem?_eq_some_iff.1 hcs).1
       have hGj:Gs4.getD j []=Gs4[j]:=by rw [List.getD_eq_getElem?_getD,List.getElem?_eq_getElem hlt];rfl
       have hmem:∀ x ∈ b::G,x ∈ Gs4.flatten:=fun x hx=>List.mem_flatten.2 ⟨Gs4[j],List.getElem_mem hlt,by rw [<- hGj,e4];exact hx⟩
       have hnd:(b::G).Nodup:=by
        have h1:=(List.nodup_append.1 (List.nodup_append.1 a8).2.1).2.1
        rw [<- e4,hGj]
        exact (List.pairwise_flatten.1 h1).1 _ (List.getElem_mem hlt)
       have hsim4:Sim E (b::G) a w2 s2 I3 ι1 Fs3 Gs3:=by
        refine hsim3.world a1 hI3 (fun b hb=>?_) hnd (fun b hb=>?_)
        ·obtain ⟨q1,q2⟩:=hI3b b hb
         rcases q2 with q2|q2|q2
         ·exact .inl q2
         ·exact .inr ⟨.inl q2,(a3 b q1).1⟩
         ·exact .inr ⟨.inr q2,(a3 b q1).1⟩
        ·have:=a9 b (mAR _ (mAR _ (hmem b hb)))
         exact ⟨fun hI=>this.1 (hI3b b hI).1,this.2.1,this.2.2⟩
       have hsim5:=hsim4.addSto (b:=b) (G:=G) (cs:=cs) ⟨c,T,G,e1,hrep3,e3,rfl⟩
       have hlen:ι1.length=s2.sto.length:=hsim3.lenI
       have hrep:Rep w2 I3 (ι1++[b]) (.pointer (some ⟨b,off,Option.none⟩)) (.ref s2.sto.length off) []:=.ref _ _ _ _ (by rw [List.getElem?_append_right (by omega),hlen,Nat.sub_self];rfl)
       obtain ⟨Fs6,hsim6⟩:=Sim.setO (F:=[]) (by simpa using hsim5) hp hpost hrep
       exact ⟨I3,ι1++[b],Fs6,_,hsim6⟩
     ·cases hpost
    ·cases hpost
   ·rename_i hrr
    split at hpost
    ·cases hpost
    ·rename_i hns
     split at hpost
     ·rename_i s4 hpb
      have hrr1:r.hasRef=false∧zah outs=false:=by simpa using hrr
      refine Calls.mono hcall ?_
      rintro e w2 ⟨v,rfl,I2,ι2,Fr,Fo,Gs4,a1,a2,a3,a4,a5,a6,a7,a8,a9⟩
      refine ⟨v,rfl,?_⟩
      rw [hfl,List.flatten_nil,List.append_nil] at a1 a3 a9
      obtain ⟨I3,hI3,hI3b,hrep3,hreps3⟩:∃ I3:Nat->Prop,(∀ b,I1 b->I3 b)∧(∀ b,I3 b->I2 b∧(I1 b ∨ b ∈ Hs.flatten ∨ w.heap.size<=b))∧Rep w2 I3 ι1 v r Fr∧RepS w2 I3 ι1 (musV (mo f) (pvs++(vs++mvs))) outs Fo:=by
       cases hlt:lent with
       | false =>
        refine ⟨I2,fun b hb=>a2 b (hI0 b hb),fun b hb=>⟨hb,(a3 b hb).2.imp (hI0s hlt b) id⟩,a4.noRef hrr1.1,a5.noRef hrr1.2⟩
       | true =>
        have hns1:r.noS=true∧noSL outs=true:=by
         rw [hlt] at hns
         simpa using hns
        exact ⟨I1,fun _ h=>h,fun b hb=>⟨a2 b (hI0 b hb),.inl hb⟩,(a4.noRef hrr1.1).noS hns1.1,(a5.noRef hrr1.2).noS hns1.2⟩
      rw [<- List.append_assoc] at a8 a9
      have hperm:(Fr++Fo.flatten).Perm (Fo.flatten++Fr):=List.perm_append_comm
      have hnd:(Fo.flatten++Fr).Nodup:=hperm.nodup_iff.1 (List.nodup_append.1 a8).1
      have hsim4:Sim E (Fo.flatten++Fr) a w2 s2 I3 ι1 Fs3 Gs3:=by
       refine hsim3.world a1 hI3 (fun b hb=>?_) hnd (fun b hb=>?_)
       ·obtain ⟨q1,q2⟩:=hI3b b hb
        rcases q2 with q2|q2|q2
        ·exact .inl q2
        ·exact .inr ⟨.inl q2,(a3 b q1).1⟩
        ·exact .inr ⟨.inr q2,(a3 b q1).1⟩
       ·have:=a9 b (mAL _ (hperm.mem_iff.2 hb))
        exact ⟨fun hI=>this.1 (hI3b b hI).1,this.2.1,this.2.2⟩
      replace hreps3:=zox hmus hheld hpb hreps3
      have hsame:∀ b,b ∈ Fs3.flatten->w2.heap[b]? = w.heap[b]? := fun b hb=>a1.block b (hsim3.apart b (mAL _ hb)).2.2 (n3 b (mAL _ hb))
      obtain ⟨Fs5,Gs5,hsim5⟩:=Sim.putBackG hsim4 (hheld.world hsim3 hsame) hreps3 hpb
      obtain ⟨I6,Fs6,Gs6,hsim6⟩:=Sim.setF (by simpa using hsim5) hp hpost hrep3
      exact ⟨I6,ι1,Fs6,Gs6,hsim6⟩
     ·cases hpost
  ·
   rw [if_neg hpure] at hres
   have hlf:lent=false:=hcond.resolve_right hpure
   obtain ⟨r,outs,sto'⟩:=res
   simp only [hpure,hlf,Bool.false_eq_true,if_false,false_and] at hpost
   split at hpost
   ·rename_i s4 hpb
    have hall:RepS w I1 ι1 (pvs++(vs++mvs)) (pre++ds++more) (Ps++(Hs++Ms)):=by rw [List.append_assoc];exact hps.append ((hl2 hlf).append hms)
    have hp1:(Hs.flatten++Gs3.flatten).Perm (Gs3.flatten++Hs.flatten):=List.perm_append_comm
    have hnd0:(Hs.flatten++Gs3.flatten).Nodup:=by
     refine hp1.nodup_iff.2 ?_
     have:=hsim3.nodup
     exact (List.nodup_append.1 this).2.1
    have hap0:∀ b ∈ Hs.flatten++Gs3.flatten,¬ I1 b∧b<w.heap.size:=fun b hb=>by
     have:=hsim3.apart b (mAR _ (hp1.mem_iff.1 hb))
     exact ⟨this.1,this.2.2⟩
    have hcall:=(hok f _ s2.sto _ hres).2 w I1 ι1 (pvs++(vs++mvs)) (Ps++(Hs++Ms)) Gs3 hall hsim3.stoRep (by rw [hfl];exact hnd0) (by rw [hfl];exact hap0) (fun b hb=>(hsim3.imm b hb).1) hsim3.tab
    refine Calls.mono hcall ?_
    rintro e w2 ⟨v,rfl,I2,ι2,Fr,Fo,Gs4,a1,a2,a3,a4,a5,a6,a7,a8,a9⟩
    refine ⟨v,rfl,?_⟩
    rw [hfl] at a1 a3 a9
    have hperm:(Fr++(Fo.flatten++Gs4.flatten)).Perm (Gs4.flatten++(Fo.flatten++Fr)):=by
     rw [List.perm_iff_count];intro y;simp [List.count_append];omega
    have hsim4:Sim E (Fo.flatten++Fr) a w2 (s2.putSto sto') I2 ι2 Fs3 Gs4:=by
     refine hsim3.putSto (a1.mono (fun b hb=>List.mem_append.1 hb)) a2 (fun b hb=>?_) a7 a6 (hperm.nodup_iff.1 a8) (fun b hb=>?_)
     ·obtain ⟨q1,q2⟩:=a3 b hb
      rcases q2 with q2|q2|q2
      ·exact .inl q2
      ·exact .inr ⟨(List.mem_append.1 q2).elim .inl (fun e=>.inr (.inl e)),q1⟩
      ·exact .inr ⟨.inr (.inr q2),q1⟩
     ·obtain ⟨q1,q2,q3⟩:=a9 b (hperm.mem_iff.2 hb)
      refine ⟨q1,?_,q3⟩
      rcases q2 with q2|q2
      ·exact (List.mem_append.1 q2).elim .inl (fun e=>.inr (.inl e))
      ·exact .inr (.inr q2)
    replace a5:=zox hmus hheld hpb a5
    have hsame:∀ b,b ∈ Fs3.flatten->w2.heap[b]? = w.heap[b]? := fun b hb=>a1.block b (hsim3.apart b (mAL _ hb)).2.2 (fun e=>by
     rcases List.mem_append.1 e with e|e
     ·exact n3 b (mAL _ hb) e
     ·exact (List.nodup_append.1 n1).2.2 b hb b e rfl)
    obtain ⟨Fs5,Gs5,hsim5⟩:=Sim.putBackG hsim4 ((hheld.world hsim3 hsame).putSto _) a5 hpb
    obtain ⟨I6,Fs6,Gs6,hsim6⟩:=Sim.setF (by simpa using hsim5) hp hpost a4
    exact ⟨I6,ι2,Fs6,Gs6,hsim6⟩
   ·cases hpost
 ·cases hq
theorem zms {mo:Nat->List M} {hh:H} (hok:HOK P mo hh) (h:Sim E [] a w s I ι Fs Gs) {d:Option Nat} (hp:∀ t,d=some t->∀ v,(t,v) ∉ E.pin) {f:Nat} {as:List (M × X)} {A:Args} (hA:s.args as=some A)
  {vs mvs:List Value} {more:List D} (hv:All2 (fun (p:M × X) v=>XV a p.2 v) as vs) (hm:RepL w I ι mvs more []) {g0:Bool} {q:Req} (hq:zdz g0 d f A more=some q) {s':St} (hr:(hh q.f q.args q.sto).bind q.post=some s')
  (hmus:musV (mo f) (vs++mvs)=musV (as.map fun p=>p.1) vs ∨ musV (as.map fun p=>p.1) vs=[]) :
  Calls P f (vs++mvs).toArray w fun e w2=>∃ v,e=.returned v∧∃ I' ι' Fs' Gs',Sim E [] (a.put d v) w2 s' I' ι' Fs' Gs':=by
 unfold St.args at hA
 split at hA
 ·rename_i s0 hs0
  split at hA
  ·rename_i s1 hs1
   obtain ⟨ι1,Fs1,Gs1,hsim1,hι1⟩:=h.proms hs0
   obtain ⟨I1,Fs2,Gs2,hsim2,hI1⟩:=hsim1.frzs hs1
   split at hA
   ·rename_i t ht
    obtain ⟨l,hl,rfl⟩:=Option.map_eq_some_iff.1 hA
    obtain ⟨os,ps,s2⟩:=t
    obtain ⟨ds,lent⟩:=l
    obtain ⟨Hs,Fs3,Gs3,hro,hsim3,hheld,_⟩:=hsim2.takes hv ht
    exact zhr hok h hp hv hm (RepL.nil _) hι1 hI1 hro hsim3 (.inl ⟨rfl,hheld⟩) hl hq hr hmus
   ·split at hA
    ·rename_i t ht
     obtain ⟨l,hl,rfl⟩:=Option.map_eq_some_iff.1 hA
     obtain ⟨os,g,s2⟩:=t
     obtain ⟨ds,lent⟩:=l
     obtain ⟨Hs,Fs3,Gs3,v,hro,hsim3,hmv,hheld⟩:=hsim2.takesG hv ht
     exact zhr hok h hp hv hm (RepL.nil _) hι1 hI1 hro hsim3 (.inr ⟨g,v,rfl,rfl,hmv,hheld⟩) hl hq hr hmus
    ·cases hA
  ·cases hA
 ·cases hA
theorem zpw {mo:Nat->List M} {hh:H} (hok:HOK P mo hh) (h:Sim E [] a w s I ι Fs Gs) {d:Option Nat} (hp:∀ t,d=some t->∀ v,(t,v) ∉ E.pin) {f:Nat} {as:List (M × X)} {A:Args} (hA:s.args as=some A)
  {vs mvs:List Value} {more:List D} (hv:All2 (fun (p:M × X) v=>XV a p.2 v) as vs) (hm:RepL w I ι mvs more []) {g0:Bool} {q:Req} (hq:zdz g0 d f { A with vals:=more++A.vals } []=some q) {s':St} (hr:(hh q.f q.args q.sto).bind q.post=some s')
  (hmus:musV (mo f) (mvs++vs)=musV (as.map fun p=>p.1) vs ∨ musV (as.map fun p=>p.1) vs=[]) :
  Calls P f (mvs++vs).toArray w fun e w2=>∃ v,e=.returned v∧∃ I' ι' Fs' Gs',Sim E [] (a.put d v) w2 s' I' ι' Fs' Gs':=by
 unfold St.args at hA
 split at hA
 ·rename_i s0 hs0
  split at hA
  ·rename_i s1 hs1
   obtain ⟨ι1,Fs1,Gs1,hsim1,hι1⟩:=h.proms hs0
   obtain ⟨I1,Fs2,Gs2,hsim2,hI1⟩:=hsim1.frzs hs1
   split at hA
   ·rename_i t ht
    obtain ⟨l,hl,rfl⟩:=Option.map_eq_some_iff.1 hA
    obtain ⟨os,ps,s2⟩:=t
    obtain ⟨ds,lent⟩:=l
    obtain ⟨Hs,Fs3,Gs3,hro,hsim3,hheld,_⟩:=hsim2.takes hv ht
    have:=zhr hok h hp hv (RepL.nil _) hm hι1 hI1 hro hsim3 (.inl ⟨rfl,hheld⟩) hl hq hr (by rwa [List.append_nil])
    rwa [List.append_nil] at this
   ·split at hA
    ·rename_i t ht
     obtain ⟨l,hl,rfl⟩:=Option.map_eq_some_iff.1 hA
     obtain ⟨os,g,s2⟩:=t
     obtain ⟨ds,lent⟩:=l
     obtain ⟨Hs,Fs3,Gs3,v,hro,hsim3,hmv,hheld⟩:=hsim2.takesG hv ht
     have:=zhr hok h hp hv (RepL.nil _) hm hι1 hI1 hro hsim3 (.inr ⟨g,v,rfl,rfl,hmv,hheld⟩) hl hq hr (by rwa [List.append_nil])
     rwa [List.append_nil] at this
    ·cases hA
  ·cases hA
 ·cases hA
end
end Go.Vx
namespace Go.Vx
section
variable {P:Program} {E:Env} {hand:List Nat} {a:Act} {w:World} {s:St} {I:Nat->Prop} {ι:List Nat} {Fs Gs:List (List Nat)}
theorem zll:∀ {xs:List Operand} {ts:List TypeId} {ys:List X},cXs P ts xs=some ys->All2 (fun y v=>XV a y v) ys (xs.map a.eval)
 | [],ts,ys,h=>by cases h;exact .nil
 | x::xs,ts,ys,h=>by
  simp only [cXs] at h
  split at h
  ·rename_i y ys' h1 h2
   cases h
   exact .cons (zal h1 a) (zll h2)
  ·cases h
theorem Sim.caps (h:Sim E hand a w s I ι Fs Gs):∀ {ys:List X} {vs:List Value} {ds:List D},All2 (fun y v=>XV a y v) ys vs->s.caps ys=some ds->RepL w I ι vs ds []
 | [],vs,ds,hv,hc=>by cases hv;cases hc;exact .nil _
 | y::ys,vs,ds,hv,hc=>by
  cases hv with
  | cons h1 h2 =>
   simp only [St.caps] at hc
   split at hc
   ·rename_i d hd
    split at hc
    ·cases hc
    ·rename_i hX
     obtain ⟨ds',h3,rfl⟩:=Option.map_eq_some_iff.1 hc
     obtain ⟨Fx,hr,_⟩:=h.rd hd h1
     obtain rfl:Fx=[]:=hr.noX (by simpa using hX)
     exact .cons _ _ _ [] _ _ [] hr (Sim.caps h h2 h3)
   ·cases hc
theorem zzM (h:Sim E [] a w s I ι Fs Gs) {o:Oper} {d:Nat} (hd:o.dst=some d) (hp:∀ v,(d,v) ∉ E.pin) {f:Nat} {first captured:Array Operand} {ys:List X}
  (ho:o.op=.makeFunc (.func f) first captured) (hf:first.isEmpty=true) (hc:All2 (fun y v=>XV a y v) ys (captured.toList.map a.eval)) {s':St} (hv:vact (.mkf d f ys) s=some (.st s')):Done P o a w E s':=by
 obtain ⟨s1,h1,h2⟩:=zaB (zac hv)
 obtain ⟨ds,h3,h4⟩:=zaB h2
 obtain ⟨ι1,Fs1,Gs1,hsim,_⟩:=h.proms h1
 have hr:=hsim.caps hc h3
 have e:first = #[]:=by simpa using hf
 have hrun:(execOp a.eval o).run P w=.ok (.value (.func (.func f) #[] (captured.toList.map a.eval).toArray)) w:=by
  simp [execOp,ho,Instr.makeFunc,e,Sem.run,pure,bind,Sem.bind]
  apply Array.ext'
  simp
 obtain ⟨Fs2,g3⟩:=Sim.setVal (F:=[]) (hand:=[]) (by simpa using hsim) h4 hp (Rep.fn _ f _ _ hr)
 exact ⟨_,_,_,I,ι1,Fs2,Gs1,hrun,.inl rfl,by rw [hd];exact g3⟩
theorem zzN (h:Sim E [] a w s I ι Fs Gs) {o:Oper} {d:Nat} (hd:o.dst=some d) (hp:∀ v,(d,v) ∉ E.pin) {f:Nat} {first captured:Array Operand} {ys:List X}
  (ho:o.op=.makeFunc (.func f) first captured) (hf:first.isEmpty=true) (hc:All2 (fun y v=>XV a y v) ys (captured.toList.map a.eval)) {s':St} (hv:vact (.mkz d f ys) s=some (.st s')):Done P o a w E s':=by
 obtain ⟨s1,h1,h2⟩:=zaB (zac hv)
 obtain ⟨ds,h3,h4⟩:=zaB h2
 obtain ⟨I1,Fs1,hsim⟩:=h.shuts h1
 have hr:=hsim.caps hc h3
 have e:first = #[]:=by simpa using hf
 have hrun:(execOp a.eval o).run P w=.ok (.value (.func (.func f) #[] (captured.toList.map a.eval).toArray)) w:=by
  simp [execOp,ho,Instr.makeFunc,e,Sem.run,pure,bind,Sem.bind]
  apply Array.ext'
  simp
 obtain ⟨Fs2,g3⟩:=Sim.setVal (F:=[]) (hand:=[]) (by simpa using hsim) h4 hp (Rep.fn _ f _ _ hr)
 exact ⟨_,_,_,I1,ι,Fs2,Gs,hrun,.inl rfl,by rw [hd];exact g3⟩
theorem zzO (h:Sim E [] a w s I ι Fs Gs) {o:Oper} {d:Nat} (hd:o.dst=some d) (hp:∀ v,(d,v) ∉ E.pin) {f:Nat} {first captured:Array Operand} {ys:List X}
  (ho:o.op=.makeFunc (.func f) first captured) (hf:captured.isEmpty=true) (hc:All2 (fun y v=>XV a y v) ys (first.toList.map a.eval)) {s':St} (hv:vact (.mkb d f ys) s=some (.st s')):Done P o a w E s':=by
 obtain ⟨ds,h3,h4⟩:=zaB (zac hv)
 have hr:=h.caps hc h3
 have e:captured = #[]:=by simpa using hf
 have hrun:(execOp a.eval o).run P w=.ok (.value (.func (.func f) (first.toList.map a.eval).toArray #[])) w:=by
  simp [execOp,ho,Instr.makeFunc,e,Sem.run,pure,bind,Sem.bind]
  apply Array.ext'
  simp
 obtain ⟨Fs2,g3⟩:=Sim.setVal (F:=[]) (hand:=[]) (by simpa using h) h4 hp (Rep.bf _ f _ _ hr)
 exact ⟨_,_,_,I,ι,Fs2,Gs,hrun,.inl rfl,by rw [hd];exact g3⟩
theorem znn {t:TypeId} {xs:List Operand} {ys:List X} (h:xs.mapM (cX P t)=some ys):All2 (fun y v=>XV a y v) ys (xs.map a.eval):=by
 have:=zbR h
 clear h
 induction this with
 | nil=>exact .nil
 | cons h1 _ ih=>exact .cons (zal h1 a) ih
theorem zpx {d:Option Nat} {f:Nat} {as:List (M × X)} {s':St}:vact (.call d f as) s ≠ some (.st s'):=by
 intro h
 simp only [vact] at h
 cases hA:s.args as with
 | none=>rw [hA] at h;cases h
 | some A =>
  rw [hA] at h
  simp only [Option.bind_some] at h
  cases hq:zdz false d f A [] with
  | none=>rw [hq] at h;cases h
  | some q=>rw [hq] at h;cases h
theorem zqw {d:Option Nat} {f:Nat} {as:List (M × X)} {s':St}:vact (.cag d f as) s ≠ some (.st s'):=by
 intro h
 simp only [vact] at h
 cases hA:s.args as with
 | none=>rw [hA] at h;cases h
 | some A =>
  rw [hA] at h
  simp only [Option.bind_some] at h
  cases hq:zdz true d f A [] with
  | none=>rw [hq] at h;cases h
  | some q=>rw [hq] at h;cases h
theorem zqx {d:Option Nat} {g:X} {as:List (M × X)} {s':St}:vact (.cal d g as) s ≠ some (.st s'):=by
 intro h
 simp only [vact] at h
 split at h
 ·rename_i f caps _
  cases hA:s.args (as.map fun a=>(calM caps,a.2)) with
  | none=>rw [hA] at h;cases h
  | some A =>
   rw [hA] at h
   simp only [Option.bind_some] at h
   cases hq:zdz false d f A caps with
   | none=>rw [hq] at h;cases h
   | some q=>rw [hq] at h;cases h
 ·cases hA:s.args as with
  | none=>rw [hA] at h;cases h
  | some A =>
   rw [hA] at h
   simp only [Option.bind_some] at h
   rename_i f fs _
   cases hq:zdz false d f { A with vals:=fs++A.vals } [] with
   | none=>rw [hq] at h;cases h
   | some q=>rw [hq] at h;cases h
 ·cases h
theorem zuf {mo:Nat->List M} {o:Oper} {i:Vx.I} (hc:zgM P mo o=some i) (h:Sim E [] a w s I ι Fs Gs) (hp:∀ t,o.dst=some t->∀ v,(t,v) ∉ E.pin) {s':St} (hv:vact i s=some (.st s')):Done P o a w E s':=by
 unfold zgM at hc
 split at hc
 ·
  rename_i x d ho hd
  obtain ⟨y,h1,rfl⟩:=Option.map_eq_some_iff.1 hc
  exact zBu h hd (hp d hd) ho h1 hv
 ·rename_i x d ho hd
  obtain ⟨y,h1,rfl⟩:=Option.map_eq_some_iff.1 hc
  exact zzs h hd (hp d hd) ho h1 hv
 ·rename_i x1 x2 x3 d ho hd
  split at hc
  ·rename_i h1 h2 h3
   cases hc
   exact zyD h hd (hp d hd) ho h1 h2 h3 hv
  ·cases hc
 ·rename_i t d ho hd
  obtain ⟨z,h1,rfl⟩:=Option.map_eq_some_iff.1 hc
  exact zuc h hd (hp d hd) ho h1 hv
 ·rename_i t x d ho hd
  split at hc
  ·rename_i h1 h2
   cases hc
   exact zzH h hd (hp d hd) ho h2 hv
  ·cases hc
 ·
  rename_i t parts d ho hd
  split at hc
  ·rename_i z fs h1 h2
   split at hc
   ·rename_i hall
    obtain ⟨ps,h3,rfl⟩:=Option.map_eq_some_iff.1 hc
    refine zjO h hd (hp d hd) ho h2 h1 ?_ ((zbR h3).imp ?_) hv
    ·intro f hf
     rw [Array.all_eq_true_iff_forall_mem] at hall
     exact hall f hf
    ·intro p q hq
     try simp only at hq
     split at hq
     ·rename_i f hf
      split at hq
      ·rename_i n x h5 h6
       cases hq
       exact ⟨f,hf,h5,rfl,h6⟩
      ·cases hq
     ·cases hq
   ·cases hc
  ·rename_i z len e h1 h2
   split at hc
   ·rename_i n h3
    obtain ⟨ps,h4,rfl⟩:=Option.map_eq_some_iff.1 hc
    refine zky h hd (hp d hd) ho h2 h1 h3 ((zbR h4).imp ?_) hv
    intro p q hq
    obtain ⟨x,h5,rfl⟩:=Option.map_eq_some_iff.1 hq
    exact ⟨x,h5,rfl⟩
   ·cases hc
  ·cases hc
 ·rename_i t len parts d ho hd
  split at hc
  ·rename_i e h1
   split at hc
   ·rename_i n z h2 h3
    split at hc
    ·rename_i hcond
     obtain ⟨c1,c2,c3⟩:=hcond
     obtain ⟨ps,h4,rfl⟩:=Option.map_eq_some_iff.1 hc
     refine zzI h hd (hp d hd) ho h1 h2 c1 c2 h3 c3 ((zbR h4).imp ?_) hv
     intro p q hq
     obtain ⟨x,h5,rfl⟩:=Option.map_eq_some_iff.1 hq
     exact ⟨x,h5,rfl⟩
    ·cases hc
   ·cases hc
  ·cases hc
 ·rename_i t x d ho hd
  split at hc
  ·rename_i k y h1 h2
   cases hc
   exact zBx h hd (hp d hd) ho h1 h2 hv
  ·cases hc
 ·rename_i t x1 x2 ho hd
  split at hc
  ·rename_i n y1 y2 h1 h2 h3
   cases hc
   exact zBy h hd ho h1 h2 h3 hv
  ·cases hc
 ·rename_i t x fi d ho hd
  split at hc
  ·rename_i fs y h1 h2
   split at hc
   ·rename_i f h3
    split at hc
    ·rename_i n h4
     cases hc
     exact zzC h hd (hp d hd) ho h1 h3 h4 h2 hv
    ·cases hc
   ·cases hc
  ·cases hc
 ·rename_i t x fi d ho hd
  split at hc
  ·rename_i fs y h1 h2
   split at hc
   ·rename_i f h3
    obtain ⟨k,h4,rfl⟩:=Option.map_eq_some_iff.1 hc
    exact zzB h hd (hp d hd) ho h1 h3 h4 h2 hv
   ·cases hc
  ·cases hc
 ·rename_i t x1 x2 d ho hd
  split at hc
  ·rename_i e y1 y2 h1 h2 h3
   split at hc
   ·rename_i n h4
    split at hc
    ·cases hc
     exact zzE h hd (hp d hd) ho h1 h4 h2 h3 hv
    ·cases hc
   ·cases hc
  ·rename_i len e y1 y2 h1 h2 h3
   split at hc
   ·rename_i n h4
    split at hc
    ·cases hc
     exact zzD h hd (hp d hd) ho h1 h4 h2 h3 hv
    ·cases hc
   ·cases hc
  ·cases hc
 ·rename_i t x1 x2 d ho hd
  split at hc
  ·rename_i y1 y2 h1 h2 h3
   cases hc
   exact zzz h hd (hp d hd) ho h1 h2 h3 hv
  ·cases hc
 ·rename_i op t x1 x2 t3 d ho hd
  split at hc
  ·rename_i y1 y2 h1 h2
   split at hc
   ·cases hc
    exact zvb h hd (hp d hd) ho h1 h2 hv
   ·cases hc
    exact zvb h hd (hp d hd) ho h1 h2 hv
   ·rename_i h3
    obtain ⟨neg,h4,rfl⟩:=Option.map_eq_some_iff.1 hc
    exact zzw h hd (hp d hd) h4 ho h3 h1 h2 hv
   ·rename_i e h3
    split at hc
    ·obtain ⟨neg,h4,rfl⟩:=Option.map_eq_some_iff.1 hc
     exact zzy h hd (hp d hd) h4 ho h3 h1 h2 hv
    ·cases hc
   ·rename_i fs h3
    split at hc
    ·rename_i neg ks h4 h5
     split at hc
     ·rename_i h6
      cases hc
      exact zzx h hd (hp d hd) h4 ho h3 h5 (by simpa using h6) h1 h2 hv
     ·cases hc
    ·cases hc
   ·cases hc
  ·cases hc
 ·rename_i op t x d ho hd
  obtain ⟨y,h1,rfl⟩:=Option.map_eq_some_iff.1 hc
  exact zBw h hd (hp d hd) ho h1 hv
 ·rename_i src dst x d ho hd
  split at hc
  ·rename_i h1 h2 h3
   cases hc
   exact znk h hd (hp d hd) ho h1 h2 h3 hv
  ·rename_i h1 h2 h3
   cases hc
   exact zml h hd (hp d hd) ho h1 h2 h3 hv
  ·rename_i h1 h2 h3
   split at hc
   ·rename_i h4
    cases hc
    exact zlj h hd (hp d hd) ho h1 h2 h4 h3 hv
   ·cases hc
  ·rename_i h1 h2 h3
   split at hc
   ·rename_i h4
    cases hc
    exact zmq h hd (hp d hd) ho h1 h2 h4 h3 hv
   ·cases hc
  ·cases hc
 ·rename_i t x lo hi d ho hd
  split at hc
  ·rename_i h1 h2 h3 h4
   cases hc
   exact zzF h hd (hp d hd) ho h1 h2 h3 h4 hv
  ·rename_i h1 h2 h3 h4
   obtain ⟨n,h5,rfl⟩:=Option.map_eq_some_iff.1 hc
   exact zzG h hd (hp d hd) ho h1 h5 h2 h3 h4 hv
  ·cases hc
 ·rename_i t x1 x2 d ho hd
  split at hc
  ·rename_i e y1 y2 h1 h2 h3
   split at hc
   ·rename_i i z h4 h5
    split at hc
    ·rename_i hcond
     obtain ⟨c1,c2,c3⟩:=hcond
     cases hc
     exact zzJ h hd (hp d hd) ho h1 h4 c1 c2 h5 c3 h2 h3 hv
    ·cases hc
   ·cases hc
  ·cases hc
 ·rename_i x i d ho hd
  obtain ⟨y,h1,rfl⟩:=Option.map_eq_some_iff.1 hc
  exact zzA h hd (hp d hd) ho h1 hv
 ·rename_i x d ho hd
  obtain ⟨y,h1,rfl⟩:=Option.map_eq_some_iff.1 hc
  exact zBv h hd (hp d hd) ho h1 hv
 ·rename_i f first captured d ho hd
  split at hc
  ·rename_i hf
   obtain ⟨ys,h1,rfl⟩:=Option.map_eq_some_iff.1 hc
   split at hv
   ·exact zzN h hd (hp d hd) ho hf (znn h1) hv
   ·exact zzM h hd (hp d hd) ho hf (znn h1) hv
  ·split at hc
   ·rename_i hf
    obtain ⟨ys,h1,rfl⟩:=Option.map_eq_some_iff.1 hc
    exact zzO h hd (hp d hd) ho hf (znn h1) hv
   ·cases hc
 ·rename_i c ho
  unfold zhn at hc
  split at hc
  ·split at hc
   ·split at hc
    ·obtain ⟨ys,h1,rfl⟩:=Option.map_eq_some_iff.1 hc
     exact absurd hv zqw
    ·obtain ⟨ys,h1,rfl⟩:=Option.map_eq_some_iff.1 hc
     exact absurd hv zpx
   ·cases hc
  ·split at hc
   ·cases hc
    exact absurd hv zqx
   ·cases hc
  ·rename_i hcal
   split at hc
   ·rename_i d x t hd e1 e2
    obtain ⟨cal,args,ats⟩:=c
    try simp only at hcal e1 e2
    subst hcal
    obtain rfl:args = #[x]:=Array.toList_inj.1 e1
    obtain rfl:ats = #[t]:=Array.toList_inj.1 e2
    split at hc
    ·rename_i h1 h2
     cases hc
     exact zzt h hd (hp _ hd) ho h2 h1 hv
    ·rename_i h1 h2
     cases hc
     exact zzu h hd (hp _ hd) ho h2 h1 hv
    ·cases hc
   ·cases hc
  ·rename_i hcal
   split at hc
   ·rename_i d x t hd e1 e2
    obtain ⟨cal,args,ats⟩:=c
    try simp only at hcal e1 e2
    subst hcal
    obtain rfl:args = #[x]:=Array.toList_inj.1 e1
    obtain rfl:ats = #[t]:=Array.toList_inj.1 e2
    split at hc
    ·rename_i h1 h2
     cases hc
     exact zzv h hd (hp _ hd) ho h2 h1 hv
    ·cases hc
   ·cases hc
  ·rename_i hcal
   split at hc
   ·rename_i d x y t u hd e1 e2
    obtain ⟨cal,args,ats⟩:=c
    try simp only at hcal e1 e2
    subst hcal
    obtain rfl:args = #[x,y]:=Array.toList_inj.1 e1
    obtain rfl:ats = #[t,u]:=Array.toList_inj.1 e2
    split at hc
    ·rename_i h1 h2 h3
     split at hc
     ·rename_i h4 h5
      split at hc
      ·rename_i hcond
       split at hc
       ·rename_i h6
        cases hc
        exact zvc h hd (hp _ hd) ho h3 h4 h5 hcond.1 hcond.2 (.inl ⟨_,h6⟩) h1 h2 hv
       ·rename_i h6
        cases hc
        exact zvc h hd (hp _ hd) ho h3 h4 h5 hcond.1 hcond.2 (.inr h6) h1 h2 hv
       ·rename_i h6
        split at hc
        ·rename_i zz h7
         split at hc
         ·rename_i h8
          cases hc
          exact zzK h hd (hp _ hd) ho h3 h6 h4 hcond.1 hcond.2 h7 h8 h1 h2 hv
         ·cases hc
        ·cases hc
       ·cases hc
      ·cases hc
     ·cases hc
    ·cases hc
   ·cases hc
  ·cases hc
 ·cases hc
end
end Go.Vx
namespace Go.Vx
theorem zhs:∀ (vs:List Value),musV [] vs=[]:=fun vs=>by cases vs <;> rfl
theorem zqy:∀ (xs:List X) (vs:List Value),musV ((zipM [] xs).map fun p=>p.1) vs=[]
 | [],vs=>by simp only [zipM,List.map_nil];exact zhs vs
 | x::xs,[]=>rfl
 | x::xs,v::vs=>by simp only [zipM,List.map_cons,musV];exact zqy xs vs
theorem zoy:∀ (ms:List M) (xs:List X) (vs:List Value),xs.length=vs.length->musV ((zipM ms xs).map fun p=>p.1) vs=musV ms vs
 | [],xs,vs,_=>by rw [zqy,zhs]
 | m::ms,[],[],_=>by simp only [zipM,List.map_nil];rw [zhs];cases m <;> rfl
 | m::ms,[],v::vs,h=>by simp at h
 | m::ms,x::xs,[],h=>by simp at h
 | m::ms,x::xs,v::vs,h=>by
  have ih:=zoy ms xs vs (by simpa using h)
  cases m <;> simp only [zipM,List.map_cons,musV,ih]
theorem zqz:∀ (xs:List X) (vs:List Value),musV ((xs.map fun x=>(M.fz,x)).map fun p=>p.1) vs=[]
 | [],vs=>zhs vs
 | x::xs,[]=>rfl
 | x::xs,v::vs=>by simp only [List.map_cons,musV];exact zqz xs vs
theorem zqA {m:M} (hm:m=.rd ∨ m=.fz):∀ (xs:List X) (vs:List Value),musV ((xs.map fun x=>(m,x)).map fun p=>p.1) vs=[]
 | [],vs=>zhs vs
 | x::xs,[]=>by rcases hm with rfl|rfl <;> rfl
 | x::xs,v::vs=>by rcases hm with rfl|rfl <;> (simp only [List.map_cons,musV];exact zqA (by simp) xs vs)
theorem zyF (caps:List D):calM caps=.rd ∨ calM caps=.fz:=by cases caps <;> simp [calM]
theorem zyG (m:M) (xs:List X):(xs.map fun x=>(M.fz,x)).map (fun a=>(m,a.2))=xs.map fun x=>(m,x):=by rw [List.map_map];rfl
theorem All2.zipM {R:X->Value->Prop}:∀ (ms:List M) {xs:List X} {vs:List Value},All2 R xs vs->All2 (fun (p:M × X) v=>R p.2 v) (zipM ms xs) vs
 | ms,_,_,.nil=>by cases ms <;> exact .nil
 | [],_,_,.cons h t=>.cons h (All2.zipM [] t)
 | m::ms,_,_,.cons h t=>.cons h (All2.zipM ms t)
theorem All2.fz {R:X->Value->Prop}:∀ {xs:List X} {vs:List Value},All2 R xs vs->All2 (fun (p:M × X) v=>R p.2 v) (xs.map fun x=>(M.fz,x)) vs
 | _,_,.nil=>.nil
 | _,_,.cons h t=>.cons h (All2.fz t)
theorem All2.mm (m:M) {R:X->Value->Prop}:∀ {xs:List X} {vs:List Value},All2 R xs vs->All2 (fun (p:M × X) v=>R p.2 v) (xs.map fun x=>(m,x)) vs
 | _,_,.nil=>.nil
 | _,_,.cons h t=>.cons h (All2.mm m t)
theorem All2.length {α β:Type} {R:α->β->Prop}:∀ {xs:List α} {ys:List β},All2 R xs ys->xs.length=ys.length
 | _,_,.nil=>rfl
 | _,_,.cons _ t=>by simp [All2.length t]
theorem zug (p:M × X):(nilX p).1=p.1:=by
 unfold nilX
 split <;> rfl
theorem zuh (l:List (M × X)):(l.map nilX).map (fun p=>p.1)=l.map fun p=>p.1:=by
 rw [List.map_map]
 exact List.map_congr_left fun p _=>zug p
theorem zqB {P:Program} {a:Act} {ty:TypeId} {x:Operand} {y:X} (m:M) (h:cX P ty x=some y):XV a (nilX (m,y)).2 (a.eval x):=by
 have h0:=zal h a
 unfold nilX
 split
 ·rename_i o z e
  obtain ⟨rfl,rfl⟩:m=.fz∧y=.c (.sl o z []):=by simpa using e
  have hv:a.eval x=.slice none 0 0:=by
   cases x with
   | tmp t=>cases h
   | global g=>cases h
   | func f=>cases h
   | const v =>
    simp only [cX,Option.map_eq_some_iff,X.c.injEq] at h
    obtain ⟨d,h,rfl⟩:=h
    unfold zmk at h
    split at h
    ·cases h
    ·cases h
    ·cases h
    ·rfl
    ·cases h
    ·cases h
    ·cases h
  intro w I ι
  rw [hv]
  exact .nils ..
 ·exact h0
theorem zlm {P:Program} {a:Act}:∀ {xs:List Operand} {ts:List TypeId} {ys:List X} (ms:List M),cXs P ts xs=some ys->All2 (fun (p:M × X) v=>XV a p.2 v) ((zipM ms ys).map nilX) (xs.map a.eval)
 | [],ts,ys,ms,h=>by cases h;cases ms <;> exact .nil
 | x::xs,ts,ys,ms,h=>by
  simp only [cXs] at h
  split at h
  ·rename_i y ys' h1 h2
   cases h
   cases ms with
   | nil=>exact .cons (zqB .rd h1) (zlm [] h2)
   | cons m ms=>exact .cons (zqB m h1) (zlm ms h2)
  ·cases h
section
variable {P:Program} {E:Env} {hand:List Nat} {a:Act} {w:World} {s:St} {I:Nat->Prop} {ι:List Nat} {Fs Gs:List (List Nat)}
theorem zjS {o:Oper} {c:Call} {g:Operand} {f:Nat} {cap:Array Value} (ho:o.op=.call c) (hc:c.callee=.value g) (hg:a.eval g=.func (.func f) #[] cap) (hb:zfi P f=true) :
  (execOp a.eval o).run P w=.ok (.enter f (c.args.map a.eval++cap)) w:=by
 obtain ⟨fn,h1,h2,h3⟩:∃ fn,P.funcs[f]? = some fn∧fn.body.isSome=true∧fn.name ≠ "runtime.NumGoroutine" := by
  unfold zfi at hb
  split at hb
  ·rename_i fn hf
   simp only [Bool.and_eq_true,bne_iff_ne] at hb
   exact ⟨fn,hf,hb.1,hb.2⟩
  ·cases hb
 have h2':fn.body.isNone=false:=by simpa [Option.isSome_iff_ne_none] using h2
 simp [execOp,ho,resolve,hc,hg,Deferred.ofValue,invoke,callFunc,program,h1,h2',h3,Sem.run,pure,bind,Sem.bind]
 intro e
 rw [e] at h2
 cases h2
theorem zpy {o:Oper} {c:Call} {g:Operand} {f:Nat} {cap:Array Value} (ho:o.op=.call c) (hc:c.callee=.value g) (hg:a.eval g=.func (.func f) cap #[]) (hb:zfi P f=true) :
  (execOp a.eval o).run P w=.ok (.enter f (cap++c.args.map a.eval ++ #[])) w:=by
 obtain ⟨fn,h1,h2,h3⟩:∃ fn,P.funcs[f]? = some fn∧fn.body.isSome=true∧fn.name ≠ "runtime.NumGoroutine" := by
  unfold zfi at hb
  split at hb
  ·rename_i fn hf
   simp only [Bool.and_eq_true,bne_iff_ne] at hb
   exact ⟨fn,hf,hb.1,hb.2⟩
  ·cases hb
 have h2':fn.body.isNone=false:=by simpa [Option.isSome_iff_ne_none] using h2
 simp [execOp,ho,resolve,hc,hg,Deferred.ofValue,invoke,callFunc,program,h1,h2',h3,Sem.run,pure,bind,Sem.bind]
 intro e
 rw [e] at h2
 cases h2
theorem zvd {i:Vx.I} {q:Req} (h:vact i s=some (.rq q)):(∃ g0 d f as,i=Vx.I.callG g0 d f as) ∨ (∃ d g as,i=.cal d g as) ∨ ∃ g b j,i=.gd g b j:=by
 have ok:∀ {r:Option St},okS r=some (.rq q)->False:=by
  intro r hr
  unfold okS at hr
  cases r <;> simp at hr
 cases i with
 | call d f as=>exact .inl ⟨false,d,f,as,rfl⟩
 | cag d f as=>exact .inl ⟨true,d,f,as,rfl⟩
 | cal d g as=>exact .inr (.inl ⟨d,g,as,rfl⟩)
 | gd g b j=>exact .inr (.inr ⟨g,b,j,rfl⟩)
 | no=>cases h
 | _ =>
  exfalso
  simp only [vact] at h
  repeat' (first|exact ok h|split at h|cases h)
theorem zmt {g g':Bool} {d d':Option Nat} {f f':Nat} {as as':List (M × X)} (h:Vx.I.callG g d f as=Vx.I.callG g' d' f' as'):d=d'∧f=f'∧as=as':=by
 cases g <;> cases g' <;> simp_all [Vx.I.callG]
theorem zln {mo:Nat->List M} {o:Oper} {g0:Bool} {d:Option Nat} {f:Nat} {as:List (M × X)} (hc:zgM P mo o=some (Vx.I.callG g0 d f as)) :
  ∃ c xs,o.op=.call c∧o.dst=d∧c.callee=.value (.func f)∧zfi P f=true∧cXs P c.argTypes.toList c.args.toList=some xs∧as=(zipM (mo f) xs).map nilX:=by
 unfold zgM at hc
 split at hc
 case h_22 c ho =>
  unfold zhn at hc
  split at hc
  ·rename_i f' hcal
   split at hc
   ·rename_i hb
    split at hc
    ·obtain ⟨xs,h1,h2⟩:=Option.map_eq_some_iff.1 hc
     obtain ⟨rfl,rfl,rfl⟩:=zmt (g:=true) h2
     exact ⟨c,xs,ho,rfl,hcal,hb,h1,rfl⟩
    ·obtain ⟨xs,h1,h2⟩:=Option.map_eq_some_iff.1 hc
     obtain ⟨rfl,rfl,rfl⟩:=zmt (g:=false) h2
     exact ⟨c,xs,ho,rfl,hcal,hb,h1,rfl⟩
   ·cases hc
  all_goals (exfalso;cases g0 <;> repeat' (first|(cases hc;done)|split at hc))
 all_goals (exfalso;cases g0 <;> repeat' (first|(cases hc;done)|(obtain ⟨_,_,h2⟩:=Option.map_eq_some_iff.1 hc;cases h2;done)|split at hc))
theorem zmu {mo:Nat->List M} {o:Oper} {d:Option Nat} {g:X} {as:List (M × X)} (hc:zgM P mo o=some (.cal d g as)) :
  ∃ c x xs,o.op=.call c∧o.dst=d∧c.callee=.value x∧cX P 0 x=some g∧cXs P c.argTypes.toList c.args.toList=some xs∧as=xs.map fun x=>(M.fz,x):=by
 unfold zgM at hc
 split at hc
 case h_22 c ho =>
  unfold zhn at hc
  split at hc
  ·exfalso
   split at hc
   ·split at hc
    ·obtain ⟨_,_,h2⟩:=Option.map_eq_some_iff.1 hc;cases h2
    ·obtain ⟨_,_,h2⟩:=Option.map_eq_some_iff.1 hc;cases h2
   ·cases hc
  ·rename_i x hne hcal
   split at hc
   ·rename_i g' xs h1 h2
    simp only [Option.some.injEq,I.cal.injEq] at hc
    obtain ⟨rfl,rfl,rfl⟩:=hc
    exact ⟨c,_,xs,ho,rfl,hcal,h1,h2,rfl⟩
   ·cases hc
  all_goals (exfalso;repeat' (first|(cases hc;done)|split at hc))
 all_goals (exfalso;repeat' (first|(cases hc;done)|(obtain ⟨_,_,h2⟩:=Option.map_eq_some_iff.1 hc;cases h2;done)|split at hc))
end
end Go.Vx
namespace Go.Vx
section
variable {P:Program} {E:Env} [TE:TabEnv P E] {hand:List Nat} {a:Act} {w:World} {s:St} {I:Nat->Prop} {ι:List Nat} {Fs Gs:List (List Nat)}
theorem zpz (g:Bool) (d:Option Nat) (f:Nat) (as:List (M × X)) (s:St):vact (Vx.I.callG g d f as) s=(s.args as).bind fun a=>(zdz g d f a []).map .rq:=by cases g <;> rfl
theorem zqC {mo:Nat->List M} {hh:H} (hok:HOK P mo hh) {o:Oper} {i:Vx.I} (hc:zgM P mo o=some i) (h:Sim E [] a w s I ι Fs Gs) (hp:∀ t,o.dst=some t->∀ v,(t,v) ∉ E.pin) {s':St}
  (hv:zbg hh i s=some s') {K:Act->World->Prop} {Q:Exit->Act->World->Prop} (hn:∀ v w' I' ι' Fs' Gs',Sim E [] (a.put o.dst v) w' s' I' ι' Fs' Gs'->K (a.put o.dst v) w'):o.wp P a w K Q:=by
 unfold zbg at hv
 split at hv
 ·rename_i s1 h1
  cases hv
  obtain ⟨n,w',v,I',ι',Fs',Gs',hrun,hn1,hsim⟩:=zuf hc h hp h1
  unfold Oper.wp
  rw [hrun]
  rcases hn1 with rfl|⟨rfl,rfl⟩
  ·exact hn v w' I' ι' Fs' Gs' hsim
  ·exact hn undef w' I' ι' Fs' Gs' hsim
 ·rename_i q h1
  rcases zvd h1 with ⟨g0,d,f,as,rfl⟩|⟨d,g,as,rfl⟩|⟨g,b,j,rfl⟩
  ·obtain ⟨c,xs,ho,rfl,hcal,hb,hxs,rfl⟩:=zln hc
   rw [zpz] at h1
   obtain ⟨A,hA,h2⟩:=zaB h1
   obtain ⟨q',hq,e⟩:=Option.map_eq_some_iff.1 h2
   simp only [Act'.rq.injEq] at e
   subst e
   have hvals:=zll (a:=a) hxs
   have hrun:=zjS (P:=P) (a:=a) (w:=w) ho hcal (f:=f) (cap := #[]) (by rfl) hb
   unfold Oper.wp
   rw [hrun]
   have hlen:=hvals.length
   have hcall:=zms hok h hp hA (zlm (mo f) hxs) (mvs:=[]) (.nil _) hq hv (.inl (by rw [List.append_nil,zuh];exact (zoy (mo f) xs _ hlen).symm))
   rw [Oper.upon_enter]
   have e1:c.args.map a.eval ++ #[]=(c.args.toList.map a.eval++[]).toArray:=by apply Array.ext';simp
   rw [e1]
   refine Calls.mono hcall ?_
   rintro e w2 ⟨v,rfl,I',ι',Fs',Gs',hs⟩
   exact hn v w2 I' ι' Fs' Gs' hs
  ·obtain ⟨c,x,xs,ho,rfl,hcal,hg,hxs,rfl⟩:=zmu hc
   simp only [vact] at h1
   split at h1
   ·rename_i f caps hrd
    obtain ⟨A,hA,h2⟩:=zaB h1
    obtain ⟨q',hq,e⟩:=Option.map_eq_some_iff.1 h2
    simp only [Act'.rq.injEq] at e
    subst e
    obtain ⟨Fx,hrf,_⟩:=h.rd hrd (zal hg a)
    obtain ⟨cvs,ev,hcr⟩:∃ cvs:List Value,a.eval x=.func (.func f) #[] cvs.toArray∧RepL w I ι cvs caps []:=by
     generalize a.eval x=xv at hrf
     cases hrf with
     | fn _ _ vs _ hr=>exact ⟨vs,rfl,hr⟩
    have hb:zfi P f=true:=by
     obtain ⟨res,hres,_⟩:=zaB hv
     have hqf:q'.f=f:=by
      simp only [zdz] at hq
      split at hq
      ·cases hq;rfl
      ·cases hq
     rw [hqf] at hres
     exact (hok _ _ _ _ hres).1
    have hvals:=zll (a:=a) hxs
    have hrun:=zjS (P:=P) (a:=a) (w:=w) ho hcal (f:=f) ev hb
    unfold Oper.wp
    rw [hrun]
    rw [zyG] at hA
    have hcall:=zms hok h hp hA (hvals.mm _) hcr hq hv (.inr (zqA (zyF caps) xs _))
    rw [Oper.upon_enter]
    have e1:c.args.map a.eval++cvs.toArray=(c.args.toList.map a.eval++cvs).toArray:=by apply Array.ext';simp
    rw [e1]
    refine Calls.mono hcall ?_
    rintro e w2 ⟨v,rfl,I',ι',Fs',Gs',hs⟩
    exact hn v w2 I' ι' Fs' Gs' hs
   ·rename_i f fs hrd
    obtain ⟨A,hA,h2⟩:=zaB h1
    obtain ⟨q',hq,e⟩:=Option.map_eq_some_iff.1 h2
    simp only [Act'.rq.injEq] at e
    subst e
    obtain ⟨Fx,hrf,_⟩:=h.rd hrd (zal hg a)
    obtain ⟨cvs,ev,hcr⟩:∃ cvs:List Value,a.eval x=.func (.func f) cvs.toArray #[]∧RepL w I ι cvs fs []:=by
     generalize a.eval x=xv at hrf
     cases hrf with
     | bf _ _ vs _ hr=>exact ⟨vs,rfl,hr⟩
    have hb:zfi P f=true:=by
     obtain ⟨res,hres,_⟩:=zaB hv
     have hqf:q'.f=f:=by
      simp only [zdz] at hq
      split at hq
      ·cases hq;rfl
      ·cases hq
     rw [hqf] at hres
     exact (hok _ _ _ _ hres).1
    have hvals:=zll (a:=a) hxs
    have hrun:=zpy (P:=P) (a:=a) (w:=w) ho hcal (f:=f) ev hb
    unfold Oper.wp
    rw [hrun]
    have hcall:=zpw hok h hp hA hvals.fz hcr hq hv (.inr (zqz xs _))
    rw [Oper.upon_enter]
    have e1:cvs.toArray++c.args.map a.eval ++ #[]=(cvs++c.args.toList.map a.eval).toArray:=by apply Array.ext';simp
    rw [e1]
    refine Calls.mono hcall ?_
    rintro e w2 ⟨v,rfl,I',ι',Fs',Gs',hs⟩
    exact hn v w2 I' ι' Fs' Gs' hs
   ·cases h1
  ·exfalso
   unfold zgM at hc
   split at hc
   case h_22 c ho =>
    unfold zhn at hc
    repeat' (first|(cases hc;done)|(obtain ⟨_,_,h2⟩:=Option.map_eq_some_iff.1 hc;cases h2;done)|split at hc)
   all_goals (repeat' (first|(cases hc;done)|(obtain ⟨_,_,h2⟩:=Option.map_eq_some_iff.1 hc;cases h2;done)|split at hc))
 ·cases hv
theorem zui {mo:Nat->List M} {o:Oper} {i:Vx.I} (hc:zgM P mo o=some i):i.dst=o.dst:=by
 unfold zgM at hc
 split at hc
 case h_22 c ho =>
  unfold zhn at hc
  repeat' (first|(cases hc;done)|(cases hc;simp only [I.dst, *];done)|(obtain ⟨_,_,h2⟩:=Option.map_eq_some_iff.1 hc;cases h2;simp only [I.dst, *];done)|split at hc)
 all_goals (repeat' (first|(cases hc;done)|(cases hc;simp only [I.dst, *];done)|(obtain ⟨_,_,h2⟩:=Option.map_eq_some_iff.1 hc;cases h2;simp only [I.dst, *];done)|split at hc))
theorem zmv {g:Nat} {b:Bool} {i:Vx.I} (hr:s.rd (.t g)=some (.bool b)):vact (.gd g b i) s=vact i s:=by simp [vact,hr]
theorem zgv {hh:H} {g:Nat} {b:Bool} {i:Vx.I} (hr:s.rd (.t g)=some (.bool b)):zbg hh (.gd g b i) s=zbg hh i s:=by
 unfold zbg
 rw [zmv hr]
theorem zzP {mo:Nat->List M} {hh:H} (hok:HOK P mo hh) {ops:Array Oper} {o:Oper} {i:Vx.I} (hc:zjL P mo ops o=some i) (h:Sim E [] a w s I ι Fs Gs) (hp:∀ t,o.dst=some t->∀ v,(t,v) ∉ E.pin) {s':St}
  (hv:zbg hh i s=some s') {K:Act->World->Prop} {Q:Exit->Act->World->Prop} (hn:∀ a' w' I' ι' Fs' Gs',Sim E [] a' w' s' I' ι' Fs' Gs'->K a' w') :
  if Region.wanted o (yielded ops a.tmps)=true then o.wp P a w K Q ∨ (o.asks P a w∧LetsOut Q) else K (a.put o.dst undef) w:=by
 unfold zjL at hc
 split at hc
 ·rename_i hg
  rw [if_pos (by simp [Region.wanted,hg])]
  exact .inl (zqC hok hc h hp hv (fun v w' I' ι' Fs' Gs' hs=>hn _ w' I' ι' Fs' Gs' hs))
 ·rename_i j want hg
  split at hc
  ·rename_i g hdst
   obtain ⟨i0,h0,rfl⟩:=Option.map_eq_some_iff.1 hc
   have key:(∃ b,s.rd (.t g)=some (.bool b)) ∨ s.rd (.t g)=some (.tup []):=by
    unfold zbg at hv
    simp only [vact] at hv
    cases hr:s.rd (.t g) with
    | none=>rw [hr] at hv;cases hv
    | some x =>
     rw [hr] at hv
     cases x with
     | tup ps=>cases ps with
      | nil=>exact .inr rfl
      | cons p ps=>simp at hv
     | bool b=>exact .inl ⟨_,rfl⟩
     | _=>simp at hv
   have skip:(match i0.dst with|some d=>okS (s.setD d (.d (.tup [])))|none=>some (.st s))=some (.st s')->K (a.put o.dst undef) w:=by
    intro hv
    have hd:i0.dst=o.dst:=zui h0
    cases hdd:i0.dst with
    | none =>
     rw [hdd] at hv
     simp only [Option.some.injEq,Act'.st.injEq] at hv
     subst hv
     rw [<- hd,hdd]
     exact hn _ w I ι Fs Gs h
    | some d =>
     rw [hdd] at hv
     simp only at hv
     have hsd:=zac hv
     rw [<- hd,hdd]
     obtain ⟨Fs2,g3⟩:=Sim.setVal (F:=[]) (hand:=[]) (by simpa using h) hsd (hp d (by rw [<- hd,hdd])) (v:=undef) (.tup _ [] [] [] (.nil _))
     exact hn _ w I ι Fs2 Gs g3
   have stOf:∀ {x:Option Act'},(match x with|some (.st s')=>some s'|some (.rq q)=>(hh q.f q.args q.sto).bind q.post|none=>none)=some s'->(∀ q,x ≠ some (.rq q))->x=some (.st s'):=by
    intro x hx hq
    split at hx
    ·cases hx;rfl
    ·exact absurd rfl (hq _)
    ·cases hx
   have noRq:∀ q,(match i0.dst with|some d=>okS (s.setD d (.d (.tup [])))|none=>some (.st s)) ≠ some (.rq q):=by
    intro q hq
    split at hq
    ·rename_i d _
     cases hsd:s.setD d (.d (.tup [])) <;> rw [hsd] at hq <;> cases hq
    ·cases hq
   rcases key with ⟨b,hb⟩|hb
   rotate_left
   ·
    obtain ⟨Fx,hrb,_⟩:=h.rd hb (v:=a.tmps.getD g undef) rfl
    have hval:a.tmps.getD g undef=.tuple #[]:=by
     generalize a.tmps.getD g undef=v at hrb
     cases hrb with
     | tup _ vs _ _ hl=>cases hl;rfl
    have hy:yielded ops a.tmps j=none:=by
     unfold yielded
     rw [hdst,Option.bind_some]
     cases hg2:a.tmps[g]? with
     | none=>rfl
     | some v =>
      have e:a.tmps.getD g undef=v:=by
       rw [Array.getD_eq_getD_getElem?,hg2];rfl
      rw [e] at hval
      rw [hval]
    have hw:Region.wanted o (yielded ops a.tmps)=false:=by
     simp only [Region.wanted,hg,hy]
     cases want <;> rfl
    rw [hw,if_neg (by simp)]
    unfold zbg at hv
    simp only [vact,hb] at hv
    exact skip (stOf hv noRq)
   obtain ⟨Fx,hrb,_⟩:=h.rd hb (v:=a.tmps.getD g undef) rfl
   have hval:=hrb.is_bool
   have hlt:g<a.tmps.size:=by
    refine Nat.lt_of_not_le fun hle=>?_
    have:a.tmps.getD g undef=undef:=by simp [Array.getElem?_eq_none hle]
    rw [this] at hval
    cases hval
   have hy:yielded ops a.tmps j=some b:=by
    unfold yielded
    rw [hdst,Option.bind_some]
    have:a.tmps[g]? = some (.bool b):=by
     rw [Array.getElem?_eq_getElem hlt]
     have e:a.tmps.getD g undef=a.tmps[g]:=by simp [hlt]
     rw [<- e,hval]
    rw [this]
   have hw:Region.wanted o (yielded ops a.tmps)=(b == want):=by
    simp only [Region.wanted,hg,hy]
    cases b <;> cases want <;> rfl
   rw [hw]
   by_cases hbw:b=want
   ·subst hbw
    rw [zgv hb] at hv
    rw [if_pos (by simp)]
    exact .inl (zqC hok h0 h hp hv (fun v w' I' ι' Fs' Gs' hs=>hn _ w' I' ι' Fs' Gs' hs))
   ·rw [if_neg (by simpa using hbw)]
    unfold zbg at hv
    simp only [vact,hb,if_neg hbw] at hv
    exact skip (stOf hv noRq)
  ·cases hc
end
end Go.Vx
namespace Go.Vx
def ExOf:Ex->Exit
 | .nrm=>.normal
 | .exit id=>.exit id
 | .ret=>.ret
section
variable {P:Program} {E:Env} [TE:TabEnv P E] {hand:List Nat} {a:Act} {w:World} {s:St} {I:Nat->Prop} {ι:List Nat} {Fs Gs:List (List Nat)}
def zkN (P:Program) (mo:Nat->List M):Prop :=
 ∀ (hh:H),HOK P mo hh->∀ (E:Env) [TabEnv P E] (ops:Array Oper) (l:List Vx.I) (id:Nat),ops.toList.mapM (zjL P mo ops)=some l->zho ops=true->(∀ o ∈ ops.toList,∀ t,o.dst=some t->∀ v,(t,v) ∉ E.pin) ->
  ∀ (a:Act) (w:World) (s:St) (I:Nat->Prop) (ι:List Nat) (Fs Gs:List (List Nat)),Sim E [] a w s I ι Fs Gs->∀ q,zdB hh l s=some q->(zqk l (zjM ops)).all (zfS q.2)=true ->
   ∀ (Q:Exit->Act->World->Prop),(∀ a' w' I' ι' Fs' Gs',Sim E [] a' w' q.1 I' ι' Fs' Gs'->Q .normal a' w')->(Code.region id ops true).wp P Q a w
theorem zqD {mo:Nat->List M} {hh:H} (hok:HOK P mo hh) {ops:Array Oper} {Q:Exit->Act->World->Prop}:∀ {l:List Oper} {is:List Vx.I} {a:Act} {w:World} {s s':St} {I:Nat->Prop} {ι:List Nat} {Fs Gs:List (List Nat)},
  All2 (fun o i=>zle P mo ops o=some i) l is->(∀ o ∈ l,∀ t,o.dst=some t->∀ v,(t,v) ∉ E.pin)->Sim E [] a w s I ι Fs Gs->vops hh is s=some s' ->
  (∀ a' w' I' ι' Fs' Gs',Sim E [] a' w' s' I' ι' Fs' Gs'->Q .normal a' w')->wpList P ops Q l a w
 | [],_,a,w,s,s',I,ι,Fs,Gs,hl,hp,h,hv,hQ=>by
  cases hl
  cases hv
  exact hQ a w I ι Fs Gs h
 | o::l,_,a,w,s,s',I,ι,Fs,Gs,hl,hp,h,hv,hQ=>by
  cases hl with
  | cons hc hl =>
   simp only [vops] at hv
   obtain ⟨s1,h1,h2⟩:=zaB hv
   cases hg:zjL P mo ops o with
   | none =>
    exfalso
    unfold zle at hc
    rw [hg] at hc
    simp only at hc
    split at hc
    ·cases hc;cases h1
    ·cases hc
   | some i0 =>
   unfold zle at hc
   rw [hg] at hc
   cases hc
   have:=zzP hok hg h (hp o (List.mem_cons_self ..)) h1 (K:=wpList P ops Q l) (Q:=Q)
    (fun a' w' I' ι' Fs' Gs' hs=>zqD hok hl (fun o ho=>hp o (List.mem_cons_of_mem _ ho)) hs h2 hQ)
   unfold wpList
   exact this
theorem zhU {f:St->Option (Ex × St)} {c:Code} {E:Env} {r:Ex × St} {Q:Exit->Act->World->Prop}
  (hf:∀ {a:Act} {w:World} {s:St} {I:Nat->Prop} {ι:List Nat} {Fs Gs:List (List Nat)} {r:Ex × St} {Q:Exit->Act->World->Prop},f s=some r->Sim E [] a w s I ι Fs Gs ->
   (∀ a' w' I' ι' Fs' Gs',Sim E [] a' w' r.2 I' ι' Fs' Gs'->Q (ExOf r.1) a' w')->c.wp P Q a w)
  (hQ:∀ a' w' I' ι' Fs' Gs',Sim E [] a' w' r.2 I' ι' Fs' Gs'->Q (ExOf r.1) a' w'):∀ (n:Nat) {a:Act} {w:World} {s:St} {I:Nat->Prop} {ι:List Nat} {Fs Gs:List (List Nat)},
  iter f n s=some r->Sim E [] a w s I ι Fs Gs->Code.rounds P c Q n a w
 | 0,a,w,s,I,ι,Fs,Gs,hi,h=>by cases hi
 | n + 1,a,w,s,I,ι,Fs,Gs,hi,h=>by
  simp only [iter] at hi
  rw [rounds_succ]
  cases hs:f s with
  | none=>rw [hs] at hi;cases hi
  | some x =>
   rw [hs] at hi
   refine hf hs h ?_
   intro a' w' I' ι' Fs' Gs' hsim
   obtain ⟨ex,s1⟩:=x
   cases ex with
   | nrm=>exact zhU hf hQ n hi hsim
   | exit j =>
    simp only [Option.some.injEq] at hi
    subst hi
    exact hQ a' w' I' ι' Fs' Gs' hsim
   | ret =>
    simp only [Option.some.injEq] at hi
    subst hi
    exact hQ a' w' I' ι' Fs' Gs' hsim
theorem zjT {mo:Nat->List M} (hdraw:zkN P mo) {hh:H} (hok:HOK P mo hh) {mus:List Nat} (hpin:∀ t v,(t,v) ∈ E.pin->t ∈ mus) (n:Nat):∀ (c:Code) {cv:C} {a:Act} {w:World} {s:St} {I:Nat->Prop} {ι:List Nat} {Fs Gs:List (List Nat)} {r:Ex × St} {Q:Exit->Act->World->Prop},
  zaS P mo mus c=some cv->zaw hh n cv s=some r->Sim E [] a w s I ι Fs Gs->(∀ a' w' I' ι' Fs' Gs',Sim E [] a' w' r.2 I' ι' Fs' Gs'->Q (ExOf r.1) a' w')->c.wp P Q a w:=by
 intro c
 induction c with
 | region id ops draw =>
  intro cv a w s I ι Fs Gs r Q hc hv h hQ
  simp only [zaS] at hc
  split at hc
  ·rename_i hnp
   have hpins:∀ o ∈ ops.toList,∀ t,o.dst=some t->∀ v,(t,v) ∉ E.pin:=by
    intro o ho t ht v hv
    have:=List.all_eq_true.1 hnp o ho
    rw [ht] at this
    simp only [Bool.not_eq_true',List.contains_eq_mem,decide_eq_false_iff_not] at this
    exact this (hpin t v hv)
   split at hc
   ·split at hc
    ·rename_i l hl
     split at hc
     ·rename_i hbk
      cases hc
      simp only [zaw] at hv
      split at hv
      ·rename_i q hq
       split at hv
       ·rename_i hall
        cases hv
        exact hdraw hh hok E ops l id hl hbk hpins a w s I ι Fs Gs h q hq hall Q hQ
       ·cases hv
      ·cases hv
     ·cases hc
    ·cases hc
   ·obtain ⟨l,hl,rfl⟩:=Option.map_eq_some_iff.1 hc
    simp only [zaw] at hv
    obtain ⟨s1,h1,rfl⟩:=Option.map_eq_some_iff.1 hv
    exact wp_region_list (zqD hok (zbR hl) hpins h h1 hQ)
  ·cases hc
 | seq x y ihx ihy =>
  intro cv a w s I ι Fs Gs r Q hc hv h hQ
  simp only [zaS] at hc
  split at hc
  ·rename_i cx cy hx hy
   cases hc
   simp only [zaw] at hv
   refine wp_seq ?_
   cases hvx:zaw hh n cx s with
   | none=>rw [hvx] at hv;cases hv
   | some q =>
    rw [hvx] at hv
    refine ihx hx hvx h ?_
    intro a' w' I' ι' Fs' Gs' hs
    obtain ⟨ex,s1⟩:=q
    cases ex with
    | nrm=>exact ihy hy hv hs hQ
    | exit j=>simp only [Option.some.injEq] at hv;subst hv;exact hQ a' w' I' ι' Fs' Gs' hs
    | ret=>simp only [Option.some.injEq] at hv;subst hv;exact hQ a' w' I' ι' Fs' Gs' hs
  ·cases hc
 | cond c x y ihx ihy =>
  intro cv a w s I ι Fs Gs r Q hc hv h hQ
  simp only [zaS] at hc
  split at hc
  ·rename_i cc cx cy hcc hx hy
   cases hc
   simp only [zaw] at hv
   split at hv
   ·rename_i t ht
    obtain ⟨Fx,hr,_⟩:=h.rd ht (zal hcc a)
    refine wp_cond hr.is_bool ?_
    cases t with
    | true=>exact ihx hx (by simpa using hv) h hQ
    | false=>exact ihy hy (by simpa using hv) h hQ
   ·rename_i hr0
    split at hv
    ·rename_i r1 r2 h1 h2
     split at hv
     ·rename_i he
      subst he
      cases hv
      obtain ⟨Fx,hr,_⟩:=h.rd hr0 (zal hcc a)
      obtain ⟨t,ht⟩:=hr.is_anyb
      refine wp_cond ht ?_
      cases t with
      | true=>exact ihx hx h1 h hQ
      | false=>exact ihy hy h2 h hQ
     ·cases hv
    ·cases hv
   ·cases hv
  ·cases hc
 | block id x ih =>
  intro cv a w s I ι Fs Gs r Q hc hv h hQ
  simp only [zaS] at hc
  obtain ⟨cx,hx,rfl⟩:=Option.map_eq_some_iff.1 hc
  simp only [zaw] at hv
  refine wp_block ?_
  cases hvx:zaw hh n cx s with
  | none=>rw [hvx] at hv;cases hv
  | some q =>
   rw [hvx] at hv
   refine ih hx hvx h ?_
   intro a' w' I' ι' Fs' Gs' hs
   obtain ⟨ex,s1⟩:=q
   cases ex with
   | nrm=>simp only [Option.some.injEq] at hv;subst hv;exact hQ a' w' I' ι' Fs' Gs' hs
   | exit j =>
    simp only at hv
    by_cases hj:j=id
    ·rw [if_pos hj] at hv
     simp only [Option.some.injEq] at hv
     subst hv
     simp only [ExOf,Exit.inBlock,if_pos hj]
     exact hQ a' w' I' ι' Fs' Gs' hs
    ·rw [if_neg hj] at hv
     simp only [Option.some.injEq] at hv
     subst hv
     simp only [ExOf,Exit.inBlock,if_neg hj]
     exact hQ a' w' I' ι' Fs' Gs' hs
   | ret=>simp only [Option.some.injEq] at hv;subst hv;exact hQ a' w' I' ι' Fs' Gs' hs
 | loop x ih =>
  intro cv a w s I ι Fs Gs r Q hc hv h hQ
  simp only [zaS] at hc
  obtain ⟨cx,hx,rfl⟩:=Option.map_eq_some_iff.1 hc
  simp only [zaw] at hv
  exact wp_loop_rounds n (zhU (fun hf hs hq=>ih hx hf hs hq) hQ n hv h)
 | exit id =>
  intro cv a w s I ι Fs Gs r Q hc hv h hQ
  simp only [zaS,Option.some.injEq] at hc
  subst hc
  simp only [zaw,Option.some.injEq] at hv
  subst hv
  exact wp_exit (hQ a w I ι Fs Gs h)
 | ret =>
  intro cv a w s I ι Fs Gs r Q hc hv h hQ
  simp only [zaS,Option.some.injEq] at hc
  subst hc
  simp only [zaw,Option.some.injEq] at hv
  subst hv
  exact wp_ret (hQ a w I ι Fs Gs h)
 | skip =>
  intro cv a w s I ι Fs Gs r Q hc hv h hQ
  simp only [zaS,Option.some.injEq] at hc
  subst hc
  simp only [zaw,Option.some.injEq] at hv
  subst hv
  exact wp_skip (hQ a w I ι Fs Gs h)
 | _=>intro cv a w s I ι Fs Gs r Q hc;simp only [zaS] at hc;cases hc
end
end Go.Vx
namespace Go.Vx
section
variable {P:Program} {E:Env} [TE:TabEnv P E] {hand:List Nat} {a:Act} {w:World} {s:St} {I:Nat->Prop} {ι:List Nat} {Fs Gs:List (List Nat)}
theorem Sim.clr1 (h:Sim E [] a w s I ι Fs Gs) (t:Nat) (hp:∀ v,(t,v) ∉ E.pin):∃ Fs2,Sim E [] a w (s.clr1 t) I ι Fs2 Gs:=by
 cases ho:s.sl[t]? with
 | none =>
  refine ⟨Fs,?_⟩
  unfold St.clr1
  rw [ho]
  exact h
 | some o =>
  have hs:s.setD t (.d .dead)=some (s.clr1 t):=by
   unfold St.setD St.clr1
   rw [ho]
   simp only [SV.into,Bool.false_eq_true,if_false]
   split <;> rfl
  have hlt:t<a.tmps.size:=by rw [h.size];exact getElem?_lt ho
  obtain ⟨Fs2,h2⟩:=Sim.setVal (hand:=[]) (F:=[]) h hs hp (v:=a.tmps.getD t undef) (.dead ..)
  rw [zou hlt] at h2
  exact ⟨Fs2,h2⟩
theorem Sim.clr {mus:List Nat} (hpin:∀ t v,(t,v) ∈ E.pin->t ∈ mus):∀ (l:List Nat) {s:St} {Fs:List (List Nat)},Sim E [] a w s I ι Fs Gs->(l.all fun t=>!mus.contains t)=true->∃ Fs2,Sim E [] a w (s.clr l) I ι Fs2 Gs
 | [],s,Fs,h,_=>⟨Fs,h⟩
 | t::l,s,Fs,h,hl=>by
  simp only [List.all_cons,Bool.and_eq_true,Bool.not_eq_true',List.contains_eq_mem,decide_eq_false_iff_not] at hl
  obtain ⟨Fs1,h1⟩:=h.clr1 t (fun v hv=>hl.1 (hpin t v hv))
  exact Sim.clr hpin l h1 (by simpa using hl.2)
theorem zjU {mo:Nat->List M} {mus:List Nat} {c:Code} {x y:C} (h:zaS P mo mus c=some (.seq x y)):∃ c1 c2,c=.seq c1 c2∧zaS P mo mus c1=some x∧zaS P mo mus c2=some y:=by
 cases c with
 | seq c1 c2 =>
  simp only [zaS] at h
  split at h
  ·rename_i h1 h2;cases h;exact ⟨c1,c2,rfl,h1,h2⟩
  ·cases h
 | region id ops draw =>
  simp only [zaS] at h
  repeat' (first|(cases h;done)|(obtain ⟨_,_,h2⟩:=Option.map_eq_some_iff.1 h;cases h2;done)|split at h)
 | cond=>simp only [zaS] at h;split at h <;> cases h
 | block=>simp only [zaS,Option.map_eq_some_iff] at h;obtain ⟨_,_,h⟩:=h;cases h
 | loop=>simp only [zaS,Option.map_eq_some_iff] at h;obtain ⟨_,_,h⟩:=h;cases h
 | _=>simp [zaS] at h
theorem zkO {mo:Nat->List M} {mus:List Nat} {c:Code} {b:X} {x y:C} (h:zaS P mo mus c=some (.cond b x y)):∃ o c1 c2,c=.cond o c1 c2∧cX P 0 o=some b∧zaS P mo mus c1=some x∧zaS P mo mus c2=some y:=by
 cases c with
 | cond o c1 c2 =>
  simp only [zaS] at h
  split at h
  ·rename_i h0 h1 h2;cases h;exact ⟨o,c1,c2,rfl,h0,h1,h2⟩
  ·cases h
 | region id ops draw =>
  simp only [zaS] at h
  repeat' (first|(cases h;done)|(obtain ⟨_,_,h2⟩:=Option.map_eq_some_iff.1 h;cases h2;done)|split at h)
 | seq=>simp only [zaS] at h;split at h <;> cases h
 | block=>simp only [zaS,Option.map_eq_some_iff] at h;obtain ⟨_,_,h⟩:=h;cases h
 | loop=>simp only [zaS,Option.map_eq_some_iff] at h;obtain ⟨_,_,h⟩:=h;cases h
 | _=>simp [zaS] at h
theorem zno {mo:Nat->List M} {mus:List Nat} {c:Code} {id:Nat} {x:C} (h:zaS P mo mus c=some (.block id x)):∃ c1,c=.block id c1∧zaS P mo mus c1=some x:=by
 cases c with
 | block id' c1 =>
  simp only [zaS,Option.map_eq_some_iff] at h
  obtain ⟨y,h1,h2⟩:=h
  cases h2
  exact ⟨c1,rfl,h1⟩
 | region id ops draw =>
  simp only [zaS] at h
  repeat' (first|(cases h;done)|(obtain ⟨_,_,h2⟩:=Option.map_eq_some_iff.1 h;cases h2;done)|split at h)
 | seq=>simp only [zaS] at h;split at h <;> cases h
 | cond=>simp only [zaS] at h;split at h <;> cases h
 | loop=>simp only [zaS,Option.map_eq_some_iff] at h;obtain ⟨_,_,h⟩:=h;cases h
 | _=>simp [zaS] at h
theorem zpA {mo:Nat->List M} {mus:List Nat} {c:Code} {x:C} (h:zaS P mo mus c=some (.loop x)):∃ c1,c=.loop c1∧zaS P mo mus c1=some x:=by
 cases c with
 | loop c1 =>
  simp only [zaS,Option.map_eq_some_iff] at h
  obtain ⟨y,h1,h2⟩:=h
  cases h2
  exact ⟨c1,rfl,h1⟩
 | region id ops draw =>
  simp only [zaS] at h
  repeat' (first|(cases h;done)|(obtain ⟨_,_,h2⟩:=Option.map_eq_some_iff.1 h;cases h2;done)|split at h)
 | seq=>simp only [zaS] at h;split at h <;> cases h
 | cond=>simp only [zaS] at h;split at h <;> cases h
 | block=>simp only [zaS,Option.map_eq_some_iff] at h;obtain ⟨_,_,h⟩:=h;cases h
 | _=>simp [zaS] at h
theorem zqE {mo:Nat->List M} {mus:List Nat} {c:Code} {l:List Nat} (h:zaS P mo mus c=some (.clr l)):False:=by
 cases c with
 | region id ops draw =>
  simp only [zaS] at h
  repeat' (first|(cases h;done)|(obtain ⟨_,_,h2⟩:=Option.map_eq_some_iff.1 h;cases h2;done)|split at h)
 | seq=>simp only [zaS] at h;split at h <;> cases h
 | cond=>simp only [zaS] at h;split at h <;> cases h
 | block=>simp only [zaS,Option.map_eq_some_iff] at h;obtain ⟨_,_,h⟩:=h;cases h
 | loop=>simp only [zaS,Option.map_eq_some_iff] at h;obtain ⟨_,_,h⟩:=h;cases h
 | _=>simp [zaS] at h
theorem znp (l:List Nat) (b:C):(C.seq (.clr l) b).strip=b.strip:=by cases b <;> simp [C.strip]
theorem znq (a:C) (l:List Nat) (h:∀ m,a ≠ .clr m):(C.seq a (.clr l)).strip=a.strip:=by
 cases a <;> first|(exfalso;exact h _ rfl)|simp [C.strip]
theorem zqF (a b:C) (h:∀ m,a ≠ .clr m) (h2:∀ m,b ≠ .clr m):(C.seq a b).strip=.seq a.strip b.strip:=by
 cases a <;> cases b <;> first|(exfalso;exact h _ rfl)|(exfalso;exact h2 _ rfl)|simp [C.strip]
theorem zuj {mo:Nat->List M} (hdraw:zkN P mo) {hh:H} (hok:HOK P mo hh) {mus:List Nat} (hpin:∀ t v,(t,v) ∈ E.pin->t ∈ mus) (n:Nat):∀ (cv:C) {c:Code} {a:Act} {w:World} {s:St} {I:Nat->Prop} {ι:List Nat} {Fs Gs:List (List Nat)} {r:Ex × St} {Q:Exit->Act->World->Prop},
  zaS P mo mus c=some cv.strip->cv.clrOK mus=true->zaw hh n cv s=some r->Sim E [] a w s I ι Fs Gs->(∀ a' w' I' ι' Fs' Gs',Sim E [] a' w' r.2 I' ι' Fs' Gs'->Q (ExOf r.1) a' w')->c.wp P Q a w:=by
 intro cv
 induction cv with
 | clr l=>intro c a w s I ι Fs Gs r Q hc;exact (zqE hc).elim
 | cnk p b x y z ihp ihx ihy ihz =>
  intro c a w s I ι Fs Gs r Q hc hk hv h hQ
  simp only [C.clrOK,Bool.and_eq_true] at hk
  simp only [C.strip] at hc
  obtain ⟨c1,c2,rfl,hc1,hc2⟩:=zjU hc
  obtain ⟨c0,c5,rfl,hc0,hc5⟩:=zjU hc1
  obtain ⟨o,c3,c4,rfl,hcc,hc3,hc4⟩:=zkO hc5
  have thn:∀ {q:C} {cq:Code} {f:St->Option (Ex × St)} {Q1:Exit->Act->World->Prop} {a:Act} {w:World} {s:St} {r:Ex × St},
    (∀ {r:Ex × St} {Q:Exit->Act->World->Prop},zaw hh n q s=some r->(∀ a' w' I' ι' Fs' Gs',Sim E [] a' w' r.2 I' ι' Fs' Gs'->Q (ExOf r.1) a' w')->cq.wp P Q a w) ->
    zdW (zaw hh n q s) f=some r->(∀ s1,f s1=some r->∀ a' w' I' ι' Fs' Gs',Sim E [] a' w' s1 I' ι' Fs' Gs'->Q1 .normal a' w') ->
    (r.1 ≠ .nrm->∀ a' w' I' ι' Fs' Gs',Sim E [] a' w' r.2 I' ι' Fs' Gs'->Q1 (ExOf r.1) a' w')->cq.wp P Q1 a w:=by
   intro q cq f Q1 a w s r ih hv hn he
   cases hvx:zaw hh n q s with
   | none=>rw [hvx] at hv;cases hv
   | some x =>
    rw [hvx] at hv
    refine ih hvx ?_
    intro a' w' I' ι' Fs' Gs' hs
    obtain ⟨ex,s1⟩:=x
    cases ex with
    | nrm=>exact hn s1 hv a' w' I' ι' Fs' Gs' hs
    | exit j =>
     simp only [zdW,Option.some.injEq] at hv;subst hv
     exact he (by simp) a' w' I' ι' Fs' Gs' hs
    | ret =>
     simp only [zdW,Option.some.injEq] at hv;subst hv
     exact he (by simp) a' w' I' ι' Fs' Gs' hs
  have hQ':r.1 ≠ .nrm->∀ a' w' I' ι' Fs' Gs',Sim E [] a' w' r.2 I' ι' Fs' Gs'->Exit.then (c2.wp P Q) Q (ExOf r.1) a' w':=by
   intro hne a' w' I' ι' Fs' Gs' hs
   have:=hQ a' w' I' ι' Fs' Gs' hs
   obtain ⟨ex,s1⟩:=r
   cases ex with
   | nrm=>exact absurd rfl hne
   | exit j=>exact this
   | ret=>exact this
  simp only [zaw] at hv
  refine wp_seq (wp_seq ?_)
  refine thn (fun h1 h2=>ihp hc0 hk.1.1.1 h1 h h2) hv ?_ ?_
  ·intro s1 hv1 a1 w1 I1 ι1 Fs1 Gs1 hs1
   show (Code.cond o c3 c4).wp P (Exit.then (c2.wp P Q) Q) a1 w1
   have arm:∀ {q:C} {cq:Code},zaS P mo mus cq=some q.strip->(∀ {r:Ex × St} {Q:Exit->Act->World->Prop},zaw hh n q s1=some r->(∀ a' w' I' ι' Fs' Gs',Sim E [] a' w' r.2 I' ι' Fs' Gs'->Q (ExOf r.1) a' w')->cq.wp P Q a1 w1) ->
     zdW (zaw hh n q s1) (fun s=>zaw hh n z s)=some r->cq.wp P (Exit.then (c2.wp P Q) Q) a1 w1:=by
    intro q cq hq ih hv2
    refine thn ih hv2 ?_ hQ'
    intro s2 hv3 a' w' I' ι' Fs' Gs' hs2
    exact ihz hc2 hk.2 hv3 hs2 hQ
   split at hv1
   ·rename_i ht
    obtain ⟨Fx,hr,_⟩:=hs1.rd ht (zal hcc a1)
    exact wp_cond hr.is_bool (arm hc3 (fun h1 h2=>ihx hc3 hk.1.1.2 h1 hs1 h2) hv1)
   ·rename_i ht
    obtain ⟨Fx,hr,_⟩:=hs1.rd ht (zal hcc a1)
    exact wp_cond hr.is_bool (arm hc4 (fun h1 h2=>ihy hc4 hk.1.2 h1 hs1 h2) hv1)
   ·rename_i ht
    obtain ⟨h1,h2⟩:=zpo.1 hv1
    obtain ⟨Fx,hr,_⟩:=hs1.rd ht (zal hcc a1)
    obtain ⟨t,ht⟩:=hr.is_anyb
    refine wp_cond ht ?_
    cases t with
    | true=>exact arm hc3 (fun h1 h2=>ihx hc3 hk.1.1.2 h1 hs1 h2) h1
    | false=>exact arm hc4 (fun h1 h2=>ihy hc4 hk.1.2 h1 hs1 h2) h2
   ·cases hv1
  ·intro hne a' w' I' ι' Fs' Gs' hs
   have:=hQ' hne a' w' I' ι' Fs' Gs' hs
   obtain ⟨ex,s1⟩:=r
   cases ex with
   | nrm=>exact absurd rfl hne
   | exit j=>exact this
   | ret=>exact this
 | seq x y ihx ihy =>
  intro c a w s I ι Fs Gs r Q hc hk hv h hQ
  simp only [C.clrOK,Bool.and_eq_true] at hk
  simp only [zaw] at hv
  by_cases hx:∃ m,x=.clr m
  ·obtain ⟨m,rfl⟩:=hx
   rw [znp] at hc
   simp only [zaw] at hv
   obtain ⟨Fs2,h2⟩:=Sim.clr hpin m h hk.1
   exact ihy hc hk.2 hv h2 hQ
  ·by_cases hy:∃ m,y=.clr m
   ·obtain ⟨m,rfl⟩:=hy
    rw [znq x m (fun m e=>hx ⟨m,e⟩)] at hc
    cases hvx:zaw hh n x s with
    | none=>rw [hvx] at hv;cases hv
    | some q =>
     rw [hvx] at hv
     refine ihx hc hk.1 hvx h ?_
     intro a' w' I' ι' Fs' Gs' hs
     obtain ⟨ex,s1⟩:=q
     cases ex with
     | nrm =>
      simp only [zaw,Option.some.injEq] at hv
      subst hv
      obtain ⟨Fs2,h2⟩:=Sim.clr hpin m hs hk.2
      exact hQ a' w' I' ι' Fs2 Gs' h2
     | exit j=>simp only [Option.some.injEq] at hv;subst hv;exact hQ a' w' I' ι' Fs' Gs' hs
     | ret=>simp only [Option.some.injEq] at hv;subst hv;exact hQ a' w' I' ι' Fs' Gs' hs
   ·rw [zqF x y (fun m e=>hx ⟨m,e⟩) (fun m e=>hy ⟨m,e⟩)] at hc
    obtain ⟨c1,c2,rfl,hc1,hc2⟩:=zjU hc
    refine wp_seq ?_
    cases hvx:zaw hh n x s with
    | none=>rw [hvx] at hv;cases hv
    | some q =>
     rw [hvx] at hv
     refine ihx hc1 hk.1 hvx h ?_
     intro a' w' I' ι' Fs' Gs' hs
     obtain ⟨ex,s1⟩:=q
     cases ex with
     | nrm=>exact ihy hc2 hk.2 hv hs hQ
     | exit j=>simp only [Option.some.injEq] at hv;subst hv;exact hQ a' w' I' ι' Fs' Gs' hs
     | ret=>simp only [Option.some.injEq] at hv;subst hv;exact hQ a' w' I' ι' Fs' Gs' hs
 | cond b x y ihx ihy =>
  intro c a w s I ι Fs Gs r Q hc hk hv h hQ
  simp only [C.clrOK,Bool.and_eq_true] at hk
  simp only [C.strip] at hc
  obtain ⟨o,c1,c2,rfl,hcc,hc1,hc2⟩:=zkO hc
  simp only [zaw] at hv
  split at hv
  ·rename_i t ht
   obtain ⟨Fx,hr,_⟩:=h.rd ht (zal hcc a)
   refine wp_cond hr.is_bool ?_
   cases t with
   | true=>exact ihx hc1 hk.1 (by simpa using hv) h hQ
   | false=>exact ihy hc2 hk.2 (by simpa using hv) h hQ
  ·rename_i hr0
   split at hv
   ·rename_i r1 r2 h1 h2
    split at hv
    ·rename_i he
     subst he
     cases hv
     obtain ⟨Fx,hr,_⟩:=h.rd hr0 (zal hcc a)
     obtain ⟨t,ht⟩:=hr.is_anyb
     refine wp_cond ht ?_
     cases t with
     | true=>exact ihx hc1 hk.1 h1 h hQ
     | false=>exact ihy hc2 hk.2 h2 h hQ
    ·cases hv
   ·cases hv
  ·cases hv
 | block id x ih =>
  intro c a w s I ι Fs Gs r Q hc hk hv h hQ
  simp only [C.clrOK] at hk
  simp only [C.strip] at hc
  obtain ⟨c1,rfl,hc1⟩:=zno hc
  simp only [zaw] at hv
  refine wp_block ?_
  cases hvx:zaw hh n x s with
  | none=>rw [hvx] at hv;cases hv
  | some q =>
   rw [hvx] at hv
   refine ih hc1 hk hvx h ?_
   intro a' w' I' ι' Fs' Gs' hs
   obtain ⟨ex,s1⟩:=q
   cases ex with
   | nrm=>simp only [Option.some.injEq] at hv;subst hv;exact hQ a' w' I' ι' Fs' Gs' hs
   | exit j =>
    simp only at hv
    by_cases hj:j=id
    ·rw [if_pos hj] at hv
     simp only [Option.some.injEq] at hv
     subst hv
     simp only [ExOf,Exit.inBlock,if_pos hj]
     exact hQ a' w' I' ι' Fs' Gs' hs
    ·rw [if_neg hj] at hv
     simp only [Option.some.injEq] at hv
     subst hv
     simp only [ExOf,Exit.inBlock,if_neg hj]
     exact hQ a' w' I' ι' Fs' Gs' hs
   | ret=>simp only [Option.some.injEq] at hv;subst hv;exact hQ a' w' I' ι' Fs' Gs' hs
 | loop x ih =>
  intro c a w s I ι Fs Gs r Q hc hk hv h hQ
  simp only [C.clrOK] at hk
  simp only [C.strip] at hc
  obtain ⟨c1,rfl,hc1⟩:=zpA hc
  simp only [zaw] at hv
  exact wp_loop_rounds n (zhU (fun hf hs hq=>ih hc1 hk hf hs hq) hQ n hv h)
 | ops l=>intro c a w s I ι Fs Gs r Q hc hk hv h hQ;exact zjT hdraw hok hpin n c (by simpa [C.strip] using hc) hv h hQ
 | draw l ps=>intro c a w s I ι Fs Gs r Q hc hk hv h hQ;exact zjT hdraw hok hpin n c (by simpa [C.strip] using hc) hv h hQ
 | exit id=>intro c a w s I ι Fs Gs r Q hc hk hv h hQ;exact zjT hdraw hok hpin n c (by simpa [C.strip] using hc) hv h hQ
 | ret=>intro c a w s I ι Fs Gs r Q hc hk hv h hQ;exact zjT hdraw hok hpin n c (by simpa [C.strip] using hc) hv h hQ
 | skip=>intro c a w s I ι Fs Gs r Q hc hk hv h hQ;exact zjT hdraw hok hpin n c (by simpa [C.strip] using hc) hv h hQ
end
end Go.Vx
namespace Go.Vx
theorem RepS.get {w:World} {I:Nat->Prop} {ι:List Nat} {vs:List Value} {ds:List D} {Fs:List (List Nat)} (h:RepS w I ι vs ds Fs):∀ (t:Nat) (d:D),ds[t]? = some d->Rep w I ι (vs.getD t undef) d (Fs.getD t []):=by
 induction h with
 | nil=>intro t d h;simp at h
 | cons v d F vs ds Fs h1 _ ih =>
  intro t d' hd
  cases t with
  | zero=>simp only [List.getElem?_cons_zero,Option.some.injEq] at hd;subst hd;exact h1
  | succ t =>
   simp only [List.getElem?_cons_succ] at hd
   exact ih t d' hd
section
variable {P:Program} {E:Env} {hand:List Nat} {a:Act} {w:World} {s:St} {I:Nat->Prop} {ι:List Nat} {Fs Gs:List (List Nat)}
theorem Sim.enter {args:List D} {sto:List (List D)} {vs:List Value} {Fs Gs:List (List Nat)} (hr:RepS w I ι vs args Fs) (hs:zjR w I ι sto Gs) (hn:(Fs.flatten++Gs.flatten).Nodup)
  (ha:∀ b ∈ Fs.flatten++Gs.flatten,¬ I b∧b<w.heap.size) (hI:∀ b,I b->b<w.heap.size) (k:Nat) (pin:List (Nat × Value)) (hpin:∀ t v,(t,v) ∈ pin->vs[t]? = some v) :
  Sim ⟨w,I,Fs.flatten++Gs.flatten,pin,ι⟩ [] { tmps:=vs.toArray++Array.replicate k undef,defers:=[] } w ⟨args.map SV.d++List.replicate k (.d .dead),sto⟩ I ι (Fs++List.replicate k []) Gs:=by
 obtain ⟨hl1,hl2⟩:=hr.length
 have hfl:(Fs++List.replicate k ([]:List Nat)).flatten=Fs.flatten:=by
  rw [List.flatten_append]
  have:(List.replicate k ([]:List Nat)).flatten=[]:=by
   induction k with
   | zero=>rfl
   | succ k ih=>simp [List.replicate_succ,ih]
  rw [this,List.append_nil]
 have hslot:∀ (t:Nat) (sv:SV),(args.map SV.d++List.replicate k (SV.d .dead))[t]? = some sv->∃ x,sv=SV.d x:=by
  intro t sv ht
  rw [List.getElem?_append] at ht
  split at ht
  ·rw [List.getElem?_map] at ht
   obtain ⟨d,_,rfl⟩:=Option.map_eq_some_iff.1 ht
   exact ⟨d,rfl⟩
  ·rw [List.getElem?_replicate] at ht
   split at ht
   ·cases ht;exact ⟨.dead,rfl⟩
   ·cases ht
 refine ⟨rfl,by simp [hl1],by simp [hl2],hs.1,hs.2.1,?_,?_,hs.2.2,?_,?_,?_,fun _ h=>h,Ext.refl _ _,?_,?_,fun _ _ h=>h⟩
 ·intro t sv ht
  by_cases hlt:t<args.length
  ·rw [List.getElem?_append_left (by simpa using hlt),List.getElem?_map] at ht
   obtain ⟨d,hd,rfl⟩:=Option.map_eq_some_iff.1 ht
   have:=hr.get t d hd
   have e1:(vs.toArray++Array.replicate k undef).getD t undef=vs.getD t undef:=by
    simp only [Array.getD_eq_getD_getElem?,List.getD]
    rw [Array.getElem?_append_left (by simpa [hl1] using hlt)]
    simp
   have e2:(Fs++List.replicate k ([]:List Nat)).getD t []=Fs.getD t []:=by
    simp only [List.getD]
    rw [List.getElem?_append_left (by rw [hl2];exact hlt)]
   rw [e1,e2]
   exact this
  ·have e2:(Fs++List.replicate k ([]:List Nat)).getD t []=[]:=by
    simp only [List.getD]
    rw [List.getElem?_append_right (by omega),List.getElem?_replicate]
    split <;> rfl
   rw [e2]
   rw [List.getElem?_append_right (by simpa using hlt),List.getElem?_replicate] at ht
   split at ht
   ·cases ht;exact .dead ..
   ·cases ht
 ·intro t sv ht
  obtain ⟨x,rfl⟩:=hslot t sv ht
  trivial
 ·rw [hfl,List.append_nil];exact hn
 ·intro b hb
  rw [hfl,List.append_nil] at hb
  exact ⟨(ha b hb).1,.inl hb,(ha b hb).2⟩
 ·intro b hb
  exact ⟨hI b hb,.inl hb⟩
 ·intro t v hv
  have:=hpin t v hv
  rw [Array.getElem?_append_left (by simpa using getElem?_lt this)]
  simpa using this
 ·intro t sv u ht hin
  obtain ⟨x,rfl⟩:=hslot t sv ht
  simp [SV.into] at hin
theorem zaC.unique {r:Root} {v1 v2:List Value} {d1 d2:List D} {b1 b2:Option (Nat × Nat)} (h1:zaC w a s ι r v1 d1 b1) (h2:zaC w a s ι r v2 d2 b2):v1=v2∧d1=d2∧b1=b2:=by
 cases r with
 | slot u =>
  rcases h1 with ⟨c1,x1,T1,m1,m2,m3,rfl,rfl⟩|⟨y1,m1,rfl,rfl,rfl⟩
  ·rcases h2 with ⟨c2,x2,T2,n1,n2,n3,rfl,rfl⟩|⟨y2,n1,_,_,_⟩
   ·rw [m1] at n1;cases n1
    rw [m2] at n2;cases n2
    rw [m3] at n3;cases n3
    exact ⟨rfl,rfl,rfl⟩
   ·rw [m1] at n1;cases n1
  ·rcases h2 with ⟨c2,x2,T2,n1,n2,n3,_,_⟩|⟨y2,n1,rfl,rfl,rfl⟩
   ·rw [m1] at n1;cases n1
   ·rw [m1] at n1;cases n1;exact ⟨rfl,rfl,rfl⟩
 | sto u =>
  obtain ⟨c1,x1,T1,m1,m2,m3,rfl,rfl⟩:=h1
  obtain ⟨c2,x2,T2,n1,n2,n3,rfl,rfl⟩:=h2
  rw [m1] at n1;cases n1
  rw [m2] at n2;cases n2
  rw [m3] at n3;cases n3
  exact ⟨rfl,rfl,rfl⟩
def zmw (tmps:Array Value):ResultVar->Sem Value
 | .tmp t=>pure (tmps.getD t undef)
 | .cell c t=>do loadVar t (<- asAddr (tmps.getD c undef))
theorem Sim.results:∀ {rvs:List ResultVar} {rs:List RV} {ds:List D} {s s1:St} {Fs Gs:List (List Nat)} {hand:List Nat},All2 (fun r q=>zov P r=some q) rvs rs->Sim E hand a w s I ι Fs Gs->s.results rs=some (ds,s1) ->
  ∃ vs Hs Fs2 Gs2,(rvs.mapM (zmw a.tmps)).run P w=.ok vs w∧RepS w I ι vs ds Hs∧Sim E (Hs.flatten++hand) a w s1 I ι Fs2 Gs2
 | [],rs,ds,s,s1,Fs,Gs,hand,hc,h,hr=>by
  cases hc
  cases hr
  exact ⟨[],[],Fs,Gs,rfl,.nil,by simpa using h⟩
 | rv::rvs,_,ds,s,s1,Fs,Gs,hand,hc,h,hr=>by
  cases hc with
  | cons h0 hc =>
   rename_i q rs
   have fin:∀ {v:Value} {d:D} {Fx Fs1:List Nat} {s2:St} {Fs2 Gs2:List (List Nat)} {ds':List D} {s3:St},(zmw a.tmps rv).run P w=.ok v w->Rep w I ι v d Fx->Sim E (Fx++hand) a w s2 I ι Fs2 Gs2->s2.results rs=some (ds',s3) ->
     ∃ vs Hs Fs2 Gs2,((rv::rvs).mapM (zmw a.tmps)).run P w=.ok vs w∧RepS w I ι vs (d::ds') Hs∧Sim E (Hs.flatten++hand) a w s3 I ι Fs2 Gs2:=by
    intro v d Fx _ s2 Fs2 Gs2 ds' s3 hrun hrep hsim hres
    obtain ⟨vs,Hs,Fs3,Gs3,k1,k2,k3⟩:=Sim.results hc hsim hres
    refine ⟨v::vs,Fx::Hs,Fs3,Gs3,?_,.cons _ _ _ _ _ _ hrep k2,?_⟩
    ·rw [List.mapM_cons]
     simp only [Sem.run_bind,hrun,Result.andThen_ok,k1]
     rfl
    ·refine k3.less ?_ (fun b hb=>?_)
     ·have hp:(Hs.flatten++(Fx++hand)).Perm ((Fx::Hs).flatten++hand):=by
       rw [List.perm_iff_count];intro y;simp [List.count_append];omega
      exact hp.nodup_iff.1 k3.nodup2.2.1
     ·simp only [List.flatten_cons,List.mem_append] at hb ⊢
      exact hb.elim (fun hb=>hb.elim (fun hb=>.inr (.inl hb)) .inl) (fun hb=>.inr (.inr hb))
   cases rv with
   | tmp t =>
    simp only [zov,Option.some.injEq] at h0
    subst h0
    simp only [St.results] at hr
    split at hr
    ·rename_i v s2 ht
     obtain ⟨⟨ds',s3⟩,h1,h2⟩:=Option.map_eq_some_iff.1 hr
     simp only [Prod.mk.injEq] at h2
     obtain ⟨rfl,rfl⟩:=h2
     obtain ⟨Fx,Fs2,Gs2,g1,g2⟩:=h.take ht (v:=a.tmps.getD t undef) rfl
     exact fin (Fs1:=[]) rfl g1 g2 h1
    ·cases hr
   | cell c t =>
    simp only [zov] at h0
    obtain ⟨k,hk,rfl⟩:=Option.map_eq_some_iff.1 h0
    simp only [St.results] at hr
    split at hr
    ·rename_i p hpl
     split at hr
     ·rename_i v hv
      split at hr
      ·rename_i s2 hw
       obtain ⟨⟨ds',s3⟩,h1,h2⟩:=Option.map_eq_some_iff.1 hr
       simp only [Prod.mk.injEq] at h2
       obtain ⟨rfl,rfl⟩:=h2
       obtain ⟨g1,_⟩:=h.place hpl (v:=a.tmps.getD c undef) rfl
       obtain ⟨vs,ds0,bo,vs',ds'0,b,of,q1,q2,q3,q4,q5,q6,ι',F',q7,q8⟩:=h.place_cells hv g1
       have hwd:=zgu q6
       rw [<- q7.length] at hwd
       obtain ⟨lv,hl,hva⟩:=zgt (P:=P) hk q4 hwd (zih hk)
       have hval:∀ vs1 ds1 bo1 vs1' ds1' bo1',zaC w a s ι p.root vs1 ds1 bo1->Foc w vs1 ds1 bo1 p.steps vs1' ds1' bo1'->zig vs1' ds1' p.off k lv:=by
        intro vs1 ds1 bo1 vs1' ds1' bo1' e1 e2
        have:vs1=vs∧ds1=ds0∧bo1=bo:=e1.unique q1
        obtain ⟨rfl,rfl,rfl⟩:=this
        obtain ⟨rfl,rfl,_⟩:=e2.unique q2
        exact hva _ q5
       obtain ⟨Fx,Fs2,Gs2,g3,g4⟩:=h.takeP hv hw hval false
       refine fin (Fs1:=[]) ?_ g3 g4 h1
       simp only [zmw,q3]
       simp only [asAddr,Sem.run_bind,Sem.run_pure,Result.andThen_ok,hl]
      ·cases hr
     ·cases hr
    ·cases hr
end
end Go.Vx
namespace Go.Vx
def zyH (P:Program) (mo:Nat->List M) (nt tb:Nat):Code->Option (Nat × BK × Nat)
 | .region _ ops false =>
  match ops.toList with
  | [o1,o2,o3,o4,o5] =>
   match o1.op,o1.dst,o2.op,o2.dst,o3.op with
   | .fieldAddr T (.tmp b) fi,some t1,.load Tf (.tmp u1),some t2,.move (.tmp k) =>
    match o3.dst,o4.op,o4.dst,o5.op,o5.dst with
    | some t3,.call c,some t4,.assign (.tmp u4),some k5 =>
     match c.callee,c.args.toList,P.underlying T with
     | .value (.func g),[.tmp u2,.tmp u3],some (.struct fs) =>
      match fs[fi]? with
      | some f =>
       match bkOf P Tf,zcd P f.type with
       | some kd,some (_ + 1) =>
        if (tb=b∧t1=u1∧k=1∧t2=u2∧t3=u3∧t4=u4∧k5=1)∧(o1.guard.isNone∧o2.guard.isNone∧o3.guard.isNone∧o4.guard.isNone∧o5.guard.isNone) ∧
         (t1 ≠ tb∧t2 ≠ tb∧t3 ≠ tb∧t4 ≠ tb∧t1 ≠ 1∧t2 ≠ 1∧t3 ≠ 1∧t2 ≠ t3)∧(t1<nt∧t2<nt∧t3<nt∧t4<nt∧1<nt∧tb ≠ 1)∧mo g=[.mu]∧zfi P g=true then some (f.offset,kd,g) else none
       | _,_=>none
      | none=>none
     | _,_,_=>none
    | _,_,_,_,_=>none
   | _,_,_,_,_=>none
  | _=>none
 | _=>none
def zqG (P:Program) (mo:Nat->List M) (nt tb tr:Nat):Code->Option (List (Nat × BK × Nat))
 | .seq (.region _ ops false) .ret =>
  match ops.toList with
  | [o1,o2] =>
   match o1.op,o1.dst,o2.op,o2.dst with
   | .move (.tmp k),some t1,.assign (.tmp u),some t2=>if k=1∧u=t1∧t2=tr∧o1.guard.isNone∧o2.guard.isNone∧t1<nt∧tr<nt then some [] else none
   | _,_,_,_=>none
  | _=>none
 | .seq c r =>
  match zyH P mo nt tb c,zqG P mo nt tb tr r with
  | some x,some xs=>some (x::xs)
  | _,_=>none
 | _=>none
def znr (P:Program) (mo:Nat->List M) (f:Nat):Option (List (Nat × BK × Nat)) :=
 match P.funcs[f]? with
 | some fn =>
  match fn.body,fn.results.toList with
  | some (.seq (.region _ ops false) r),[.tmp tr] =>
   match ops.toList with
   | [o1,o2] =>
    match o1.op,o1.dst,o2.op,o2.dst with
    | .box T (.tmp u),some tb,.assign (.const v),some t2 =>
     if u=0∧t2=tr∧o1.guard.isNone∧o2.guard.isNone∧tb ≠ tr∧1<tb∧1<tr∧tb<fn.ntmps∧tr<fn.ntmps∧mo f=[.mu]∧zfi P f=true∧fn.params.size=2∧fn.nfree=0 then zqG P mo fn.ntmps tb tr r else none
    | _,_,_,_=>none
   | _=>none
  | _,_=>none
 | none=>none
section
variable {P:Program} {w:World} {I:Nat->Prop}
theorem zek {ops:Array Oper} {Q:Exit->Act->World->Prop} {o:Oper} {l:List Oper} {a:Act} {w:World} (hg:o.guard.isNone=true) (h:o.wp P a w (wpList P ops Q l) Q):wpList P ops Q (o::l) a w:=by
 unfold wpList
 have:o.guard=none:=by simpa using hg
 rw [if_pos (by simp [Region.wanted,this])]
 exact .inl h
theorem zjd {o:Oper} {a:Act} {w w2:World} {K:Act->World->Prop} {Q:Exit->Act->World->Prop} {v:Value} (hr:(execOp a.eval o).run P w=.ok (.value v) w2) (h:K (a.put o.dst v) w2):o.wp P a w K Q:=by
 unfold Oper.wp
 rw [hr]
 exact h
structure MkI (w:World) (I:Nat->Prop) (F0:List Nat) (Gs:List Nat) (us:List Value) (b tb nt:Nat) (a:Act) (w1:World) (I1:Nat->Prop) (F1:List Nat) (cs:List D) (k:IntKind × Int):Prop where
 defers:a.defers=[]
 size:a.tmps.size=nt
 box:a.tmps.getD tb undef=.pointer (some ⟨b,0,none⟩)
 cnt:a.tmps.getD 1 undef=.int k.1 k.2
 block:∃ c T,w1.heap[b]? = some (.cells c T (0,0))∧c.toList=us
 ones:ones us
 rep:RepL w1 I1 [] us cs F1
 nodup:F1.Nodup
 notb:b ∉ F1
 bF0:b ∉ F0
 old:w.heap.size<=b
 up:∀ x,I x->I1 x
 imm:∀ x,I1 x->x<w1.heap.size∧(I x ∨ x ∈ F0 ∨ w.heap.size<=x)
 own:∀ x ∈ F1,¬ I1 x∧(x ∈ F0 ∨ w.heap.size<=x)∧x<w1.heap.size
 ext:Ext (· ∈ F0) w w1
 gs:∀ x ∈ Gs,w1.heap[x]? = w.heap[x]? ∧ x ∉ F1∧¬ I1 x
theorem zzQ {mo:Nat->List M} {hh:H} (hok:HOK P mo hh) {nt tb:Nat} {c:Code} {off g:Nat} {kd:BK} (hc:zyH P mo nt tb c=some (off,kd,g)) {F0 Gs:List Nat} {us:List Value} {b:Nat} {a:Act} {w1:World} {I1:Nat->Prop} {F1:List Nat} {cs:List D} {k:IntKind × Int}
  (hT:∀ w1 I1,Ext (· ∈ F0) w w1->(∀ x,I x->I1 x)->zlk P w1 I1) (hGs:∀ x ∈ Gs,x<w.heap.size) (h:MkI w I F0 Gs us b tb nt a w1 I1 F1 cs k) {x x':D} {j:IntKind} {n:Int} {st:List (List D)} (hx:zej cs off kd=some x) (hcall:hh g [x,.int k.1 k.2] []=some (.int j n,[x'],st)) (hnr:x'.hasRef=false) (hxr:x.hasRef=false)
  {d2 d3 news:List D} (h2:zdA cs off (zhD kd.width)=some d2) (h3:kd.news x'=some news) (h4:zdA d2 off news=some d3) {Q:Exit->Act->World->Prop}
  (hQ:∀ a' w' I' F',MkI w I F0 Gs us b tb nt a' w' I' F' d3 (j,n)->Q .normal a' w'):c.wp P Q a w1:=by
 unfold zyH at hc
 split at hc
 ·rename_i id ops
  split at hc
  ·rename_i o1 o2 o3 o4 o5 hops
   split at hc
   ·rename_i T b' fi t1 Tf u1 t2 k' e1 e2 e3 e4 e5
    split at hc
    ·rename_i t3 cl t4 u4 k5 e6 e7 e8 e9 e10
     split at hc
     ·rename_i g' u2 u3 fs e11 e12 e13
      split at hc
      ·rename_i f e14
       split at hc
       ·rename_i kd' m e15 e16
        split at hc
        ·rename_i hcond
         simp only [Option.some.injEq,Prod.mk.injEq] at hc
         obtain ⟨rfl,rfl,rfl⟩:=hc
         obtain ⟨⟨rfl,rfl,rfl,rfl,rfl,rfl,rfl⟩,⟨g1,g2,g3,g4,g5⟩,⟨q1,q2,q3,q4,q5,q6,q7,q8⟩,⟨l1,l2,l3,l4,l5,l6⟩,hmo,hb⟩:=hcond
         obtain ⟨cc,TT,hblk,hus⟩:=h.block
         refine wp_region_list ?_
         rw [hops]
         refine zek g1 (zjd (v:=.pointer (some ⟨b,f.offset,none⟩)) (w2:=w1) ?_ ?_)
         ·simp only [execOp,e1,Act.eval,h.box,Instr.fieldAt,Sem.run_bind,run_underlying e13,Result.andThen_ok,e14,Instr.sureAddr]
          simp [Sem.run,pure,Sem.run_bind,zhI e16,Addr.add_lit]
         rw [e2]
         have hs1:t1<a.tmps.size:=by rw [h.size];exact l1
         have hcells:zaA w1 b 0 us:=by
          intro i v hv
          rw [<- hus] at hv
          simp only [World.cell?,hblk,Option.isSome_none,Bool.false_eq_true,if_false,Nat.zero_add]
          simpa using hv
         have hwid:=zgu hx
         rw [<- h.rep.length] at hwid
         obtain ⟨v,hl,hva⟩:=zgt (P:=P) e15 hcells hwid (zih e15)
         have hval:=hva cs h.ones
         rw [Nat.zero_add] at hl
         refine zek g2 (zjd (v:=v) (w2:=w1) ?_ ?_)
         ·have e:(a.put (some t1) (.pointer (some ⟨b,f.offset,none⟩))).eval (.tmp t1)=.pointer (some ⟨b,f.offset,none⟩):=by
           simp only [Act.eval];exact zaT hs1
          simp only [execOp,e3,e,Instr.loadAt,Instr.sureAddr,Sem.run_bind]
          simp [Sem.run,pure,Sem.run_bind,hl]
         rw [e4]
         have hs2:t2<((a.put (some t1) (.pointer (some ⟨b,f.offset,none⟩)))).tmps.size:=by rw [zdO,h.size];exact l2
         refine zek g3 (zjd (v:=.int k.1 k.2) (w2:=w1) ?_ ?_)
         ·have e:((a.put (some t1) (.pointer (some ⟨b,f.offset,none⟩))).put (some t2) v).eval (.tmp 1)=.int k.1 k.2:=by
           simp only [Act.eval]
           rw [zaO (fun e=>q6 e.symm),zaO (fun e=>q5 e.symm)]
           exact h.cnt
          simp only [execOp,e5,e]
          simp [Sem.run,pure]
         rw [e6]
         generalize ha3:((a.put (some t1) (.pointer (some ⟨b,f.offset,none⟩))).put (some t2) v).put (some t3) (.int k.1 k.2)=a3
         have hs3:a3.tmps.size=nt:=by rw [<- ha3];simp [zdO,h.size]
         have a3_2:a3.tmps.getD t2 undef=v:=by rw [<- ha3,zaO q8];exact zaT hs2
         have a3_3:a3.tmps.getD t3 undef=.int k.1 k.2:=by rw [<- ha3];exact zaT (by rw [zdO,zdO,h.size];exact l3)
         have a3_b:a3.tmps.getD tb undef=.pointer (some ⟨b,0,none⟩):=by
          rw [<- ha3,zaO (fun e=>q3 e.symm),zaO (fun e=>q2 e.symm),zaO (fun e=>q1 e.symm)];exact h.box
         have a3_d:a3.defers=[]:=by rw [<- ha3];exact h.defers
         obtain ⟨Fx,L,R,r1,r2,r3⟩:=zft h.rep hx hval
         have hrest:=r3 d2 h2
         have hFx:∀ y,y ∈ Fx->y ∈ F1:=fun y hy=>r2.mem_iff.2 (mAL _ hy)
         have hR:∀ y,y ∈ R->y ∈ F1:=fun y hy=>r2.mem_iff.2 (mAR _ (mAR _ hy))
         have hnd:=r2.nodup_iff.1 h.nodup
         obtain ⟨nFx,nLR,hdis⟩:=List.nodup_append.1 hnd
         refine zek g4 ?_
         have hrun:=zjS (P:=P) (a:=a3) (w:=w1) e7 e11 (f:=g') (cap := #[]) (by rfl) hb
         unfold Oper.wp
         rw [hrun]
         have hargs:cl.args.map a3.eval ++ #[]=([v,.int k.1 k.2]:List Value).toArray:=by
          apply Array.ext'
          simp only [Array.append_empty,Array.toList_map,e12,List.map_cons,List.map_nil,Act.eval,a3_2,a3_3]
         rw [hargs,Oper.upon_enter]
         have hC:=(hok g' _ [] _ hcall).2 w1 I1 [] [v,.int k.1 k.2] [Fx,[]] [] (.cons _ _ _ _ _ _ r1 (.cons _ _ _ _ _ _ (.int ..) .nil)) ⟨rfl,rfl,fun r cs e=>by simp at e⟩
          (by simpa using nFx) (fun y hy=>by
           have:=h.own y (hFx y (by simpa using hy))
           exact ⟨this.1,this.2.2⟩) (fun y hy=>(h.imm y hy).1) (hT w1 I1 h.ext h.up)
         refine Calls.mono hC ?_
         rintro e w2 ⟨v',rfl,I2,ι2,Fr,Fo,Gs2,z1,z2,z3,z4,z5,z6,z7,z8,z9⟩
         rw [hmo] at z5
         simp only [musV] at z5
         simp only [List.flatten_cons,List.flatten_nil,List.append_nil] at z1 z3 z9
         have hv':v'=.int j n:=z4.is_int
         subst hv'
         cases z5 with
         | cons _ _ Fx' _ _ _ y1 y2 =>
          cases y2
          simp only [List.flatten_cons,List.flatten_nil,List.append_nil] at z8 z9
          have y1':=y1.noRef (ι':=[]) hnr
          have hsame:∀ y,y<w1.heap.size->y ∉ Fx->w2.heap[y]? = w1.heap[y]? := fun y hy hn=>z1.block y hy hn
          have hbsz:b<w1.heap.size:=by
           exact (Array.getElem?_eq_some_iff.1 hblk).1
          have hrest2:RepL w2 I2 [] us d2 R:=hrest.frame z2 (fun y hy=>hsame y (h.imm y hy).1 (fun e=>(h.own y (hFx y e)).1 hy))
           (fun y hy=>hsame y (h.own y (hR y hy)).2.2 (fun e=>hdis y e y (mAR _ hy) rfl))
          have hFx'r:∀ y ∈ Fx',¬ I2 y∧(y ∈ Fx ∨ w1.heap.size<=y)∧y<w2.heap.size:=fun y hy=>z9 y (mAR _ (mAL _ hy))
          have nFx':Fx'.Nodup:=(List.nodup_append.1 (List.nodup_append.1 z8).2.1).1
          obtain ⟨nv,hnv,hsameL⟩:∃ nv,RepL w2 I2 [] nv news Fx'∧us.take f.offset++(nv++us.drop (f.offset + nv.length))=us:=by
           cases kd' with
           | cut lo hi=>exact absurd rfl (zih e15 lo hi)
           | one =>
            simp only [BK.news,Option.some.injEq] at h3
            subst h3
            refine ⟨[v],RepL.one y1',?_⟩
            have:=zgT (show us[f.offset]? = some v from hval)
            simpa using this.symm
           | many m' =>
            obtain ⟨hle,_,hv⟩:f.offset + m'<=us.length∧ones ((us.drop f.offset).take m')∧v=.agg ((us.drop f.offset).take m').toArray:=hval
            cases x' with
            | agg cs' =>
             simp only [BK.news] at h3
             split at h3
             ·rename_i hl
              simp only [Option.some.injEq] at h3
              subst h3
              rw [hv] at y1'
              obtain ⟨vs2,k1,k2,_⟩:=y1'.is_agg
              have k3:(us.drop f.offset).take m'=vs2:=by
               have:=congrArg (fun z=>match z with|Value.agg c=>c.toList|_=>[]) k1
               simpa using this
              refine ⟨(us.drop f.offset).take m',by rw [k3];exact k2,?_⟩
              have hlen:((us.drop f.offset).take m').length=m':=by rw [List.length_take,List.length_drop];omega
              rw [hlen,<- List.drop_drop,List.take_append_drop,List.take_append_drop]
             ·cases h3
            | _=>cases h3
          obtain ⟨_,F2,L2,hrep2,hperm2⟩:=hrest2.patch hnv h4
          rw [hsameL] at hrep2
          have hin2:∀ y,y ∈ F2->y ∈ R ∨ y ∈ Fx':=fun y hy=>List.mem_append.1 (hperm2.mem_iff.2 (mAL _ hy))
          have hlt2:∀ y,y<w1.heap.size->y<w2.heap.size:=fun y hy=>Nat.lt_of_lt_of_le hy z1.size
          have hRFx':∀ y,y ∈ R->y ∉ Fx':=by
           intro y hy hy'
           rcases (hFx'r y hy').2.1 with e|e
           ·exact hdis y e y (mAR _ hy) rfl
           ·have:=(h.own y (hR y hy)).2.2;omega
          have nF2:F2.Nodup:=by
           have:(R++Fx').Nodup:=List.nodup_append.2 ⟨(List.nodup_append.1 nLR).2.1,nFx',fun y hy z hz e=>hRFx' y hy (e ▸ hz)⟩
           exact (List.nodup_append.1 (hperm2.nodup_iff.1 this)).1
          have hImm2:∀ y,I2 y->y<w2.heap.size∧(I y ∨ y ∈ F0 ∨ w.heap.size<=y):=by
           intro y hy
           obtain ⟨p1,p2⟩:=z3 y hy
           refine ⟨p1,?_⟩
           rcases p2 with p2|p2|p2
           ·exact (h.imm y p2).2
           ·exact .inr (h.own y (hFx y p2)).2.1
           ·exact .inr (.inr (Nat.le_trans h.ext.size p2))
          rw [e8]
          have hs4:t4<a3.tmps.size:=by rw [hs3];exact l4
          refine zek g5 (zjd (v:=.int j n) (w2:=w2) ?_ ?_)
          ·have e:(a3.put (some t4) (.int j n)).eval (.tmp t4)=.int j n:=by simp only [Act.eval];exact zaT hs4
           simp only [execOp,e9,e]
           simp [Sem.run,pure]
          rw [e10]
          refine hQ _ _ I2 F2 ⟨a3_d,by rw [zdO,zdO,hs3],?_,?_,⟨cc,TT,?_,hus⟩,h.ones,hrep2,nF2,?_,h.bF0,h.old,fun y hy=>z2 y (h.up y hy),hImm2,?_,?_,?_⟩
          ·rw [zaO l6,zaO (fun e=>q4 e.symm)];exact a3_b
          ·exact zaT (by rw [zdO,hs3];exact l5)
          ·rw [hsame b hbsz (fun e=>h.notb (hFx b e))];exact hblk
          ·intro hb2
           rcases hin2 b hb2 with e|e
           ·exact h.notb (hR b e)
           ·rcases (hFx'r b e).2.1 with e'|e'
            ·exact h.notb (hFx b e')
            ·omega
          ·intro y hy
           rcases hin2 y hy with e|e
           ·have o:=h.own y (hR y e)
            refine ⟨fun hI=>?_,o.2.1,hlt2 y o.2.2⟩
            rcases (z3 y hI).2 with p|p|p
            ·exact o.1 p
            ·exact hdis y p y (mAR _ e) rfl
            ·omega
           ·obtain ⟨p1,p2,p3⟩:=hFx'r y e
            refine ⟨p1,?_,p3⟩
            rcases p2 with p2|p2
            ·exact (h.own y (hFx y p2)).2.1
            ·exact .inr (Nat.le_trans h.ext.size p2)
          ·refine ⟨z1.os.trans h.ext.os,z1.tape.trans h.ext.tape,z1.output.trans h.ext.output,Nat.le_trans h.ext.size z1.size,fun y hy hn=>?_⟩
           rw [hsame y (Nat.lt_of_lt_of_le hy h.ext.size) (fun e=>?_)]
           ·exact h.ext.block y hy hn
           ·rcases (h.own y (hFx y e)).2.1 with e'|e'
            ·exact hn e'
            ·omega
          ·intro y hy
           obtain ⟨p1,p2,p3⟩:=h.gs y hy
           have hy1:y<w1.heap.size:=Nat.lt_of_lt_of_le (hGs y hy) h.ext.size
           refine ⟨(hsame y hy1 (fun e=>p2 (hFx y e))).trans p1,fun e=>?_,fun hI=>?_⟩
           ·rcases hin2 y e with e|e
            ·exact p2 (hR y e)
            ·rcases (hFx'r y e).2.1 with e'|e'
             ·exact p2 (hFx y e')
             ·omega
           ·rcases (z3 y hI).2 with p|p|p
            ·exact p3 p
            ·exact p2 (hFx y p)
            ·omega
        ·cases hc
       ·cases hc
      ·cases hc
     ·cases hc
    ·cases hc
   ·cases hc
  ·cases hc
 ·cases hc
theorem zve {mo:Nat->List M} {hh:H} (hok:HOK P mo hh) {nt tb tr:Nat} {F0 Gs:List Nat} {us:List Value} {b:Nat} (hT:∀ w1 I1,Ext (· ∈ F0) w w1->(∀ x,I x->I1 x)->zlk P w1 I1) (hGs:∀ x ∈ Gs,x<w.heap.size) {Q:Exit->Act->World->Prop} {k2:IntKind × Int} {cs2:List D} (htr:tr ≠ tb)
  (hQ:∀ a' w' I' F',MkI w I F0 Gs us b tb nt a' w' I' F' cs2 k2->∀ a2,a2.defers=[]->a2.tmps.getD tr undef=.int k2.1 k2.2->Q .ret a2 w') :
  ∀ {ms:List (Nat × BK × Nat)} {c:Code} {a:Act} {w1:World} {I1:Nat->Prop} {F1:List Nat} {cs:List D} {k:IntKind × Int},zqG P mo nt tb tr c=some ms->zah cs=false->zgd hh ms cs k=some (k2,cs2) ->
   MkI w I F0 Gs us b tb nt a w1 I1 F1 cs k->c.wp P Q a w1
 | [],c,a,w1,I1,F1,cs,k,hc,hcr,hv,h=>by
  simp only [zgd,Option.some.injEq,Prod.mk.injEq] at hv
  obtain ⟨rfl,rfl⟩:=hv
  unfold zqG at hc
  split at hc
  ·rename_i id ops
   split at hc
   ·rename_i o1 o2 hops
    split at hc
    ·rename_i k' t1 u t2 e1 e2 e3 e4
     split at hc
     ·rename_i hcond
      obtain ⟨rfl,rfl,rfl,g1,g2,l1,l2⟩:=hcond
      refine wp_seq (wp_region_list ?_)
      rw [hops]
      refine zek g1 (zjd (v:=.int k.1 k.2) (w2:=w1) ?_ ?_)
      ·have e:a.eval (.tmp 1)=.int k.1 k.2:=h.cnt
       simp only [execOp,e1,e]
       simp [Sem.run,pure]
      rw [e2]
      have hs:u<a.tmps.size:=by rw [h.size];exact l1
      refine zek g2 (zjd (v:=.int k.1 k.2) (w2:=w1) ?_ ?_)
      ·have e:(a.put (some u) (.int k.1 k.2)).eval (.tmp u)=.int k.1 k.2:=by simp only [Act.eval];exact zaT hs
       simp only [execOp,e3,e]
       simp [Sem.run,pure]
      rw [e4]
      refine wp_ret (hQ _ _ _ _ h _ h.defers ?_)
      exact zaT (by rw [zdO,h.size];exact l2)
     ·cases hc
    ·cases hc
   ·cases hc
  ·split at hc <;> cases hc
  ·cases hc
 | (off,kd,g)::ms,c,a,w1,I1,F1,cs,k,hc,hcr,hv,h=>by
  unfold zqG at hc
  split at hc
  ·split at hc
   ·split at hc
    ·split at hc <;> cases hc
    ·cases hc
   ·cases hc
  ·rename_i c1 r _
   split at hc
   ·rename_i y ys hy hys
    simp only [Option.some.injEq,List.cons.injEq] at hc
    obtain ⟨rfl,rfl⟩:=hc
    simp only [zgd] at hv
    split at hv
    ·rename_i x hx
     split at hv
     ·rename_i j n x' st hcall
      split at hv
      ·cases hv
      ·rename_i hnr
       split at hv
       ·rename_i d2 h2
        split at hv
        ·rename_i news h3
         split at hv
         ·rename_i d3 h4
          have hcr3:zah d3=false:=by
           have hnews:zah news=false:=by
            cases kd with
            | one=>simp only [BK.news,Option.some.injEq] at h3;subst h3;simp [zah,hnr]
            | cut lo hi=>cases x' <;> cases h3
            | many m =>
             cases x' with
             | agg l =>
              simp only [BK.news] at h3
              split at h3
              ·cases h3;simpa [D.hasRef] using hnr
              ·cases h3
             | _=>cases h3
           have ap:∀ (x y:List D),zah (x++y)=(zah x || zah y):=by
            intro x y
            induction x with
            | nil=>simp [zah]
            | cons z r ih=>simp [zah,ih,Bool.or_assoc]
           have tk:∀ (m:Nat) (x:List D),zah x=false->zah (x.take m)=false∧zah (x.drop m)=false:=by
            intro m x hx
            have:=ap (x.take m) (x.drop m)
            rw [List.take_append_drop,hx] at this
            simpa using this.symm
           have dd:∀ m,zah (zhD m)=false:=by
            intro m
            induction m with
            | zero=>rfl
            | succ m ih=>simp only [zhD,List.replicate_succ,zah,D.hasRef];simpa [zhD] using ih
           have sa:∀ {x y z:List D} {o:Nat},zdA x o y=some z->zah x=false->zah y=false->zah z=false:=by
            intro x y z o hs h1 h2
            unfold zdA at hs
            split at hs
            ·cases hs
             rw [ap,ap,(tk _ _ h1).1,h2,(tk _ _ h1).2];rfl
            ·cases hs
           exact sa h4 (sa h2 hcr (dd _)) hnews
          refine wp_seq (zzQ hok hy hT hGs h hx hcall (by simpa using hnr) ?_ h2 h3 h4 ?_)
          ·
           cases hxr:x.hasRef with
           | false=>rfl
           | true =>
            exfalso
            have ap:∀ (x y:List D),zah (x++y)=(zah x || zah y):=by
             intro x y
             induction x with
             | nil=>simp [zah]
             | cons z r ih=>simp [zah,ih,Bool.or_assoc]
            have tk:∀ (m:Nat) (x:List D),zah x=false->zah (x.take m)=false∧zah (x.drop m)=false:=by
             intro m x hx
             have:=ap (x.take m) (x.drop m)
             rw [List.take_append_drop,hx] at this
             simpa using this.symm
            have mem:∀ {l:List D} {y:D},zah l=false->y ∈ l->y.hasRef=false:=by
             intro l y hl hy
             induction l with
             | nil=>cases hy
             | cons z r ih =>
              simp only [zah,Bool.or_eq_false_iff] at hl
              rcases List.mem_cons.1 hy with rfl|hy
              ·exact hl.1
              ·exact ih hl.2 hy
            cases kd with
            | one =>
             have:=mem hcr (List.mem_of_getElem? (show cs[off]? = some x from hx))
             rw [hxr] at this;cases this
            | many m =>
             simp only [zej] at hx
             split at hx
             ·simp only [Option.some.injEq] at hx
              subst hx
              have:=(tk m _ (tk off _ hcr).2).1
              simp only [D.hasRef] at hxr
              rw [hxr] at this;cases this
             ·cases hx
            | cut lo hi =>
             simp only [zej] at hx
             split at hx
             ·split at hx
              ·simp only [Option.some.injEq] at hx
               subst hx
               simp [D.hasRef] at hxr
              ·cases hx
             ·cases hx
          ·intro a' w' I' F' h'
           exact zve hok hT hGs htr hQ hys hcr3 hv h'
         ·cases hv
        ·cases hv
       ·cases hv
     ·cases hv
    ·cases hv
   ·cases hc
  ·cases hc
theorem zyI {mo:Nat->List M} {hh:H} (hok:HOK P mo hh) {f:Nat} {ms:List (Nat × BK × Nat)} (hf:znr P mo f=some ms) {args:List D} {sto:List (List D)} {res:Res} (hv:zjJ hh ms args sto=some res) :
  zfi P f=true∧zfy P (mo f) f args sto res:=by
 unfold znr at hf
 split at hf
 ·rename_i fn hfn
  split at hf
  ·rename_i id ops r tr hbody hres
   split at hf
   ·rename_i o1 o2 hops
    split at hf
    ·rename_i T u tb cv t2 e1 e2 e3 e4
     split at hf
     ·rename_i hcond
      obtain ⟨rfl,rfl,g1,g2,htb,l1,l2,l3,l4,hmo,hb,hps,hnf⟩:=hcond
      refine ⟨hb,?_⟩
      unfold zjJ at hv
      split at hv
      ·rename_i cs kk n
       split at hv
       ·cases hv
       ·rename_i hnr
        obtain ⟨⟨⟨k2,n2⟩,cs2⟩,hvm,rfl⟩:=Option.map_eq_some_iff.1 hv
        have hnr':zah cs=false:=by simpa using hnr
        intro w I ι vs Fs Gs hr hs hn ha hI hT
        cases hr with
        | cons v0 _ F vs0 _ Fs0 r1 r2 =>
         cases r2 with
         | cons v1 _ Fk _ _ Fs1 r3 r4 =>
          cases r4
          have hk:=r3.is_int
          subst hk
          cases r3
          obtain ⟨us,rfl,q2,q3⟩:=r1.is_agg
          refine calls_of_wp hfn hbody ?_
          refine wp_seq (wp_region_list ?_)
          rw [hops]
          generalize ha0:({ tmps:=([Value.agg us.toArray,.int kk n]:List Value).toArray++Array.replicate (fn.ntmps - ([Value.agg us.toArray,.int kk n]:List Value).toArray.size) undef,defers:=[] }:Act)=a0
          have h2n:2<=fn.ntmps:=Nat.le_trans l1 (Nat.le_of_lt l3)
          have hsz0:a0.tmps.size=fn.ntmps:=by rw [<- ha0];simp;omega
          have h00:a0.tmps.getD 0 undef=.agg us.toArray:=by rw [<- ha0];simp [Array.getElem?_append]
          have h01:a0.tmps.getD 1 undef=.int kk n:=by rw [<- ha0];simp [Array.getElem?_append]
          have hd0:a0.defers=[]:=by rw [<- ha0]
          refine zek g1 (zjd (v:=.pointer (some ⟨w.heap.size,0,none⟩)) (w2:=w.alloc (.cells us.toArray T)) ?_ ?_)
          ·have e:a0.eval (.tmp 0)=.agg us.toArray:=h00
           simp [execOp,e1,e,Instr.box,newVar,newRow,newObj,Value.cells,Sem.run,pure,bind,Sem.bind]
          rw [e2]
          refine zek g2 (zjd (v:=cv) (w2:=w.alloc (.cells us.toArray T)) ?_ ?_)
          ·simp [execOp,e3,Act.eval,Sem.run,pure]
          rw [e4]
          simp only [List.flatten_cons,List.flatten_nil,List.append_nil] at hn ha
          have hlt:∀ x,x ∈ F ∨ x ∈ Gs.flatten->x<w.heap.size∧¬ I x:=fun x hx=>by
           have:=ha x (List.mem_append.2 hx);exact ⟨this.2,this.1⟩
          have hold:∀ x,x<w.heap.size->(w.alloc (.cells us.toArray T)).heap[x]? = w.heap[x]? := fun x hx=>heap_alloc_old w _ hx
          have hMk:MkI w I (F++Gs.flatten) Gs.flatten us w.heap.size tb fn.ntmps ((a0.put (some tb) (.pointer (some ⟨w.heap.size,0,none⟩))).put (some t2) cv) (w.alloc (.cells us.toArray T)) I F cs (kk,n):=by
           refine ⟨hd0,by rw [zdO,zdO,hsz0],?_,?_,⟨us.toArray,T,heap_alloc_new w _,by simp⟩,q3,?_,(List.nodup_append.1 hn).1,fun hx=>by have:=(hlt _ (.inl hx)).1;omega,
            fun hx=>by have:=(hlt _ (List.mem_append.1 hx)).1;omega,Nat.le_refl _,fun _ h=>h,?_,?_,?_,?_⟩
           ·rw [zaO htb];exact zaT (by rw [hsz0];exact l3)
           ·rw [zaO (Nat.ne_of_lt l2),zaO (Nat.ne_of_lt l1)];exact h01
           ·exact (q2.noRef hnr').frame (fun _ h=>h) (fun x hx=>hold x (hI x hx)) (fun x hx=>hold x (hlt x (.inl hx)).1)
           ·intro x hx
            refine ⟨?_,.inl hx⟩
            have:=hI x hx
            simp only [World.alloc,Array.size_push];omega
           ·intro x hx
            have:=hlt x (.inl hx)
            refine ⟨this.2,.inl (mAL _ hx),?_⟩
            simp only [World.alloc,Array.size_push];omega
           ·exact Ext.alloc _ _ _
           ·intro x hx
            have:=hlt x (.inr hx)
            exact ⟨hold x this.1,fun hF=>(List.nodup_append.1 hn).2.2 x hF x hx rfl,this.2⟩
          refine zve hok (fun w1 I1 he hu=>hT.ext he (fun b hb hm=>(hlt b (List.mem_append.1 hm)).2 hb) hu) (fun x hx=>(hlt x (.inr hx)).1) (fun e=>htb e.symm) ?_ hf hnr' hvm hMk
          intro a' w' I' F' h' a2 hd2 hr2
          refine ⟨hd2,.int k2 n2,?_,.int k2 n2,rfl,?_⟩
          ·have hr2':a2.tmps[t2]?.getD undef=.int k2 n2:=by simpa using hr2
           have k1:Sem.run P (fn.results.toList.mapM (zmw a2.tmps)) w'=.ok [.int k2 n2] w':=by
            rw [hres];simp [zmw,hr2',Sem.run,pure,bind,Sem.bind]
           unfold Go.results
           rw [Array.mapM_eq_mapM_toList]
           change Sem.run P ((List.toArray <$> fn.results.toList.mapM (zmw a2.tmps)) >>= fun vs=>pure (if h:vs.size=1 then vs[0] else .tuple vs)) w'=_
           rw [Sem.run_bind,map_eq_pure_bind,Sem.run_bind,k1]
           rfl
          ·have hrep:=h'.rep.monoSto (ι':=ι) (fun r b e=>by simp at e)
           refine ⟨I',ι,[],[F'],Gs,by simpa using h'.ext,h'.up,fun x hx=>⟨(h'.imm x hx).1,by simpa using (h'.imm x hx).2⟩,.int ..,?_,⟨hs.1,hs.2.1,?_⟩,fun _ _ h=>h,?_,?_⟩
           ·rw [hmo]
            simp only [musV]
            exact .cons _ _ _ _ _ _ (.agg _ _ _ _ hrep h'.ones) .nil
           ·intro r cs' hr'
            refine (hs.2.2 r cs' hr').frame h'.up (fun x hx=>?_) (fun x hx=>?_)
            ·refine h'.ext.block x (hI x hx) (fun e=>?_)
             exact (hlt x (List.mem_append.1 e)).2 hx
            ·refine (h'.gs x ?_).1
             by_cases hlr:r<Gs.length
             ·exact List.mem_flatten.2 ⟨_,List.mem_of_getElem? (zaQ [] hlr),hx⟩
             ·simp [List.getD,List.getElem?_eq_none_iff.2 (Nat.le_of_not_lt hlr)] at hx
           ·simp only [List.flatten_cons,List.flatten_nil,List.append_nil,List.nil_append]
            refine List.nodup_append.2 ⟨h'.nodup,(List.nodup_append.1 hn).2.1,fun x hx y hy e=>?_⟩
            subst e
            exact (h'.gs x hy).2.1 hx
           ·intro x hx
            simp only [List.flatten_cons,List.flatten_nil,List.append_nil,List.nil_append] at hx ⊢
            rcases List.mem_append.1 hx with hx|hx
            ·exact h'.own x hx
            ·have:=hlt x (.inr hx)
             exact ⟨(h'.gs x hx).2.2,.inl (mAR _ hx),Nat.lt_of_lt_of_le this.1 h'.ext.size⟩
      ·cases hv
     ·cases hf
    ·cases hf
   ·cases hf
  ·cases hf
 ·cases hf
end
end Go.Vx
namespace Go.Vx
theorem zhb:∀ {ms:List M} {k i:Nat},i ∈ musI k ms->k<=i
 | [],k,i,h=>by cases h
 | m::ms,k,i,h=>by
  cases m with
  | mu =>
   simp only [musI,List.mem_cons] at h
   rcases h with rfl|h
   ·exact Nat.le_refl _
   ·have:=zhb h;omega
  | rd=>have:=zhb (k:=k + 1) h;omega
  | fz=>have:=zhb (k:=k + 1) h;omega
  | im n=>have:=zhb (k:=k + 1) h;omega
  | mv=>have:=zhb (k:=k + 1) h;omega
theorem ziE:∀ {ms:List M} {k i:Nat},i ∈ musI k ms->i<k + ms.length
 | [],k,i,h=>by cases h
 | m::ms,k,i,h=>by
  simp only [List.length_cons]
  cases m with
  | mu =>
   simp only [musI,List.mem_cons] at h
   rcases h with rfl|h
   ·omega
   ·have:=ziE h;omega
  | rd=>have:=ziE (k:=k + 1) h;omega
  | fz=>have:=ziE (k:=k + 1) h;omega
  | im n=>have:=ziE (k:=k + 1) h;omega
  | mv=>have:=ziE (k:=k + 1) h;omega
theorem zeH:∀ (ms:List M) (k:Nat),(musI k ms).Nodup
 | [],k=>List.nodup_nil
 | m::ms,k=>by
  cases m with
  | mu=>exact List.nodup_cons.2 ⟨fun h=>by have:=zhb h;omega,zeH ms (k + 1)⟩
  | rd=>exact zeH ms (k + 1)
  | fz=>exact zeH ms (k + 1)
  | im n=>exact zeH ms (k + 1)
  | mv=>exact zeH ms (k + 1)
theorem zjV {Fs:List (List Nat)} (h:Fs.flatten.Nodup):∀ {is:List Nat},is.Nodup->(is.map fun i=>Fs.getD i []).flatten.Nodup∧∀ b ∈ (is.map fun i=>Fs.getD i []).flatten,b ∈ Fs.flatten
 | [],_=>⟨List.nodup_nil,fun b hb=>by cases hb⟩
 | i::is,hn=>by
  obtain ⟨h1,h2⟩:=List.nodup_cons.1 hn
  obtain ⟨h3,h4⟩:=zjV h h2
  have hsub:∀ b,b ∈ Fs.getD i []->b ∈ Fs.flatten:=by
   intro b hb
   by_cases ht:i<Fs.length
   ·exact List.mem_flatten.2 ⟨_,List.mem_of_getElem? (zaQ [] ht),hb⟩
   ·simp [List.getD,List.getElem?_eq_none_iff.2 (Nat.le_of_not_lt ht)] at hb
  refine ⟨?_,?_⟩
  ·simp only [List.map_cons,List.flatten_cons]
   refine List.nodup_append.2 ⟨ziB h i,h3,?_⟩
   intro x hx y hy e
   subst e
   obtain ⟨F,hF,hxF⟩:=List.mem_flatten.1 hy
   obtain ⟨j,hj,rfl⟩:=List.mem_map.1 hF
   exact zhS h (fun (e:i=j)=>h1 (e ▸ hj)) hx hxF
  ·intro b hb
   simp only [List.map_cons,List.flatten_cons,List.mem_append] at hb
   exact hb.elim (hsub b) (h4 b)
section
variable {P:Program} {E:Env} {hand:List Nat} {a:Act} {w:World} {s:St} {I:Nat->Prop} {ι:List Nat} {Fs Gs:List (List Nat)}
theorem Sim.outs (h:Sim E hand a w s I ι Fs Gs):∀ {ms:List M} {k:Nat} {us:List Value} {outs:List D},ms.length<=us.length->(∀ i,i ∈ musI k ms->a.tmps.getD i undef=us.getD (i - k) undef)->s.outs (musI k ms)=some outs ->
  RepS w I ι (musV ms us) outs ((musI k ms).map fun i=>Fs.getD i [])
 | [],k,us,outs,hl,hp,ho=>by
  simp only [musI,St.outs,Option.some.injEq] at ho
  subst ho
  rw [zhs]
  exact .nil
 | m::ms,k,[],outs,hl,hp,ho=>by simp at hl
 | m::ms,k,u::us,outs,hl,hp,ho=>by
  have hl':ms.length<=us.length:=by simpa using hl
  have skip:m ≠ .mu->(∀ i,i ∈ musI (k + 1) ms->a.tmps.getD i undef=(u::us).getD (i - k) undef)->s.outs (musI (k + 1) ms)=some outs->RepS w I ι (musV ms us) outs ((musI (k + 1) ms).map fun i=>Fs.getD i []):=by
   intro hm hp ho
   refine Sim.outs h hl' ?_ ho
   intro i hi
   have:=zhb hi
   rw [hp i hi]
   have e:i - k=(i - (k + 1)) + 1:=by omega
   rw [e]
   rfl
  cases m with
  | mu =>
   simp only [musI,St.outs] at ho
   split at ho
   ·rename_i x hx
    obtain ⟨outs',h1,rfl⟩:=Option.map_eq_some_iff.1 ho
    have hu:=hp k (by simp [musI])
    simp only [Nat.sub_self] at hu
    have hr:Rep w I ι (a.tmps.getD k undef) x (Fs.getD k []):=h.slot k _ hx
    rw [hu] at hr
    refine .cons _ _ _ _ _ _ hr (Sim.outs h hl' ?_ h1)
    intro i hi
    have:=zhb hi
    rw [hp i (by simp [musI,hi])]
    have e:i - k=(i - (k + 1)) + 1:=by omega
    rw [e]
    rfl
   ·cases ho
  | rd=>exact skip (by simp) hp ho
  | fz=>exact skip (by simp) hp ho
  | im n=>exact skip (by simp) hp ho
  | mv=>exact skip (by simp) hp ho
theorem zmx:∀ {ms:List M} {n:Nat} {vs:List Value},vs.length<=n->musV (ms.take n) vs=musV ms vs
 | [],n,vs,_=>by rw [List.take_nil]
 | m::ms,n,[],_=>by cases n <;> cases m <;> rfl
 | m::ms,0,v::vs,h=>by simp at h
 | m::ms,n + 1,v::vs,h=>by
  have ih:=zmx (ms:=ms) (n:=n) (vs:=vs) (by simpa using h)
  cases m <;> simp only [List.take_succ_cons,musV,ih]
theorem zBA {mo:Nat->List M} (hdraw:zkN P mo) {hh:H} (hok:HOK P mo hh) {f:Nat} {fv:F} (hf:zqq P mo f=some fv.plain) (hk:fv.body.clrOK fv.mus=true) (n:Nat) {args:List D} {sto:List (List D)} {res:Res} (hl:args.length=fv.np)
  (hv:fv.finish (zaw hh n fv.body (fv.init args sto))=some res):zfi P f=true∧zfy P (mo f) f args sto res:=by
 obtain ⟨np,ntmps,mus,fres,body⟩:=fv
 unfold zqq at hf
 split at hf
 ·rename_i fn hfn
  split at hf
  ·rename_i c hb
   split at hf
   ·rename_i c' rs hc hrs
    split at hf
    ·rename_i hcond
     simp only [F.plain,Option.some.injEq,F.mk.injEq] at hf
     obtain ⟨rfl,rfl,rfl,rfl,rfl⟩:=hf
     simp only at hv hk
     refine ⟨hcond,?_⟩
     have conv:zfy P ((mo f).take (fn.params.size + fn.nfree)) f args sto res->zfy P (mo f) f args sto res:=by
      intro h w I ι vs Fs Gs hr hs hn ha hI hT
      have hl1:=hr.length.1
      have this:=h w I ι vs Fs Gs hr hs hn ha hI hT
      simp only [zqv,zmx (ms:=mo f) (show vs.length<=fn.params.size + fn.nfree by rw [hl1];exact Nat.le_of_eq hl)] at this
      exact this
     refine conv ?_
     have hmx:((mo f).take (fn.params.size + fn.nfree)).length<=fn.params.size + fn.nfree:=List.length_take_le ..
     generalize (mo f).take (fn.params.size + fn.nfree)=ms at *
     intro w I ι vs Fs Gs hr hs hn ha hI hT
     obtain ⟨hl1,hl2⟩:=hr.length
     simp only at hl
     have hmlen:ms.length<=vs.length:=by rw [hl1,hl];exact hmx
     have hfin:∃ ex s1,zaw hh n body (F.init ⟨fn.params.size + fn.nfree,fn.ntmps,musI 0 ms,rs,body⟩ args sto)=some (ex,s1)∧(ex=.nrm ∨ ex=.ret)∧∃ ds s2 outs,s1.fin rs=some (ds,s2)∧s2.outs (musI 0 ms)=some outs∧res=(zjs ds,outs,s2.sto):=by
      generalize zaw hh n body (F.init ⟨fn.params.size + fn.nfree,fn.ntmps,musI 0 ms,rs,body⟩ args sto)=q at hv
      unfold F.finish at hv
      split at hv
      ·rename_i s1
       split at hv
       ·rename_i r hr
        obtain ⟨outs,ho,rfl⟩:=Option.map_eq_some_iff.1 hv
        exact ⟨_,s1,rfl,.inl rfl,r.1,r.2,outs,hr,ho,rfl⟩
       ·cases hv
      ·rename_i s1
       split at hv
       ·rename_i r hr
        obtain ⟨outs,ho,rfl⟩:=Option.map_eq_some_iff.1 hv
        exact ⟨_,s1,rfl,.inr rfl,r.1,r.2,outs,hr,ho,rfl⟩
       ·cases hv
      ·cases hv
     obtain ⟨ex,s1,hcode,hex,ds,s2,outs,hres,houts,rfl⟩:=hfin
     refine calls_of_wp hfn hb ?_
     have hpin:∀ t v,(t,v) ∈ (musI 0 ms).map (fun i=>(i,vs.getD i undef))->vs[t]? = some v∧t ∈ musI 0 ms:=by
      intro t v htv
      obtain ⟨i,hi,e⟩:=List.mem_map.1 htv
      simp only [Prod.mk.injEq] at e
      obtain ⟨rfl,rfl⟩:=e
      have:=ziE hi
      exact ⟨zaQ undef (by omega),hi⟩
     have hsim0:=Sim.enter hr hs hn ha hI (fn.ntmps - args.length) ((musI 0 ms).map fun i=>(i,vs.getD i undef)) (fun t v h=>(hpin t v h).1)
     have hTE:TabEnv P ⟨w,I,Fs.flatten++Gs.flatten,(musI 0 ms).map (fun i=>(i,vs.getD i undef)),ι⟩:=⟨hT,fun b hb hm=>(ha b hm).1 hb⟩
     have hsz:vs.toArray.size=args.length:=by simp [hl1]
     rw [hsz]
     refine zuj hdraw hok (fun t v h=>(hpin t v h).2) n body hc hk hcode hsim0 ?_
     intro a' w' I' ι' Fs' Gs' hsim
     obtain ⟨s1p,hprom,hres⟩:=Option.bind_eq_some_iff.1 hres
     obtain ⟨ι',Fs',Gs',hsim,_⟩:=hsim.proms hprom
     obtain ⟨vals,Hs,Fs2,Gs2,k1,k2,k3⟩:=hsim.results (zbR hrs) hres
     rw [List.append_nil] at k3
     have hfinal:a'.defers=[]∧∃ v,(results fn a'.tmps).run P w'=.ok v w'∧∃ v',Ending.returned v=.returned v'∧zqv w I ι (Fs.flatten++Gs.flatten) ms vs (zjs ds,outs,s2.sto) v' w':=by
      refine ⟨hsim.defers,if h:vals.toArray.size=1 then vals.toArray[0] else .tuple vals.toArray,?_,_,rfl,?_⟩
      ·unfold Go.results
       rw [Array.mapM_eq_mapM_toList]
       change Sem.run P ((List.toArray <$> fn.results.toList.mapM (zmw a'.tmps)) >>= fun vs=>pure (if h:vs.size=1 then vs[0] else .tuple vs)) w'=_
       rw [Sem.run_bind,map_eq_pure_bind,Sem.run_bind,k1]
       rfl
      ·
       refine ⟨I',ι',Hs.flatten,(musI 0 ms).map (fun i=>Fs2.getD i []),Gs2,hsim.ext,hsim.immUp,fun b hb=>⟨(hsim.imm b hb).1,(hsim.imm b hb).2⟩,?_,?_,k3.stoRep,hsim.stoUp,?_,?_⟩
       ·obtain ⟨m1,m2⟩:=k2.length
        match ds,vals,Hs,k2,m1,m2 with
        | [d],[v],[F],.cons _ _ _ _ _ _ r1 .nil,_,_=>simpa [zjs] using r1
        | [],[],[],.nil,_,_=>simpa [zjs] using Rep.tup ι' [] [] [] (.nil _)
        | d1::d2::ds,v1::v2::vs',Hs,k2,_,_ =>
         have:=Rep.tup ι' _ _ _ k2.toL
         simpa [zjs] using this
       ·refine k3.outs (k:=0) hmlen ?_ houts
        intro i hi
        have h1:=k3.pin i (vs.getD i undef) (List.mem_map.2 ⟨i,hi,rfl⟩)
        rw [Nat.sub_zero]
        simp [h1]
       ·obtain ⟨n1,n2,n3⟩:=k3.nodup2
        obtain ⟨m1,m2,m3⟩:=List.nodup_append.1 n1
        obtain ⟨p1,p2⟩:=zjV m1 (zeH ms 0)
        refine List.nodup_append.2 ⟨n2,List.nodup_append.2 ⟨p1,m2,fun x hx y hy e=>m3 x (p2 x hx) y hy e⟩,?_⟩
        intro x hx y hy e
        subst e
        rcases List.mem_append.1 hy with hy|hy
        ·exact n3 x (mAL _ (p2 x hy)) hx
        ·exact n3 x (mAR _ hy) hx
       ·intro b hb
        obtain ⟨p1,p2⟩:=zjV (List.nodup_append.1 k3.nodup2.1).1 (zeH ms 0)
        have hb':b ∈ Fs2.flatten++(Gs2.flatten++Hs.flatten):=by
         rcases List.mem_append.1 hb with hb|hb
         ·exact mAR _ (mAR _ hb)
         ·rcases List.mem_append.1 hb with hb|hb
          ·exact mAL _ (p2 b hb)
          ·exact mAR _ (mAL _ hb)
        exact k3.apart b hb'
     rcases hex with rfl|rfl
     ·exact hfinal
     ·exact hfinal
    ·cases hf
   ·cases hf
  ·cases hf
 ·cases hf
def zvf (P:Program) (mo:Nat->List M) (tab:Tab):Prop:=∀ f g,tab.pr f=some g->zfi P f=true∧∀ args d,g args=some d->∀ sto,zfy P (mo f) f args sto (d.1,d.2,sto)
theorem zjW {mo:Nat->List M} (hdraw:zkN P mo) {tab:Tab} (hmrk:∀ f ms,tab.mrk f=some ms->znr P mo f=some ms) (htab:∀ f fv,tab.fn f=some fv->zqq P mo f=some fv.plain∧fv.body.clrOK fv.mus=true) (hpr:zvf P mo tab):∀ n,HOK P mo (zaR tab n)
 | 0=>fun f args sto res h=>by cases h
 | n + 1=>fun f args sto res h=>by
  simp only [zaR] at h
  split at h
  ·rename_i g hg
   obtain ⟨d,hd,rfl⟩:=Option.map_eq_some_iff.1 h
   obtain ⟨h1,h2⟩:=hpr f g hg
   exact ⟨h1,h2 args d hd sto⟩
  ·split at h
   ·rename_i ms hms
    exact zyI (zjW hdraw hmrk htab hpr n) (hmrk f ms hms) h
   ·split at h
    ·rename_i fv hfv
     split at h
     ·rename_i hl
      exact zBA hdraw (zjW hdraw hmrk htab hpr n) (htab f fv hfv).1 (htab f fv hfv).2 n hl h
     ·cases h
    ·cases h
theorem zuk {mo:Nat->List M} (hdraw:zkN P mo) {tab:Tab} (hmrk:∀ f ms,tab.mrk f=some ms->znr P mo f=some ms) (htab:∀ f fv,tab.fn f=some fv->zqq P mo f=some fv.plain∧fv.body.clrOK fv.mus=true) (hpr:zvf P mo tab):HOK P mo (zaa tab):=by
 intro f args sto res h
 obtain ⟨n,hn⟩:=(zeG tab).1 h
 exact zjW hdraw hmrk htab hpr n f args sto res hn
end
end Go.Vx
namespace Go.Vx
inductive Eff where
 | kill (r:Root) (all:Bool)
 | killD (r:Root)
 | setS (n:Nat) (v:SV)
 | setT (r:Nat) (cs:List D)
def Eff.root:Eff->Root
 | .kill r _=>r
 | .killD r=>r
 | .setS n _=>.slot n
 | .setT r _=>.sto r
def SV.kr:SV->List Root
 | .bor p _=>[p.root]
 | .ptr p=>[p.root]
 | _=>[]
def Eff.kr:Eff->List Root
 | .setS _ v=>v.kr
 | _=>[]
def Eff.run:Eff->St->St
 | .kill r all,s=>s.kill r all
 | .killD r,s=>s.killD r
 | .setS n v,s=>{ s with sl:=s.sl.set n v }
 | .setT r cs,s=>{ s with sto:=s.sto.set r cs }
def runE:List Eff->St->St
 | [],s=>s
 | e::es,s=>runE es (e.run s)
theorem zbG:∀ (a b:List Eff) (s:St),runE (a++b) s=runE b (runE a s)
 | [],_,_=>rfl
 | e::a,b,s=>zbG a b (e.run s)
def zbY (T:List Root) (s s':St):Prop:=s.sto.length=s'.sto.length∧(∀ n,Root.slot n ∈ T->s.sl[n]? = s'.sl[n]?)∧(∀ r,Root.sto r ∈ T->s.sto[r]? = s'.sto[r]?)
def zhJ (M:List Root) (s s':St):Prop:=∀ n,Root.slot n ∈ M->(s.sl[n]?).map SV.isRoot=(s'.sl[n]?).map SV.isRoot
theorem SV.kill_isRoot (r:Root) (all:Bool) (v:SV):(SV.kill r all v).isRoot=v.isRoot:=by
 rcases SV.kill_cases r all v with e|⟨e,_,_⟩
 ·rw [e]
  cases v with
  | d x=>simp only [SV.kill] at e;cases e;rfl
  | box cs=>simp [SV.kill] at e
  | bor p k=>rfl
  | ptr p=>rfl
 ·rw [e]
theorem SV.killD_or (r:Root) (v:SV):SV.killD r v=.d .dead ∨ SV.killD r v=v:=by
 rcases SV.killD_cases r v with e|⟨_,e,_⟩
 ·rw [e];exact (SV.kill_cases r false v).imp id (·.1)
 ·exact .inr e
theorem SV.killD_isRoot (r:Root) (v:SV):(SV.killD r v).isRoot=v.isRoot:=by
 rcases SV.killD_cases r v with e|⟨_,e,_⟩
 ·rw [e];exact SV.kill_isRoot ..
 ·rw [e]
theorem zje {α:Type} {l l':List α} {m:Nat} (h:(l[m]?).isSome=(l'[m]?).isSome):(m<l.length) ↔ (m<l'.length):=by
 constructor
 ·intro hl
  rw [List.getElem?_eq_getElem hl] at h
  refine Nat.lt_of_not_le fun hle=>?_
  rw [List.getElem?_eq_none_iff.2 hle] at h
  cases h
 ·intro hl
  rw [List.getElem?_eq_getElem hl] at h
  refine Nat.lt_of_not_le fun hle=>?_
  rw [List.getElem?_eq_none_iff.2 hle] at h
  cases h
theorem zbY.run {T:List Root} {s s':St} (h:zbY T s s') (e:Eff):zbY T (e.run s) (e.run s'):=by
 obtain ⟨h1,h2,h3⟩:=h
 cases e with
 | kill r all =>
  refine ⟨h1,fun n hn=>?_,h3⟩
  simp only [Eff.run,St.kill,List.getElem?_map,h2 n hn]
 | killD r =>
  refine ⟨h1,fun n hn=>?_,h3⟩
  simp only [Eff.run,St.killD,List.getElem?_map,h2 n hn]
 | setS m v =>
  refine ⟨h1,fun n hn=>?_,h3⟩
  simp only [Eff.run,List.getElem?_set]
  have:=h2 n hn
  by_cases e:m=n
  ·subst e
   have hl:=zje (congrArg Option.isSome this)
   simp only [if_true,hl]
  ·simp only [if_neg e,this]
 | setT r cs =>
  refine ⟨by simpa [Eff.run] using h1,h2,fun q hq=>?_⟩
  simp only [Eff.run,List.getElem?_set,h1]
  rw [h3 q hq]
theorem zhJ.run {M:List Root} {s s':St} (h:zhJ M s s') (e:Eff):zhJ M (e.run s) (e.run s'):=by
 intro n hn
 have h0:=h n hn
 cases e with
 | kill r all =>
  simp only [Eff.run,St.kill,List.getElem?_map,Option.map_map]
  have:(SV.isRoot ∘ SV.kill r all)=SV.isRoot:=funext fun v=>SV.kill_isRoot r all v
  rw [this,h0]
 | killD r =>
  simp only [Eff.run,St.killD,List.getElem?_map,Option.map_map]
  have:(SV.isRoot ∘ SV.killD r)=SV.isRoot:=funext fun v=>SV.killD_isRoot r v
  rw [this,h0]
 | setS m v =>
  simp only [Eff.run,List.getElem?_set]
  by_cases e:m=n
  ·subst e
   have hl:(m<s.sl.length) ↔ (m<s'.sl.length):=zje (by simpa using congrArg Option.isSome h0)
   simp only [if_true,hl]
  ·simp only [if_neg e,h0]
 | setT r cs=>exact h0
theorem zbY.runE {T:List Root}:∀ {es:List Eff} {s s':St},zbY T s s'->zbY T (runE es s) (runE es s')
 | [],_,_,h=>h
 | e::es,_,_,h=>zbY.runE (es:=es) (h.run e)
theorem zhJ.runE {T:List Root}:∀ {es:List Eff} {s s':St},zhJ T s s'->zhJ T (runE es s) (runE es s')
 | [],_,_,h=>h
 | e::es,_,_,h=>zhJ.runE (es:=es) (h.run e)
theorem zbY.refl (T:List Root) (s:St):zbY T s s:=⟨rfl,fun _ _=>rfl,fun _ _=>rfl⟩
theorem zhJ.refl (T:List Root) (s:St):zhJ T s s:=fun _ _=>rfl
theorem zbY.mono {T T':List Root} {s s':St} (h:zbY T s s') (ht:∀ r ∈ T',r ∈ T):zbY T' s s':=⟨h.1,fun n hn=>h.2.1 n (ht _ hn),fun n hn=>h.2.2 n (ht _ hn)⟩
def zgg (T M:List Root) (es:List Eff):Prop:=∀ e ∈ es,e.root ∈ M∧∀ r ∈ e.kr,r ∈ T
theorem zgg.nil (T M:List Root):zgg T M []:=fun _ h=>by cases h
theorem zgg.append {T M:List Root} {a b:List Eff} (h:zgg T M a) (k:zgg T M b):zgg T M (a++b):=fun e he=>(List.mem_append.1 he).elim (h e) (k e)
theorem zgg.mono {T T' M M':List Root} {a:List Eff} (h:zgg T M a) (hT:∀ r ∈ T,r ∈ T') (hM:∀ r ∈ M,r ∈ M'):zgg T' M' a:=fun e he=>⟨hM _ (h e he).1,fun r hr=>hT r ((h e he).2 r hr)⟩
section
variable {T:List Root} {s s':St}
theorem ziF (h:zbY T s s') {r:Root} (hr:r ∈ T):s.root r=s'.root r:=by
 cases r with
 | slot n=>simp only [St.root,h.2.1 n hr]
 | sto n=>simp only [St.root,h.2.2 n hr]
theorem zdC (h:zbY T s s') {p:Place} (hr:p.root ∈ T) (k:BK):s.rdP p k=s'.rdP p k:=by
 simp only [St.rdP,ziF h hr]
theorem zdq {x:X} {t:List Root} (hx:s.tch x=some t):(∃ d,x=.c d∧t=[]) ∨ ∃ n v,x=.t n∧s.sl[n]? = some v∧v ≠ .d .dead∧(v.refs.all s.rootOK=true)∧t=.slot n::v.refs:=by
 cases x with
 | c d=>cases hx;exact .inl ⟨d,rfl,rfl⟩
 | t n =>
  simp only [St.tch] at hx
  split at hx
  ·cases hx
  ·rename_i v hnd hv
   split at hx
   ·rename_i hall
    cases hx
    exact .inr ⟨n,v,rfl,hv,hnd,hall,rfl⟩
   ·cases hx
  ·cases hx
theorem zqH (h:zbY T s s') {x:X} {t:List Root} (hx:s.tch x=some t) (ht:∀ r ∈ t,r ∈ T):s'.tch x=some t:=by
 rcases zdq hx with ⟨d,rfl,rfl⟩|⟨n,v,rfl,hn,hd,hall,rfl⟩
 ·rfl
 ·have hn':s'.sl[n]? = some v:=by rw [<- h.2.1 n (ht _ (List.mem_cons_self ..))];exact hn
  have hall':v.refs.all s'.rootOK=true:=by
   rw [List.all_eq_true] at hall ⊢
   intro r hr
   have h0:=hall r hr
   cases r with
   | slot u=>simp only [St.rootOK] at h0 ⊢;rw [<- h.2.1 u (ht _ (List.mem_cons_of_mem _ hr))];exact h0
   | sto u=>rfl
  simp only [St.tch,hn',hall',if_true]
theorem zbh (h:zbY T s s') {x:X} {t:List Root} (hx:s.tch x=some t) (ht:∀ r ∈ t,r ∈ T):s.rd x=s'.rd x:=by
 rcases zdq hx with ⟨d,rfl,rfl⟩|⟨n,v,rfl,hn,hd,hall,rfl⟩
 ·rfl
 ·have hn':s'.sl[n]? = some v:=by rw [<- h.2.1 n (ht _ (List.mem_cons_self ..))];exact hn
  simp only [St.rd,hn,hn']
  cases v with
  | d y=>rfl
  | box cs=>rfl
  | bor p k=>exact zdC h (ht _ (by simp [SV.refs])) k
  | ptr p =>
   obtain ⟨root,st,off⟩:=p
   cases root <;> cases st <;> simp only [h.1]
theorem zel (h:zbY T s s') {x:X} {t:List Root} (hx:s.tch x=some t) (ht:∀ r ∈ t,r ∈ T):s.sv x=s'.sv x∧∀ v,s.sv x=some v->∀ r ∈ v.kr,r ∈ T:=by
 rcases zdq hx with ⟨d,rfl,rfl⟩|⟨n,v,rfl,hn,hd,hall,rfl⟩
 ·refine ⟨rfl,fun v hv r hr=>?_⟩
  cases hv
  simp [SV.kr] at hr
 ·have hn':s'.sl[n]? = some v:=by rw [<- h.2.1 n (ht _ (List.mem_cons_self ..))];exact hn
  refine ⟨by simp only [St.sv,hn,hn'],fun u hu r hr=>?_⟩
  have hs:Root.slot n ∈ T:=ht _ (List.mem_cons_self ..)
  simp only [St.sv,hn] at hu
  cases v with
  | d y =>
   simp only at hu
   split at hu
   ·cases hu;simp only [SV.kr,List.mem_singleton] at hr;rw [hr];exact hs
   ·cases hu;simp [SV.kr] at hr
  | box cs=>cases hu;simp only [SV.kr,List.mem_singleton] at hr;rw [hr];exact hs
  | bor p k=>cases hu;exact ht _ (List.mem_cons_of_mem _ hr)
  | ptr p=>cases hu;exact ht _ (List.mem_cons_of_mem _ hr)
theorem zaU (h:zbY T s s') {x:X} {t:List Root} (hx:s.tch x=some t) (ht:∀ r ∈ t,r ∈ T):s.place x=s'.place x∧s.imm x=s'.imm x∧∀ p,s.place x=some p->p.root ∈ T:=by
 rcases zdq hx with ⟨d,rfl,rfl⟩|⟨n,v,rfl,hn,hd,hall,rfl⟩
 ·exact ⟨rfl,rfl,(fun p hp=>by cases hp)⟩
 ·have hn':s'.sl[n]? = some v:=by rw [<- h.2.1 n (ht _ (List.mem_cons_self ..))];exact hn
  have hs:Root.slot n ∈ T:=ht _ (List.mem_cons_self ..)
  refine ⟨by simp only [St.place,hn,hn'],by simp only [St.imm,hn,hn'],fun p hp=>?_⟩
  simp only [St.place,hn] at hp
  cases v with
  | d y =>
   cases y <;> simp at hp
   rename_i r off
   subst hp
   exact ht _ (by simp [SV.refs])
  | box cs=>cases hp;exact hs
  | bor p k=>cases hp
  | ptr q=>cases hp;exact ht _ (by simp [SV.refs])
theorem zgh (h:zbY T s s') {x:X} {t:List Root} (hx:s.tch x=some t) (ht:∀ r ∈ t,r ∈ T):s.num x=s'.num x:=by
 simp only [St.num,zbh h hx ht]
theorem zdD (h:zbY T s s') {x:X} {t:List Root} (hx:s.tch x=some t) (ht:∀ r ∈ t,r ∈ T):s.tupAt x=s'.tupAt x∧s.isPtr x=s'.isPtr x∧(∀ n ps,s.tupAt x=some (n,ps)->Root.slot n ∈ t)∧∀ v,s.isPtr x=some v->∀ r ∈ v.kr,r ∈ T:=by
 rcases zdq hx with ⟨d,rfl,rfl⟩|⟨n,v,rfl,hn,hd,hall,rfl⟩
 ·exact ⟨rfl,rfl,(fun n ps e=>by cases e),(fun v e=>by cases e)⟩
 ·have hn':s'.sl[n]? = some v:=by rw [<- h.2.1 n (ht _ (List.mem_cons_self ..))];exact hn
  have hs:Root.slot n ∈ T:=ht _ (List.mem_cons_self ..)
  refine ⟨by simp only [St.tupAt,hn,hn'],by simp only [St.isPtr,hn,hn'],fun m ps e=>?_,fun u e r hr=>?_⟩
  ·simp only [St.tupAt,hn] at e
   cases v with
   | d y=>cases y <;> simp at e;obtain ⟨rfl,_⟩:=e;exact List.mem_cons_self ..
   | box cs=>cases e
   | bor p k=>cases e
   | ptr q=>cases e
  ·simp only [St.isPtr,hn] at e
   cases v with
   | d y=>cases e
   | box cs=>cases e;simp only [SV.kr,List.mem_singleton] at hr;rw [hr];exact hs
   | bor p k=>cases e
   | ptr q=>cases e;exact ht _ (List.mem_cons_of_mem _ hr)
theorem zjf (h:zbY T s s') {x:X} {t:List Root} (hx:s.tch x=some t) (ht:∀ r ∈ t,r ∈ T) (sz i:Nat):s.elemAt sz x i=s'.elemAt sz x i∧∀ v,s.elemAt sz x i=some v->∀ r ∈ v.kr,r ∈ T:=by
 rcases zdq hx with ⟨d,rfl,rfl⟩|⟨n,v,rfl,hn,hd,hall,rfl⟩
 ·exact ⟨rfl,fun v e=>by cases e⟩
 ·have hn':s'.sl[n]? = some v:=by rw [<- h.2.1 n (ht _ (List.mem_cons_self ..))];exact hn
  have hs:Root.slot n ∈ T:=ht _ (List.mem_cons_self ..)
  cases v with
  | d y =>
   refine ⟨by simp only [St.elemAt,hn,hn'];cases y <;> rfl,fun u e r hr=>?_⟩
   simp only [St.elemAt,hn] at e
   split at e
   ·rename_i own z xs heq
    cases heq
    split at e
    ·cases own with
     | true =>
      simp only at e
      split at e
      ·cases e;simp only [SV.kr,List.mem_singleton] at hr;rw [hr];exact hs
      ·cases e
     | false =>
      simp only at e
      obtain ⟨q,_,rfl⟩:=Option.map_eq_some_iff.1 e
      simp [SV.kr] at hr
    ·cases e
   ·rename_i heq;cases heq
   ·rename_i heq;cases heq
   ·cases e
  | box cs=>exact ⟨by simp only [St.elemAt,hn,hn'],fun u e=>by simp only [St.elemAt,hn] at e;cases e⟩
  | bor p k =>
   have hp:p.root ∈ T:=ht _ (by simp [SV.refs])
   refine ⟨?_,fun u e r hr=>?_⟩
   ·simp only [St.elemAt,hn,hn']
    cases k <;> simp only [zdC h hp]
   ·simp only [St.elemAt,hn] at e
    cases k with
    | one =>
     simp only at e
     split at e
     ·split at e
      ·cases e;simp only [SV.kr,List.mem_singleton] at hr;rw [hr];exact hp
      ·cases e
     ·cases e
    | many m=>cases e
    | cut lo hi =>
     simp only at e
     split at e
     ·split at e
      ·cases e;simp only [SV.kr,List.mem_singleton] at hr;rw [hr];exact hp
      ·cases e
     ·cases e
  | ptr q=>exact ⟨by simp only [St.elemAt,hn,hn'],fun u e=>by simp only [St.elemAt,hn] at e;cases e⟩
end
end Go.Vx
namespace Go.Vx
def LocF (T M:List Root) (f:St->Option St) (s:St):Prop :=
 ∀ s1,f s=some s1->∃ es,zgg T M es∧s1=runE es s∧∀ s',zbY T s s'->zhJ M s s'->f s'=some (runE es s')
def LocG {β:Type} (T M:List Root) (f:St->Option (β × St)) (s:St):Prop :=
 ∀ y s1,f s=some (y,s1)->∃ es,zgg T M es∧s1=runE es s∧∀ s',zbY T s s'->zhJ M s s'->f s'=some (y,runE es s')
theorem LocF.bind {β:Type} {T M:List Root} {g:St->Option (β × St)} {k:β->St->Option St} {s:St} (hg:LocG T M g s) (hk:∀ y s1 es,g s=some (y,s1)->zgg T M es->s1=runE es s->LocF T M (k y) s1) :
  LocF T M (fun s=>(g s).bind fun r=>k r.1 r.2) s:=by
 intro s2 h
 obtain ⟨⟨y,s1⟩,h1,h2⟩:=zaB h
 obtain ⟨es,e1,e2,e3⟩:=hg y s1 h1
 obtain ⟨fs,f1,f2,f3⟩:=hk y s1 es h1 e1 e2 s2 h2
 refine ⟨es++fs,e1.append f1,by rw [zbG,<- e2];exact f2,fun s' ha hm=>?_⟩
 simp only [e3 s' ha hm,Option.bind_some]
 rw [zbG]
 refine f3 (runE es s') ?_ ?_
 ·rw [e2];exact ha.runE
 ·rw [e2];exact hm.runE
theorem LocG.bind {β γ:Type} {T M:List Root} {g:St->Option (β × St)} {k:β->St->Option (γ × St)} {s:St} (hg:LocG T M g s) (hk:∀ y s1 es,g s=some (y,s1)->zgg T M es->s1=runE es s->LocG T M (k y) s1) :
  LocG T M (fun s=>(g s).bind fun r=>k r.1 r.2) s:=by
 intro z s2 h
 obtain ⟨⟨y,s1⟩,h1,h2⟩:=zaB h
 obtain ⟨es,e1,e2,e3⟩:=hg y s1 h1
 obtain ⟨fs,f1,f2,f3⟩:=hk y s1 es h1 e1 e2 z s2 h2
 refine ⟨es++fs,e1.append f1,by rw [zbG,<- e2];exact f2,fun s' ha hm=>?_⟩
 simp only [e3 s' ha hm,Option.bind_some]
 rw [zbG]
 refine f3 (runE es s') ?_ ?_
 ·rw [e2];exact ha.runE
 ·rw [e2];exact hm.runE
def Cov (T:List Root) (s:St):X->Prop
 | .c _=>True
 | .t n=>Root.slot n ∈ T∧∀ v,s.sl[n]? = some v->∀ r ∈ v.kr,r ∈ T
theorem Cov.run1 {T M:List Root} {s:St} {x:X} (h:Cov T s x) {e:Eff} (he:∀ r ∈ e.kr,r ∈ T):Cov T (e.run s) x:=by
 cases x with
 | c d=>trivial
 | t n =>
  obtain ⟨h1,h2⟩:=h
  refine ⟨h1,fun v hv r hr=>?_⟩
  cases e with
  | kill q all =>
   simp only [Eff.run,St.kill,List.getElem?_map] at hv
   obtain ⟨u,hu,rfl⟩:=Option.map_eq_some_iff.1 hv
   rcases SV.kill_cases q all u with e|⟨e,_,_⟩
   ·rw [e] at hr;simp [SV.kr] at hr
   ·rw [e] at hr;exact h2 u hu r hr
  | killD q =>
   simp only [Eff.run,St.killD,List.getElem?_map] at hv
   obtain ⟨u,hu,rfl⟩:=Option.map_eq_some_iff.1 hv
   rcases SV.killD_or q u with e|e
   ·rw [e] at hr;simp [SV.kr] at hr
   ·rw [e] at hr;exact h2 u hu r hr
  | setS m w =>
   simp only [Eff.run,List.getElem?_set] at hv
   split at hv
   ·split at hv
    ·cases hv;exact he r hr
    ·cases hv
   ·exact h2 v hv r hr
  | setT q cs=>exact h2 v hv r hr
theorem Cov.runE {T M:List Root} {x:X}:∀ {es:List Eff} {s:St},Cov T s x->zgg T M es->Cov T (runE es s) x
 | [],_,h,_=>h
 | e::es,s,h,hw=>Cov.runE (es:=es) (h.run1 (M:=M) (hw e (List.mem_cons_self ..)).2) (fun f hf=>hw f (List.mem_cons_of_mem _ hf))
theorem SV.kr_refs {v:SV} {r:Root} (h:r ∈ v.kr):r ∈ v.refs:=by
 cases v <;> first|exact h|(simp [SV.kr] at h)
theorem zns {s:St} {x:X} {t T:List Root} (hx:s.tch x=some t) (ht:∀ r ∈ t,r ∈ T):Cov T s x:=by
 rcases zdq hx with ⟨d,rfl,rfl⟩|⟨n,v,rfl,hn,hd,hall,rfl⟩
 ·trivial
 ·refine ⟨ht _ (List.mem_cons_self ..),fun u hu r hr=>?_⟩
  rw [hn] at hu;cases hu
  exact ht _ (List.mem_cons_of_mem _ (SV.kr_refs hr))
section
variable {T M:List Root} {s:St}
theorem zqI {s':St} (h:zbY T s s') {x:X} (hx:Cov T s x):s.rd x=s'.rd x:=by
 cases x with
 | c d=>rfl
 | t n =>
  obtain ⟨h1,h2⟩:=hx
  have hn:s.sl[n]? = s'.sl[n]? := h.2.1 n h1
  simp only [St.rd,<- hn]
  cases hv:s.sl[n]? with
  | none=>rfl
  | some v =>
   cases v with
   | d y=>rfl
   | box cs=>rfl
   | bor p k=>exact zdC h (h2 _ hv _ (by simp [SV.kr])) k
   | ptr p =>
    obtain ⟨root,st,off⟩:=p
    cases root <;> cases st <;> simp only [h.1]
theorem zfk {d:Nat} {v:SV} (hd:Root.slot d ∈ M) (hv:∀ r ∈ v.kr,r ∈ T):LocF T M (fun s=>s.setD d v) s:=by
 intro s1 h
 simp only [St.setD] at h
 split at h
 ·rename_i o ho
  split at h
  ·cases h
  ·rename_i hin
   have hs':∀ s',zhJ M s s'->∃ o',s'.sl[d]? = some o'∧o'.isRoot=o.isRoot:=by
    intro s' hm
    have:=hm d hd
    rw [ho,Option.map_some] at this
    cases hq:s'.sl[d]? with
    | none=>rw [hq] at this;cases this
    | some o'=>rw [hq] at this;exact ⟨o',rfl,by simpa using this.symm⟩
   split at h
   ·rename_i hr
    cases h
    refine ⟨[.kill (.slot d) true,.setS d v],?_,rfl,fun s' ha hm=>?_⟩
    ·intro e he
     simp only [List.mem_cons,List.not_mem_nil,or_false] at he
     rcases he with rfl|rfl
     ·exact ⟨hd,fun r hr=>by cases hr⟩
     ·exact ⟨hd,hv⟩
    ·obtain ⟨o',h1,h2⟩:=hs' s' hm
     simp only [St.setD,h1,h2,hr,if_true,if_neg hin]
     rfl
   ·rename_i hr
    cases h
    refine ⟨[.setS d v],?_,rfl,fun s' ha hm=>?_⟩
    ·intro e he
     simp only [List.mem_cons,List.not_mem_nil,or_false] at he
     subst he
     exact ⟨hd,hv⟩
    ·obtain ⟨o',h1,h2⟩:=hs' s' hm
     simp only [St.setD,h1,h2,if_neg hr,if_neg hin]
     rfl
 ·cases h
theorem zqJ {p:Place} {news:List D} (hp:p.root ∈ T) (hTM:∀ r ∈ T,r ∈ M):∀ s1,s.wrP p news=some s1->∃ e:Eff,e.root ∈ M∧e.kr=[]∧s1=e.run s∧∀ s',zbY T s s'->s'.wrP p news=some (e.run s'):=by
 intro s1 h
 simp only [St.wrP] at h
 split at h
 ·rename_i cs hr
  split at h
  ·rename_i cs' hu
   have hag:∀ s',zbY T s s'->s'.root p.root=some cs:=fun s' ha=>by rw [<- ziF ha hp];exact hr
   obtain ⟨root,st,off⟩:=p
   cases root with
   | slot n =>
    simp only [St.setRoot] at h
    split at h
    ·rename_i c0 hn
     cases h
     refine ⟨.setS n (.box cs'),hTM _ hp,rfl,rfl,fun s' ha=>?_⟩
     have hn':s'.sl[n]? = some (.box c0):=by rw [<- ha.2.1 n hp];exact hn
     simp only [St.wrP,hag s' ha,hu,St.setRoot,hn']
     rfl
    ·rename_i y0 hn
     cases h
     refine ⟨.setS n (.d (cs'.headD .dead)),hTM _ hp,rfl,rfl,fun s' ha=>?_⟩
     have hn':s'.sl[n]? = some (.d y0):=by rw [<- ha.2.1 n hp];exact hn
     simp only [St.wrP,hag s' ha,hu,St.setRoot,hn']
     rfl
    ·cases h
   | sto n =>
    simp only [St.setRoot,Option.some.injEq] at h
    subst h
    refine ⟨.setT n cs',hTM _ hp,rfl,rfl,fun s' ha=>?_⟩
    simp only [St.wrP,hag s' ha,hu,St.setRoot]
    rfl
  ·cases h
 ·cases h
theorem zgw {x:X} (hx:Cov T s x) (hTM:∀ r ∈ T,r ∈ M):LocG T M (fun s=>s.take x) s:=by
 intro y s1 h
 cases x with
 | c d=>cases h;exact ⟨[],.nil _ _,rfl,fun s' _ _=>rfl⟩
 | t n =>
  obtain ⟨h1,h2⟩:=hx
  simp only [St.take] at h
  split at h
  ·rename_i z hn
   split at h
   ·rename_i hX
    cases h
    refine ⟨[.kill (.slot n) true,.setS n (.d .dead)],?_,rfl,fun s' ha hm=>?_⟩
    ·intro e he
     simp only [List.mem_cons,List.not_mem_nil,or_false] at he
     rcases he with rfl|rfl
     ·exact ⟨hTM _ h1,fun r hr=>by cases hr⟩
     ·exact ⟨hTM _ h1,fun r hr=>by cases hr⟩
    ·have hn':s'.sl[n]? = some (.d y):=by rw [<- ha.2.1 n h1];exact hn
     simp only [St.take,hn',hX,if_true]
     rfl
   ·rename_i hX
    cases h
    refine ⟨[],.nil _ _,rfl,fun s' ha hm=>?_⟩
    have hn':s'.sl[n]? = some (.d y):=by rw [<- ha.2.1 n h1];exact hn
    simp only [St.take,hn',if_neg hX]
    rfl
  ·rename_i p k hn
   have hp:p.root ∈ T:=h2 _ hn _ (by simp [SV.kr])
   split at h
   ·rename_i z hz
    split at h
    ·rename_i s2 hw
     cases h
     obtain ⟨e,e1,e2,e3,e4⟩:=zqJ hp hTM s2 hw
     refine ⟨[e,.kill p.root false],?_,by rw [e3];rfl,fun s' ha hm=>?_⟩
     ·intro f hf
      simp only [List.mem_cons,List.not_mem_nil,or_false] at hf
      rcases hf with rfl|rfl
      ·exact ⟨e1,fun r hr=>by rw [e2] at hr;cases hr⟩
      ·exact ⟨hTM _ hp,fun r hr=>by cases hr⟩
     ·have hn':s'.sl[n]? = some (.bor p k):=by rw [<- ha.2.1 n h1];exact hn
      have hz':s'.rdP p k=some y:=by rw [<- zdC ha hp];exact hz
      simp only [St.take,hn',hz',e4 s' ha]
      rfl
    ·cases h
   ·cases h
  ·rename_i r off hn
   split at h
   ·rename_i hlt
    cases h
    refine ⟨[],.nil _ _,rfl,fun s' ha hm=>?_⟩
    have hn':s'.sl[n]? = some (.ptr ⟨.sto r,[],off⟩):=by rw [<- ha.2.1 n h1];exact hn
    have hlt':r<s'.sto.length:=by rw [<- ha.1];exact hlt
    simp only [St.take,hn',hlt',if_true]
    rfl
   ·cases h
  ·cases h
theorem LocG.pure {β:Type} (y:β):LocG T M (fun s=>some (y,s)) s:=by
 intro z s1 h
 cases h
 exact ⟨[],.nil _ _,rfl,fun s' _ _=>rfl⟩
theorem zoA (hTM:∀ r ∈ T,r ∈ M):∀ {ps:List (Nat × Nat × X)} {z:List D} {s:St},(∀ p ∈ ps,Cov T s p.2.2)->LocG T M (fun s=>s.fill z ps) s
 | [],z,s,_=>LocG.pure z
 | (off,n,x)::ps,z,s,hc=>by
  have h1:LocG T M (fun s=>s.take x) s:=zgw (hc _ (List.mem_cons_self ..)) hTM
  have:(fun s:St=>s.fill z ((off,n,x)::ps))=fun s=>(s.take x).bind fun r=>((fun (v:D) (s':St)=>match v.cellsN n with
    | some cs=>match zdA z off cs with
     | some z'=>s'.fill z' ps
     | none=>none
    | none=>none) r.1 r.2):=by
   funext s
   simp only [St.fill]
   cases s.take x <;> rfl
  rw [this]
  refine LocG.bind (k:=fun (v:D) (s':St)=>match v.cellsN n with
    | some cs=>match zdA z off cs with
     | some z'=>s'.fill z' ps
     | none=>none
    | none=>none) h1 ?_
  intro v s1 es e0 hw e
  cases hv:v.cellsN n with
  | none=>intro y s2 h;simp only [hv] at h;cases h
  | some cs =>
   cases hz:zdA z off cs with
   | none=>intro y s2 h;simp only [hv,hz] at h;cases h
   | some z' =>
    simp only [hv,hz]
    refine zoA hTM ?_
    intro p hp
    rw [e]
    exact (hc p (List.mem_cons_of_mem _ hp)).runE hw
theorem zmy (hTM:∀ r ∈ T,r ∈ M) {sz:Nat}:∀ {ps:List (Nat × X)} {xs:List D} {s:St},(∀ p ∈ ps,Cov T s p.2)->LocG T M (fun s=>s.elems sz xs ps) s
 | [],z,s,_=>LocG.pure z
 | (i,x)::ps,xs,s,hc=>by
  have h1:LocG T M (fun s=>s.take x) s:=zgw (hc _ (List.mem_cons_self ..)) hTM
  have:(fun s:St=>s.elems sz xs ((i,x)::ps))=fun s=>(s.take x).bind fun r=>((fun (v:D) (s':St) =>
    if i<xs.length∧(v.cellsN sz).isSome=true∧v.hasRef=false then s'.elems sz (xs.set i v) ps else none) r.1 r.2):=by
   funext s
   simp only [St.elems]
   cases s.take x <;> rfl
  rw [this]
  refine LocG.bind (k:=fun (v:D) (s':St) =>
    if i<xs.length∧(v.cellsN sz).isSome=true∧v.hasRef=false then s'.elems sz (xs.set i v) ps else none) h1 ?_
  intro v s1 es e0 hw e
  by_cases hcond:i<xs.length∧(v.cellsN sz).isSome=true∧v.hasRef=false
  ·simp only [if_pos hcond]
   refine zmy hTM ?_
   intro p hp
   rw [e]
   exact (hc p (List.mem_cons_of_mem _ hp)).runE hw
  ·intro y s2 h
   simp only [if_neg hcond] at h
   cases h
theorem zul (hTM:∀ r ∈ T,r ∈ M) {sz:Nat} {y:X} (hc:Cov T s y):LocG T M (fun s=>s.news sz y) s:=by
 intro ys s1 h
 simp only [St.news] at h
 split at h
 ·rename_i o z zs hr
  split at h
  ·rename_i hz
   split at h
   ·rename_i hX
    split at h
    ·rename_i o' z' ys' s2 ht
     cases h
     obtain ⟨es,e1,e2,e3⟩:=zgw hc hTM _ _ ht
     refine ⟨es,e1,e2,fun s' ha hm=>?_⟩
     have hr':s'.rd y=some (.sl o z zs):=by rw [<- zqI ha hc];exact hr
     have h3:=e3 s' ha hm
     simp only at h3
     simp only [St.news,hr',if_pos hz,if_pos hX,h3]
    ·cases h
   ·rename_i hX
    cases h
    refine ⟨[],.nil _ _,rfl,fun s' ha hm=>?_⟩
    have hr':s'.rd y=some (.sl o z ys):=by rw [<- zqI ha hc];exact hr
    simp only [St.news,hr',if_pos hz,if_neg hX]
    rfl
  ·cases h
 ·rename_i b hr
  split at h
  ·rename_i hz
   cases h
   refine ⟨[],.nil _ _,rfl,fun s' ha hm=>?_⟩
   have hr':s'.rd y=some (.str b):=by rw [<- zqI ha hc];exact hr
   simp only [St.news,hr',if_pos hz]
   rfl
  ·cases h
 ·cases h
end
end Go.Vx
namespace Go.Vx
def vst (i:I) (s:St):Option St :=
 match vact i s with
 | some (.st s')=>some s'
 | _=>none
theorem zax {i:I} {s:St} {r:Option St} (h:vact i s=okS r):vst i s=r:=by
 unfold vst
 rw [h]
 cases r <;> rfl
section
variable {T M:List Root} {s:St}
theorem zoB {i:I} {d:Nat} (hd:Root.slot d ∈ M) (h:∀ s1,vst i s=some s1->∃ v,(∀ r ∈ v.kr,r ∈ T)∧∀ s',zbY T s s'->vst i s'=s'.setD d v):LocF T M (vst i) s:=by
 intro s1 h1
 obtain ⟨v,hv,hs⟩:=h s1 h1
 have h2:=hs s (zbY.refl T s)
 rw [h1] at h2
 obtain ⟨es,e1,e2,e3⟩:=zfk (T:=T) (M:=M) (s:=s) (v:=v) hd hv s1 h2.symm
 exact ⟨es,e1,e2,fun s' ha hm=>by rw [hs s' ha];exact e3 s' ha hm⟩
theorem zfz {x:X} {xs:List X} {t:List Root} (h:s.tchs (x::xs)=some t):∃ a b,s.tch x=some a∧s.tchs xs=some b∧t=a++b:=by
 simp only [St.tchs] at h
 split at h
 ·rename_i a b h1 h2
  cases h
  exact ⟨a,b,h1,h2,rfl⟩
 ·cases h
theorem zht:∀ {xs:List X} {t:List Root},s.tchs xs=some t->∀ x ∈ xs,∃ a,s.tch x=some a∧∀ r ∈ a,r ∈ t
 | [],t,h,x,hx=>by cases hx
 | y::ys,t,h,x,hx=>by
  obtain ⟨a,b,h1,h2,rfl⟩:=zfz h
  cases hx with
  | head=>exact ⟨a,h1,fun r hr=>mAL _ hr⟩
  | tail _ hx =>
   obtain ⟨c,h3,h4⟩:=zht h2 x hx
   exact ⟨c,h3,fun r hr=>mAR _ (h4 r hr)⟩
theorem zjX {s':St} (h:zbY T s s') {x:Option X} (hx:∀ y,x=some y->∃ a,s.tch y=some a∧∀ r ∈ a,r ∈ T) (n:Nat):s.bound x n=s'.bound x n:=by
 cases x with
 | none=>rfl
 | some y =>
  obtain ⟨a,h1,h2⟩:=hx y rfl
  simp only [St.bound,zbh h h1 h2]
theorem zhV {s':St} (h:zbY T s s') {x:X} {t:List Root} (hx:s.tch x=some t) (ht:∀ r ∈ t,r ∈ T) {lo hi:Option X} (h1:∀ y,lo=some y->∃ a,s.tch y=some a∧∀ r ∈ a,r ∈ T)
  (h2:∀ y,hi=some y->∃ a,s.tch y=some a∧∀ r ∈ a,r ∈ T) (sz:Nat) :
  s.slice sz x lo hi=s'.slice sz x lo hi∧s.sliceS x lo hi=s'.sliceS x lo hi∧∀ v,s.slice sz x lo hi=some v->∀ r ∈ v.kr,r ∈ T:=by
 have e1:=fun n=>zjX h h1 n
 have e2:=fun n=>zjX h h2 n
 have e3:=zbh h hx ht
 refine ⟨?_,?_,?_⟩
 ·unfold St.slice
  rw [<- e3]
  simp only [<- e1,<- e2]
  rcases zdq hx with ⟨d,rfl,rfl⟩|⟨n,v,rfl,hn,hd,hall,rfl⟩
  ·rfl
  ·have hn':s'.sl[n]? = some v:=by rw [<- h.2.1 n (ht _ (List.mem_cons_self ..))];exact hn
   simp only [hn,hn']
 ·unfold St.sliceS
  rw [<- e3]
  simp only [<- e1,<- e2]
 ·intro v hv r hr
  unfold St.slice at hv
  split at hv
  ·split at hv
   ·split at hv
    ·cases hv;simp [SV.kr] at hr
    ·cases hv
   ·split at hv
    ·split at hv
     ·split at hv
      ·split at hv
       ·cases hv;simp [SV.kr] at hr
       ·split at hv
        ·rename_i n
         rcases zdq hx with ⟨d,e,_⟩|⟨n',v',e,hn,hd,hall,rfl⟩
         ·cases e
         ·cases e
          split at hv
          ·cases hv
           simp only [SV.kr,List.mem_singleton] at hr
           rw [hr];exact ht _ (List.mem_cons_self ..)
          ·rename_i p hp
           cases hv
           rw [hn] at hp;cases hp
           simp only [SV.kr,List.mem_singleton] at hr
           rw [hr];exact ht _ (by simp [SV.refs])
          ·cases hv
        ·cases hv
      ·cases hv
     ·cases hv
    ·cases hv
   ·cases hv
  ·cases hv
theorem kr_d (x:D):∀ r ∈ (SV.d x).kr,r ∈ T:=fun r hr=>by cases hr
theorem zkP {s':St} (h:zbY T s s'):∀ {cs:List X},(∀ x ∈ cs,∃ a,s.tch x=some a∧∀ r ∈ a,r ∈ T)->s.caps cs=s'.caps cs
 | [],_=>rfl
 | x::r,hc=>by
  obtain ⟨a,h1,h2⟩:=hc x (List.mem_cons_self ..)
  simp only [St.caps,<- zbh h h1 h2,zkP h (cs:=r) (fun y hy=>hc y (List.mem_cons_of_mem _ hy))]
theorem zoC {i:I} {s1:St} (h:vst i s=some s1):vact i s=some (.st s1):=by
 unfold vst at h
 split at h
 ·cases h;assumption
 ·cases h
theorem zqK {i:I} {d:Nat} {xs:List X} (hxs:i.xs=some xs) (hd:i.dst=some d) (hdM:Root.slot d ∈ M) {t:List Root} (ht:s.tchs xs=some t) (htT:∀ r ∈ t,r ∈ T) (htk:s.takesI i=false) (hcall:∀ a b c,i ≠ .call a b c) :
  LocF T M (vst i) s:=by
 have hc:∀ x ∈ xs,∃ a,s.tch x=some a∧∀ r ∈ a,r ∈ T:=fun x hx=>by
  obtain ⟨a,h1,h2⟩:=zht ht x hx
  exact ⟨a,h1,fun r hr=>htT r (h2 r hr)⟩
 refine zoB hdM fun s1 h0=>?_
 have hv:=zoC h0
 cases i with
 | mv d' x =>
  cases hxs;cases hd
  obtain ⟨a,h1,h2⟩:=hc x (List.mem_cons_self ..)
  have htup:s.tupAt x=none:=by simpa [St.takesI] using htk
  simp only [vact,htup] at hv
  obtain ⟨v,h3,h4⟩:=zaB (zac hv)
  refine ⟨v,(zel (zbY.refl T s) h1 h2).2 v h3,fun s' ha=>?_⟩
  have e1:s'.tupAt x=none:=by rw [<- (zdD ha h1 h2).1];exact htup
  have e2:s'.sv x=some v:=by rw [<- (zel ha h1 h2).1];exact h3
  exact zax (by simp [vact,e1,e2])
 | nc d' x =>
  cases hxs;cases hd
  obtain ⟨a,h1,h2⟩:=hc x (List.mem_cons_self ..)
  simp only [vact] at hv
  split at hv
  ·rename_i p hp
   split at hv
   ·rename_i hz
    have hk:=(zel (zbY.refl T s) h1 h2).2 _ hp
    refine ⟨.ptr p,hk,fun s' ha=>?_⟩
    have e2:s'.sv x=some (.ptr p):=by rw [<- (zel ha h1 h2).1];exact hp
    have e3:(s'.rdP p .one).isSome=true:=by rw [<- zdC ha (hk _ (by simp [SV.kr]))];exact hz
    exact zax (by simp [vact,e2,e3])
   ·cases hv
  ·rename_i r o hp
   refine ⟨.d (.ref r o),kr_d _,fun s' ha=>zax ?_⟩
   have e2:s'.sv x=some (.d (.ref r o)):=by rw [<- (zel ha h1 h2).1];exact hp
   simp only [vact,e2]
  ·rename_i cs o hp
   refine ⟨.d (.pim cs o),kr_d _,fun s' ha=>zax ?_⟩
   have e2:s'.sv x=some (.d (.pim cs o)):=by rw [<- (zel ha h1 h2).1];exact hp
   simp only [vact,e2]
  ·rename_i f cs hp
   refine ⟨.d (.fn f cs),kr_d _,fun s' ha=>zax ?_⟩
   have e2:s'.sv x=some (.d (.fn f cs)):=by rw [<- (zel ha h1 h2).1];exact hp
   simp only [vact,e2]
  ·cases hv
 | pick d' c x y =>
  cases hxs;cases hd
  obtain ⟨a1,h1,h2⟩:=hc c (by simp)
  obtain ⟨a2,h3,h4⟩:=hc x (by simp)
  obtain ⟨a3,h5,h6⟩:=hc y (by simp)
  simp only [vact] at hv
  split at hv
  ·rename_i b hb
   cases b with
   | true =>
    simp only [if_true] at hv
    obtain ⟨v,h7,h8⟩:=zaB (zac hv)
    refine ⟨v,(zel (zbY.refl T s) h3 h4).2 v h7,fun s' ha=>zax ?_⟩
    have e1:=(zbh ha h1 h2).symm.trans hb
    have e2:s'.sv x=some v:=by rw [<- (zel ha h3 h4).1];exact h7
    simp [vact,e1,e2]
   | false =>
    simp only [Bool.false_eq_true,if_false] at hv
    obtain ⟨v,h7,h8⟩:=zaB (zac hv)
    refine ⟨v,(zel (zbY.refl T s) h5 h6).2 v h7,fun s' ha=>zax ?_⟩
    have e1:=(zbh ha h1 h2).symm.trans hb
    have e2:s'.sv y=some v:=by rw [<- (zel ha h5 h6).1];exact h7
    simp [vact,e1,e2]
  ·cases hv
 | alloc d' z =>
  cases hxs;cases hd
  exact ⟨.box z,fun r hr=>(by cases hr),fun s' ha=>zax rfl⟩
 | ld d' k x =>
  cases hxs;cases hd
  obtain ⟨a,h1,h2⟩:=hc x (List.mem_cons_self ..)
  simp only [vact] at hv
  split at hv
  ·rename_i p hp
   obtain ⟨z,h3,h4⟩:=zaB (zac hv)
   have hpT:=(zaU (zbY.refl T s) h1 h2).2.2 p hp
   split at h4
   ·rename_i hX
    refine ⟨.bor p k,fun r hr=>(by simp only [SV.kr,List.mem_singleton] at hr;rw [hr];exact hpT),fun s' ha=>zax ?_⟩
    have e1:s'.place x=some p:=by rw [<- (zaU ha h1 h2).1];exact hp
    have e2:s'.rdP p k=some z:=by rw [<- zdC ha hpT];exact h3
    simp [vact,e1,e2,hX]
   ·rename_i hX
    refine ⟨.d z,kr_d _,fun s' ha=>zax ?_⟩
    have e1:s'.place x=some p:=by rw [<- (zaU ha h1 h2).1];exact hp
    have e2:s'.rdP p k=some z:=by rw [<- zdC ha hpT];exact h3
    simp [vact,e1,e2,hX]
  ·rename_i hp
   split at hv
   ·rename_i cs off hi
    obtain ⟨z,h3,h4⟩:=zaB (zac hv)
    refine ⟨.d z,kr_d _,fun s' ha=>zax ?_⟩
    have e1:s'.place x=none:=by rw [<- (zaU ha h1 h2).1];exact hp
    have e2:s'.imm x=some (cs,off):=by rw [<- (zaU ha h1 h2).2.1];exact hi
    simp [vact,e1,e2,h3]
   ·cases hv
 | fad d' off wd x =>
  cases hxs;cases hd
  obtain ⟨a,h1,h2⟩:=hc x (List.mem_cons_self ..)
  simp only [vact] at hv
  split at hv
  ·rename_i p hp
   have hpT:=(zaU (zbY.refl T s) h1 h2).2.2 p hp
   split at hv
   ·rename_i hz
    refine ⟨.ptr ⟨p.root,p.steps,p.off + off⟩,?_,fun s' ha=>zax ?_⟩
    ·intro r hr;simp only [SV.kr,List.mem_singleton] at hr;rw [hr];exact hpT
    ·have e1:s'.place x=some p:=by rw [<- (zaU ha h1 h2).1];exact hp
     have e2:(s'.rdP p .one).isSome=true:=by rw [<- zdC ha hpT];exact hz
     simp [vact,e1,e2]
   ·cases hv
  ·rename_i hp
   split at hv
   ·rename_i cs o hi
    refine ⟨.d (pimN cs (o + off) wd),kr_d _,fun s' ha=>zax ?_⟩
    ·have e1:s'.place x=none:=by rw [<- (zaU ha h1 h2).1];exact hp
     have e2:s'.imm x=some (cs,o):=by rw [<- (zaU ha h1 h2).2.1];exact hi
     simp [vact,e1,e2]
   ·cases hv
 | fld d' k off x =>
  cases hxs;cases hd
  obtain ⟨a,h1,h2⟩:=hc x (List.mem_cons_self ..)
  simp only [vact] at hv
  split at hv
  ·rename_i cs hb
   obtain ⟨z,h3,h4⟩:=zaB (zac hv)
   split at h4
   ·cases h4
   ·rename_i hX
    refine ⟨.d z,kr_d _,fun s' ha=>zax ?_⟩
    have e1:=(zbh ha h1 h2).symm.trans hb
    simp [vact,e1,h3,hX]
  ·cases hv
 | iad d' sz x y =>
  cases hxs;cases hd
  obtain ⟨a1,h1,h2⟩:=hc x (by simp)
  obtain ⟨a2,h3,h4⟩:=hc y (by simp)
  obtain ⟨n,h5,h6⟩:=zaB (zac hv)
  obtain ⟨v,h7,h8⟩:=zaB h6
  refine ⟨v,(zjf (zbY.refl T s) h1 h2 sz n).2 v h7,fun s' ha=>zax ?_⟩
  have e1:s'.num y=some n:=by rw [<- zgh ha h3 h4];exact h5
  have e2:s'.elemAt sz x n=some v:=by rw [<- (zjf ha h1 h2 sz n).1];exact h7
  simp [vact,e1,e2]
 | iar d' len sz x y =>
  cases hxs;cases hd
  obtain ⟨a1,h1,h2⟩:=hc x (by simp)
  obtain ⟨a2,h3,h4⟩:=hc y (by simp)
  simp only [vact] at hv
  split at hv
  ·rename_i n hn
   split at hv
   ·rename_i hlt
    split at hv
    ·rename_i p hp
     have hpT:=(zaU (zbY.refl T s) h1 h2).2.2 p hp
     split at hv
     ·rename_i hz
      refine ⟨.ptr ⟨p.root,p.steps,p.off + n * sz⟩,?_,fun s' ha=>zax ?_⟩
      ·intro r hr;simp only [SV.kr,List.mem_singleton] at hr;rw [hr];exact hpT
      ·have e0:s'.num y=some n:=by rw [<- zgh ha h3 h4];exact hn
       have e1:s'.place x=some p:=by rw [<- (zaU ha h1 h2).1];exact hp
       have e2:(s'.rdP p .one).isSome=true:=by rw [<- zdC ha hpT];exact hz
       simp [vact,e0,hlt,e1,e2]
     ·cases hv
    ·rename_i hp
     split at hv
     ·rename_i cs o hi
      refine ⟨.d (.pim cs (o + n * sz)),kr_d _,fun s' ha=>zax ?_⟩
      have e0:s'.num y=some n:=by rw [<- zgh ha h3 h4];exact hn
      have e1:s'.place x=none:=by rw [<- (zaU ha h1 h2).1];exact hp
      have e2:s'.imm x=some (cs,o):=by rw [<- (zaU ha h1 h2).2.1];exact hi
      simp [vact,e0,hlt,e1,e2]
     ·cases hv
   ·cases hv
  ·cases hv
 | ixs d' x y =>
  cases hxs;cases hd
  obtain ⟨a1,h1,h2⟩:=hc x (by simp)
  obtain ⟨a2,h3,h4⟩:=hc y (by simp)
  simp only [vact] at hv
  split at hv
  ·rename_i b hb
   obtain ⟨n,h5,h6⟩:=zaB (zac hv)
   obtain ⟨c,h7,h8⟩:=zaB h6
   refine ⟨.d (zhE c),kr_d _,fun s' ha=>zax ?_⟩
   have e1:=(zbh ha h1 h2).symm.trans hb
   have e2:s'.num y=some n:=by rw [<- zgh ha h3 h4];exact h5
   simp only [vact,e1,e2,Option.bind_some,h7]
  ·cases hv
 | bin d' op x y =>
  cases hxs;cases hd
  obtain ⟨a1,h1,h2⟩:=hc x (by simp)
  obtain ⟨a2,h3,h4⟩:=hc y (by simp)
  obtain ⟨z1,h5,h6⟩:=zaB (zac hv)
  obtain ⟨z2,h7,h8⟩:=zaB h6
  obtain ⟨r,h9,h10⟩:=zaB h8
  refine ⟨.d r,kr_d _,fun s' ha=>zax ?_⟩
  have e1:=(zbh ha h1 h2).symm.trans h5
  have e2:=(zbh ha h3 h4).symm.trans h7
  simp [vact,e1,e2,h9]
 | eqb d' neg x y =>
  cases hxs;cases hd
  obtain ⟨a1,h1,h2⟩:=hc x (by simp)
  obtain ⟨a2,h3,h4⟩:=hc y (by simp)
  simp only [vact] at hv
  split at hv
  ·rename_i p q h5 h6
   refine ⟨.d (.bool (if neg=true then !(p == q) else p == q)),kr_d _,fun s' ha=>zax ?_⟩
   ·have e1:=(zbh ha h1 h2).symm.trans h5
    have e2:=(zbh ha h3 h4).symm.trans h6
    simp only [vact,e1,e2]
  ·cases hv
 | eqa d' neg ks x y =>
  cases hxs;cases hd
  obtain ⟨a1,h1,h2⟩:=hc x (by simp)
  obtain ⟨a2,h3,h4⟩:=hc y (by simp)
  simp only [vact] at hv
  split at hv
  ·rename_i p q h5 h6
   obtain ⟨r,h7,h8⟩:=zaB (zac hv)
   refine ⟨.d (.bool (if neg=true then !r else r)),kr_d _,fun s' ha=>zax ?_⟩
   ·have e1:=(zbh ha h1 h2).symm.trans h5
    have e2:=(zbh ha h3 h4).symm.trans h6
    simp only [vact,e1,e2,h7,Option.bind_some]
  ·cases hv
 | un d' op x =>
  cases hxs;cases hd
  obtain ⟨a1,h1,h2⟩:=hc x (by simp)
  obtain ⟨z1,h5,h6⟩:=zaB (zac hv)
  obtain ⟨r,h9,h10⟩:=zaB h6
  refine ⟨.d r,kr_d _,fun s' ha=>zax ?_⟩
  have e1:=(zbh ha h1 h2).symm.trans h5
  simp [vact,e1,h9]
 | conv d' c x =>
  cases hxs;cases hd
  obtain ⟨a1,h1,h2⟩:=hc x (by simp)
  obtain ⟨z1,h5,h6⟩:=zaB (zac hv)
  obtain ⟨r,h9,h10⟩:=zaB h6
  refine ⟨.d r,kr_d _,fun s' ha=>zax ?_⟩
  have e1:=(zbh ha h1 h2).symm.trans h5
  simp [vact,e1,h9]
 | slc d' sz x lo hi =>
  cases hxs;cases hd
  obtain ⟨a1,h1,h2⟩:=hc x (by simp)
  have hlo:∀ y,lo=some y->∃ a,s.tch y=some a∧∀ r ∈ a,r ∈ T:=fun y e=>hc y (by simp [e,optX])
  have hhi:∀ y,hi=some y->∃ a,s.tch y=some a∧∀ r ∈ a,r ∈ T:=fun y e=>hc y (by simp [e,optX])
  obtain ⟨v,h5,h6⟩:=zaB (zac hv)
  refine ⟨v,(zhV (zbY.refl T s) h1 h2 hlo hhi sz).2.2 v h5,fun s' ha=>zax ?_⟩
  have e1:=(zhV ha h1 h2 hlo hhi sz).1.symm.trans h5
  simp [vact,e1]
 | sls d' x lo hi =>
  cases hxs;cases hd
  obtain ⟨a1,h1,h2⟩:=hc x (by simp)
  have hlo:∀ y,lo=some y->∃ a,s.tch y=some a∧∀ r ∈ a,r ∈ T:=fun y e=>hc y (by simp [e,optX])
  have hhi:∀ y,hi=some y->∃ a,s.tch y=some a∧∀ r ∈ a,r ∈ T:=fun y e=>hc y (by simp [e,optX])
  obtain ⟨v,h5,h6⟩:=zaB (zac hv)
  refine ⟨.d v,kr_d _,fun s' ha=>zax ?_⟩
  have e1:=(zhV ha h1 h2 hlo hhi 0).2.1.symm.trans h5
  simp [vact,e1]
 | mks d' sz z x y =>
  cases hxs;cases hd
  obtain ⟨a1,h1,h2⟩:=hc x (by simp)
  obtain ⟨a2,h3,h4⟩:=hc y (by simp)
  obtain ⟨n,h5,h6⟩:=zaB (zac hv)
  obtain ⟨m,h7,h8⟩:=zaB h6
  split at h8
  ·rename_i hcond
   refine ⟨.d (.sl true sz (zda z n)),kr_d _,fun s' ha=>zax ?_⟩
   have e1:s'.num x=some n:=by rw [<- zgh ha h1 h2];exact h5
   have e2:s'.num y=some m:=by rw [<- zgh ha h3 h4];exact h7
   simp only [vact,e1,e2,Option.bind_some,if_pos hcond]
  ·cases h8
 | ext d' x k =>
  cases hxs;cases hd
  obtain ⟨a1,h1,h2⟩:=hc x (by simp)
  simp only [vact] at hv
  split at hv
  ·rename_i n ps htup
   obtain ⟨p,h3,h4⟩:=zaB (zac hv)
   have hX:p.hasX=false:=by simpa [St.takesI,htup,h3] using htk
   refine ⟨.d p,kr_d _,fun s' ha=>zax ?_⟩
   have e1:s'.tupAt x=some (n,ps):=by rw [<- (zdD ha h1 h2).1];exact htup
   simp [vact,e1,h3,hX]
  ·cases hv
 | len d' x =>
  cases hxs;cases hd
  obtain ⟨a1,h1,h2⟩:=hc x (by simp)
  simp only [vact] at hv
  split at hv
  ·rename_i o z xs' h5
   refine ⟨.d (.int .i64 xs'.length),kr_d _,fun s' ha=>zax ?_⟩
   have e1:(s'.rd x).map D.asl=some (.sl o z xs'):=by rw [<- zbh ha h1 h2];exact h5
   simp only [vact,e1]
  ·rename_i n h5
   refine ⟨.d (.int .i64 n),kr_d _,fun s' ha=>zax ?_⟩
   have e1:(s'.rd x).map D.asl=some (.gho n):=by rw [<- zbh ha h1 h2];exact h5
   simp only [vact,e1]
  ·cases hv
 | isn d' neg x =>
  cases hxs;cases hd
  obtain ⟨a1,h1,h2⟩:=hc x (by simp)
  simp only [vact] at hv
  split at hv
  ·rename_i o z h5
   refine ⟨.d .anyb,kr_d _,fun s' ha=>zax ?_⟩
   have e1:=(zbh ha h1 h2).symm.trans h5
   simp only [vact,e1]
  ·rename_i o z u us h5
   refine ⟨.d (.bool neg),kr_d _,fun s' ha=>zax ?_⟩
   have e1:=(zbh ha h1 h2).symm.trans h5
   simp only [vact,e1]
  ·cases hv
 | les d' x =>
  cases hxs;cases hd
  obtain ⟨a1,h1,h2⟩:=hc x (by simp)
  simp only [vact] at hv
  split at hv
  ·rename_i b h5
   refine ⟨.d (.int .i64 b.size),kr_d _,fun s' ha=>zax ?_⟩
   have e1:=(zbh ha h1 h2).symm.trans h5
   simp only [vact,e1]
  ·cases hv
 | asg d' x=>simp [St.takesI] at htk
 | box d' n x=>simp [St.takesI] at htk
 | build d' z ps=>simp [St.takesI] at htk
 | bsl d' sz z len ps=>simp [St.takesI] at htk
 | app d' sz x y=>simp [St.takesI] at htk
 | cap d' x=>cases hxs
 | apn d' sz z x n=>cases hxs
 | call d' f as=>exact absurd rfl (hcall _ _ _)
 | st n a x=>cases hxs
 | cag d' f as=>cases hxs
 | cal d' g as=>cases hxs
 | mkf d' f cs=>cases hxs
 | mkz d' f cs=>cases hxs
 | mkb d' f cs =>
  cases hxs;cases hd
  simp only [vact] at hv
  obtain ⟨r,h3,h4⟩:=zaB (zac hv)
  refine ⟨.d (.bf f r),kr_d _,fun s' ha=>zax ?_⟩
  have e1:s'.caps xs=some r:=by rw [<- zkP ha hc];exact h3
  simp [vact,e1]
 | gd g w j=>cases hxs
 | no=>cases hxs
end
end Go.Vx
namespace Go.Vx
section
variable {T M:List Root} {s:St}
theorem zqL {n:Nat} {x:D} (hn:Root.slot n ∈ M):∃ es,zgg T M es∧s.reg n x=runE es s∧∀ s',s'.reg n x=runE es s':=by
 refine ⟨[.kill (.slot n) true,.setS n (.d x)],?_,rfl,fun s'=>rfl⟩
 intro e he
 simp only [List.mem_cons,List.not_mem_nil,or_false] at he
 rcases he with rfl|rfl
 ·exact ⟨hn,fun r hr=>by cases hr⟩
 ·exact ⟨hn,fun r hr=>by cases hr⟩
theorem zjC {β:Type}:LocF T M (fun _=>none) s:=fun s1 h=>by cases h
theorem zqM {i:I} {d:Nat} {xs:List X} (hxs:i.xs=some xs) (hd:i.dst=some d) (hdM:Root.slot d ∈ M) {t:List Root} (ht:s.tchs xs=some t) (htT:∀ r ∈ t,r ∈ T) (hTM:∀ r ∈ T,r ∈ M) (htk:s.takesI i=true) :
  LocF T M (vst i) s:=by
 have hcv:∀ x ∈ xs,Cov T s x:=fun x hx=>by
  obtain ⟨a,h1,h2⟩:=zht ht x hx
  exact zns h1 (fun r hr=>htT r (h2 r hr))
 have hc:∀ x ∈ xs,∃ a,s.tch x=some a∧∀ r ∈ a,r ∈ T:=fun x hx=>by
  obtain ⟨a,h1,h2⟩:=zht ht x hx
  exact ⟨a,h1,fun r hr=>htT r (h2 r hr)⟩
 cases i with
 | asg d' x =>
  cases hxs;cases hd
  obtain ⟨a,h1,h2⟩:=hc x (List.mem_cons_self ..)
  have htup:=zdD (zbY.refl T s) h1 h2
  cases hp:s.isPtr x with
  | some v =>
   refine zoB hdM fun s1 h0=>⟨v,htup.2.2.2 v hp,fun s' ha=>zax ?_⟩
   have e1:s'.isPtr x=some v:=by rw [<- (zdD ha h1 h2).2.1];exact hp
   simp only [vact,e1]
  | none =>
   intro s1 h0
   have e0:vst (.asg d x) s=(s.take x).bind fun r=>r.2.setD d (.d r.1):=zax (by simp only [vact,hp])
   rw [e0] at h0
   obtain ⟨es,g1,g2,g3⟩:=LocF.bind (k:=fun v s'=>s'.setD d (.d v)) (zgw (hcv x (List.mem_cons_self ..)) hTM) (fun v s1 es _ _ _=>zfk hdM (kr_d v)) s1 h0
   refine ⟨es,g1,g2,fun s' ha hm=>?_⟩
   have e1:s'.isPtr x=none:=by rw [<- (zdD ha h1 h2).2.1];exact hp
   have e2:vst (.asg d x) s'=(s'.take x).bind fun r=>r.2.setD d (.d r.1):=zax (by simp only [vact,e1])
   rw [e2]
   exact g3 s' ha hm
 | box d' n x =>
  cases hxs;cases hd
  have e:vst (.box d n x)=fun s=>(s.take x).bind fun r=>((fun (v:D) (s':St)=>(v.cellsN n).bind fun cs=>s'.setD d (.box cs)) r.1 r.2):=funext fun s=>zax rfl
  rw [e]
  refine LocF.bind (k:=fun (v:D) (s':St)=>(v.cellsN n).bind fun cs=>s'.setD d (.box cs)) (zgw (hcv x (List.mem_cons_self ..)) hTM) ?_
  intro v s1 es _ _ _
  cases hv:v.cellsN n with
  | none=>simp only [hv,Option.bind_none];exact zjC (β:=Nat)
  | some cs=>simp only [hv,Option.bind_some];exact zfk hdM (fun r hr=>by cases hr)
 | build d' z ps =>
  cases hxs;cases hd
  have e:vst (.build d z ps)=fun s=>(s.fill z ps).bind fun r=>((fun (v:List D) (s':St)=>s'.setD d (.d (.agg v))) r.1 r.2):=funext fun s=>zax rfl
  rw [e]
  refine LocF.bind (k:=fun (v:List D) (s':St)=>s'.setD d (.d (.agg v))) (zoA hTM ?_) (fun v s1 es _ _ _=>zfk hdM (kr_d _))
  intro p hp
  exact hcv _ (List.mem_map.2 ⟨p,hp,rfl⟩)
 | bsl d' sz z len ps =>
  cases hxs;cases hd
  have e:vst (.bsl d sz z len ps)=fun s=>(s.elems sz (zda z len) ps).bind fun r=>((fun (v:List D) (s':St)=>s'.setD d (.d (.sl true sz v))) r.1 r.2):=funext fun s=>zax rfl
  rw [e]
  refine LocF.bind (k:=fun (v:List D) (s':St)=>s'.setD d (.d (.sl true sz v))) (zmy hTM ?_) (fun v s1 es _ _ _=>zfk hdM (kr_d _))
  intro p hp
  exact hcv _ (List.mem_map.2 ⟨p,hp,rfl⟩)
 | app d' sz x y =>
  cases hxs;cases hd
  have e:vst (.app d sz x y)=fun s=>(s.take x).bind fun r=>((fun (v:D) (s':St)=>match v.asl with
   | .sl o z xs =>
    if o=true∧z=sz then
     (s'.news sz y).bind fun w=>if xs.length + w.1.length<=most then w.2.setD d (.d (.sl true sz (xs++w.1))) else none
    else none
   | _=>none) r.1 r.2):=funext fun s=>zax rfl
  rw [e]
  refine LocF.bind (k:=fun (v:D) (s':St)=>match v.asl with
   | .sl o z xs =>
    if o=true∧z=sz then
     (s'.news sz y).bind fun w=>if xs.length + w.1.length<=most then w.2.setD d (.d (.sl true sz (xs++w.1))) else none
    else none
   | _=>none) (zgw (hcv x (List.mem_cons_self ..)) hTM) ?_
  intro v s1 es _ hw e1
  have hy:Cov T s1 y:=by rw [e1];exact (hcv y (by simp)).runE hw
  change LocF _ _ (fun s':St=>match v.asl with
   | .sl o z xs =>
    if o=true∧z=sz then
     (s'.news sz y).bind fun w=>if xs.length + w.1.length<=most then w.2.setD d (.d (.sl true sz (xs++w.1))) else none
    else none
   | _=>none) s1
  generalize v.asl=v
  cases v with
  | sl o z xs =>
   simp only
   by_cases hcond:o=true∧z=sz
   ·simp only [if_pos hcond]
    refine LocF.bind (k:=fun (w:List D) (s':St)=>if xs.length + w.length<=most then s'.setD d (.d (.sl true sz (xs++w))) else none) (zul hTM hy) ?_
    intro w s2 es2 _ _ _
    by_cases hm:xs.length + w.length<=most
    ·simp only [if_pos hm];exact zfk hdM (kr_d _)
    ·simp only [if_neg hm];exact zjC (β:=Nat)
   ·simp only [if_neg hcond];exact zjC (β:=Nat)
  | _=>exact zjC (β:=Nat)
 | mv d' x =>
  cases hxs;cases hd
  obtain ⟨a,h1,h2⟩:=hc x (List.mem_cons_self ..)
  have htup:=zdD (zbY.refl T s) h1 h2
  cases hp:s.tupAt x with
  | none=>simp [St.takesI,hp] at htk
  | some q =>
   obtain ⟨n,ps⟩:=q
   have hn:=hTM _ (h2 _ (htup.2.2.1 n ps hp))
   intro s1 h0
   have e0:∀ s',s'.tupAt x=some (n,ps)->vst (.mv d x) s'=(s'.reg n .dead).setD d (.d (.tup ps)):=fun s' e=>zax (by simp only [vact,e])
   rw [e0 s hp] at h0
   obtain ⟨es,g1,g2,g3⟩:=zqL (T:=T) (s:=s) (x:=.dead) hn
   obtain ⟨fs,k1,k2,k3⟩:=zfk (T:=T) (s:=s.reg n .dead) (v:=.d (.tup ps)) hdM (kr_d _) s1 h0
   refine ⟨es++fs,g1.append k1,by rw [zbG,<- g2];exact k2,fun s' ha hm=>?_⟩
   have e1:s'.tupAt x=some (n,ps):=by rw [<- (zdD ha h1 h2).1];exact hp
   rw [e0 s' e1,zbG,g3 s']
   exact k3 (runE es s') (by rw [g2];exact ha.runE) (by rw [g2];exact hm.runE)
 | ext d' x i =>
  cases hxs;cases hd
  obtain ⟨a,h1,h2⟩:=hc x (List.mem_cons_self ..)
  have htup:=zdD (zbY.refl T s) h1 h2
  intro s1 h0
  have hv:=zoC h0
  simp only [vact] at hv
  split at hv
  ·rename_i n ps hp
   obtain ⟨p,h3,h4⟩:=zaB (zac hv)
   have hX:p.hasX=true:=by simpa [St.takesI,hp,h3] using htk
   have hn:=hTM _ (h2 _ (htup.2.2.1 n ps hp))
   have e0:∀ s',s'.tupAt x=some (n,ps)->vst (.ext d x i) s'=(s'.reg n (.tup (ps.set i .dead))).setD d (.d p):=fun s' e=>zax (by simp [vact,e,h3,hX])
   rw [e0 s hp] at h0
   obtain ⟨es,g1,g2,g3⟩:=zqL (T:=T) (s:=s) (x:=.tup (ps.set i .dead)) hn
   obtain ⟨fs,k1,k2,k3⟩:=zfk (T:=T) (s:=s.reg n (.tup (ps.set i .dead))) (v:=.d p) hdM (kr_d _) s1 h0
   refine ⟨es++fs,g1.append k1,by rw [zbG,<- g2];exact k2,fun s' ha hm=>?_⟩
   have e1:s'.tupAt x=some (n,ps):=by rw [<- (zdD ha h1 h2).1];exact hp
   rw [e0 s' e1,zbG,g3 s']
   exact k3 (runE es s') (by rw [g2];exact ha.runE) (by rw [g2];exact hm.runE)
  ·cases hv
 | _=>simp [St.takesI] at htk
end
end Go.Vx
namespace Go.Vx
section
variable {T M:List Root} {s s':St}
theorem zjY {f:St->Option St} {d:Nat} (hd:Root.slot d ∈ M) (h:∀ s1,f s=some s1->∃ v,(∀ r ∈ v.kr,r ∈ T)∧∀ s',zbY T s s'->f s'=s'.setD d v):LocF T M f s:=by
 intro s1 h1
 obtain ⟨v,hv,hs⟩:=h s1 h1
 have h2:=hs s (zbY.refl T s)
 rw [h1] at h2
 obtain ⟨es,e1,e2,e3⟩:=zfk (T:=T) (M:=M) (s:=s) (v:=v) hd hv s1 h2.symm
 exact ⟨es,e1,e2,fun s' ha hm=>by rw [hs s' ha];exact e3 s' ha hm⟩
theorem zgi (h:zbY T s s'):∀ {xs:List X} {t:List Root},s.tchs xs=some t->(∀ r ∈ t,r ∈ T)->s'.tchs xs=some t
 | [],t,hx,_=>hx
 | x::xs,t,hx,ht=>by
  obtain ⟨a,b,h1,h2,rfl⟩:=zfz hx
  simp only [St.tchs,zqH h h1 (fun r hr=>ht r (mAL _ hr)),zgi h h2 (fun r hr=>ht r (mAR _ hr))]
theorem zmz (h:zbY T s s') {i:I} {xs:List X} (hxs:i.xs=some xs) {t:List Root} (ht:s.tchs xs=some t) (htT:∀ r ∈ t,r ∈ T):s.takesI i=s'.takesI i:=by
 have hc:∀ x ∈ xs,s.tupAt x=s'.tupAt x:=fun x hx=>by
  obtain ⟨a,h1,h2⟩:=zht ht x hx
  exact (zdD h h1 (fun r hr=>htT r (h2 r hr))).1
 cases i with
 | mv d x=>cases hxs;simp only [St.takesI,hc x (List.mem_cons_self ..)]
 | ext d x k=>cases hxs;simp only [St.takesI,hc x (List.mem_cons_self ..)]
 | _=>rfl
theorem zqN {hh:H} {i:I} {xs:List X} (hxs:i.xs=some xs) (hcall:∀ a b c,i ≠ .call a b c) (s:St):zbg hh i s=vst i s:=by
 unfold zbg vst
 cases hv:vact i s with
 | none=>rfl
 | some q =>
  cases q with
  | st s1=>rfl
  | rq q =>
   exfalso
   rcases zvd hv with ⟨g0,d,f,as,rfl⟩|⟨d,g,as,rfl⟩|⟨g,b,j,rfl⟩
   ·cases g0
    ·exact hcall _ _ _ rfl
    ·cases hxs
   ·cases hxs
   ·cases hxs
theorem zjZ:∀ {as:List (Vx.M × X)} {s:St},as.all s.plainArg=true->s.proms (as.map fun a=>a.2)=some s
 | [],s,_=>rfl
 | (m,x)::as,s,h=>by
  simp only [List.all_cons,Bool.and_eq_true] at h
  have h1:s.prom x=some s:=by
   have:=h.1
   cases x with
   | c d=>rfl
   | t n =>
    simp only [St.prom]
    cases hn:s.sl[n]? with
    | none=>rfl
    | some v =>
     cases v with
     | d y=>rfl
     | box cs=>cases m <;> simp [St.plainArg,hn] at this
     | bor p k=>rfl
     | ptr p =>
      obtain ⟨root,st,off⟩:=p
      cases m <;> cases root <;> cases st <;> first|rfl|(simp [St.plainArg,hn] at this)
  simp only [List.map_cons,St.proms,h1]
  exact zjZ h.2
theorem zkQ {s:St}:∀ {as:List (Vx.M × X)},as.all s.plainArg=true->s.frzs as=some s
 | [],_=>rfl
 | (m,x)::as,h=>by
  simp only [List.all_cons,Bool.and_eq_true] at h
  have ih:=zkQ h.2
  cases m with
  | rd=>exact ih
  | im n=>exact ih
  | mv=>exact ih
  | mu=>exact ih
  | fz =>
   have h1:s.frz x=some s:=by
    have:=h.1
    cases x with
    | c d=>rfl
    | t n =>
     simp only [St.frz]
     cases hn:s.sl[n]? with
     | none=>rfl
     | some v =>
      cases v with
      | d y =>
       have hX:y.hasX=false:=by simpa [St.plainArg,hn] using this
       simp only [hX,Bool.false_eq_true,if_false]
      | box cs=>rfl
      | bor p k=>simp [St.plainArg,hn] at this
      | ptr p=>rfl
   simp only [St.frzs,h1]
   exact ih
theorem zka {s:St}:∀ {as:List (Vx.M × X)},as.all s.plainArg=true->s.takes as=some (as.map fun _=>none,[],s)
 | [],_=>rfl
 | (m,x)::as,h=>by
  simp only [List.all_cons,Bool.and_eq_true] at h
  have ih:=zka h.2
  cases m with
  | rd=>simp only [St.takes,ih,Option.map_some,List.map_cons]
  | fz=>simp only [St.takes,ih,Option.map_some,List.map_cons]
  | im n=>simp only [St.takes,ih,Option.map_some,List.map_cons]
  | mv=>have:=h.1;simp [St.plainArg] at this
  | mu=>have:=h.1;simp [St.plainArg] at this
theorem zkR {as:List (Vx.M × X)} {s:St} (h:as.all s.plainArg=true):s.args as=(s.lends as (as.map fun _=>none)).map fun l=>⟨l.1,l.2,[],none,s⟩:=by
 simp only [St.args,zjZ h,zkQ h,zka h]
theorem zkS (h:zbY T s s') {x:X} {t:List Root} (hx:s.tch x=some t) (ht:∀ r ∈ t,r ∈ T):s.lend x=s'.lend x:=by
 rcases zdq hx with ⟨d,rfl,rfl⟩|⟨n,v,rfl,hn,hd,hall,rfl⟩
 ·rfl
 ·have hn':s'.sl[n]? = some v:=by rw [<- h.2.1 n (ht _ (List.mem_cons_self ..))];exact hn
  simp only [St.lend,hn,hn']
  cases v with
  | d y=>rfl
  | box cs=>rfl
  | bor p k=>simp only [zdC h (p:=p) (ht _ (by simp [SV.refs])) k]
  | ptr p =>
   obtain ⟨root,st,off⟩:=p
   cases root <;> cases st <;> simp only [h.1]
theorem znt (h:zbY T s s') (m:Vx.M) {x:X} {t:List Root} (hx:s.tch x=some t) (ht:∀ r ∈ t,r ∈ T):s.lendM m x=s'.lendM m x:=by
 cases m with
 | im n =>
  simp only [St.lendM,St.lendI]
  have hp:=zaU h hx ht
  rw [<- hp.1]
  cases hq:s.place x with
  | none=>exact zkS h hx ht
  | some p=>simp only [ziF h (hp.2.2 _ hq)]
 | _=>exact zkS h hx ht
theorem znu (h:zbY T s s') {m:Vx.M} {x:X} {t:List Root} (hx:s.tch x=some t) (ht:∀ r ∈ t,r ∈ T):s.plainArg (m,x)=s'.plainArg (m,x):=by
 rcases zdq hx with ⟨d,rfl,rfl⟩|⟨n,v,rfl,hn,hd,hall,rfl⟩
 ·cases m <;> rfl
 ·have hn':s'.sl[n]? = some v:=by rw [<- h.2.1 n (ht _ (List.mem_cons_self ..))];exact hn
  cases m <;> simp only [St.plainArg,hn,hn']
theorem zkb (h:zbY T s s'):∀ {as:List (Vx.M × X)},(∀ a ∈ as,∃ t,s.tch a.2=some t∧∀ r ∈ t,r ∈ T)->s.lends as (as.map fun _=>none)=s'.lends as (as.map fun _=>none)
 | [],_=>rfl
 | (m,x)::as,hc=>by
  obtain ⟨t,h1,h2⟩:=hc _ (List.mem_cons_self ..)
  simp only [List.map_cons,St.lends,znt h m h1 h2,zkb h (fun a ha=>hc a (List.mem_cons_of_mem _ ha))]
theorem zum {hh:H} {d f:Nat} {as:List (Vx.M × X)} (hdM:Root.slot d ∈ M) (hc:∀ a ∈ as,∃ t,s.tch a.2=some t∧∀ r ∈ t,r ∈ T) (hpl:as.all s.plainArg=true) {a:Args} (ha:s.args as=some a) (hr:zah a.vals=false) :
  LocF T M (zbg hh (.call (some d) f as)) s∧∀ s',zbY T s s'->as.all s'.plainArg=true∧∃ a',s'.args as=some a'∧a'.vals=a.vals:=by
 have hpl':∀ s',zbY T s s'->as.all s'.plainArg=true:=by
  intro s' hag
  rw [List.all_eq_true] at hpl ⊢
  intro p hp
  obtain ⟨t,h1,h2⟩:=hc p hp
  have:=hpl p hp
  obtain ⟨m,x⟩:=p
  rw [<- znu hag h1 h2]
  exact this
 have e0:=zkR hpl
 rw [ha] at e0
 obtain ⟨l,hl,e1⟩:=Option.map_eq_some_iff.1 e0.symm
 have hargs:∀ s',zbY T s s'->s'.args as=some ⟨l.1,l.2,[],none,s'⟩:=by
  intro s' hag
  rw [zkR (hpl' s' hag),<- zkb hag hc,hl]
  rfl
 have hvals:a.vals=l.1:=by rw [<- e1]
 refine ⟨?_,fun s' hag=>⟨hpl' s' hag,_,hargs s' hag,hvals.symm⟩⟩
 have hr':zah l.1=false:=hvals ▸ hr
 have key:∀ s',zbY T s s'->zbg hh (.call (some d) f as) s'=(hh f l.1 []).bind fun res =>
   if (res.1.hasRef || zah res.2.1)=true then none else if l.2=true∧(res.1.noS && noSL res.2.1)=false then none else
   match putBack s' [] res.2.1 with
   | some s2=>s2.setD d (.d res.1)
   | none=>none:=by
  intro s' hag
  unfold zbg
  simp only [vact,hargs s' hag,Option.bind_some,zdz,List.append_nil,hr',Bool.not_false,if_true,or_true,Option.map_some,true_and,Bool.false_eq_true,if_false]
  rfl
 refine zjY hdM fun s1 h1=>?_
 rw [key s (zbY.refl T s)] at h1
 obtain ⟨res,h2,h3⟩:=zaB h1
 split at h3
 ·cases h3
 ·rename_i q1
  split at h3
  ·cases h3
  ·rename_i q2
   cases ho:res.2.1 with
   | cons x r=>rw [ho] at h3;cases h3
   | nil =>
    refine ⟨.d res.1,kr_d _,fun s' hag=>?_⟩
    rw [key s' hag,h2]
    simp only [Option.bind_some,if_neg q1,if_neg q2]
    rw [ho]
    rfl
def zhW (T:List Root) (s:St):Prop:=∀ n,Root.slot n ∈ T->∃ v,s.sl[n]? = some v∧v ≠ .d .dead∧∀ r ∈ v.kr,r ∈ T
theorem znv {x:X} {t:List Root} (hx:s.tch x=some t):zhW t s:=by
 rcases zdq hx with ⟨d,rfl,rfl⟩|⟨n,v,rfl,hn,hd,hall,rfl⟩
 ·intro n hn;cases hn
 ·intro m hm
  rcases List.mem_cons.1 hm with e|hm
  ·cases e
   exact ⟨v,hn,hd,fun r hr=>List.mem_cons_of_mem _ (SV.kr_refs hr)⟩
  ·have:=List.all_eq_true.1 hall _ hm
   simp only [St.rootOK] at this
   split at this
   ·rename_i x hx
    refine ⟨x,hx,fun e=>by rw [e] at this;simp [SV.isRoot,D.hasX] at this,fun r hr=>?_⟩
    cases x <;> first|(cases hr;done)|(simp [SV.isRoot] at this)
   ·cases this
theorem zhW.append {a b:List Root} (h:zhW a s) (k:zhW b s):zhW (a++b) s:=by
 intro n hn
 rcases List.mem_append.1 hn with hn|hn
 ·obtain ⟨v,h1,h2,h3⟩:=h n hn
  exact ⟨v,h1,h2,fun r hr=>mAL _ (h3 r hr)⟩
 ·obtain ⟨v,h1,h2,h3⟩:=k n hn
  exact ⟨v,h1,h2,fun r hr=>mAR _ (h3 r hr)⟩
theorem zeb:∀ {xs:List X} {t:List Root},s.tchs xs=some t->zhW t s
 | [],t,h=>by cases h;intro n hn;cases hn
 | x::xs,t,h=>by
  obtain ⟨a,b,h1,h2,rfl⟩:=zfz h
  exact (znv h1).append (zeb h2)
theorem znw {hh:H} {i:I} (hf:fpI1 i s=some (T,M)):LocF T M (zbg hh i) s∧(∀ s',zbY T s s'->fpI1 i s'=some (T,M))∧zhW T s:=by
 unfold fpI1 at hf
 split at hf
 ·rename_i xs d hxs hd
  split at hf
  ·rename_i t ht
   split at hf
   ·rename_i d' f as
    simp only [I.dst] at hd
    subst hd
    simp only [I.xs,Option.some.injEq] at hxs
    subst hxs
    split at hf
    ·rename_i hpl
     split at hf
     ·rename_i a ha
      split at hf
      ·cases hf
      ·rename_i hr
       cases hf
       have hc:=fun (a:Vx.M × X) (ha:a ∈ as)=>zht ht a.2 (List.mem_map.2 ⟨a,ha,rfl⟩)
       obtain ⟨g1,g2⟩:=zum (hh:=hh) (f:=f) (M:=[.slot d]) (List.mem_cons_self ..) hc hpl ha (by simpa using hr)
       refine ⟨g1,fun s' hag=>?_,zeb ht⟩
       obtain ⟨k1,a',k2,k3⟩:=g2 s' hag
       simp only [fpI1,I.xs,I.dst,zgi hag ht (fun _ h=>h),k1,if_true,k2,k3,hr]
       rfl
     ·cases hf
    ·cases hf
   ·rename_i hcall
    have hcall':∀ a b c,i ≠ .call a b c:=fun a b c e=>hcall a b c e
    have hfp:∀ s',zbY t s s'->fpI1 i s'=if s.takesI i=true then some (t,.slot d::t) else some (t,[.slot d]):=by
     intro s' hag
     unfold fpI1
     simp only [hxs,hd,zgi hag ht (fun _ h=>h)]
     rw [zmz hag hxs ht (fun _ h=>h)]
    have hvs:zbg hh i=vst i:=funext fun s=>zqN hxs hcall' s
    rw [hvs]
    split at hf
    ·rename_i htk
     cases hf
     refine ⟨zqM hxs hd (List.mem_cons_self ..) ht (fun _ h=>h) (fun r hr=>List.mem_cons_of_mem _ hr) htk,fun s' hag=>?_,zeb ht⟩
     rw [hfp s' hag,if_pos htk]
    ·rename_i htk
     cases hf
     refine ⟨zqK hxs hd (List.mem_cons_self ..) ht (fun _ h=>h) (by simpa using htk) hcall',fun s' hag=>?_,zeb ht⟩
     rw [hfp s' hag,if_neg htk]
  ·cases hf
 ·cases hf
theorem zoD {n:Nat} {t:List Root} (h:s.tch (.t n)=some t):Root.slot n ∈ t:=by
 rcases zdq h with ⟨d,e,_⟩|⟨m,v,e,_,_,_,rfl⟩
 ·cases e
 ·cases e;exact List.mem_cons_self ..
theorem zqO {x:X} {y:D} {s1:St} (h:s.take x=some (y,s1)) (m:Nat):(∀ p,s.sl[m]? = some (.ptr p)->s1.sl[m]? = some (.ptr p) ∨ s1.sl[m]? = some (.d .dead))∧(∀ cs,s.sl[m]? = some (.box cs)->∃ cs',s1.sl[m]? = some (.box cs')):=by
 have kp:∀ (s:St) (r:Root) (all:Bool) (p:Place),s.sl[m]? = some (.ptr p)->(s.kill r all).sl[m]? = some (.ptr p) ∨ (s.kill r all).sl[m]? = some (.d .dead):=by
  intro s r all p hp
  simp only [St.kill,List.getElem?_map,hp,Option.map_some,SV.kill]
  split
  ·exact .inr rfl
  ·exact .inl rfl
 have kb:∀ (s:St) (r:Root) (all:Bool) (cs:List D),s.sl[m]? = some (.box cs)->(s.kill r all).sl[m]? = some (.box cs):=by
  intro s r all cs hp
  simp only [St.kill,List.getElem?_map,hp,Option.map_some,SV.kill]
 have wr:∀ {p:Place} {news:List D} {s2:St},s.wrP p news=some s2->(∀ q,s.sl[m]? = some (.ptr q)->s2.sl[m]? = some (.ptr q))∧(∀ cs,s.sl[m]? = some (.box cs)->∃ cs',s2.sl[m]? = some (.box cs')):=by
  intro p news s2 hw
  simp only [St.wrP] at hw
  split at hw
  ·split at hw
   ·rename_i cs' hu
    obtain ⟨root,st,off⟩:=p
    cases root with
    | slot n =>
     simp only [St.setRoot] at hw
     split at hw
     ·rename_i c0 hn
      cases hw
      have hlt:=getElem?_lt hn
      by_cases e:n=m
      ·subst e
       exact ⟨fun q hq=>(by rw [hn] at hq;cases hq),fun cs hcs=>⟨cs',by simp [hlt]⟩⟩
      ·exact ⟨fun q hq=>(by simp only [];rw [List.getElem?_set_ne e];exact hq),fun cs hcs=>⟨cs,by simp only [];rw [List.getElem?_set_ne e];exact hcs⟩⟩
     ·rename_i y0 hn
      cases hw
      by_cases e:n=m
      ·subst e
       exact ⟨fun q hq=>(by rw [hn] at hq;cases hq),fun cs hcs=>by rw [hn] at hcs;cases hcs⟩
      ·exact ⟨fun q hq=>(by simp only [];rw [List.getElem?_set_ne e];exact hq),fun cs hcs=>⟨cs,by simp only [];rw [List.getElem?_set_ne e];exact hcs⟩⟩
     ·cases hw
    | sto n =>
     simp only [St.setRoot,Option.some.injEq] at hw
     subst hw
     exact ⟨fun q hq=>hq,fun cs hcs=>⟨cs,hcs⟩⟩
   ·cases hw
  ·cases hw
 cases x with
 | c d=>cases h;exact ⟨fun p hp=>.inl hp,fun cs hcs=>⟨cs,hcs⟩⟩
 | t n =>
  simp only [St.take] at h
  split at h
  ·rename_i z hn
   split at h
   ·cases h
    have hne:n ≠ m ∨ n=m:=by omega
    rcases hne with e|e
    ·refine ⟨fun p hp=>?_,fun cs hcs=>?_⟩
     ·have:=kp s (.slot n) true p hp
      simp only [St.kill] at this
      simp only []
      rw [List.getElem?_set_ne e];exact this
     ·have:=kb s (.slot n) true cs hcs
      simp only [St.kill] at this
      simp only []
      exact ⟨cs,by rw [List.getElem?_set_ne e];exact this⟩
    ·subst e
     exact ⟨fun p hp=>(by rw [hn] at hp;cases hp),fun cs hcs=>by rw [hn] at hcs;cases hcs⟩
   ·cases h;exact ⟨fun p hp=>.inl hp,fun cs hcs=>⟨cs,hcs⟩⟩
  ·split at h
   ·split at h
    ·rename_i s2 hw
     cases h
     obtain ⟨w1,w2⟩:=wr hw
     exact ⟨fun p hp=>kp _ _ _ p (w1 p hp),fun cs hcs=>by obtain ⟨cs',e⟩:=w2 cs hcs;exact ⟨cs',kb _ _ _ _ e⟩⟩
    ·cases h
   ·cases h
  ·split at h
   ·cases h;exact ⟨fun p hp=>.inl hp,fun cs hcs=>⟨cs,hcs⟩⟩
   ·cases h
  ·cases h
theorem zvg {hh:H} {n m:Nat} {x:X} {t:List Root} (ht:s.tchs [.t m,x]=some t) (hm:(∃ p,s.sl[m]? = some (.ptr p)) ∨ ∃ cs,s.sl[m]? = some (.box cs)):LocF t t (zbg hh (.st n (.t m) x)) s:=by
 obtain ⟨b,c,hb,hc,rfl⟩:=zfz ht
 obtain ⟨ax,e,hax,he,rfl⟩:=zfz hc
 obtain rfl:e=[]:=by simpa [St.tchs] using he.symm
 have hT:∀ r ∈ ax,r ∈ b++(ax++[]):=fun r hr=>mAR _ (mAL _ hr)
 have hB:∀ r ∈ b,r ∈ b++(ax++[]):=fun r hr=>mAL _ hr
 have covA:=zns hb hB
 have covX:=zns hax hT
 generalize b++(ax++[])=T at *
 have step:∀ s:St,zbg hh (.st n (.t m) x) s=(s.take x).bind fun r=>(r.1.cellsN n).bind fun cs=>(r.2.place (.t m)).bind fun p=>if p.steps=[] ∨ zah cs=false then (r.2.wrP p cs).map fun s'=>s'.killS p else none:=by
  intro s
  simp only [zbg,vact,okS]
  cases (s.take x).bind fun r=>(r.1.cellsN n).bind fun cs=>(r.2.place (.t m)).bind fun p=>if p.steps=[] ∨ zah cs=false then (r.2.wrP p cs).map fun s'=>s'.killS p else none <;> rfl
 intro s2 h
 rw [step] at h
 obtain ⟨⟨y,s1⟩,h1,h2⟩:=zaB h
 obtain ⟨cs,h3,h4⟩:=zaB h2
 obtain ⟨p,h5,h6⟩:=zaB h4
 simp only at h5 h6
 split at h6
 ·rename_i hcond
  obtain ⟨s3,h7,rfl⟩:=Option.map_eq_some_iff.1 h6
  obtain ⟨es,e1,e2,e3⟩:=zgw covX (fun _ h=>h) y s1 h1
  have hpT:p.root ∈ T:=by
   obtain ⟨k1,k2⟩:=zqO h1 m
   rcases hm with ⟨q,hq⟩|⟨c0,hq⟩
   ·rcases k1 q hq with e|e
    ·simp only [St.place,e,Option.some.injEq] at h5
     subst h5
     exact covA.2 _ hq _ (by simp [SV.kr])
    ·simp [St.place,e] at h5
   ·obtain ⟨c1,e⟩:=k2 c0 hq
    simp only [St.place,e,Option.some.injEq] at h5
    subst h5
    exact covA.1
  obtain ⟨ef,f1,f2,f3,f4⟩:=zqJ hpT (fun _ h=>h) s3 h7
  have hkE:∀ s0:St,s0.killS p=(if p.steps=[] then Eff.kill p.root false else Eff.killD p.root).run s0:=by
   intro s0;unfold St.killS;split <;> rfl
  refine ⟨es++[ef,if p.steps=[] then .kill p.root false else .killD p.root],e1.append ?_,?_,fun s' ha hag=>?_⟩
  ·intro q hq
   simp only [List.mem_cons,List.not_mem_nil,or_false] at hq
   rcases hq with rfl|rfl
   ·exact ⟨f1,fun r hr=>by rw [f2] at hr;cases hr⟩
   ·split
    ·exact ⟨hpT,fun r hr=>by cases hr⟩
    ·exact ⟨hpT,fun r hr=>by cases hr⟩
  ·rw [zbG,<- e2,f3,hkE];rfl
  ·have hA:zbY T s1 (runE es s'):=by rw [e2];exact ha.runE
   have hpl:(runE es s').place (.t m)=some p:=by
    rw [<- h5]
    simp only [St.place,hA.2.1 m covA.1]
   rw [step]
   simp only [e3 s' ha hag,Option.bind_some,h3,hpl,if_pos hcond,f4 _ hA,Option.map_some]
   rw [zbG,hkE];rfl
 ·cases h6
theorem LocF.mono {T' M':List Root} {f:St->Option St} (h:LocF T M f s) (hT:∀ r ∈ T,r ∈ T') (hM:∀ r ∈ M,r ∈ M'):LocF T' M' f s:=by
 intro s1 h1
 obtain ⟨es,e1,e2,e3⟩:=h s1 h1
 exact ⟨es,e1.mono hT hM,e2,fun s' ha hm=>e3 s' (ha.mono hT) (fun n hn=>hm n (hM _ hn))⟩
theorem zvh {hh:H} {i:I} (hf:fpI i s=some (T,M)):LocF T M (zbg hh i) s∧(∀ s',zbY T s s'->fpI i s'=some (T,M))∧zhW T s:=by
 unfold fpI at hf
 split at hf
 ·rename_i g w j
  split at hf
  ·rename_i b hb
   have hrd:∀ s':St,s'.sl[g]? = some (.d (.bool b))->s'.rd (.t g)=some (.bool b):=fun s' e=>by simp only [St.rd,e]
   split at hf
   ·rename_i hbw
    subst hbw
    obtain ⟨⟨t,m⟩,h1,h2⟩:=Option.map_eq_some_iff.1 hf
    simp only [Prod.mk.injEq] at h2
    obtain ⟨rfl,rfl⟩:=h2
    obtain ⟨k1,k2,k3⟩:=znw (hh:=hh) h1
    refine ⟨?_,fun s' hag=>?_,?_⟩
    ·intro s1 h3
     rw [zgv (hrd s hb)] at h3
     obtain ⟨es,e1,e2,e3⟩:=k1.mono (T':=.slot g::t) (M':=m) (fun r hr=>List.mem_cons_of_mem _ hr) (fun _ h=>h) s1 h3
     refine ⟨es,e1,e2,fun s' ha hm=>?_⟩
     have hb':s'.sl[g]? = some (.d (.bool b)):=by rw [<- ha.2.1 g (List.mem_cons_self ..)];exact hb
     rw [zgv (hrd s' hb')]
     exact e3 s' ha hm
    ·have hb':s'.sl[g]? = some (.d (.bool b)):=by rw [<- hag.2.1 g (List.mem_cons_self ..)];exact hb
     unfold fpI
     simp only [hb',if_true,k2 s' (hag.mono (fun r hr=>List.mem_cons_of_mem _ hr)),Option.map_some]
    ·intro n hn
     rcases List.mem_cons.1 hn with e|hn
     ·cases e
      exact ⟨_,hb,by simp,fun r hr=>by cases hr⟩
     ·obtain ⟨v,q1,q2,q3⟩:=k3 n hn
      exact ⟨v,q1,q2,fun r hr=>List.mem_cons_of_mem _ (q3 r hr)⟩
   ·rename_i hbw
    split at hf
    ·rename_i d hd
     cases hf
     have hst:∀ s':St,s'.sl[g]? = some (.d (.bool b))->zbg hh (.gd g w j) s'=s'.setD d (.d (.tup [])):=by
      intro s' e
      unfold zbg
      simp only [vact,hrd s' e,if_neg hbw,hd]
      cases s'.setD d (.d (.tup [])) <;> rfl
     refine ⟨zjY (List.mem_cons_self ..) fun s1 h3=>⟨.d (.tup []),kr_d _,fun s' ha=>?_⟩,fun s' hag=>?_,?_⟩
     ·exact hst s' (by rw [<- ha.2.1 g (List.mem_cons_self ..)];exact hb)
     ·have hb':s'.sl[g]? = some (.d (.bool b)):=by rw [<- hag.2.1 g (List.mem_cons_self ..)];exact hb
      unfold fpI
      simp only [hb',if_neg hbw,hd]
     ·intro n hn
      rcases List.mem_cons.1 hn with e|hn
      ·cases e
       exact ⟨_,hb,by simp,fun r hr=>by cases hr⟩
      ·cases hn
    ·cases hf
  ·rename_i hb
   have hrd:∀ s':St,s'.sl[g]? = some (.d (.tup []))->s'.rd (.t g)=some (.tup []):=fun s' e=>by simp only [St.rd,e]
   split at hf
   ·rename_i d hd
    cases hf
    have hst:∀ s':St,s'.sl[g]? = some (.d (.tup []))->zbg hh (.gd g w j) s'=s'.setD d (.d (.tup [])):=by
     intro s' e
     unfold zbg
     simp only [vact,hrd s' e,hd]
     cases s'.setD d (.d (.tup [])) <;> rfl
    refine ⟨zjY (List.mem_cons_self ..) fun s1 h3=>⟨.d (.tup []),kr_d _,fun s' ha=>?_⟩,fun s' hag=>?_,?_⟩
    ·exact hst s' (by rw [<- ha.2.1 g (List.mem_cons_self ..)];exact hb)
    ·have hb':s'.sl[g]? = some (.d (.tup [])):=by rw [<- hag.2.1 g (List.mem_cons_self ..)];exact hb
     unfold fpI
     simp only [hb',hd]
    ·intro n hn
     rcases List.mem_cons.1 hn with e|hn
     ·cases e
      exact ⟨_,hb,by simp,fun r hr=>by cases hr⟩
     ·cases hn
   ·cases hf
  ·cases hf
 ·rename_i d n as
  split at hf
  ·rename_i f hb
   have hst:∀ s':St,s'.sl[n]? = some (.d (.fn f []))->zbg hh (.cal d (.t n) as) s'=zbg hh (.call d f (as.map fun a=>(Vx.M.rd,a.2))) s':=by
    intro s' e
    unfold zbg
    simp only [vact,St.rd,e,calM]
   obtain ⟨⟨t,m⟩,h1,h2⟩:=Option.map_eq_some_iff.1 hf
   simp only [Prod.mk.injEq] at h2
   obtain ⟨rfl,rfl⟩:=h2
   obtain ⟨k1,k2,k3⟩:=znw (hh:=hh) h1
   refine ⟨?_,fun s' hag=>?_,?_⟩
   ·intro s1 h3
    rw [hst s hb] at h3
    obtain ⟨es,e1,e2,e3⟩:=k1.mono (T':=.slot n::t) (M':=m) (fun r hr=>List.mem_cons_of_mem _ hr) (fun _ h=>h) s1 h3
    refine ⟨es,e1,e2,fun s' ha hm=>?_⟩
    have hb':s'.sl[n]? = some (.d (.fn f [])):=by rw [<- ha.2.1 n (List.mem_cons_self ..)];exact hb
    rw [hst s' hb']
    exact e3 s' ha hm
   ·have hb':s'.sl[n]? = some (.d (.fn f [])):=by rw [<- hag.2.1 n (List.mem_cons_self ..)];exact hb
    unfold fpI
    simp only [hb',k2 s' (hag.mono (fun r hr=>List.mem_cons_of_mem _ hr)),Option.map_some]
   ·intro q hq
    rcases List.mem_cons.1 hq with e|hq
    ·cases e
     exact ⟨_,hb,by simp,fun r hr=>by cases hr⟩
    ·obtain ⟨v,q1,q2,q3⟩:=k3 q hq
     exact ⟨v,q1,q2,fun r hr=>List.mem_cons_of_mem _ (q3 r hr)⟩
  ·cases hf
 ·rename_i n m x
  split at hf
  ·rename_i p hb
   obtain ⟨t,h1,h2⟩:=Option.map_eq_some_iff.1 hf
   simp only [Prod.mk.injEq] at h2
   obtain ⟨rfl,rfl⟩:=h2
   refine ⟨zvg h1 (.inl ⟨_,hb⟩),fun s' hag=>?_,zeb h1⟩
   have hmT:Root.slot m ∈ t:=by
    obtain ⟨b,c,e1,e2,rfl⟩:=zfz h1
    exact mAL _ (zoD e1)
   have hb':s'.sl[m]? = some (.ptr p):=by rw [<- hag.2.1 m hmT];exact hb
   unfold fpI
   simp only [hb',zgi hag h1 (fun _ h=>h),Option.map_some]
  ·rename_i cs hb
   obtain ⟨t,h1,h2⟩:=Option.map_eq_some_iff.1 hf
   simp only [Prod.mk.injEq] at h2
   obtain ⟨rfl,rfl⟩:=h2
   refine ⟨zvg h1 (.inr ⟨_,hb⟩),fun s' hag=>?_,zeb h1⟩
   have hmT:Root.slot m ∈ t:=by
    obtain ⟨b,c,e1,e2,rfl⟩:=zfz h1
    exact mAL _ (zoD e1)
   have hb':s'.sl[m]? = some (.box cs):=by rw [<- hag.2.1 m hmT];exact hb
   unfold fpI
   simp only [hb',zgi hag h1 (fun _ h=>h),Option.map_some]
  ·cases hf
 ·rename_i hne hne2 hne3
  have hfp:∀ s',fpI i s'=fpI1 i s':=by
   intro s'
   unfold fpI
   split
   ·exact absurd rfl (hne _ _ _)
   ·exact absurd rfl (hne2 _ _ _)
   ·exact absurd rfl (hne3 _ _ _)
   ·rfl
  obtain ⟨k1,k2,k3⟩:=znw (hh:=hh) hf
  exact ⟨k1,fun s' hag=>by rw [hfp];exact k2 s' hag,k3⟩
end
end Go.Vx
namespace Go.Vx
theorem SV.kill_kr {r:Root} {all:Bool} {v:SV} (h:r ∉ v.kr):SV.kill r all v=v:=by
 cases v with
 | d x=>rfl
 | box cs=>rfl
 | bor p k =>
  have:p.root ≠ r:=fun e=>h (by simp [SV.kr,e])
  simp [SV.kill,this]
 | ptr p =>
  have:p.root ≠ r:=fun e=>h (by simp [SV.kr,e])
  simp [SV.kill,this]
theorem SV.kill_comm (r q:Root) (a b:Bool) (v:SV):SV.kill r a (SV.kill q b v)=SV.kill q b (SV.kill r a v):=by
 rcases SV.kill_cases q b v with e|⟨e,_,_⟩
 ·rcases SV.kill_cases r a v with f|⟨f,_,_⟩
  ·rw [e,f];rfl
  ·rw [e,f,e];rfl
 ·rcases SV.kill_cases r a v with f|⟨f,_,_⟩
  ·rw [e,f];rfl
  ·rw [e,f,e]
theorem SV.killD_kr {r:Root} {v:SV} (h:r ∉ v.kr):SV.killD r v=v:=by
 rcases SV.killD_cases r v with e|⟨_,e,_⟩
 ·rw [e];exact SV.kill_kr h
 ·exact e
theorem SV.dd_comm {f g:SV->SV} (hf:∀ v,f v=.d .dead ∨ f v=v) (hg:∀ v,g v=.d .dead ∨ g v=v) (hf0:f (.d .dead)=.d .dead) (hg0:g (.d .dead)=.d .dead) (v:SV):f (g v)=g (f v):=by
 rcases hf v with e|e <;> rcases hg v with k|k
 ·rw [e,k,hf0,hg0]
 ·rw [k,e,hg0]
 ·rw [e,k,hf0]
 ·rw [e,k,e]
theorem SV.kill_or (r:Root) (a:Bool) (v:SV):SV.kill r a v=.d .dead ∨ SV.kill r a v=v:=(SV.kill_cases r a v).imp id (·.1)
theorem zun {e f:Eff} (h1:e.root ≠ f.root) (h2:e.root ∉ f.kr) (h3:f.root ∉ e.kr) (s:St):e.run (f.run s)=f.run (e.run s):=by
 cases e with
 | kill r a =>
  cases f with
  | kill q b=>simp only [Eff.run,St.kill,List.map_map];congr 1;exact List.map_congr_left fun v _=>SV.kill_comm r q a b v
  | killD q=>simp only [Eff.run,St.kill,St.killD,List.map_map];congr 1;exact List.map_congr_left fun v _=>SV.dd_comm (SV.kill_or r a) (SV.killD_or q) rfl rfl v
  | setS m v=>simp only [Eff.run,St.kill,List.map_set];rw [SV.kill_kr (show r ∉ v.kr from h2)]
  | setT q cs=>rfl
 | killD r =>
  cases f with
  | kill q b=>simp only [Eff.run,St.kill,St.killD,List.map_map];congr 1;exact List.map_congr_left fun v _=>SV.dd_comm (SV.killD_or r) (SV.kill_or q b) rfl rfl v
  | killD q=>simp only [Eff.run,St.killD,List.map_map];congr 1;exact List.map_congr_left fun v _=>SV.dd_comm (SV.killD_or r) (SV.killD_or q) rfl rfl v
  | setS m v=>simp only [Eff.run,St.killD,List.map_set];rw [SV.killD_kr (show r ∉ v.kr from h2)]
  | setT q cs=>rfl
 | setS n u =>
  cases f with
  | kill q b=>simp only [Eff.run,St.kill,List.map_set];rw [SV.kill_kr (show q ∉ u.kr from h3)]
  | killD q=>simp only [Eff.run,St.killD,List.map_set];rw [SV.killD_kr (show q ∉ u.kr from h3)]
  | setS m v =>
   have:n ≠ m:=fun e=>h1 (by simp [Eff.root,e])
   simp only [Eff.run];rw [List.set_comm _ _ this]
  | setT q cs=>rfl
 | setT n u =>
  cases f with
  | kill q b=>rfl
  | killD q=>rfl
  | setS m v=>rfl
  | setT q cs =>
   have:n ≠ q:=fun e=>h1 (by simp [Eff.root,e])
   simp only [Eff.run];rw [List.set_comm _ _ this]
theorem zoE {e:Eff}:∀ {fs:List Eff} (s:St),(∀ f ∈ fs,e.root ≠ f.root∧e.root ∉ f.kr∧f.root ∉ e.kr)->runE fs (e.run s)=e.run (runE fs s)
 | [],s,_=>rfl
 | f::fs,s,h=>by
  obtain ⟨h1,h2,h3⟩:=h f (List.mem_cons_self ..)
  simp only [runE]
  rw [<- zun h1 h2 h3,zoE (f.run s) (fun g hg=>h g (List.mem_cons_of_mem _ hg))]
theorem zmA:∀ {es fs:List Eff} (s:St),(∀ e ∈ es,∀ f ∈ fs,e.root ≠ f.root∧e.root ∉ f.kr∧f.root ∉ e.kr)->runE fs (runE es s)=runE es (runE fs s)
 | [],fs,s,_=>rfl
 | e::es,fs,s,h=>by
  simp only [runE]
  rw [zmA (e.run s) (fun e' he=>h e' (List.mem_cons_of_mem _ he)),zoE s (fun f hf=>h e (List.mem_cons_self ..) f hf)]
theorem zpB {a b:List Root}:zgR a b=true ↔ ∀ r ∈ a,r ∉ b:=by
 simp [zgR,List.all_eq_true]
theorem zkc {T M Ta Ma:List Root}:∀ {es:List Eff} {s:St},zgg Ta Ma es->(∀ r ∈ T,r ∉ Ma)->(∀ r ∈ M,r ∉ Ma)->zhJ M (runE es s) s∧(runE es s).sto.length=s.sto.length ∧
  (∀ r,Root.sto r ∈ T->(runE es s).sto[r]? = s.sto[r]?) ∧
  ∀ n,Root.slot n ∈ T->((runE es s).sl[n]? = s.sl[n]?) ∨ ((runE es s).sl[n]? = some (.d .dead)∧∃ v,s.sl[n]? = some v∧∃ r ∈ v.kr,r ∈ Ma)
 | [],s,_,_,_=>⟨.refl _ _,rfl,fun _ _=>rfl,fun _ _=>.inl rfl⟩
 | e::es,s,hw,hT,hM=>by
  obtain ⟨k1,k2,k3,k4⟩:=zkc (T:=T) (M:=M) (es:=es) (s:=e.run s) (fun f hf=>hw f (List.mem_cons_of_mem _ hf)) hT hM
  have he:=(hw e (List.mem_cons_self ..)).1
  simp only [runE]
  have h1:zhJ M (e.run s) s:=by
   intro n hn
   cases e with
   | kill r all =>
    simp only [Eff.run,St.kill,List.getElem?_map,Option.map_map]
    have:(SV.isRoot ∘ SV.kill r all)=SV.isRoot:=funext fun v=>SV.kill_isRoot r all v
    rw [this]
   | killD r =>
    simp only [Eff.run,St.killD,List.getElem?_map,Option.map_map]
    have:(SV.isRoot ∘ SV.killD r)=SV.isRoot:=funext fun v=>SV.killD_isRoot r v
    rw [this]
   | setS m v =>
    have:m ≠ n:=fun e=>hM _ hn (by rw [<- e];exact he)
    simp only [Eff.run];rw [List.getElem?_set_ne this]
   | setT r cs=>rfl
  refine ⟨fun n hn=>(k1 n hn).trans (h1 n hn),k2.trans (by cases e <;> simp [Eff.run,St.kill,St.killD]),fun r hr=>(k3 r hr).trans ?_,fun n hn=>?_⟩
  ·cases e with
   | kill q all=>rfl
   | killD q=>rfl
   | setS m v=>rfl
   | setT q cs =>
    have:q ≠ r:=fun e=>hT _ hr (by rw [<- e];exact he)
    simp only [Eff.run];rw [List.getElem?_set_ne this]
  ·
   have h2:((e.run s).sl[n]? = s.sl[n]?) ∨ ((e.run s).sl[n]? = some (.d .dead)∧∃ v,s.sl[n]? = some v∧∃ r ∈ v.kr,r ∈ Ma):=by
    cases e with
    | kill q all =>
     simp only [Eff.run,St.kill,List.getElem?_map]
     cases hv:s.sl[n]? with
     | none=>exact .inl rfl
     | some v =>
      by_cases hq:q ∈ v.kr
      ·rcases SV.kill_cases q all v with e|⟨e,_,_⟩
       ·exact .inr ⟨by rw [Option.map_some,e],v,rfl,q,hq,he⟩
       ·exact .inl (by rw [Option.map_some,e])
      ·exact .inl (by rw [Option.map_some,SV.kill_kr hq])
    | killD q =>
     simp only [Eff.run,St.killD,List.getElem?_map]
     cases hv:s.sl[n]? with
     | none=>exact .inl rfl
     | some v =>
      by_cases hq:q ∈ v.kr
      ·rcases SV.killD_or q v with e|e
       ·exact .inr ⟨by rw [Option.map_some,e],v,rfl,q,hq,he⟩
       ·exact .inl (by rw [Option.map_some,e])
      ·exact .inl (by rw [Option.map_some,SV.killD_kr hq])
    | setS m v =>
     have:m ≠ n:=fun e=>hT _ hn (by rw [<- e];exact he)
     exact .inl (by simp only [Eff.run];rw [List.getElem?_set_ne this])
    | setT q cs=>exact .inl rfl
   rcases h2 with h2|⟨h2,v,h3,h4⟩
   ·rcases k4 n hn with k4|⟨k4,v,k5,k6⟩
    ·exact .inl (k4.trans h2)
    ·exact .inr ⟨k4,v,by rw [<- h2];exact k5,k6⟩
   ·rcases k4 n hn with k4|⟨k4,v',k5,k6⟩
    ·exact .inr ⟨k4.trans h2,v,h3,h4⟩
    ·exact .inr ⟨k4,v,h3,h4⟩
theorem zqP {hh:H} {i k:I} {s s1 s2:St} (h1:zbg hh i s=some s1) (h2:zbg hh k s1=some s2) (hap:zjI (fpI i s) (fpI k s1)=true) :
  ∃ t,zbg hh k s=some t∧fpI k s=fpI k s1∧zbg hh i t=some s2∧fpI i t=fpI i s:=by
 unfold zjI at hap
 split at hap
 ·rename_i Ta Ma Tb Mb ha hb
  simp only [Bool.and_eq_true,zpB] at hap
  obtain ⟨⟨p1,p2⟩,p3⟩:=hap
  obtain ⟨la,fa,na⟩:=zvh (hh:=hh) ha
  obtain ⟨lb,fb,nb⟩:=zvh (hh:=hh) hb
  obtain ⟨ea,wa,rfl,ca⟩:=la s1 h1
  obtain ⟨eb,wb,rfl,cb⟩:=lb s2 h2
  obtain ⟨k1,k2,k3,k4⟩:=zkc (T:=Tb) (M:=Mb) (s:=s) wa (fun r hr e=>p1 r e hr) (fun r hr e=>p2 r e hr)
  have ag:zbY Tb (runE ea s) s:=by
   refine ⟨k2,fun n hn=>?_,k3⟩
   rcases k4 n hn with k4|⟨k4,_⟩
   ·exact k4
   ·obtain ⟨v,q1,q2,_⟩:=nb n hn
    rw [k4] at q1
    exact absurd (Option.some.inj q1).symm q2
  have hk:=cb s ag k1
  obtain ⟨j1,j2,j3,j4⟩:=zkc (T:=Ta) (M:=Ma) (s:=s) wb (fun r hr e=>p3 r e hr) (fun r hr e=>p2 r hr e)
  have ag2:zbY Ta s (runE eb s):=by
   refine ⟨j2.symm,fun n hn=>?_,fun r hr=>(j3 r hr).symm⟩
   rcases j4 n hn with j4|⟨_,v,q1,r,q2,q3⟩
   ·exact j4.symm
   ·obtain ⟨v',q4,_,q5⟩:=na n hn
    rw [q1] at q4
    cases q4
    exact absurd (q5 r q2) (p3 r q3)
  have hi:=ca (runE eb s) ag2 (fun n hn=>(j1 n hn).symm)
  have hcomm:runE eb (runE ea s)=runE ea (runE eb s):=by
   refine zmA s fun e he f hf=>?_
   obtain ⟨a1,a2⟩:=wa e he
   obtain ⟨b1,b2⟩:=wb f hf
   exact ⟨fun eq=>p2 _ a1 (eq ▸ b1),fun hm=>p1 _ a1 (b2 _ hm),fun hm=>p3 _ b1 (a2 _ hm)⟩
  exact ⟨runE eb s,hk,(fb s ag).trans hb.symm,by rw [hcomm];exact hi,(fa _ ag2).trans ha.symm⟩
 ·cases hap
def kI (c:Bool) (r:Root) (v:SV):SV:=if c=true then SV.kill r true v else v
theorem zlo (c c':Bool) (r q:Root) (v:SV):kI c r (kI c' q v)=kI c' q (kI c r v):=by
 cases c <;> cases c' <;> simp [kI,SV.kill_comm r q]
theorem zkd (c:Bool) (r:Root) (v:SV):(kI c r v).isRoot=v.isRoot:=by
 cases c <;> simp [kI,SV.kill_isRoot]
theorem kI_d (c:Bool) (r:Root) (x:D):kI c r (.d x)=.d x:=by cases c <;> rfl
theorem zlp {hh:H} {d n i:Nat} (hdn:d ≠ n) {s s1:St} (h:zbg hh (.ext d (.t n) i) s=some s1):∃ ps p o,s.sl[n]? = some (.d (.tup ps))∧ps[i]? = some p∧s.sl[d]? = some o∧s1.sto=s.sto ∧
  ∀ m,s1.sl[m]? = if m=d then some (.d p) else if m=n then some (.d (.tup (if p.hasX=true then ps.set i .dead else ps))) else (s.sl[m]?).map fun v=>kI o.isRoot (.slot d) (kI p.hasX (.slot n) v):=by
 simp only [zbg,vact,St.tupAt] at h
 cases hn:s.sl[n]? with
 | none=>simp [hn] at h
 | some v =>
  rw [hn] at h
  cases v with
  | d x =>
   cases x with
   | tup ps =>
    simp only [] at h
    cases hp:ps[i]? with
    | none=>simp [hp,okS] at h
    | some p =>
     simp only [hp,Option.bind_some] at h
     have hnl:=(List.getElem?_eq_some_iff.1 hn).1
     cases hd:s.sl[d]? with
     | none =>
      exfalso
      by_cases hx:p.hasX=true
      ·simp [hx,St.setD,St.reg,List.getElem?_set_ne (Ne.symm hdn),hd,okS] at h
      ·simp [hx,St.setD,hd,okS] at h
     | some o =>
      have hdl:=(List.getElem?_eq_some_iff.1 hd).1
      refine ⟨ps,p,o,rfl,hp,rfl,?_⟩
      by_cases hx:p.hasX=true
      ·have hd2:(s.reg n (.tup (ps.set i .dead))).sl[d]? = some (SV.kill (.slot n) true o):=by
        simp [St.reg,List.getElem?_set_ne (Ne.symm hdn),hd]
       rw [if_pos hx] at h
       simp only [St.setD,hd2,SV.into,SV.kill_isRoot] at h
       by_cases ho:o.isRoot=true
       ·simp only [ho,if_true,Bool.false_eq_true,if_false,okS,Option.map_some,Option.some.injEq] at h
        subst h
        refine ⟨rfl,fun m=>?_⟩
        by_cases hmd:m=d
        ·subst hmd;simp [St.reg,hdl]
        ·rw [if_neg hmd,List.getElem?_set_ne (Ne.symm hmd)]
         by_cases hmn:m=n
         ·subst hmn;simp [St.reg,hnl,hx,SV.kill]
         ·rw [if_neg hmn]
          simp [St.reg,List.getElem?_set_ne (Ne.symm hmn),kI,ho,hx,Function.comp_def]
       ·simp only [ho,if_false,Bool.false_eq_true,okS,Option.map_some,Option.some.injEq] at h
        subst h
        refine ⟨rfl,fun m=>?_⟩
        by_cases hmd:m=d
        ·subst hmd;simp [St.reg,hdl]
        ·rw [if_neg hmd,List.getElem?_set_ne (Ne.symm hmd)]
         by_cases hmn:m=n
         ·subst hmn;simp [St.reg,hnl,hx]
         ·rw [if_neg hmn]
          simp [St.reg,List.getElem?_set_ne (Ne.symm hmn),kI,ho,hx]
      ·rw [if_neg hx] at h
       simp only [St.setD,hd,SV.into] at h
       by_cases ho:o.isRoot=true
       ·simp only [ho,if_true,Bool.false_eq_true,if_false,okS,Option.map_some,Option.some.injEq] at h
        subst h
        refine ⟨rfl,fun m=>?_⟩
        by_cases hmd:m=d
        ·subst hmd;simp [hdl]
        ·rw [if_neg hmd,List.getElem?_set_ne (Ne.symm hmd)]
         by_cases hmn:m=n
         ·subst hmn;simp [hn,hx,SV.kill]
         ·rw [if_neg hmn]
          simp [kI,ho,hx]
       ·simp only [ho,if_false,Bool.false_eq_true,okS,Option.map_some,Option.some.injEq] at h
        subst h
        refine ⟨rfl,fun m=>?_⟩
        by_cases hmd:m=d
        ·subst hmd;simp [hdl]
        ·rw [if_neg hmd,List.getElem?_set_ne (Ne.symm hmd)]
         by_cases hmn:m=n
         ·subst hmn;simp [hn,hx]
         ·rw [if_neg hmn]
          simp [kI,ho,hx]
   | _=>simp at h
  | _=>simp at h
theorem zoF {hh:H} {d n i:Nat} (hdn:d ≠ n) {s:St} {ps:List D} {p:D} {o:SV} (hn:s.sl[n]? = some (.d (.tup ps))) (hp:ps[i]? = some p) (hd:s.sl[d]? = some o):∃ s1,zbg hh (.ext d (.t n) i) s=some s1:=by
 simp only [zbg,vact,St.tupAt,hn,hp,Option.bind_some]
 by_cases hx:p.hasX=true
 ·have hd2:(s.reg n (.tup (ps.set i .dead))).sl[d]? = some (SV.kill (.slot n) true o):=by
   simp [St.reg,List.getElem?_set_ne (Ne.symm hdn),hd]
  rw [if_pos hx]
  simp only [St.setD,hd2,SV.into,Bool.false_eq_true,if_false]
  by_cases ho:(SV.kill (.slot n) true o).isRoot=true
  ·simp only [ho,if_true,okS,Option.map_some];exact ⟨_,rfl⟩
  ·simp only [ho,if_false,Bool.false_eq_true,okS,Option.map_some];exact ⟨_,rfl⟩
 ·rw [if_neg hx]
  simp only [St.setD,hd,SV.into,Bool.false_eq_true,if_false]
  by_cases ho:o.isRoot=true
  ·simp only [ho,if_true,okS,Option.map_some];exact ⟨_,rfl⟩
  ·simp only [ho,if_false,Bool.false_eq_true,okS,Option.map_some];exact ⟨_,rfl⟩
theorem zvi {d n i:Nat} {s s':St} {ps ps':List D} (h:s.sl[n]? = some (.d (.tup ps))) (h':s'.sl[n]? = some (.d (.tup ps'))) (he:ps[i]? = ps'[i]?):fpI (.ext d (.t n) i) s=fpI (.ext d (.t n) i) s':=by
 simp only [fpI,fpI1,I.xs,I.dst,St.tchs,St.tch,h,h',SV.refs,St.takesI,St.tupAt,he,List.all_nil]
theorem zuo {hh:H} {i k:I} (hx:ziz i k=true) {s s1 s2:St} (h1:zbg hh i s=some s1) (h2:zbg hh k s1=some s2) :
  ∃ t,zbg hh k s=some t∧fpI k s=fpI k s1∧zbg hh i t=some s2∧fpI i t=fpI i s:=by
 unfold ziz at hx
 split at hx
 ·rename_i d n a e m b
  simp only [Bool.and_eq_true,beq_iff_eq,bne_iff_ne,ne_eq] at hx
  obtain ⟨rfl,hab,hde,hdn,hen⟩:=hx
  obtain ⟨ps,p,o,g1,g2,g3,g4,g5⟩:=zlp hdn h1
  obtain ⟨ps',q,o',k1,k2,k3,k4,k5⟩:=zlp hen h2
  have e1:=g5 n
  rw [k1,if_neg (Ne.symm hdn),if_pos rfl] at e1
  have hps':ps'=if p.hasX=true then ps.set a .dead else ps:=by simpa using e1
  have hb:ps'[b]? = ps[b]? := by rw [hps'];split <;> simp [List.getElem?_set_ne hab]
  have e2:=g5 e
  rw [k3,if_neg (Ne.symm hde),if_neg hen] at e2
  obtain ⟨o2,q1,q2⟩:=Option.map_eq_some_iff.1 e2.symm
  have hor:o'.isRoot=o2.isRoot:=by rw [<- q2,zkd,zkd]
  obtain ⟨t,ht⟩:=zoF (hh:=hh) (i:=b) hen g1 (hb ▸ k2) q1
  obtain ⟨ps2,q',o3,r1,r2,r3,r4,r5⟩:=zlp hen ht
  rw [g1] at r1;cases r1
  rw [<- hb,k2] at r2;cases r2
  rw [q1] at r3;cases r3
  have tn:=r5 n
  rw [if_neg (Ne.symm hen),if_pos rfl] at tn
  have td:=r5 d
  rw [if_neg hde,if_neg hdn,g3,Option.map_some] at td
  have ha:(if q.hasX=true then ps.set b .dead else ps)[a]? = some p:=by
   split
   ·rw [List.getElem?_set_ne (Ne.symm hab)];exact g2
   ·exact g2
  obtain ⟨t2,ht2⟩:=zoF (hh:=hh) (i:=a) hdn tn ha td
  obtain ⟨ps3,p',o4,w1,w2,w3,w4,w5⟩:=zlp hdn ht2
  rw [tn] at w1;cases w1
  rw [ha] at w2;cases w2
  rw [td] at w3;cases w3
  refine ⟨t,ht,zvi g1 k1 hb.symm,?_,zvi tn g1 (ha.trans g2.symm)⟩
  rw [ht2]
  congr 1
  have hsto:t2.sto=s2.sto:=by rw [w4,r4,k4,g4]
  have hsl:t2.sl=s2.sl:=by
   apply List.ext_getElem?
   intro m
   rw [w5 m,k5 m]
   by_cases hmd:m=d
   ·subst hmd
    rw [if_pos rfl,if_neg hde,if_neg hdn,g5 m,if_pos rfl,Option.map_some,kI_d,kI_d]
   ·rw [if_neg hmd]
    by_cases hme:m=e
    ·subst hme
     rw [if_pos rfl,if_neg hen,r5 m,if_pos rfl,Option.map_some,kI_d,kI_d]
    ·rw [if_neg hme]
     by_cases hmn:m=n
     ·subst hmn
      rw [if_pos rfl,if_pos rfl,hps']
      cases p.hasX <;> cases q.hasX <;> simp [List.set_comm _ _ hab]
     ·rw [if_neg hmn,if_neg hmn,r5 m,if_neg hme,if_neg hmn,g5 m,if_neg hmd,if_neg hmn,Option.map_map,Option.map_map]
      congr 1
      funext v
      simp only [Function.comp,hor,zkd]
      rw [zlo p.hasX o2.isRoot,zlo o.isRoot o2.isRoot,zlo p.hasX q.hasX,zlo o.isRoot q.hasX]
  obtain ⟨l1,l2⟩:=t2
  obtain ⟨l3,l4⟩:=s2
  simp only at hsl hsto
  rw [hsl,hsto]
 ·cases hx
theorem zvj {hh:H} {k:I} {fk:FPt} {post:List I} {s':St} {fpost:List FPt}:∀ {pre:List I} {fpre:List FPt} {s:St},zdB hh (pre++k::post) s=some (s',fpre++fk::fpost)->fpre.length=pre.length->(∀ (j:Nat) f i,fpre[j]? = some f->pre[j]? = some i->zjI f fk=true ∨ ziz i k=true) ->
  ∃ s1,zbg hh k s=some s1∧fpI k s=fk∧zdB hh (pre++post) s1=some (s',fpre++fpost)
 | [],fpre,s,h,hl,hap=>by
  obtain rfl:fpre=[]:=List.eq_nil_of_length_eq_zero hl
  simp only [List.nil_append,zdB] at h
  split at h
  ·rename_i s1 h1
   obtain ⟨q,hq,e⟩:=Option.map_eq_some_iff.1 h
   simp only [Prod.mk.injEq,List.cons.injEq] at e
   obtain ⟨rfl,e1,rfl⟩:=e
   exact ⟨s1,h1,e1,by simpa using hq⟩
  ·cases h
 | i::pre,[],s,h,hl,hap=>by simp at hl
 | i::pre,fi::fpre,s,h,hl,hap=>by
  simp only [List.cons_append,zdB] at h
  split at h
  ·rename_i si h1
   obtain ⟨q,hq,e⟩:=Option.map_eq_some_iff.1 h
   obtain ⟨q1,q2⟩:=q
   simp only [Prod.mk.injEq,List.cons.injEq] at e
   obtain ⟨rfl,rfl,rfl⟩:=e
   obtain ⟨s1,h3,h4,h5⟩:=zvj (pre:=pre) (fpre:=fpre) hq (by simpa using hl) (fun j f i' hf hi'=>hap (j + 1) f i' (by simpa using hf) (by simpa using hi'))
   have hap0:=hap 0 _ i rfl rfl
   rw [<- h4] at hap0
   obtain ⟨t,g1,g2,g3,g4⟩:=hap0.elim (zqP h1 h3) (fun e=>zuo e h1 h3)
   refine ⟨t,g1,g2.trans h4,?_⟩
   simp only [List.cons_append,zdB,g3,h5,Option.map_some,g4]
  ·cases h
end Go.Vx
namespace Go.Vx
def zkT (acc:Array Nat) (o:Oper):Nat:=o.after.foldl (fun s e=>if Region.binds .any e then s ||| 2 ^ e.on ||| acc.getD e.on 0 else s) 0
theorem zqQ (ops:Array Oper):Region.before ops=ops.toList.foldl (fun acc o=>acc.push (zkT acc o)) #[]:=by
 rw [Array.foldl_toList]
 rfl
theorem zoG {acc:Array Nat} {j:Nat}:∀ {l:List Edge} {s:Nat},(l.foldl (fun s e=>if Region.binds .any e then s ||| 2 ^ e.on ||| acc.getD e.on 0 else s) s).testBit j=true ->
  s.testBit j=true ∨ ∃ e ∈ l,Region.binds .any e=true∧(j=e.on ∨ (acc.getD e.on 0).testBit j=true)
 | [],s,h=>.inl h
 | e::l,s,h=>by
  simp only [List.foldl_cons] at h
  rcases zoG h with h|⟨f,hf,h1,h2⟩
  ·split at h
   ·rename_i hb
    simp only [Nat.testBit_or,Bool.or_eq_true] at h
    rcases h with (h|h)|h
    ·exact .inl h
    ·rw [Nat.testBit_two_pow] at h
     exact .inr ⟨e,List.mem_cons_self ..,hb,.inl (by simp at h;exact h.symm)⟩
    ·exact .inr ⟨e,List.mem_cons_self ..,hb,.inr h⟩
   ·exact .inl h
  ·exact .inr ⟨f,List.mem_cons_of_mem _ hf,h1,h2⟩
theorem zkU:∀ (l:List Oper) (acc:Array Nat),let r:=l.foldl (fun acc o=>acc.push (zkT acc o)) acc
  r.size=acc.size + l.length∧(∀ i,i<acc.size->r[i]? = acc[i]?)∧∀ i o,l[i]? = some o->∃ pre:Array Nat,pre.size=acc.size + i∧(∀ k,k<acc.size + i->pre[k]? = r[k]?)∧r[acc.size + i]? = some (zkT pre o)
 | [],acc=>⟨by simp,fun _ _=>rfl,fun i o h=>by simp at h⟩
 | x::l,acc=>by
  obtain ⟨h1,h2,h3⟩:=zkU l (acc.push (zkT acc x))
  simp only [List.foldl_cons]
  rw [Array.size_push] at h1 h2 h3
  refine ⟨by rw [h1];simp;omega,fun i hi=>?_,fun i o ho=>?_⟩
  ·rw [h2 i (by omega),Array.getElem?_push]
   rw [if_neg (by omega)]
  ·cases i with
   | zero =>
    simp only [List.getElem?_cons_zero,Option.some.injEq] at ho
    subst ho
    refine ⟨acc,by simp,fun k hk=>?_,?_⟩
    ·rw [h2 k (by omega),Array.getElem?_push,if_neg (by omega)]
    ·rw [Nat.add_zero,h2 _ (by omega),Array.getElem?_push,if_pos rfl]
   | succ i =>
    simp only [List.getElem?_cons_succ] at ho
    obtain ⟨pre,q1,q2,q3⟩:=h3 i o ho
    refine ⟨pre,by omega,fun k hk=>q2 k (by omega),?_⟩
    rw [show acc.size + (i + 1)=acc.size + 1 + i by omega]
    exact q3
theorem zpC {ops:Array Oper} (hb:zho ops=true) {i j:Nat} {o:Oper} (ho:ops[i]? = some o) (h:((Region.before ops).getD i 0).testBit j=true) :
  ∃ e ∈ o.after,Region.binds .any e=true∧(j=e.on ∨ ((Region.before ops).getD e.on 0).testBit j=true):=by
 obtain ⟨h1,h2,h3⟩:=zkU ops.toList #[]
 rw [<- zqQ] at h1 h2 h3
 obtain ⟨pre,q1,q2,q3⟩:=h3 i o (by simpa using ho)
 simp only [List.size_toArray,List.length_nil,Nat.zero_add] at q1 q2 q3
 have e1:(Region.before ops).getD i 0=zkT pre o:=by simp [q3]
 rw [e1] at h
 unfold zkT at h
 rw [<- Array.foldl_toList] at h
 rcases zoG h with h|⟨e,he,hbd,hc⟩
 ·simp at h
 ·have heo:e ∈ o.after:=Array.mem_toList_iff.1 he
  refine ⟨e,heo,hbd,hc.imp id (fun hc=>?_)⟩
  have hlt:e.on<i:=by
   have hi:i<ops.size:=(Array.getElem?_eq_some_iff.1 ho).1
   have:=List.all_eq_true.1 hb i (List.mem_range.2 hi)
   simp only [ho] at this
   have:=Array.all_eq_true_iff_forall_mem.1 this e heo
   simpa [hbd] using this
  have:pre.getD e.on 0=(Region.before ops).getD e.on 0:=by simp only [Array.getD_eq_getD_getElem?];rw [q2 _ hlt]
  rwa [this] at hc
def Down (ops:Array Oper) (listed:Array Bool):Prop:=∀ i,listed.getD i false=true->∀ j,((Region.before ops).getD i 0).testBit j=true->listed.getD j false=true
theorem zkV {ops:Array Oper} (hb:zho ops=true) {listed:Array Bool} (hd:Down ops listed) {i:Nat} (hr:i ∈ Region.ready .any ops listed):∀ j,((Region.before ops).getD i 0).testBit j=true->listed.getD j false=true:=by
 intro j hj
 obtain ⟨_,o,ho,hall⟩:=mem_ready.1 hr
 obtain ⟨e,he,hbd,hc⟩:=zpC hb ho hj
 rcases hc with rfl|hc
 ·exact hall e he hbd
 ·exact hd e.on (hall e he hbd) j hc
theorem Down.set {ops:Array Oper} (hb:zho ops=true) {listed:Array Bool} (hd:Down ops listed) {i:Nat} (hr:i ∈ Region.ready .any ops listed):Down ops (listed.setIfInBounds i true):=by
 intro k hk j hj
 by_cases hki:i=k
 ·subst hki
  exact getD_set_true (zkV hb hd hr j hj)
 ·rw [getD_set_ne false hki] at hk
  exact getD_set_true (hd k hk j hj)
theorem zqR {ops:Array Oper} {i j:Nat} (hj:j<ops.size) (hij:i<j) (hb:((Region.before ops).getD j 0).testBit i=false):(i,j) ∈ zjM ops:=by
 unfold zjM
 refine List.mem_flatMap.2 ⟨j,List.mem_range.2 hj,List.mem_map.2 ⟨i,List.mem_filter.2 ⟨List.mem_range.2 hij,?_⟩,rfl⟩⟩
 simp only [Bool.not_eq_true']
 exact hb
end Go.Vx

