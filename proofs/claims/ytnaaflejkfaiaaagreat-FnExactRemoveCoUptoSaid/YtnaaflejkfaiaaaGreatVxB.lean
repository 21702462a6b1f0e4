/-
  An evaluator for the model's code on values, and the proof that what it tells of a call the program does; part 2.
-/
import Derived.Test.YtnaaflejkfaiaaaGreatVxA
import Derived.Laws.MakeOwn
import Derived.Deep.AppendSrc
import Derived.Lib.ConvBytes
import Derived.Laws.BytesString
set_option linter.unusedVariables false
set_option linter.unusedSimpArgs false
namespace Go.Vx
section
variable {P:Program} {E:Env} {hand:List Nat} {a:Act} {w:World} {s:St} {I:Nat->Prop} {ι:List Nat} {Fs Gs:List (List Nat)}
theorem zfu {op:BinOp} {neg:Bool} (h:isEq op=some neg):(op=.eql∧neg=false) ∨ (op=.neq∧neg=true):=by
 cases op <;> simp [isEq] at h <;> simp [h]
theorem zzw (h:Sim E [] a w s I ι Fs Gs) {o:Oper} {d:Nat} (hd:o.dst=some d) (hp:∀ v,(d,v) ∉ E.pin) {op:BinOp} {neg:Bool} (hop:isEq op=some neg) {x1 x2:Operand} {y1 y2:X} {t t1 t2 t3:TypeId}
  (ho:o.op=.binOp op t x1 x2 t3) (ht:P.underlying t=some .bool) (hc1:cX P t1 x1=some y1) (hc2:cX P t2 x2=some y2) {s':St} (hv:vact (.eqb d neg y1 y2) s=some (.st s')):Done P o a w E s':=by
 simp only [vact] at hv
 split at hv
 ·rename_i b c h1 h2
  obtain ⟨F1,r1,_⟩:=h.rd h1 (zal hc1 a)
  obtain ⟨F2,r2,_⟩:=h.rd h2 (zal hc2 a)
  refine h.doneD hd hp (zac hv) (v:=.bool (if neg=true then !(b == c) else b == c)) ?_ (.bool ..)
  have hagg:zdc P t=some false:=by simp [zdc,ht]
  have hks:cks P 1 t=some [.bool]:=by simp [cks,ht]
  have heq:(Op.equal t (.bool b) (.bool c)).run P w=.ok (b == c) w :=
   zlf (d:=Op.maxDepth) (I:=I) (ι:=ι) hks (by decide) (.inr ⟨hagg,rfl⟩) (.inr ⟨hagg,rfl⟩) (RepL.one (.bool ι b)) (RepL.one (.bool ι c)) (by simp [zcc,zgP])
  have hgrd:(eqGuard op t x1 x2 (.bool b) (.bool c)).run P w=.ok () w:=by
   rcases zfu hop with ⟨rfl,rfl⟩|⟨rfl,rfl⟩ <;> simp [eqGuard,Sem.run,pure]
  have hbin:(binOp op t (.bool b) (.bool c)).run P w=.ok (.bool (if neg=true then !(b == c) else b == c)) w:=by
   rcases zfu hop with ⟨rfl,rfl⟩|⟨rfl,rfl⟩
   ·simp only [binOp,Sem.run_bind,heq,Result.andThen_ok];simp [Sem.run,pure]
   ·simp only [binOp,Sem.run_bind,heq,Result.andThen_ok];simp [Sem.run,pure]
  simp only [execOp,ho,r1.is_bool,r2.is_bool,Sem.run_bind,hgrd,hbin,Result.andThen_ok]
  simp [Sem.run,pure]
 ·cases hv
theorem zzx (h:Sim E [] a w s I ι Fs Gs) {o:Oper} {d:Nat} (hd:o.dst=some d) (hp:∀ v,(d,v) ∉ E.pin) {op:BinOp} {neg:Bool} (hop:isEq op=some neg) {x1 x2:Operand} {y1 y2:X} {t t1 t2 t3:TypeId} {ks:List CK} {fs:Array Field}
  (ho:o.op=.binOp op t x1 x2 t3) (ht:P.underlying t=some (.struct fs)) (hk:cks P 10 t=some ks) (hg:P.eqGuardType P.depth t=false) (hc1:cX P t1 x1=some y1) (hc2:cX P t2 x2=some y2) {s':St}
  (hv:vact (.eqa d neg ks y1 y2) s=some (.st s')):Done P o a w E s':=by
 simp only [vact] at hv
 split at hv
 ·rename_i as bs h1 h2
  obtain ⟨r,h3,h4⟩:=zaB (zac hv)
  obtain ⟨F1,r1,_⟩:=h.rd h1 (zal hc1 a)
  obtain ⟨F2,r2,_⟩:=h.rd h2 (zal hc2 a)
  obtain ⟨vx,e1,q1,_⟩:=r1.is_agg
  obtain ⟨vy,e2,q2,_⟩:=r2.is_agg
  have hagg:zdc P t=some true:=by simp [zdc,ht]
  have hrun:=zlf (d:=Op.maxDepth) hk (by decide) (.inl ⟨hagg,rfl⟩) (.inl ⟨hagg,rfl⟩) q1 q2 h3
  refine h.doneD hd hp h4 (v:=.bool (if neg=true then !r else r)) ?_ (.bool ..)
  have hgrd:(eqGuard op t x1 x2 (a.eval x1) (a.eval x2)).run P w=.ok () w:=by
   rw [e1,e2]
   rcases zfu hop with ⟨rfl,rfl⟩|⟨rfl,rfl⟩ <;> simp [eqGuard,hg,program,Sem.run,pure,bind,Sem.bind]
  have heq:(Op.equal t (a.eval x1) (a.eval x2)).run P w=.ok r w:=by rw [e1,e2];exact hrun
  have hbin:(binOp op t (a.eval x1) (a.eval x2)).run P w=.ok (.bool (if neg=true then !r else r)) w:=by
   rw [e1,e2] at heq ⊢
   rcases zfu hop with ⟨rfl,rfl⟩|⟨rfl,rfl⟩ <;> simp [binOp,Sem.run_bind,heq,Sem.run,pure]
  simp only [execOp,ho,Sem.run_bind,hgrd,hbin,Result.andThen_ok]
  simp [Sem.run,pure]
 ·cases hv
theorem zzy (h:Sim E [] a w s I ι Fs Gs) {o:Oper} {d:Nat} (hd:o.dst=some d) (hp:∀ v,(d,v) ∉ E.pin) {op:BinOp} {neg:Bool} (hop:isEq op=some neg) {x1 x2:Operand} {y1:X} {oo:Bool} {zz:Nat} {t t1 t2 t3 e:TypeId}
  (ho:o.op=.binOp op t x1 x2 t3) (ht:P.underlying t=some (.slice e)) (hc1:cX P t1 x1=some y1) (hc2:cX P t2 x2=some (.c (.sl oo zz []))) {s':St} (hv:vact (.isn d neg y1) s=some (.st s')):Done P o a w E s':=by
 have hx2:a.eval x2=.slice none 0 0:=by
  cases x2 with
  | tmp t=>cases hc2
  | func f=>simp [cX] at hc2
  | global g=>cases hc2
  | const v =>
   simp only [cX,Option.map_eq_some_iff] at hc2
   obtain ⟨d,hd,e⟩:=hc2
   simp only [X.c.injEq] at e
   subst e
   unfold zmk at hd
   split at hd
   all_goals first|rfl|(cases hd;done)
 have hgrd:∀ v n c,(eqGuard op t x1 x2 (.slice v n c) (.slice none 0 0)).run P w=.ok () w:=by
  intro v n c
  rcases zfu hop with ⟨rfl,rfl⟩|⟨rfl,rfl⟩ <;> simp [eqGuard,Sem.run,pure]
 have heq:∀ v n c,(Op.equal t (.slice v n c) (.slice none 0 0)).run P w=.ok v.isNone w:=by
  intro v n c
  unfold Op.equal Op.maxDepth
  unfold Op.equalIn
  cases v <;> simp [Sem.run,pure,bind,Sem.bind,underlying,program,ht]
 have hbin:∀ v n c,(binOp op t (.slice v n c) (.slice none 0 0)).run P w=.ok (.bool (if neg=true then !v.isNone else v.isNone)) w:=by
  intro v n c
  rcases zfu hop with ⟨rfl,rfl⟩|⟨rfl,rfl⟩
  ·simp only [binOp,Sem.run_bind,heq,Result.andThen_ok];simp [Sem.run,pure]
  ·simp only [binOp,Sem.run_bind,heq,Result.andThen_ok];simp [Sem.run,pure]
 have hrun:∀ v n c,a.eval x1=.slice v n c->(execOp a.eval o).run P w=.ok (.value (.bool (if neg=true then !v.isNone else v.isNone))) w:=by
  intro v n c e1
  simp only [execOp,ho,e1,hx2,Sem.run_bind,hgrd,hbin,Result.andThen_ok]
  simp [Sem.run,pure]
 simp only [vact] at hv
 split at hv
 ·rename_i o1 z1 h1
  obtain ⟨F1,r1,_⟩:=h.rd h1 (zal hc1 a)
  generalize hev:a.eval x1=v1 at r1
  cases r1 with
  | nil=>exact h.doneD hd hp (zac hv) (v:=.bool (if neg=true then !(none:Option Addr).isNone else (none:Option Addr).isNone)) (hrun _ _ _ hev) (.anyb ..)
  | emp _ _ _ aa=>exact h.doneD hd hp (zac hv) (v:=.bool (if neg=true then !(some aa).isNone else (some aa).isNone)) (hrun _ _ _ hev) (.anyb ..)
  | empS _ _ aa cap=>exact h.doneD hd hp (zac hv) (v:=.bool (if neg=true then !(some aa).isNone else (some aa).isNone)) (hrun _ _ _ hev) (.anyb ..)
  | shr _ b of n cap _ _ vs _ _ _ _ _ _=>exact h.doneD hd hp (zac hv) (v:=.bool (if neg=true then !(some (⟨b,of,none⟩:Addr)).isNone else (some (⟨b,of,none⟩:Addr)).isNone)) (hrun _ _ _ hev) (.anyb ..)
  | own _ b of n cap _ _ vs E1 c1 F1 _ _ _ _ _ _ _ _=>exact h.doneD hd hp (zac hv) (v:=.bool (if neg=true then !(some (⟨b,of,none⟩:Addr)).isNone else (some (⟨b,of,none⟩:Addr)).isNone)) (hrun _ _ _ hev) (.anyb ..)
 ·rename_i o1 z1 u us h1
  obtain ⟨F1,r1,_⟩:=h.rd h1 (zal hc1 a)
  have hb:(if neg=true then !false else false)=neg:=by cases neg <;> rfl
  generalize hev:a.eval x1=v1 at r1
  cases r1 with
  | shr _ b of n cap _ _ vs _ _ _ _ _ _=>exact h.doneD hd hp (zac hv) (v:=.bool neg) (by have:=hrun _ _ _ hev;simp only [Option.isNone_some,hb] at this;exact this) (.bool ..)
  | own _ b of n cap _ _ vs E1 c1 F1 _ _ _ _ _ _ _ _=>exact h.doneD hd hp (zac hv) (v:=.bool neg) (by have:=hrun _ _ _ hev;simp only [Option.isNone_some,hb] at this;exact this) (.bool ..)
 ·cases hv
theorem znk (h:Sim E [] a w s I ι Fs Gs) {o:Oper} {d:Nat} (hd:o.dst=some d) (hp:∀ v,(d,v) ∉ E.pin) {x:Operand} {y:X} {ty src dst:TypeId} {k k0:IntKind} (ho:o.op=.convert src dst x)
  (h1:P.underlying src=some (.int k0)) (h2:P.underlying dst=some (.int k)) (hc:cX P ty x=some y) {s':St} (hv:vact (.conv d (.int k) y) s=some (.st s')):Done P o a w E s':=by
 obtain ⟨z,g1,g2⟩:=zaB (zac hv)
 obtain ⟨r,g3,g4⟩:=zaB g2
 obtain ⟨Fx,hr,_⟩:=h.rd g1 (zal hc a)
 obtain ⟨k1,n,rfl,rfl⟩:∃ k1 n,z=.int k1 n∧r=.int k (k.wrap n):=by
  cases z <;> simp [zlc] at g3
  rename_i k1 n
  exact ⟨k1,n,rfl,g3.symm⟩
 refine h.doneD hd hp g4 (v:=.int k (k.wrap n)) ?_ (.int ..)
 simp [execOp,ho,hr.is_int,convert,underlying,program,h1,h2,Conv.intToInt,Sem.run,pure,bind,Sem.bind]
theorem zml (h:Sim E [] a w s I ι Fs Gs) {o:Oper} {d:Nat} (hd:o.dst=some d) (hp:∀ v,(d,v) ∉ E.pin) {x:Operand} {y:X} {ty src dst:TypeId} (ho:o.op=.convert src dst x)
  (h1:P.underlying src=some .string) (h2:P.underlying dst=some .string) (hc:cX P ty x=some y) {s':St} (hv:vact (.conv d .same y) s=some (.st s')):Done P o a w E s':=by
 obtain ⟨z,g1,g2⟩:=zaB (zac hv)
 obtain ⟨r,g3,g4⟩:=zaB g2
 obtain ⟨Fx,hr,_⟩:=h.rd g1 (zal hc a)
 obtain ⟨b,rfl,rfl⟩:∃ b,z=.str b∧r=.str b:=by
  cases z <;> simp [zlc] at g3
  rename_i b
  exact ⟨b,rfl,g3.symm⟩
 refine h.doneD hd hp g4 (v:=.string b) ?_ (.str ..)
 simp [execOp,ho,hr.is_str,convert,underlying,program,h1,h2,Sem.run,pure,bind,Sem.bind]
theorem zhp {x:X} {n:Nat} (h:s.num x=some n):∃ k,s.rd x=some (.int k n):=by
 unfold St.num at h
 split at h
 ·rename_i k m hr
  split at h
  ·cases h;exact ⟨k,by rw [hr];congr 2;omega⟩
  ·cases h
 ·cases h
theorem zzz (h:Sim E [] a w s I ι Fs Gs) {o:Oper} {d:Nat} (hd:o.dst=some d) (hp:∀ v,(d,v) ∉ E.pin) {x1 x2:Operand} {y1 y2:X} {t t1 t2:TypeId} (ho:o.op=.index t x1 x2)
  (ht:P.underlying t=some .string) (hc1:cX P t1 x1=some y1) (hc2:cX P t2 x2=some y2) {s':St} (hv:vact (.ixs d y1 y2) s=some (.st s')):Done P o a w E s':=by
 simp only [vact] at hv
 split at hv
 ·rename_i b hb
  obtain ⟨n,h1,h2⟩:=zaB (zac hv)
  obtain ⟨c,h3,h4⟩:=zaB h2
  obtain ⟨k,hk⟩:=zhp h1
  obtain ⟨F1,r1,_⟩:=h.rd hb (zal hc1 a)
  obtain ⟨F2,r2,_⟩:=h.rd hk (zal hc2 a)
  refine h.doneD hd hp h4 (v:=.int .u8 c.toNat) ?_ (.int ..)
  have hg:b[n]? = some c:=by
   have hlt:n<b.data.size:=by simpa using getElem?_lt h3
   have e:b.data.toList[n]=c:=by
    have:=List.getElem?_eq_getElem (l:=b.data.toList) (i:=n) (by simpa using hlt)
    rw [this] at h3;exact Option.some.inj h3
   have hs:n<b.size:=hlt
   rw [getElem?_pos b n hs]
   congr 1
  simp [execOp,ho,r1.is_str,r2.is_int,Instr.index,asIntOf,underlying,program,ht,hg,Sem.run,pure,bind,Sem.bind]
 ·cases hv
theorem zzA (h:Sim E [] a w s I ι Fs Gs) {o:Oper} {d:Nat} (hd:o.dst=some d) (hp:∀ v,(d,v) ∉ E.pin) {x:Operand} {y:X} {i:Nat} {ty:TypeId} (ho:o.op=.extract x i)
  (hc:cX P ty x=some y) {s':St} (hv:vact (.ext d y i) s=some (.st s')):Done P o a w E s':=by
 simp only [vact] at hv
 split at hv
 ·rename_i n ps ht
  obtain ⟨p,h1,h2⟩:=zaB (zac hv)
  obtain ⟨rfl,hs⟩:=zkL ht
  have hx:a.eval x=a.tmps.getD n undef:=zal hc a
  have h0:=h.slot n _ hs
  obtain ⟨vs,e,hr⟩:=Rep.is_tup h0
  obtain ⟨va,v,vb,Fa,G,Fb,rfl,hla,hF,hra,hrv,hrb⟩:=hr.at h1
  have hrun:(execOp a.eval o).run P w=.ok (.value v) w:=by
   have hi:(va++v::vb)[i]? = some v:=by rw [List.getElem?_append_right (by omega)];simp [hla]
   simp only [execOp,ho,hx,e,Instr.extract]
   simp [hi,Sem.run,pure,bind,Sem.bind]
  split at h2
  ·
   have hl:=zie D.dead h1
   obtain ⟨n1,n2,n3⟩:=h.nodup2
   have hroot:s.root (.slot n)=some [.tup ps]:=by simp [St.root,hs]
   have hset:s.setRoot (.slot n) [.tup (ps.set i .dead)]=some { s with sl:=s.sl.set n (.d (.tup (ps.set i .dead))) }:=by simp [St.setRoot,hs]
   have hri:zaC w a s ι (.slot n) [a.tmps.getD n undef] [.tup ps] none:=.inr ⟨_,hs,rfl,rfl,rfl⟩
   have hFP:FP Fs Gs (.slot n)=Fa++(G++Fb):=hF
   have hnFP:(Fa++(G++Fb)).Nodup:=by
    obtain ⟨F,_,hn,hF',_⟩:=zbe h hri
    rw [hFP] at hF'
    rw [hF'];exact hn
   have hnew:Rep w I ι (a.tmps.getD n undef) (.tup (ps.set i .dead)) (Fa++Fb):=by
    rw [e,hl]
    exact .tup _ _ _ _ (hra.append (.cons _ _ _ [] _ _ _ (.dead ..) hrb))
   have hperm:(Fa++(G++Fb)).Perm ((Fa++Fb)++G):=by
    rw [List.perm_iff_count];intro x;simp [List.count_append];omega
   obtain ⟨Fs2,Gs2,hsim⟩:=h.recells hri hroot hset rfl true (F2:=Fa++Fb) (hand2:=G++[]) (I2:=I) (RepL.one hnew) (fun _ h=>h) (fun _ h=>.inl h)
    (by
     intro b hb
     have hb':b ∈ FP Fs Gs (.slot n):=by rw [hFP];exact hperm.mem_iff.2 (by simpa using hb)
     exact ⟨(h.apart b (by rw [<- List.append_assoc];exact mAL _ (h.FP_sub hb'))).1,.inl hb'⟩)
    (by simpa using hperm.nodup_iff.1 hnFP)
    (fun b o e=>by cases e)
   have e':(St.kill { s with sl:=s.sl.set n (.d (.tup (ps.set i .dead))) } (.slot n) true)=s.reg n (.tup (ps.set i .dead)):=by
    simp [St.kill,St.reg,List.map_set,SV.kill_d]
   rw [e'] at hsim
   obtain ⟨Fs3,g3⟩:=Sim.setVal (hand:=[]) hsim h2 hp hrv
   exact ⟨_,w,_,I,ι,Fs3,Gs2,hrun,.inl rfl,by rw [hd];exact g3⟩
  ·rename_i hX
   have:G=[]:=hrv.noX (by simpa using hX)
   subst this
   exact h.doneD hd hp h2 hrun hrv
 ·cases hv
theorem zzB (h:Sim E [] a w s I ι Fs Gs) {o:Oper} {d:Nat} (hd:o.dst=some d) (hp:∀ v,(d,v) ∉ E.pin) {x:Operand} {y:X} {fi:Nat} {ty t:TypeId} {fs:Array Field} {f:Field} {k:BK} (ho:o.op=.field t x fi)
  (ht:P.underlying t=some (.struct fs)) (hf:fs[fi]? = some f) (hk:bkOf P f.type=some k)
  (hc:cX P ty x=some y) {s':St} (hv:vact (.fld d k f.offset y) s=some (.st s')):Done P o a w E s':=by
 simp only [vact] at hv
 split at hv
 ·rename_i cs hcs
  obtain ⟨z,h1,h2⟩:=zaB (zac hv)
  split at h2
  ·cases h2
  ·rename_i hX
   obtain ⟨F1,r1,_⟩:=h.rd hcs (zal hc a)
   obtain ⟨vs,e,hr,hon⟩:=r1.is_agg
   have hlen:=hr.length
   unfold bkOf at hk
   have fin:∀ v,zig vs cs f.offset k v->(part f.type vs.toArray f.offset).run P w=.ok v w->Done P o a w E s':=by
    intro v hva hrun
    obtain ⟨Fx,L,R,q1,_,_⟩:=zft hr h1 hva
    rw [q1.noX (by simpa using hX)] at q1
    refine h.doneD hd hp h2 ?_ q1
    simp only [execOp,ho,e,Instr.field,Sem.run_bind,run_underlying ht,Result.andThen_ok,hf,asAgg]
    simp [Sem.run,pure,hrun,Sem.run_bind]
   split at hk
   ·rename_i i hb hi
    cases hk
    simp only [zej] at h1
    split at h1
    ·rename_i hle
     refine fin (.agg ((vs.drop f.offset).take i.size).toArray) ⟨by omega,fun v hv=>hon v (List.mem_of_mem_drop (List.mem_of_mem_take hv)),rfl⟩ ?_
     obtain ⟨v,hv1,hv2⟩:=zjA (P:=P) (w:=w) (xs:=vs.toArray) (off:=f.offset) (n:=i.size) hi rfl hb (fun e=>by cases e) (by simpa [hlen] using hle)
     rcases hv2 with ⟨_,rfl⟩|⟨e',_⟩
     ·simpa using hv1
     ·rw [hb] at e';cases e'
    ·cases h1
   ·rename_i i hb hi
    split at hk
    ·rename_i hsz
     cases hk
     simp only [zej] at h1
     have hlt:=getElem?_lt h1
     obtain ⟨v,hv1,hv2⟩:=zjA (P:=P) (w:=w) (xs:=vs.toArray) (off:=f.offset) (n:=1) hi hsz hb (fun _=>rfl) (by simp [hlen];omega)
     rcases hv2 with ⟨e',_⟩|⟨_,e2⟩
     ·rw [hb] at e';cases e'
     ·refine fin v ?_ hv1
      simp only [zig]
      have hl2:f.offset<vs.length:=by omega
      have:(vs.drop f.offset).take 1=[vs[f.offset]]:=by rw [List.drop_eq_getElem_cons hl2];rfl
      simp only [List.toList_toArray] at e2
      rw [this] at e2
      simp only [List.cons.injEq,and_true] at e2
      rw [List.getElem?_eq_getElem hl2,e2]
    ·cases hk
   ·cases hk
 ·cases hv
theorem Sim.place (h:Sim E hand a w s I ι Fs Gs) {y:X} {p:Place} (hy:s.place y=some p) {v:Value} (hv:XV a y v):zgf w a s ι v (.ptr p)∧zgs s (.ptr p):=by
 cases y with
 | c d=>cases hy
 | t n =>
  cases hv
  simp only [St.place] at hy
  split at hy
  ·rename_i q hs
   cases hy
   exact ⟨h.good n _ hs,fun u hu=>h.rooted n _ u hs hu⟩
  ·rename_i cs hs
   cases hy
   have:=h.sv (x:=.t n) (sv:=.ptr ⟨.slot n,[],0⟩) (by simp [St.sv,hs]) rfl
   exact ⟨this.2.1,this.2.2⟩
  ·rename_i r off hs
   cases hy
   refine ⟨?_,fun u hu=>by simp [SV.into] at hu⟩
   obtain ⟨b,hb,e,_⟩:=Rep.is_ref (h.slot n _ hs)
   intro vs ds bo vs' ds' bo' g1 g2
   cases g2
   obtain ⟨b',c,T,_,hi,_,_,rfl⟩:=g1
   rw [hb] at hi
   cases hi
   exact ⟨b,0,rfl,by rw [e];simp⟩
  ·cases hy
theorem zlg {y:X} {cs:List D} {off:Nat} (h:s.imm y=some (cs,off)):∃ n,y=.t n∧s.sl[n]? = some (.d (.pim cs off)):=by
 cases y with
 | c d=>cases h
 | t n =>
  simp only [St.imm] at h
  split at h
  ·rename_i hs;cases h;exact ⟨n,rfl,hs⟩
  ·cases h
theorem zgf.off {v:Value} {p:Place} (hok:zgf w a s ι v (.ptr p)) {m:Nat} (hz:∃ b o,v=.pointer (some ⟨b,o,none⟩)) {v':Value} (hv':∀ b o,v=.pointer (some ⟨b,o,none⟩)->v'=.pointer (some ⟨b,o + m,none⟩)) :
  zgf w a s ι v' (.ptr ⟨p.root,p.steps,p.off + m⟩):=by
 intro vs ds bo vs' ds' bo' g1 g2
 obtain ⟨b,o,e,e2⟩:=hok _ _ _ _ _ _ g1 g2
 refine ⟨b,o,e,?_⟩
 rw [hv' _ _ e2];simp [Nat.add_assoc]
theorem zhI {f:Field} {n:Nat} (hn:zcd P f.type=some (n + 1)) (ad:Addr):(fieldPlace ad f).run P w=.ok (ad.add f.offset) w:=by
 simp only [zcd,Option.map_eq_some_iff] at hn
 obtain ⟨i,hi,hs⟩:=hn
 simp [fieldPlace,sizeOf,typeInfo,program,hi,hs,Sem.run,pure,bind,Sem.bind]
theorem zgs.off {p:Place} {m:Nat} (h:zgs s (.ptr p)):zgs s (.ptr ⟨p.root,p.steps,p.off + m⟩):=by
 intro u hu
 obtain ⟨x,h1,h2,h3⟩:=h u hu
 exact ⟨x,h1,h2,fun q e hst=>by cases e;exact h3 p rfl hst⟩
theorem zlh {w:World} {I:Nat->Prop} {ι:List Nat} {b o k wd:Nat} {cs:List D} {vs:List Value} (h1:I b) (h2:zaA w b o vs) (h3:ones vs) (h4:RepL w I [] vs cs []):Rep w I ι (.pointer (some ⟨b,o + k,none⟩)) (pimN cs k wd) []:=by
 unfold pimN
 split
 ·exact .pim _ _ _ _ _ _ h1 h2 h3 h4
 ·rename_i hn
  have e:cs=cs.take k++((cs.drop k).take wd++cs.drop (k + wd)):=by
   have:(cs.drop k).drop wd=cs.drop (k + wd):=by rw [List.drop_drop]
   rw [<- this,List.take_append_drop,List.take_append_drop]
  rw [e] at h4
  obtain ⟨u1,u23,G1,G23,rfl,e1,hl1,r1,r23⟩:=h4.split
  obtain ⟨u2,u3,G2,G3,rfl,e2,hl2,r2,r3⟩:=r23.split
  obtain rfl:G2=[]:=by
   have:=List.append_eq_nil_iff.1 e1.symm
   rw [e2] at this
   exact (List.append_eq_nil_iff.1 this.2).1
  have hk:u1.length=k:=by rw [hl1,List.length_take];omega
  have hc:=h2.right.left
  rw [hk] at hc
  exact .pim _ _ (o + k) 0 _ _ h1 hc h3.right.left r2
theorem zzC (h:Sim E [] a w s I ι Fs Gs) {o:Oper} {d:Nat} (hd:o.dst=some d) (hp:∀ v,(d,v) ∉ E.pin) {x:Operand} {y:X} {fi n:Nat} {ty t:TypeId} {fs:Array Field} {f:Field} (ho:o.op=.fieldAddr t x fi)
  (ht:P.underlying t=some (.struct fs)) (hf:fs[fi]? = some f) (hn:zcd P f.type=some (n + 1))
  (hc:cX P ty x=some y) {s':St} {wd:Nat} (hv:vact (.fad d f.offset wd y) s=some (.st s')):Done P o a w E s':=by
 have hrun:∀ b off,a.eval x=.pointer (some ⟨b,off,none⟩)->(execOp a.eval o).run P w=.ok (.value (.pointer (some ⟨b,off + f.offset,none⟩))) w:=by
  intro b off e
  simp only [execOp,ho,e,Instr.fieldAt,Sem.run_bind,run_underlying ht,Result.andThen_ok,hf,Instr.sureAddr]
  simp [Sem.run,pure,Sem.run_bind,zhI hn,Addr.add_lit]
 simp only [vact] at hv
 split at hv
 ·rename_i p hpl
  split at hv
  ·rename_i hsome
   obtain ⟨g1,g2⟩:=h.place hpl (zal hc a)
   obtain ⟨z,hz⟩:=Option.isSome_iff_exists.1 hsome
   obtain ⟨b,o',e⟩:=h.ptr_open hz g1
   exact h.done hd hp (zac hv) (hrun _ _ e) rfl (g1.off ⟨_,_,e⟩ (fun b2 o2 e2=>by rw [e] at e2;cases e2;rfl)) g2.off
  ·cases hv
 ·split at hv
  ·rename_i cs off hi
   obtain ⟨m,rfl,hs⟩:=zlg hi
   have hx:a.eval x=a.tmps.getD m undef:=zal hc a
   obtain ⟨b,o',vs,e,h1,h2,h3,h4,_⟩:=Rep.is_pim (h.slot m _ hs)
   refine h.doneD hd hp (zac hv) (hrun _ _ (hx.trans e)) ?_
   rw [Nat.add_assoc]
   exact zlh h1 h2 h3 h4
  ·cases hv
theorem zzD (h:Sim E [] a w s I ι Fs Gs) {o:Oper} {d:Nat} (hd:o.dst=some d) (hp:∀ v,(d,v) ∉ E.pin) {x1 x2:Operand} {y1 y2:X} {t t1 t2 e:TypeId} {len n:Nat} (ho:o.op=.indexAddr t x1 x2)
  (ht:P.underlying t=some (.array len e)) (hn:zcd P e=some n) (hc1:cX P t1 x1=some y1) (hc2:cX P t2 x2=some y2) {s':St} (hv:vact (.iar d len n y1 y2) s=some (.st s')):Done P o a w E s':=by
 simp only [zcd,Option.map_eq_some_iff] at hn
 obtain ⟨ti,hti,hsz⟩:=hn
 simp only [vact] at hv
 split at hv
 ·rename_i m hm
  split at hv
  ·rename_i hlt
   obtain ⟨k,hk⟩:=zhp hm
   obtain ⟨F2,r2,_⟩:=h.rd hk (zal hc2 a)
   have hrun:∀ b off,a.eval x1=.pointer (some ⟨b,off,none⟩)->(execOp a.eval o).run P w=.ok (.value (.pointer (some ⟨b,off + m * n,none⟩))) w:=by
    intro b off e1
    have c1:(0:Int)<=(m:Int)∧(m:Int)<(len:Int):=by omega
    simp only [execOp,ho,e1,r2.is_int,Instr.indexAt,Sem.run_bind,run_underlying ht,Result.andThen_ok,asIntOf,Instr.sureAddr]
    simp [Sem.run,pure,Sem.run_bind,run_underlying ht,c1,sizeOf,typeInfo,program,hti,hsz,bind,Sem.bind,Addr.add_lit,hlt]
   split at hv
   ·rename_i p hpl
    split at hv
    ·rename_i hsome
     obtain ⟨g1,g2⟩:=h.place hpl (zal hc1 a)
     obtain ⟨z,hz⟩:=Option.isSome_iff_exists.1 hsome
     obtain ⟨b,o',e1⟩:=h.ptr_open hz g1
     exact h.done hd hp (zac hv) (hrun _ _ e1) rfl (g1.off ⟨_,_,e1⟩ (fun b2 o2 e2=>by rw [e1] at e2;cases e2;rfl)) g2.off
    ·cases hv
   ·split at hv
    ·rename_i cs off hi
     obtain ⟨q,rfl,hs⟩:=zlg hi
     have hx:a.eval x1=a.tmps.getD q undef:=zal hc1 a
     obtain ⟨b,o',vs,e1,h1,h2,h3,h4,_⟩:=Rep.is_pim (h.slot q _ hs)
     refine h.doneD hd hp (zac hv) (hrun _ _ (hx.trans e1)) ?_
     rw [Nat.add_assoc]
     exact .pim _ _ _ _ _ _ h1 h2 h3 h4
    ·cases hv
  ·cases hv
 ·cases hv
end
end Go.Vx
namespace Go.Vx
theorem Foc.focus {w:World} {vs:List Value} {ds:List D} {bo:Option (Nat × Nat)} {st:List (Nat × Nat)} {vs':List Value} {ds':List D} {bo':Option (Nat × Nat)}
  (h:Foc w vs ds bo st vs' ds' bo'):Vx.focus ds st=some ds':=by
 induction h with
 | nil=>rfl
 | cons _ _ _ _ _ _ _ _ _ _ _ _ _ _ _ _ _ _ hd hx _ _ _ ih=>simp [Vx.focus,hd,hx,ih]
theorem Foc.snoc_inv {w:World}:∀ {st:List (Nat × Nat)} {vs:List Value} {ds:List D} {bo:Option (Nat × Nat)} {k i:Nat} {vs':List Value} {ds':List D} {bo':Option (Nat × Nat)},
  Foc w vs ds bo (st++[(k,i)]) vs' ds' bo'->∃ vs1 ds1 bo1 b o n cap z xs x,Foc w vs ds bo st vs1 ds1 bo1∧vs1[k]? = some (.slice (some ⟨b,o,none⟩) n cap)∧ds1[k]? = some (.sl true z xs)∧xs[i]? = some x∧bo'=some (b,o + i * z)
 | [],vs,ds,bo,k,i,vs',ds',bo',h=>by
  cases h with
  | cons _ _ _ _ _ _ b o n cap z xs x vs1 _ _ _ hv hd hx hc hl h2 =>
   cases h2
   exact ⟨vs,ds,bo,b,o,n,cap,z,xs,x,.nil _ _ _,hv,hd,hx,rfl⟩
 | (k0,i0)::st,vs,ds,bo,k,i,vs',ds',bo',h=>by
  cases h with
  | cons _ _ _ _ _ _ b o n cap z xs x vs1 _ _ _ hv hd hx hc hl h2 =>
   obtain ⟨u1,e1,b1,b',o',n',cap',z',xs',x',g1,g2,g3,g4,g5⟩:=Foc.snoc_inv h2
   exact ⟨u1,e1,b1,b',o',n',cap',z',xs',x',.cons _ _ _ _ _ _ _ _ _ _ _ _ _ _ _ _ _ hv hd hx hc hl g1,g2,g3,g4,g5⟩
section
variable {P:Program} {E:Env} {hand:List Nat} {a:Act} {w:World} {s:St} {I:Nat->Prop} {ι:List Nat} {Fs Gs:List (List Nat)}
theorem Rep.at_elem {v:Value} {o:Bool} {z i:Nat} {xs:List D} {F:List Nat} (h:Rep w I ι v (.sl o z xs) F) (hi:i<xs.length) :
  ∃ b off cap,v=.slice (some ⟨b,off,none⟩) xs.length cap∧xs.length<=cap:=by
 cases h with
 | nil=>simp at hi
 | emp=>simp at hi
 | empS=>simp at hi
 | shr _ b off n cap _ _ vs hn=>obtain ⟨rfl,hc⟩:=hn;exact ⟨_,_,_,rfl,hc⟩
 | own _ b off n cap _ _ vs T c F hn hh hs hc=>subst hn;exact ⟨_,_,_,rfl,hc⟩
theorem Rep.shr_inv {b off n cap z:Nat} {xs:List D} {F:List Nat} (h:Rep w I ι (.slice (some ⟨b,off,none⟩) n cap) (.sl false z xs) F) (hpos:0<xs.length) :
  I b∧∃ vs,zaA w b off vs∧ones vs∧RepL w I [] vs (zaj xs) []∧(∀ x ∈ xs,x.cells.length=z):=by
 cases h with
 | emp=>simp at hpos
 | empS=>simp at hpos
 | shr _ _ _ _ _ _ _ vs hn hb hc ho hr hz=>exact ⟨hb,vs,hc,ho,hr,hz⟩
theorem znl {t e:TypeId} {n:Nat} (ht:P.underlying t=some (.slice e)) (hn:zcd P e=some n) {b off len cap:Nat} {k:IntKind} {i:Nat} (hi:i<len) :
  (Instr.indexAt t (.slice (some ⟨b,off,none⟩) len cap) (.int k (i:Int))).run P w=.ok (.pointer (some ⟨b,off + i * n,none⟩)) w:=by
 simp only [zcd,Option.map_eq_some_iff] at hn
 obtain ⟨ti,hti,hsz⟩:=hn
 have c1:(0:Int)<=(i:Int)∧(i:Int)<(len:Int):=by omega
 simp only [Instr.indexAt,Sem.run_bind,run_underlying ht,Result.andThen_ok,asIntOf]
 simp [Sem.run,pure,Sem.run_bind,run_underlying ht,c1,sizeOf,typeInfo,program,hti,hsz,bind,Sem.bind,Addr.add_lit,hi]
theorem zzE (h:Sim E [] a w s I ι Fs Gs) {o:Oper} {d:Nat} (hd:o.dst=some d) (hp:∀ v,(d,v) ∉ E.pin) {x1 x2:Operand} {y1 y2:X} {t t1 t2 e:TypeId} {n:Nat} (ho:o.op=.indexAddr t x1 x2)
  (ht:P.underlying t=some (.slice e)) (hn:zcd P e=some n) (hc1:cX P t1 x1=some y1) (hc2:cX P t2 x2=some y2) {s':St} (hv:vact (.iad d n y1 y2) s=some (.st s')):Done P o a w E s':=by
 obtain ⟨m,h1,h2⟩:=zaB (zac hv)
 obtain ⟨sv,h3,h4⟩:=zaB h2
 obtain ⟨k,hk⟩:=zhp h1
 obtain ⟨F2,r2,_⟩:=h.rd hk (zal hc2 a)
 have hrun:∀ b off len cap,a.eval x1=.slice (some ⟨b,off,none⟩) len cap->m<len->(execOp a.eval o).run P w=.ok (.value (.pointer (some ⟨b,off + m * n,none⟩))) w:=by
  intro b off len cap e1 hlt
  simp only [execOp,ho,e1,r2.is_int,Sem.run_bind,znl ht hn hlt,Result.andThen_ok]
  simp [Sem.run,pure]
 cases y1 with
 | c d=>cases h3
 | t q =>
  have hx:a.eval x1=a.tmps.getD q undef:=zal hc1 a
  simp only [St.elemAt] at h3
  split at h3
  ·rename_i own z xs hs
   split at h3
   ·rename_i hz
    subst hz
    have h0:=h.slot q _ hs
    split at h3
    ·split at h3
     ·rename_i hlt
      cases h3
      obtain ⟨b,off,cap,e1,hcap⟩:=Rep.at_elem h0 hlt
      refine h.done hd hp h4 (hrun _ _ _ _ (hx.trans e1) hlt) rfl ?_ ?_
      ·intro vs ds bo vs' ds' bo' g1 g2
       obtain ⟨vs1,ds1,bo1,b',o',n',cap',z',xs',x',q1,q2,q3,q4,q5⟩:=Foc.snoc_inv (st:=[]) g2
       cases q1
       rcases g1 with ⟨_,_,_,g,_⟩|⟨x0,g,rfl,rfl,rfl⟩
       ·rw [hs] at g;cases g
       ·rw [hs] at g;cases g
        simp only [List.getElem?_cons_zero,Option.some.injEq] at q2 q3
        cases q3
        rw [e1] at q2;cases q2
        exact ⟨b,off + m * z,q5,by simp⟩
      ·intro u hu
       simp [SV.into] at hu
       subst hu
       exact ⟨_,hs,rfl,fun p e hst=>by cases e;cases hst⟩
     ·cases h3
    ·simp only [Option.map_eq_some_iff] at h3
     obtain ⟨x0,hx0,rfl⟩:=h3
     have hlt:=getElem?_lt hx0
     obtain ⟨b,off,cap,e1,hcap⟩:=Rep.at_elem h0 hlt
     refine h.done hd hp h4 (hrun _ _ _ _ (hx.trans e1) hlt) ?_ trivial (fun u hu=>by cases hu)
     rw [e1] at h0
     obtain ⟨hb,vs,hc,ho',hr,hz⟩:=Rep.shr_inv h0 (by omega)
     have hcl:zaj xs=zaj (xs.take m)++(x0.cells++zaj (xs.drop (m + 1))):=by
      conv=>lhs;rw [zgT hx0]
      simp [zav,zaj]
     rw [hcl] at hr
     obtain ⟨u1,u23,G1,G23,rfl,eg,hl1,hr1,hr23⟩:=hr.split
     obtain ⟨u2,u3,G2,G3,rfl,eg2,hl2,hr2,hr3⟩:=hr23.split
     obtain rfl:G2=[]:=by
      have:=List.append_eq_nil_iff.1 eg.symm
      rw [eg2] at this
      exact (List.append_eq_nil_iff.1 this.2).1
     have hzi:u1.length=m * z:=by
      rw [hl1,zaq (fun y hy=>hz y (List.mem_of_mem_take hy)),List.length_take];congr 1;omega
     have hc2':=hc.right.left
     rw [hzi] at hc2'
     exact .pim _ _ _ 0 _ u2 hb hc2' ho'.right.left hr2
   ·cases h3
  ·rename_i p hs
   split at h3
   ·rename_i z xs hrd
    split at h3
    ·rename_i hcond
     obtain ⟨rfl,hlt⟩:=hcond
     cases h3
     have hg:=h.good q _ hs
     obtain ⟨Fx,hrep,_⟩:=h.rdP_val hrd hg
     obtain ⟨b,off,cap,e1,hcap⟩:=hrep.at_elem hlt
     refine h.done hd hp h4 (hrun _ _ _ _ (hx.trans e1) hlt) rfl ?_ ?_
     ·intro vs ds bo vs' ds' bo' g1 g2
      obtain ⟨vs1,ds1,bo1,b',o',n',cap',z',xs',x',q1,q2,q3,q4,q5⟩:=Foc.snoc_inv g2
      have hva:=hg _ _ _ _ _ _ g1 q1
      simp only [zig] at hva
      rw [q2] at hva
      rw [e1] at hva
      simp only [Option.some.injEq,Value.slice.injEq,Addr.mk.injEq,and_true] at hva
      obtain ⟨⟨rfl,rfl⟩,_,_⟩:=hva
      obtain ⟨vs0,ds0,bo0,dsx,k0,k1,k2,k3⟩:=h.rdP_open hrd
      have:ds0=ds∧dsx=ds1:=by
       have e0:s.root p.root=some ds:=by
        cases hroot:p.root with
        | slot u =>
         rw [hroot] at g1
         rcases g1 with ⟨_,_,_,g,_⟩|⟨_,g,_,rfl,_⟩ <;> simp [St.root,g]
        | sto u=>rw [hroot] at g1;obtain ⟨_,_,_,g,_⟩:=g1;simpa [St.root] using g
       rw [e0] at k0;cases k0
       rw [q1.focus] at k2;cases k2
       exact ⟨rfl,rfl⟩
      obtain ⟨rfl,rfl⟩:=this
      simp only [zej] at k3
      rw [q3] at k3
      cases k3
      exact ⟨_,_,q5,by simp⟩
     ·intro u hu
      obtain ⟨x0,q1,q2,_⟩:=h.rooted q _ u hs (by simpa [SV.into] using hu)
      exact ⟨x0,q1,q2,fun p' e hst=>by cases e;simp at hst⟩
    ·cases h3
   ·cases h3
  ·rename_i p lo hi hs
   split at h3
   ·rename_i z xs hrd
    split at h3
    ·rename_i hcond
     obtain ⟨rfl,hlt,hlt2⟩:=hcond
     cases h3
     have hg:=h.good q _ hs
     obtain ⟨vs0,ds0,bo0,dsx,k0,k1,k2,k3⟩:=h.rdP_open hrd
     obtain ⟨F,hr,hnn,hF,_⟩:=zbe h k1
     obtain ⟨vs1,bo1,ι1,F1,R1,hFoc,hrep1,_⟩:=zcJ p.steps bo0 hr hnn k2
     obtain ⟨u,hu,hcut⟩:=hg _ _ _ _ _ _ k1 hFoc
     simp only [zej] at k3
     obtain ⟨va,u',vb,Fa,G,Fb,e0,hla,_,_,hru,_⟩:=hrep1.at k3
     have:u'=u:=by
      rw [e0,List.getElem?_append_right (by omega)] at hu
      simpa [hla] using hu
     subst this
     obtain ⟨b,off,cap,e1,hcap⟩:=hru.at_elem hlt2
     have hval:a.tmps.getD q undef=.slice (some ⟨b,off + lo * z,none⟩) (hi - lo) (cap - lo):=by
      rw [hcut true z xs k3,e1]
      have:cap ≠ lo:=by omega
      simp [zgU,this,Addr.add_lit]
     refine h.done hd hp h4 (hrun _ _ _ _ (hx.trans hval) hlt) rfl ?_ ?_
     ·intro vs ds bo vs' ds' bo' g1 g2
      obtain ⟨vs2,ds2,bo2,b',o',n',cap',z',xs',x',q1,q2,q3,q4,q5⟩:=Foc.snoc_inv g2
      have e2:s.root p.root=some ds:=by
       cases hroot:p.root with
       | slot u =>
        rw [hroot] at g1
        rcases g1 with ⟨_,_,_,g,_⟩|⟨_,g,_,rfl,_⟩ <;> simp [St.root,g]
       | sto u=>rw [hroot] at g1;obtain ⟨_,_,_,g,_⟩:=g1;simpa [St.root] using g
      rw [e2] at k0;cases k0
      rw [q1.focus] at k2;cases k2
      rw [q3] at k3;cases k3
      obtain ⟨u2,hu2,hcut2⟩:=hg _ _ _ _ _ _ g1 q1
      rw [q2] at hu2;cases hu2
      have hval2:=hcut2 true z xs q3
      rw [hval] at hval2
      have hne:cap' ≠ lo:=by
       intro e
       simp only [zgU,e,if_true,Value.slice.injEq] at hval2
       omega
      simp only [zgU,if_neg hne,Addr.add_lit,Value.slice.injEq,Option.some.injEq,Addr.mk.injEq,and_true] at hval2
      obtain ⟨⟨rfl,ho'⟩,_,_⟩:=hval2
      refine ⟨b,o' + (lo + m) * z,q5,?_⟩
      simp only [Nat.add_zero,Nat.add_mul]
      congr 3
      omega
     ·intro u hu
      obtain ⟨x0,q1,q2,_⟩:=h.rooted q _ u hs (by simpa [SV.into] using hu)
      exact ⟨x0,q1,q2,fun p' e hst=>by cases e;simp at hst⟩
    ·cases h3
   ·cases h3
  ·cases h3
theorem zkM {x:Option X} {dflt n:Nat} (h:s.bound x dflt=some n):(x=none∧n=dflt) ∨ ∃ y k,x=some y∧s.rd y=some (.int k n):=by
 unfold St.bound at h
 split at h
 ·cases h;exact .inl ⟨rfl,rfl⟩
 ·rename_i y
  split at h
  ·rename_i k m hr
   split at h
   ·cases h;exact .inr ⟨y,k,rfl,by rw [hr];congr 2;omega⟩
   ·cases h
  ·cases h
theorem Sim.run_bounds (h:Sim E hand a w s I ι Fs Gs) {lo hi:Option Operand} {ylo yhi:Option X} {tl th:TypeId} (hlo:lo.mapM (cX P tl)=some ylo) (hhi:hi.mapM (cX P th)=some yhi) {l hh len cap:Nat} {isSlice:Bool}
  (h1:s.bound ylo 0=some l) (h2:s.bound yhi len=some hh) (hle:l<=hh) (hcap:hh<=cap) :
  (Instr.sliceBounds isSlice len cap (lo.map a.eval) (hi.map a.eval) none).run P w=.ok (l,hh,cap) w:=by
 have H:(match hi.map a.eval with|some v=>Instr.sliceBound v cap (if isSlice=true then .sliceAcap else .sliceAlen)|none=>pure len:Sem Nat).run P w=.ok hh w:=by
  rcases zkM h2 with ⟨rfl,rfl⟩|⟨y,k,rfl,hr⟩
  ·cases hi with
   | none=>rfl
   | some x=>exfalso;revert hhi;simp [Option.mapM]
  ·cases hi with
   | none=>simp [Option.mapM] at hhi
   | some x =>
    have hx:cX P th x=some y:=by simpa [Option.mapM] using hhi
    obtain ⟨F,r,_⟩:=h.rd hr (zal hx a)
    simp only [Option.map_some,r.is_int]
    exact run_sliceBound w k hh cap _ (by omega) (by omega)
 have L:(match lo.map a.eval with|some v=>Instr.sliceBound v hh .sliceB|none=>pure 0:Sem Nat).run P w=.ok l w:=by
  rcases zkM h1 with ⟨rfl,rfl⟩|⟨y,k,rfl,hr⟩
  ·cases lo with
   | none=>rfl
   | some x=>exfalso;revert hlo;simp [Option.mapM]
  ·cases lo with
   | none=>simp [Option.mapM] at hlo
   | some x =>
    have hx:cX P tl x=some y:=by simpa [Option.mapM] using hlo
    obtain ⟨F,r,_⟩:=h.rd hr (zal hx a)
    simp only [Option.map_some,r.is_int]
    exact run_sliceBound w k l hh _ (by omega) (by omega)
 cases hi <;> cases lo <;> simp_all [Instr.sliceBounds,Sem.run_bind,Sem.run,pure]
theorem zzF (h:Sim E [] a w s I ι Fs Gs) {o:Oper} {d:Nat} (hd:o.dst=some d) (hp:∀ v,(d,v) ∉ E.pin) {x:Operand} {lo hi:Option Operand} {y:X} {ylo yhi:Option X} {t t1 tl th:TypeId} (ho:o.op=.slice t x lo hi none)
  (ht:P.underlying t=some .string) (hc:cX P t1 x=some y) (hlo:lo.mapM (cX P tl)=some ylo) (hhi:hi.mapM (cX P th)=some yhi) {s':St} (hv:vact (.sls d y ylo yhi) s=some (.st s')):Done P o a w E s':=by
 obtain ⟨z,h1,h2⟩:=zaB (zac hv)
 unfold St.sliceS at h1
 split at h1
 ·rename_i l hl
  split at h1
  ·rename_i b hb
   split at h1
   ·rename_i hh hhh
    split at h1
    ·rename_i hle
     cases h1
     obtain ⟨F,r,_⟩:=h.rd hb (zal hc a)
     have hrun:=h.run_bounds (P:=P) (isSlice:=false) hlo hhi hl hhh hle.1 hle.2
     refine h.doneD hd hp h2 (v:=.string (b.extract l hh)) ?_ (.str ..)
     simp only [execOp,ho,r.is_str,Instr.sliceAt,Instr.slice,Sem.run_bind,run_underlying ht,Result.andThen_ok,hrun,Option.map_none,Option.isSome_none,Bool.false_eq_true,if_false]
     simp [Sem.run,pure]
    ·cases h1
   ·cases h1
  ·cases h1
 ·cases h1
theorem zgX {t e:TypeId} {n:Nat} (ht:P.underlying t=some (.slice e)) (hn:zcd P e=some n) {lo hi:Option Value} {ad:Option Addr} {len cap l hh:Nat}
  (hb:(Instr.sliceBounds true len cap lo hi none).run P w=.ok (l,hh,cap) w) :
  (Instr.sliceAt t (.slice ad len cap) lo hi none).run P w=.ok (zgU (.slice ad len cap) n l hh) w:=by
 simp only [zcd,Option.map_eq_some_iff] at hn
 obtain ⟨ti,hti,hsz⟩:=hn
 simp only [Instr.sliceAt,Instr.slice,Sem.run_bind,run_underlying ht,Result.andThen_ok,hb]
 cases ad with
 | none=>simp [Sem.run,pure,sizeOf,typeInfo,program,hti,hsz,bind,Sem.bind,zgU]
 | some ad =>
  simp only [sizeOf,typeInfo,program,bind,Sem.bind,Sem.run,hti,pure,zgU,hsz]
  congr 2
theorem zzG (h:Sim E [] a w s I ι Fs Gs) {o:Oper} {d:Nat} (hd:o.dst=some d) (hp:∀ v,(d,v) ∉ E.pin) {x:Operand} {lo hi:Option Operand} {y:X} {ylo yhi:Option X} {t t1 tl th e:TypeId} {n:Nat} (ho:o.op=.slice t x lo hi none)
  (ht:P.underlying t=some (.slice e)) (hn:zcd P e=some n) (hc:cX P t1 x=some y) (hlo:lo.mapM (cX P tl)=some ylo) (hhi:hi.mapM (cX P th)=some yhi) {s':St} (hv:vact (.slc d n y ylo yhi) s=some (.st s')):Done P o a w E s':=by
 obtain ⟨sv,h1,h2⟩:=zaB (zac hv)
 unfold St.slice at h1
 split at h1
 ·rename_i l hl
  split at h1
  ·rename_i z hb
   split at h1
   ·rename_i hc0
    obtain ⟨rfl,rfl,hh0⟩:=hc0
    cases h1
    obtain ⟨F,r,_⟩:=h.rd hb (zal hc a)
    have e1:=r.is_nils
    have hbr:=h.run_bounds (P:=P) (isSlice:=true) (cap:=0) hlo hhi hl hh0 (Nat.le_refl _) (Nat.le_refl _)
    have hrun:(execOp a.eval o).run P w=.ok (.value (.slice none 0 0)) w:=by
     simp only [execOp,ho,e1,Option.map_none,Sem.run_bind,zgX ht hn hbr,Result.andThen_ok]
     simp [Sem.run,pure,zgU]
    exact h.doneD hd hp h2 hrun (.nils ..)
   ·cases h1
  ·rename_i own z xs hb
   split at h1
   ·rename_i hz
    subst hz
    split at h1
    ·rename_i hh hhh
     split at h1
     ·rename_i hle
      obtain ⟨F,r,_⟩:=h.rd hb (zal hc a)
      obtain ⟨ad,cap,e1,hcap⟩:=r.is_sl
      have hbr:=h.run_bounds (P:=P) (isSlice:=true) hlo hhi hl hhh hle.1 (Nat.le_trans hle.2 hcap)
      have hrun:(execOp a.eval o).run P w=.ok (.value (zgU (a.eval x) z l hh)) w:=by
       rw [e1]
       simp only [execOp,ho,e1,Option.map_none,Sem.run_bind,zgX ht hn hbr,Result.andThen_ok]
       simp [Sem.run,pure]
      split at h1
      ·cases h1
       obtain ⟨Fx,L,q1,q2⟩:=r.cut hle.1 hle.2
       rw [q1.noX rfl] at q1
       exact h.doneD hd hp h2 hrun q1
      ·cases y with
       | c d=>cases h1
       | t q =>
        have hx:a.eval x=a.tmps.getD q undef:=zal hc a
        simp only at h1
        split at h1
        ·rename_i y0 hs
         cases h1
         have hy0:y0=.sl true z xs:=by simpa [St.rd,hs] using hb
         subst hy0
         refine h.done hd hp h2 hrun rfl ?_ ?_
         ·intro vs ds bo vs' ds' bo' g1 g2
          cases g2
          rcases g1 with ⟨_,_,_,g,_⟩|⟨x0,g,rfl,rfl,rfl⟩
          ·rw [hs] at g;cases g
          ·rw [hs] at g;cases g
           exact ⟨_,rfl,fun o' z' xs' e=>by
            simp only [List.getElem?_cons_zero,Option.some.injEq,D.sl.injEq] at e
            obtain ⟨_,rfl,_⟩:=e
            rw [hx]⟩
         ·intro u hu
          simp [SV.into] at hu
          subst hu
          exact ⟨_,hs,rfl,fun p e=>by cases e⟩
        ·rename_i p hs
         cases h1
         have hrd:s.rdP p .one=some (.sl true z xs):=by simpa [St.rd,hs] using hb
         have hg:=h.good q _ hs
         refine h.done hd hp h2 hrun rfl ?_ ?_
         ·intro vs ds bo vs' ds' bo' g1 g2
          have hva:=hg _ _ _ _ _ _ g1 g2
          simp only [zig] at hva
          refine ⟨_,hva,fun o' z' xs' e=>?_⟩
          obtain ⟨vs0,ds0,bo0,dsx,k0,k1,k2,k3⟩:=h.rdP_open hrd
          have e0:s.root p.root=some ds:=by
           cases hroot:p.root with
           | slot u =>
            simp only [hroot] at g1
            rcases g1 with ⟨_,_,_,g,_⟩|⟨_,g,_,rfl,_⟩ <;> simp [St.root,g]
           | sto u=>simp only [hroot] at g1;obtain ⟨_,_,_,g,_⟩:=g1;simpa [St.root] using g
          rw [e0] at k0;cases k0
          have:=Foc.focus g2
          rw [this] at k2;cases k2
          simp only [zej] at k3
          rw [e] at k3
          cases k3
          rw [hx]
         ·intro u hu
          obtain ⟨x0,q1,q2,_⟩:=h.rooted q _ u hs (by simpa [SV.into] using hu)
          exact ⟨x0,q1,q2,fun p' e=>by cases e⟩
        ·cases h1
     ·cases h1
    ·cases h1
   ·cases h1
  ·cases h1
 ·cases h1
end
end Go.Vx
namespace Go.Vx
inductive All2 {α β:Type} (R:α->β->Prop):List α->List β->Prop
 | nil:All2 R [] []
 | cons {x:α} {y:β} {l:List α} {r:List β}:R x y->All2 R l r->All2 R (x::l) (y::r)
theorem All2.imp {α β:Type} {R S:α->β->Prop} (h:∀ x y,R x y->S x y):∀ {l:List α} {r:List β},All2 R l r->All2 S l r
 | _,_,.nil=>.nil
 | _,_,.cons h1 h2=>.cons (h _ _ h1) (h2.imp h)
section
variable {P:Program} {E:Env} {hand:List Nat} {a:Act} {w:World} {s:St} {I:Nat->Prop} {ι:List Nat} {Fs Gs:List (List Nat)}
theorem Sim.less (h:Sim E hand a w s I ι Fs Gs) {hand2:List Nat} (hn:hand2.Nodup) (hs:∀ b ∈ hand2,b ∈ hand):Sim E hand2 a w s I ι Fs Gs :=
 h.world (Ext.refl _ _) (fun _ h=>h) (fun _ h=>.inl h) hn (fun b hb=>by
  have:=h.apart b (mAR _ (mAR _ (hs b hb)))
  exact ⟨this.1,.inl (hs b hb),this.2.2⟩)
theorem Ext.alloc (S:Nat->Prop) (w:World) (ob:Obj):Ext S w (w.alloc ob):=⟨rfl,rfl,rfl,by simp,fun k hk _=>heap_alloc_old w ob hk⟩
theorem Ext.drew (S:Nat->Prop) (w:World):Ext S w w.drew:=⟨rfl,rfl,rfl,Nat.le_refl _,fun _ _ _=>rfl⟩
theorem Sim.alloc (h:Sim E hand a w s I ι Fs Gs) (ob:Obj):Sim E (w.heap.size::hand) a (w.alloc ob) s I ι Fs Gs:=by
 have hlt:∀ b ∈ hand,b<w.heap.size:=fun b hb=>(h.apart b (mAR _ (mAR _ hb))).2.2
 refine h.world (Ext.alloc _ _ _) (fun _ h=>h) (fun _ h=>.inl h) ?_ ?_
 ·exact List.nodup_cons.2 ⟨fun hb=>by have:=hlt _ hb;omega,h.nodup2.2.1⟩
 ·intro b hb
  rcases List.mem_cons.1 hb with rfl|hb
  ·refine ⟨fun e=>?_,.inr (Nat.le_refl _),by simp⟩
   have:=(h.imm _ e).1;omega
  ·have:=h.apart b (mAR _ (mAR _ hb))
   exact ⟨this.1,.inl hb,by simp;omega⟩
theorem Sim.imm_same (h:Sim E hand a w s I ι Fs Gs) {ob:Obj}:∀ b,I b->(w.alloc ob).heap[b]? = w.heap[b]? := fun b hb=>heap_alloc_old w ob (h.imm b hb).1
theorem RepL.alloc (h:Sim E hand a w s I ι Fs Gs) {vs:List Value} {ds:List D} {F:List Nat} {ι':List Nat} (hr:RepL w I ι' vs ds F) (ob:Obj):RepL (w.alloc ob) I ι' vs ds F :=
 hr.frame (fun _ h=>h) h.imm_same (fun b hb=>heap_alloc_old w ob (hr.lt b hb))
theorem Rep.cellsN {v:Value} {y:D} {F:List Nat} (h:Rep w I ι v y F) {n:Nat} {cs:List D} (hc:y.cellsN n=some cs) :
  RepL w I ι v.cells.toList cs F∧ones v.cells.toList∧cs.length=n∧y.cells=cs:=by
 have one:v.oneCell'=true->y.cells=[y]->(if n=1 then some [y] else none)=some cs->RepL w I ι v.cells.toList cs F∧ones v.cells.toList∧cs.length=n∧y.cells=cs:=by
  intro h1 h2 h3
  split at h3
  ·rename_i hn
   cases h3
   have hv:v.cells = #[v]:=by cases v <;> simp_all [Value.cells,Value.oneCell']
   rw [hv]
   exact ⟨RepL.one h,fun u hu=>by simp at hu;subst hu;exact h1,by simp [hn],h2⟩
  ·cases h3
 cases h with
 | agg _ vs ds F hr ho =>
  simp only [D.cellsN] at hc
  split at hc
  ·rename_i hl
   cases hc
   exact ⟨by simpa [Value.cells] using hr,by simpa [Value.cells] using ho,hl,rfl⟩
  ·cases hc
 | tup=>cases hc
 | dead=>cases hc
 | _=>exact one rfl rfl hc
theorem zfv {t:TypeId} {ds:List D} (hz:zhH P t=some ds):∃ i z,P.info? t=some i∧i.zero=some z∧z.cells.size=i.size∧ds.length=i.size∧(∀ (w:World) (I:Nat->Prop) (ι:List Nat),RepL w I ι z.cells.toList ds [])∧ones z.cells.toList:=by
 unfold zhH at hz
 split at hz
 ·rename_i i hi
  split at hz
  ·rename_i z ds' h1 h2
   split at hz
   ·rename_i hc
    cases hz
    simp only [Bool.and_eq_true,beq_iff_eq] at hc
    refine ⟨i,z,hi,h1,hc.2,?_,fun w I ι=>(zjz hc.1 w I ι).1,(zjz hc.1 (default:World) (fun _=>False) []).2⟩
    have:=((zjz hc.1 (default:World) (fun _=>False) []).1).length
    simp only [Array.length_toList] at this
    omega
   ·cases hz
  ·cases hz
 ·cases hz
theorem zuc (h:Sim E [] a w s I ι Fs Gs) {o:Oper} {d:Nat} (hd:o.dst=some d) (hp:∀ v,(d,v) ∉ E.pin) {t:TypeId} {z:List D} (ho:o.op=.alloc t) (hz:zhH P t=some z) {s':St}
  (hv:vact (.alloc d z) s=some (.st s')):Done P o a w E s':=by
 obtain ⟨i,zv,hi,hz1,_,_,hrep,hon⟩:=zfv hz
 have h2:=zac hv
 have hrun:(execOp a.eval o).run P w=.ok (.value (.pointer (some ⟨w.heap.size,0,none⟩))) (w.alloc (.cells zv.cells t)):=by
  simp [execOp,ho,Instr.alloc,zeroValue,typeInfo,program,hi,hz1,newVar,newRow,newObj,Sem.run,pure,bind,Sem.bind]
 have hs:=h.alloc (.cells zv.cells t)
 obtain ⟨Fs2,hs2⟩:=Sim.setD (F:=[w.heap.size]) (hand:=[]) (by simpa using hs) h2 hp (v:=.pointer (some ⟨w.heap.size,0,none⟩))
  ⟨_,rfl,zv.cells,t,[],heap_alloc_new w _,hrep _ _ _,hon,rfl⟩ trivial (fun u hu=>by cases hu)
 exact ⟨_,_,_,_,_,_,_,hrun,.inl rfl,by rw [hd];exact hs2⟩
theorem zzH (h:Sim E [] a w s I ι Fs Gs) {o:Oper} {d:Nat} (hd:o.dst=some d) (hp:∀ v,(d,v) ∉ E.pin) {t ty:TypeId} {n:Nat} {x:Operand} {y:X} (ho:o.op=.box t x) (hc:cX P ty x=some y) {s':St}
  (hv:vact (.box d n y) s=some (.st s')):Done P o a w E s':=by
 obtain ⟨⟨q,s1⟩,h1,h2⟩:=zaB (zac hv)
 obtain ⟨cs,h3,h4⟩:=zaB h2
 obtain ⟨Fx,Fs1,Gs1,hr,hs⟩:=h.take h1 (zal hc a)
 obtain ⟨hr2,hon,_,_⟩:=hr.cellsN h3
 have hrun:(execOp a.eval o).run P w=.ok (.value (.pointer (some ⟨w.heap.size,0,none⟩))) (w.alloc (.cells (a.eval x).cells t)):=by
  simp [execOp,ho,Instr.box,newVar,newRow,newObj,Sem.run,pure,bind,Sem.bind]
 have hs2:=hs.alloc (.cells (a.eval x).cells t)
 obtain ⟨Fs2,hs3⟩:=Sim.setD (F:=w.heap.size::Fx) (hand:=[]) (by simpa using hs2) h4 hp (v:=.pointer (some ⟨w.heap.size,0,none⟩))
  ⟨_,rfl,(a.eval x).cells,t,Fx,heap_alloc_new w _,RepL.alloc hs hr2 _,hon,rfl⟩ trivial (fun u hu=>by cases hu)
 exact ⟨_,_,_,_,_,_,_,hrun,.inl rfl,by rw [hd];exact hs3⟩
theorem zgY (c:Array Value):∀ (news:List Value) (k:Nat) (cells:Array Value) (off:Nat),off + k + news.length<=cells.size ->
  ((news.zipIdx k).foldl (fun cs (p:Value × Nat)=>cs.setIfInBounds (off + p.2) p.1) cells).toList=cells.toList.take (off + k)++(news++cells.toList.drop (off + k + news.length))
 | [],k,cells,off,h=>by simp
 | v::news,k,cells,off,h=>by
  simp only [List.zipIdx_cons,List.foldl_cons]
  simp only [List.length_cons] at h
  rw [zgY c news (k + 1) _ off (by simp;omega)]
  simp only [Array.toList_setIfInBounds]
  have hlt:off + k<cells.toList.length:=by simp;omega
  rw [List.set_eq_take_append_cons_drop,if_pos hlt]
  have hl:(cells.toList.take (off + k)).length=off + k:=by rw [List.length_take];omega
  have e1:(cells.toList.take (off + k)++v::cells.toList.drop (off + k + 1)).take (off + (k + 1))=cells.toList.take (off + k)++[v]:=by
   rw [List.take_append,hl,List.take_of_length_le (by omega)]
   congr 1
   rw [show off + (k + 1) - (off + k)=1 by omega]
   simp
  have e2:(cells.toList.take (off + k)++v::cells.toList.drop (off + k + 1)).drop (off + (k + 1) + news.length)=cells.toList.drop (off + k + (news.length + 1)):=by
   rw [List.drop_append,hl,List.drop_eq_nil_of_le (by omega),List.nil_append]
   rw [show off + (k + 1) + news.length - (off + k)=news.length + 1 by omega]
   simp only [List.drop_succ_cons,List.drop_drop]
   congr 1
   omega
  rw [e1,e2]
  simp
theorem RepL.patch {vs:List Value} {ds news d2:List D} {F G:List Nat} {nv:List Value} {off:Nat} (h:RepL w I ι vs ds F) (hn:RepL w I ι nv news G) (hs:zdA ds off news=some d2) :
  off + nv.length<=vs.length∧∃ F2 L,RepL w I ι (vs.take off++(nv++vs.drop (off + nv.length))) d2 F2∧(F++G).Perm (F2++L):=by
 have hl:=h.length
 have hnl:=hn.length
 unfold zdA at hs
 split at hs
 ·rename_i hle
  cases hs
  refine ⟨by omega,?_⟩
  have e:ds=ds.take off++((ds.drop off).take news.length++ds.drop (off + news.length)):=by
   have:(ds.drop off).drop news.length=ds.drop (off + news.length):=by rw [List.drop_drop]
   rw [<- this,List.take_append_drop,List.take_append_drop]
  rw [e] at h
  obtain ⟨u1,u23,G1,G23,rfl,rfl,hl1,hr1,hr23⟩:=h.split
  obtain ⟨u2,u3,G2,G3,rfl,rfl,hl2,hr2,hr3⟩:=hr23.split
  have h1:u1.length=off:=by rw [hl1,List.length_take];omega
  have h2:u2.length=news.length:=by rw [hl2,List.length_take,List.length_drop];omega
  have e1:(u1++(u2++u3)).take off=u1:=by rw [<- h1,List.take_left]
  have e2:(u1++(u2++u3)).drop (off + nv.length)=u3:=by
   rw [<- List.append_assoc,hnl,<- h1,<- h2,<- List.length_append,List.drop_left]
  rw [e1,e2]
  refine ⟨G1++(G++G3),G2,hr1.append (hn.append hr3),?_⟩
  rw [List.perm_iff_count];intro x;simp [List.count_append];omega
 ·cases hs
theorem zli {place:Nat->Option (Nat × Nat)}:∀ {parts:List (Nat × Operand)} {ps:List (Nat × Nat × X)} {cells:Array Value} {z cs:List D} {F hand:List Nat} {s s1:St} {Fs Gs:List (List Nat)},
  All2 (fun (p:Nat × Operand) (q:Nat × Nat × X)=>place p.1=some (q.1,q.2.1)∧∃ ty,cX P ty p.2=some q.2.2) parts ps ->
  Sim E (F++hand) a w s I ι Fs Gs->RepL w I ι cells.toList z F->ones cells.toList->s.fill z ps=some (cs,s1) ->
  ∃ cells' F' Fs' Gs',Instr.fill place cells (parts.map fun p=>(p.1,a.eval p.2))=some cells'∧RepL w I ι cells'.toList cs F'∧ones cells'.toList∧cells'.size=cells.size∧Sim E (F'++hand) a w s1 I ι Fs' Gs'
 | [],ps,cells,z,cs,F,hand,s,s1,Fs,Gs,hf,h,hr,ho,hv=>by
  cases hf
  cases hv
  exact ⟨cells,F,Fs,Gs,rfl,hr,ho,rfl,h⟩
 | p::parts,ps,cells,z,cs,F,hand,s,s1,Fs,Gs,hf,h,hr,ho,hv=>by
  cases hf with
  | cons hpq hf =>
   rename_i q ps
   obtain ⟨off,n,x⟩:=q
   obtain ⟨hpl,ty,hx⟩:=hpq
   simp only [St.fill] at hv
   split at hv
   ·rename_i v s2 ht
    split at hv
    ·rename_i nc hc
     split at hv
     ·rename_i z' hz'
      obtain ⟨Fx,Fs2,Gs2,hrx,hs2⟩:=h.take ht (zal hx a)
      obtain ⟨hrc,hoc,hlc,_⟩:=hrx.cellsN hc
      obtain ⟨hle,F2,L,hr2,hperm⟩:=hr.patch hrc hz'
      have hsz:(a.eval p.2).cells.size=n:=by
       have:=hrc.length
       simp only [Array.length_toList] at this
       omega
      have hp:((a.eval p.2).cells.zipIdx.foldl (fun cs (c,j)=>cs.setIfInBounds (off + j) c) cells).toList=cells.toList.take off++((a.eval p.2).cells.toList++cells.toList.drop (off + (a.eval p.2).cells.toList.length)):=by
       rw [<- Array.foldl_toList,Array.toList_zipIdx]
       have:=zgY #[] (a.eval p.2).cells.toList 0 cells off (by simp at hle ⊢;omega)
       simpa using this
      have hs3:Sim E (F2++hand) a w s2 I ι Fs2 Gs2:=by
       have hnd:=hs2.nodup2.2.1
       have hpp:(Fx++(F++hand)).Perm ((F2++hand)++L):=by
        have e1:(Fx++(F++hand)).Perm ((F++Fx)++hand):=by rw [List.perm_iff_count];intro y;simp [List.count_append];omega
        refine e1.trans ((hperm.append_right hand).trans ?_)
        rw [List.perm_iff_count];intro y;simp [List.count_append];omega
       have hnd2:=hpp.nodup_iff.1 hnd
       exact hs2.less (List.nodup_append.1 hnd2).1 (fun b hb=>hpp.mem_iff.2 (mAL _ hb))
      obtain ⟨cells',F',Fs',Gs',g1,g2,g3,g4,g5⟩:=zli hf hs3 (cells:=(a.eval p.2).cells.zipIdx.foldl (fun cs (c,j)=>cs.setIfInBounds (off + j) c) cells) (by rw [hp];exact hr2)
       (by
       rw [hp]
       have o1:ones (cells.toList.take off):=fun v hv=>ho v (List.mem_of_mem_take hv)
       have o2:ones (cells.toList.drop (off + (a.eval p.2).cells.toList.length)):=fun v hv=>ho v (List.mem_of_mem_drop hv)
       exact o1.append (hoc.append o2)) hv
      refine ⟨cells',F',Fs',Gs',?_,g2,g3,?_,g5⟩
      ·simp only [List.map_cons,Instr.fill,hpl]
       rw [if_neg]
       ·exact g1
       ·simp only [Array.length_toList] at hle
        simp only [ne_eq,Bool.or_eq_true,decide_eq_true_eq,not_or,Decidable.not_not,Nat.not_lt,gt_iff_lt]
        exact ⟨hsz,by omega⟩
      ·rw [g4]
       have:=congrArg List.length hp
       simp only [Array.length_toList] at this hle
       rw [this]
       simp
       omega
     ·cases hv
    ·cases hv
   ·cases hv
theorem zbR {α β:Type} {f:α->Option β}:∀ {l:List α} {r:List β},l.mapM f=some r->All2 (fun x y=>f x=some y) l r
 | [],r,h=>by
  simp at h;subst h;exact .nil
 | x::l,r,h=>by
  simp only [List.mapM_cons,Option.bind_eq_bind,Option.bind_eq_some_iff,Option.pure_def,Option.some.injEq] at h
  obtain ⟨y,hy,r',hr',rfl⟩:=h
  exact .cons hy (zbR hr')
theorem zjN {l:List Field} (h:∀ f ∈ l,(P.info? f.type).isSome=true) :
  (l.mapM fun (f:Field)=>(do pure (f.offset,<- sizeOf f.type):Sem (Nat × Nat))).run P w=.ok (l.map fun f=>(f.offset,P.cellsOf f.type)) w:=by
 induction l with
 | nil=>simp [Sem.run,pure]
 | cons f l ih =>
  obtain ⟨i,hi⟩:=Option.isSome_iff_exists.1 (h f (List.mem_cons_self ..))
  have this:(sizeOf f.type).run P w=.ok (P.cellsOf f.type) w:=by simp [sizeOf,typeInfo,program,hi,Program.cellsOf,Sem.run,pure,bind,Sem.bind]
  have ih':=ih (fun g hg=>h g (List.mem_cons_of_mem _ hg))
  simp only [List.mapM_cons,Sem.run_bind,this,Result.andThen_ok,List.map_cons]
  have e:Sem.run P (pure (f.offset,P.cellsOf f.type)) w=.ok (f.offset,P.cellsOf f.type) w:=rfl
  simp only [e,Result.andThen_ok,ih']
  rfl
theorem zjO (h:Sim E [] a w s I ι Fs Gs) {o:Oper} {d:Nat} (hd:o.dst=some d) (hp:∀ v,(d,v) ∉ E.pin) {t:TypeId} {parts:Array (Nat × Operand)} {fs:Array Field} {z:List D} {ps:List (Nat × Nat × X)}
  (ho:o.op=.build t parts) (ht:P.underlying t=some (.struct fs)) (hz:zhH P t=some z) (hall:∀ f ∈ fs,(P.info? f.type).isSome=true)
  (hps:All2 (fun (p:Nat × Operand) (q:Nat × Nat × X)=>∃ f,fs[p.1]? = some f∧zcd P f.type=some q.2.1∧q.1=f.offset∧cX P f.type p.2=some q.2.2) parts.toList ps) {s':St}
  (hv:vact (.build d z ps) s=some (.st s')):Done P o a w E s':=by
 obtain ⟨i,zv,hi,hz1,hzs,hzl,hrep,hon⟩:=zfv hz
 obtain ⟨⟨cs,s1⟩,h1,h2⟩:=zaB (zac hv)
 have hplaces:(fs.mapM fun (f:Field)=>(do pure (f.offset,<- sizeOf f.type):Sem (Nat × Nat))).run P w=.ok (fs.toList.map fun f=>(f.offset,P.cellsOf f.type)).toArray w:=by
  rw [Array.mapM_eq_mapM_toList]
  have:=zjN (P:=P) (w:=w) (l:=fs.toList) (fun f hf=>hall f (Array.mem_toList_iff.1 hf))
  change Sem.run P ((fs.toList.mapM fun (f:Field)=>(do pure (f.offset,<- sizeOf f.type):Sem (Nat × Nat))) >>= fun l=>Sem.pure l.toArray) w=_
  rw [Sem.run_bind,this]
  rfl
 have hf2:All2 (fun (p:Nat × Operand) (q:Nat × Nat × X)=>(((fs.toList.map fun f=>(f.offset,P.cellsOf f.type)).toArray)[p.1]?)=some (q.1,q.2.1)∧∃ ty,cX P ty p.2=some q.2.2) parts.toList ps:=by
  refine hps.imp fun p q ⟨f,g1,g2,g3,g4⟩=>⟨?_,f.type,g4⟩
  simp only [zcd,Option.map_eq_some_iff] at g2
  obtain ⟨i,g5,g6⟩:=g2
  simp [g1,g3,Program.cellsOf,g5,g6]
 obtain ⟨cells',F',Fs',Gs',q1,q2,q3,q4,q5⟩:=zli (F:=[]) (hand:=[]) hf2 (by simpa using h) (cells:=zv.cells) (hrep w I ι) hon h1
 have hrun:(execOp a.eval o).run P w=.ok (.value (.agg cells')) w:=by
  have e:(parts.map fun p=>(p.1,a.eval p.2)).toList=parts.toList.map fun p=>(p.1,a.eval p.2):=by simp
  have hzv:(zeroValue t).run P w=.ok zv w:=by simp [zeroValue,typeInfo,program,hi,hz1,Sem.run,pure,bind,Sem.bind]
  simp only [execOp,ho,Instr.build,Sem.run_bind,hzv,Result.andThen_ok,run_underlying ht,hplaces,e,q1]
  rfl
 obtain ⟨Fs2,g3⟩:=Sim.setVal (hand:=[]) (by simpa using q5) h2 hp (v:=.agg cells') (by
  have:=Rep.agg (w:=w) (I:=I) ι cells'.toList cs F' q2 q3
  simpa using this)
 exact ⟨_,w,_,I,ι,Fs2,Gs',hrun,.inl rfl,by rw [hd];exact g3⟩
theorem zky (h:Sim E [] a w s I ι Fs Gs) {o:Oper} {d:Nat} (hd:o.dst=some d) (hp:∀ v,(d,v) ∉ E.pin) {t el:TypeId} {parts:Array (Nat × Operand)} {len n:Nat} {z:List D} {ps:List (Nat × Nat × X)}
  (ho:o.op=.build t parts) (ht:P.underlying t=some (.array len el)) (hz:zhH P t=some z) (hn:zcd P el=some n)
  (hps:All2 (fun (p:Nat × Operand) (q:Nat × Nat × X)=>∃ x,cX P el p.2=some x∧q=(p.1 * n,n,x)) parts.toList ps) {s':St}
  (hv:vact (.build d z ps) s=some (.st s')):Done P o a w E s':=by
 obtain ⟨i,zv,hi,hz1,hzs,hzl,hrep,hon⟩:=zfv hz
 obtain ⟨⟨cs,s1⟩,h1,h2⟩:=zaB (zac hv)
 simp only [zcd,Option.map_eq_some_iff] at hn
 obtain ⟨ti,hti,hsz⟩:=hn
 have hf2:All2 (fun (p:Nat × Operand) (q:Nat × Nat × X)=>(fun i=>some (i * n,n):Nat->Option (Nat × Nat)) p.1=some (q.1,q.2.1)∧∃ ty,cX P ty p.2=some q.2.2) parts.toList ps :=
  hps.imp fun p q ⟨x,g1,g2⟩=>by subst g2;exact ⟨rfl,el,g1⟩
 obtain ⟨cells',F',Fs',Gs',q1,q2,q3,q4,q5⟩:=zli (P:=P) (place:=fun i=>some (i * n,n)) (F:=[]) (hand:=[]) hf2 (by simpa using h) (cells:=zv.cells) (hrep w I ι) hon h1
 have hrun:(execOp a.eval o).run P w=.ok (.value (.agg cells')) w:=by
  have e:(parts.map fun p=>(p.1,a.eval p.2)).toList=parts.toList.map fun p=>(p.1,a.eval p.2):=by simp
  have hzv:(zeroValue t).run P w=.ok zv w:=by simp [zeroValue,typeInfo,program,hi,hz1,Sem.run,pure,bind,Sem.bind]
  have hso:(sizeOf el).run P w=.ok n w:=by simp [sizeOf,typeInfo,program,hti,hsz,Sem.run,pure,bind,Sem.bind]
  simp only [execOp,ho,Instr.build,Sem.run_bind,hzv,Result.andThen_ok,run_underlying ht,hso,e,q1]
  rfl
 obtain ⟨Fs2,g3⟩:=Sim.setVal (hand:=[]) (by simpa using q5) h2 hp (v:=.agg cells') (by
  have:=Rep.agg (w:=w) (I:=I) ι cells'.toList cs F' q2 q3
  simpa using this)
 exact ⟨_,w,_,I,ι,Fs2,Gs',hrun,.inl rfl,by rw [hd];exact g3⟩
theorem zfj (z:D):∀ n,(zda z n).length=n
 | 0=>rfl
 | n + 1=>by simp [zda,zfj z n]
theorem zhq {z x:D}:∀ {n:Nat},x ∈ zda z n->x=z
 | 0,h=>by cases h
 | n + 1,h=>by
  rcases List.mem_cons.1 h with rfl|h
  ·rfl
  ·exact zhq h
theorem zkz (z:Array Value) (hz:0<z.size) (n:Nat):(madeCells z ((n + 1) * z.size)).toList=z.toList++(madeCells z (n * z.size)).toList:=by
 apply List.ext_getElem?
 intro j
 simp only [madeCells,Array.toList_map,List.getElem?_map,Array.toList_range,List.getElem?_append,Array.length_toList]
 have hmul:(n + 1) * z.size=n * z.size + z.size:=Nat.succ_mul n z.size
 by_cases hj:j<z.size
 ·rw [if_pos hj,List.getElem?_range (by omega)]
  simp only [Option.map_some,Nat.mod_eq_of_lt hj]
  simp [hj,getElem!_pos]
 ·rw [if_neg hj]
  by_cases h2:j<(n + 1) * z.size
  ·rw [List.getElem?_range h2,List.getElem?_range (by omega)]
   simp only [Option.map_some,Option.some.injEq]
   congr 1
   rw [Nat.mod_eq_sub_mod (by omega)]
  ·rw [List.getElem?_eq_none (by simp;omega),List.getElem?_eq_none (by simp;omega)]
theorem zjB {w:World} {I:Nat->Prop} {ι:List Nat} {z:Array Value} {zd:D} (hz:0<z.size) (hr:RepL w I ι z.toList zd.cells []) (ho:ones z.toList) :
  ∀ n,RepL w I ι (madeCells z (n * z.size)).toList (zaj (zda zd n)) []∧ones (madeCells z (n * z.size)).toList
 | 0=>by
  have:(madeCells z (0 * z.size)).toList=[]:=by simp [madeCells,Array.range_zero']
  rw [this]
  exact ⟨.nil _,fun v hv=>by cases hv⟩
 | n + 1=>by
  rw [zkz z hz n]
  obtain ⟨h1,h2⟩:=zjB hz hr ho n
  exact ⟨hr.append h1,ho.append h2⟩
theorem zgZ {t:TypeId} {z:D} (hz:zfM P t=some z):∃ i zv,P.info? t=some i∧i.zero=some zv∧zv.cells.size=i.size∧z.cells.length=i.size∧(∀ (w:World) (I:Nat->Prop) (ι:List Nat),RepL w I ι zv.cells.toList z.cells [])∧ones zv.cells.toList∧z.hasRef=false:=by
 unfold zfM at hz
 split at hz
 ·rename_i ds n h1 h2
  split at hz
  ·cases hz
  ·rename_i hR
   cases hz
   obtain ⟨i,zv,g1,g2,g3,g4,g5,g6⟩:=zfv h1
   exact ⟨i,zv,g1,g2,g3,g4,g5,g6,by simpa [D.hasRef] using hR⟩
 ·rename_i h1 h2
  split at hz
  ·cases hz
  ·rename_i hR
   cases hz
   obtain ⟨i,zv,g1,g2,g3,g4,g5,g6⟩:=zfv h1
   have hd:z.cells=[z]:=by
    obtain ⟨v,e,hv⟩:=(g5 (default:World) (fun _=>False) []).of_one
    exact hv.cells_one (g6 v (by rw [e];simp))
   exact ⟨i,zv,g1,g2,g3,by rw [hd];exact g4,fun w I ι=>by rw [hd];exact g5 w I ι,g6,by simpa using hR⟩
 ·cases hz
end
end Go.Vx
namespace Go.Vx
theorem zpt {sz:Nat}:∀ {xs:List D} {i:Nat} {v:D},(∀ x ∈ xs,x.cells.length=sz)->v.cells.length=sz->i<xs.length->zdA (zaj xs) (i * sz) v.cells=some (zaj (xs.set i v)):=by
 intro xs i v hx hv hi
 have hxi:xs[i]? = some xs[i]:=List.getElem?_eq_getElem hi
 have h1:(zaj (xs.take i)).length=i * sz:=by
  rw [zaq (fun y hy=>hx y (List.mem_of_mem_take hy)),List.length_take];congr 1;omega
 have h2:xs[i].cells.length=sz:=hx _ (List.getElem_mem hi)
 have e:zaj xs=zaj (xs.take i)++(xs[i].cells++zaj (xs.drop (i + 1))):=by
  refine (congrArg zaj (zgT hxi)).trans ?_
  rw [zav]
  rfl
 have e2:zaj (xs.set i v)=zaj (xs.take i)++(v.cells++zaj (xs.drop (i + 1))):=by
  rw [zie v hxi];simp [zav,zaj]
 unfold zdA
 rw [if_pos]
 ·rw [e2,e]
  congr 1
  rw [<- h1,List.take_left]
  congr 2
  rw [hv,<- h2,<- List.append_assoc,<- List.length_append,List.drop_left]
 ·rw [e];simp only [List.length_append];omega
section
variable {P:Program} {E:Env} {hand:List Nat} {a:Act} {w:World} {s:St} {I:Nat->Prop} {ι:List Nat} {Fs Gs:List (List Nat)}
theorem zmm {el:TypeId} {sz:Nat}:∀ {parts:List (Nat × Operand)} {ps:List (Nat × X)} {cells:Array Value} {xs ys:List D} {F hand:List Nat} {s s1:St} {Fs Gs:List (List Nat)},
  All2 (fun (p:Nat × Operand) (q:Nat × X)=>∃ x,cX P el p.2=some x∧q=(p.1,x)) parts ps ->
  Sim E (F++hand) a w s I ι Fs Gs->RepL w I [] cells.toList (zaj xs) F->ones cells.toList->(∀ x ∈ xs,x.cells.length=sz)->s.elems sz xs ps=some (ys,s1) ->
  ∃ cells' F' Fs' Gs',Instr.fill (fun i=>some (i * sz,sz)) cells (parts.map fun p=>(p.1,a.eval p.2))=some cells'∧RepL w I [] cells'.toList (zaj ys) F'∧ones cells'.toList∧cells'.size=cells.size ∧
   (∀ x ∈ ys,x.cells.length=sz)∧ys.length=xs.length∧Sim E (F'++hand) a w s1 I ι Fs' Gs'
 | [],ps,cells,xs,ys,F,hand,s,s1,Fs,Gs,hf,h,hr,ho,hz,hv=>by
  cases hf
  cases hv
  exact ⟨cells,F,Fs,Gs,rfl,hr,ho,rfl,hz,rfl,h⟩
 | p::parts,ps,cells,xs,ys,F,hand,s,s1,Fs,Gs,hf,h,hr,ho,hz,hv=>by
  cases hf with
  | cons hpq hf =>
   rename_i q ps
   obtain ⟨x,hx,rfl⟩:=hpq
   simp only [St.elems] at hv
   split at hv
   ·rename_i v s2 ht
    split at hv
    ·rename_i hcond
     obtain ⟨hi,hcN,hR⟩:=hcond
     obtain ⟨nc,hc⟩:=Option.isSome_iff_exists.1 hcN
     obtain ⟨Fx,Fs2,Gs2,hrx,hs2⟩:=h.take ht (zal hx a)
     obtain ⟨hrc,hoc,hlc,hvc⟩:=(hrx.noRef (ι':=[]) hR).cellsN hc
     subst hvc
     have hz':=zpt hz hlc hi
     obtain ⟨hle,F2,L,hr2,hperm⟩:=hr.patch hrc hz'
     have hsz:(a.eval p.2).cells.size=sz:=by
      have:=hrc.length
      simp only [Array.length_toList] at this
      omega
     have hp:((a.eval p.2).cells.zipIdx.foldl (fun cs (c,j)=>cs.setIfInBounds (p.1 * sz + j) c) cells).toList=cells.toList.take (p.1 * sz)++((a.eval p.2).cells.toList++cells.toList.drop (p.1 * sz + (a.eval p.2).cells.toList.length)):=by
      rw [<- Array.foldl_toList,Array.toList_zipIdx]
      have:=zgY #[] (a.eval p.2).cells.toList 0 cells (p.1 * sz) (by simp at hle ⊢;omega)
      simpa using this
     have hs3:Sim E (F2++hand) a w s2 I ι Fs2 Gs2:=by
      have hnd:=hs2.nodup2.2.1
      have hpp:(Fx++(F++hand)).Perm ((F2++hand)++L):=by
       have e1:(Fx++(F++hand)).Perm ((F++Fx)++hand):=by rw [List.perm_iff_count];intro y;simp [List.count_append];omega
       refine e1.trans ((hperm.append_right hand).trans ?_)
       rw [List.perm_iff_count];intro y;simp [List.count_append];omega
      have hnd2:=hpp.nodup_iff.1 hnd
      exact hs2.less (List.nodup_append.1 hnd2).1 (fun b hb=>hpp.mem_iff.2 (mAL _ hb))
     have hz2:∀ x ∈ xs.set p.1 v,x.cells.length=sz:=fun y hy=>(List.mem_or_eq_of_mem_set hy).elim (hz y) (fun e=>e ▸ hlc)
     obtain ⟨cells',F',Fs',Gs',g1,g2,g3,g4,g5,g6,g7⟩:=zmm hf hs3 (cells:=(a.eval p.2).cells.zipIdx.foldl (fun cs (c,j)=>cs.setIfInBounds (p.1 * sz + j) c) cells) (by rw [hp];exact hr2)
      (by
       rw [hp]
       have o1:ones (cells.toList.take (p.1 * sz)):=fun v hv=>ho v (List.mem_of_mem_take hv)
       have o2:ones (cells.toList.drop (p.1 * sz + (a.eval p.2).cells.toList.length)):=fun v hv=>ho v (List.mem_of_mem_drop hv)
       exact o1.append (hoc.append o2)) hz2 hv
     refine ⟨cells',F',Fs',Gs',?_,g2,g3,?_,g5,by rw [g6];simp,g7⟩
     ·simp only [List.map_cons,Instr.fill]
      rw [if_neg]
      ·exact g1
      ·simp only [Array.length_toList] at hle
       simp only [ne_eq,Bool.or_eq_true,decide_eq_true_eq,not_or,Decidable.not_not,Nat.not_lt,gt_iff_lt]
       exact ⟨hsz,by omega⟩
     ·rw [g4]
      have:=congrArg List.length hp
      simp only [Array.length_toList] at this hle
      rw [this]
      simp
      omega
    ·cases hv
   ·cases hv
theorem Rep.new_own {c:Array Value} {T:TypeId} {xs:List D} {z n cap:Nat} {F:List Nat} {vs:List Value} (hI:∀ b,I b->b<w.heap.size) (hr:RepL w I [] vs (zaj xs) F) (ho:ones vs) (hz:∀ x ∈ xs,x.cells.length=z)
  (hn:n=xs.length) (hcap:n<=cap) (hs:cap * z<=c.size) (hc:∀ (j:Nat) (v:Value),vs[j]? = some v->c[j]? = some v) :
  Rep (w.alloc (.cells c T)) I ι (.slice (some ⟨w.heap.size,0,none⟩) n cap) (.sl true z xs) (w.heap.size::F):=by
 refine .own _ _ _ _ _ _ _ vs T c F hn (heap_alloc_new w _) (by omega) hcap ?_ ho ?_ hz
 ·intro j v hj
  simp only [World.cell?,heap_alloc_new,Option.isSome_none,Bool.false_eq_true,if_false,Nat.zero_add]
  exact hc j v hj
 ·exact hr.frame (fun _ h=>h) (fun b hb=>heap_alloc_old w _ (hI b hb)) (fun b hb=>heap_alloc_old w _ (hr.lt b hb))
theorem zmn {α:Type} (x:α):(pure x:Sem α).run P w=.ok x w:=rfl
theorem zzI (h:Sim E [] a w s I ι Fs Gs) {o:Oper} {d:Nat} (hd:o.dst=some d) (hp:∀ v,(d,v) ∉ E.pin) {t el:TypeId} {parts:Array (Nat × Operand)} {len n:Nat} {z:D} {ps:List (Nat × X)}
  (ho:o.op=.buildSlice t len parts) (ht:zpr P t=some el) (hn:zcd P el=some n) (hpos:0<n) (hlim:len * n<=16777216) (hz:zfM P el=some z) (hzc:z.cells.length=n)
  (hps:All2 (fun (p:Nat × Operand) (q:Nat × X)=>∃ x,cX P el p.2=some x∧q=(p.1,x)) parts.toList ps) {s':St}
  (hv:vact (.bsl d n z len ps) s=some (.st s')):Done P o a w E s':=by
 obtain ⟨i,zv,hi,hz1,hzs,hzl,hrep,hon,hR⟩:=zgZ hz
 obtain ⟨⟨ys,s1⟩,h1,h2⟩:=zaB (zac hv)
 have hisz:i.size=n:=by simp only [zcd,hi,Option.map_some,Option.some.injEq] at hn;exact hn
 have hut:P.underlying t=some (.slice el):=by
  unfold zpr at ht
  split at ht
  ·rename_i e hu;cases ht;exact hu
  ·cases ht
 obtain ⟨m1,m2⟩:=zjB (z:=zv.cells) (zd:=z) (by omega) (hrep w I []) hon len
 rw [hzs,hisz] at m1 m2
 have hcl:∀ x ∈ zda z len,x.cells.length=n:=fun x hx=>by rw [zhq hx];exact hzc
 obtain ⟨cells',F',Fs',Gs',q1,q2,q3,q4,q5,q6,q7⟩:=zmm (F:=[]) (hand:=[]) hps (by simpa using h) m1 m2 hcl h1
 have hsz:cells'.size=len * n:=by rw [q4,size_madeCells]
 have hrun:(execOp a.eval o).run P w=.ok (.value (.slice (some ⟨w.heap.size,0,none⟩) len len)) (w.alloc (.cells cells' el)):=by
  have e:(parts.map fun p=>(p.1,a.eval p.2)).toList=parts.toList.map fun p=>(p.1,a.eval p.2):=by simp
  have hso:(sizeOf el).run P w=.ok n w:=by simp [sizeOf,typeInfo,program,hi,hisz,Sem.run,pure,bind,Sem.bind]
  have hzv:(zeroValue el).run P w=.ok zv w:=by simp [zeroValue,typeInfo,program,hi,hz1,Sem.run,pure,bind,Sem.bind]
  have hlt:¬ (len * n > 2 ^ 24):=by omega
  by_cases h0:len * n=0
  ·have hmade:(Array.range (len * n)).map (fun x=>(#[]:Array Value)[x % (#[]:Array Value).size]!)=madeCells zv.cells (len * n):=by
    simp [h0,madeCells,Array.range_zero']
   simp only [execOp,ho,Instr.buildSlice,Sem.run_bind,run_underlying hut,Result.andThen_ok,hso,hlt,if_false,if_pos h0,hmade,e]
   simp only [Sem.run_bind,zmn,Result.andThen_ok,hmade,q1]
   rfl
  ·have hmade:(Array.range (len * n)).map (fun x=>zv.cells[x % zv.cells.size]!)=madeCells zv.cells (len * n):=rfl
   simp only [execOp,ho,Instr.buildSlice,Sem.run_bind,run_underlying hut,Result.andThen_ok,hso,hlt,if_false,if_neg h0,hzv,hmade,e]
   simp only [Sem.run_bind,zmn,Result.andThen_ok,hmade,q1]
   rfl
 have hsim:=q7.alloc (.cells cells' el)
 have hrepN:Rep (w.alloc (.cells cells' el)) I ι (.slice (some ⟨w.heap.size,0,none⟩) len len) (.sl true n ys) (w.heap.size::F') :=
  Rep.new_own (fun b hb=>(h.imm b hb).1) q2 q3 q5 (by rw [q6,zfj]) (Nat.le_refl _) (by omega) (fun j v hj=>by simpa using hj)
 obtain ⟨Fs2,g3⟩:=Sim.setVal (F:=w.heap.size::F') (hand:=[]) (by simpa using hsim) h2 hp hrepN
 exact ⟨_,_,_,I,ι,Fs2,Gs',hrun,.inl rfl,by rw [hd];exact g3⟩
theorem zzJ (h:Sim E [] a w s I ι Fs Gs) {o:Oper} {d:Nat} (hd:o.dst=some d) (hp:∀ v,(d,v) ∉ E.pin) {t el t1 t2:TypeId} {x1 x2:Operand} {y1 y2:X} {i:TypeInfo} {z:D}
  (ho:o.op=.makeSlice t x1 x2) (ht:zpr P t=some el) (hi:P.info? el=some i) (hpos:0<i.size) (hby:i.bytes<=65536) (hz:zfM P el=some z) (hzc:z.cells.length=i.size)
  (hc1:cX P t1 x1=some y1) (hc2:cX P t2 x2=some y2) {s':St} (hv:vact (.mks d i.size z y1 y2) s=some (.st s')):Done P o a w E s':=by
 obtain ⟨i',zv,hi',hz1,hzs,hzl,hrep,hon,hR⟩:=zgZ hz
 rw [hi] at hi';cases hi'
 obtain ⟨l,h1,h2⟩:=zaB (zac hv)
 obtain ⟨c,h3,h4⟩:=zaB h2
 split at h4
 ·rename_i hcond
  obtain ⟨hlc,hm⟩:=hcond
  obtain ⟨k1,hk1⟩:=zhp h1
  obtain ⟨k2,hk2⟩:=zhp h3
  obtain ⟨F1,r1,_⟩:=h.rd hk1 (zal hc1 a)
  obtain ⟨F2,r2,_⟩:=h.rd hk2 (zal hc2 a)
  have hut:P.underlying t=some (.slice el):=by
   unfold zpr at ht
   split at ht
   ·rename_i e hu;cases ht;exact hu
   ·cases ht
  have hb1:i.bytes * c<=65536 * 2147483648:=Nat.mul_le_mul hby (by unfold most at hm;exact hm)
  have hrun:(execOp a.eval o).run P w=.ok (.value (.slice (some ⟨w.heap.size,0,none⟩) l c)) (w.alloc (.cells (madeCells zv.cells (c * i.size)) el)):=by
   have:=run_make (P:=P) w t el i zv hut hi hz1 k1 k2 l c (by omega) (by omega) (by
    have:((i.bytes * c:Nat):Int)<=281474976710656:=by omega
    simpa using this) (by unfold most at hm;omega)
   simp only [Int.toNat_natCast] at this
   simp only [execOp,ho,r1.is_int,r2.is_int,Sem.run_bind,this,Result.andThen_ok]
   rfl
  have hsim:=h.alloc (.cells (madeCells zv.cells (c * i.size)) el)
  obtain ⟨m1,m2⟩:=zjB (z:=zv.cells) (zd:=z) (by omega) (hrep w I []) hon l
  rw [hzs] at m1 m2
  have hrepN:Rep (w.alloc (.cells (madeCells zv.cells (c * i.size)) el)) I ι (.slice (some ⟨w.heap.size,0,none⟩) l c) (.sl true i.size (zda z l)) [w.heap.size]:=by
   refine Rep.new_own (fun b hb=>(h.imm b hb).1) m1 m2 (fun x hx=>by rw [zhq hx];exact hzc) (by rw [zfj]) hlc (by rw [size_madeCells];omega) ?_
   intro j v hj
   have hmul:l * i.size<=c * i.size:=Nat.mul_le_mul_right _ hlc
   have hlt:j<l * i.size:=by have:=getElem?_lt hj;simpa [size_madeCells] using this
   simp only [madeCells,Array.toList_map,List.getElem?_map,Array.toList_range] at hj
   rw [List.getElem?_range hlt] at hj
   simp only [madeCells,Array.getElem?_map]
   rw [Array.getElem?_range,if_pos (by omega)]
   exact hj
  obtain ⟨Fs2,g3⟩:=Sim.setVal (F:=[w.heap.size]) (hand:=[]) (by simpa using hsim) h4 hp hrepN
  exact ⟨_,_,_,I,ι,Fs2,Gs,hrun,.inl rfl,by rw [hd];exact g3⟩
 ·cases h4
theorem Sim.place_cells (h:Sim E hand a w s I ι Fs Gs) {p:Place} {k:BK} {x:D} (hx:s.rdP p k=some x) {v:Value} (hok:zgf w a s ι v (.ptr p)) :
  ∃ vs ds bo vs' ds' b o,zaC w a s ι p.root vs ds bo∧Foc w vs ds bo p.steps vs' ds' (some (b,o))∧v=.pointer (some ⟨b,o + p.off,none⟩)∧zaA w b o vs'∧ones vs'∧zej ds' p.off k=some x ∧
   ∃ ι' F',RepL w I ι' vs' ds' F'∧(ι'=ι ∨ ι'=[]):=by
 obtain ⟨vs,ds,bo,ds',h0,h1,h2,h3⟩:=h.rdP_open hx
 obtain ⟨F,hr,hn,hF,hb⟩:=zbe h h1
 obtain ⟨vs',bo',ι',F',R,hFoc,hrep,hones,hperm,hnil,hcons,_⟩:=zcJ p.steps bo hr hn h2
 obtain ⟨b,o,e,hv⟩:=hok _ _ _ _ _ _ h1 hFoc
 subst e
 by_cases hst:p.steps=[]
 ·obtain ⟨e1,e2,e3,_⟩:=hnil hst
  subst e1
  obtain ⟨e4,e5,c,T,hh,e6⟩:=hb b o e2.symm
  subst e4
  refine ⟨vs',ds,bo,vs',ds',b,0,h1,hFoc,hv,?_,e5,h3,ι',F',hrep,.inl e3⟩
  intro j u hj
  simp only [World.cell?,hh,Option.isSome_none,Bool.false_eq_true,if_false,Nat.zero_add]
  rw [e6] at hj
  simpa using hj
 ·obtain ⟨e1,b',o',c,T,e2,_,hh,_,hc⟩:=hcons hst
  cases e2
  exact ⟨vs,ds,bo,vs',ds',b,o,h1,hFoc,hv,hc,hones hst,h3,ι',F',hrep,.inr e1⟩
theorem zgt {t:TypeId} {k:BK} (hk:bkOf P t=some k) {b o:Nat} {vs:List Value} (hc:zaA w b o vs) {off:Nat} (hw:off + k.width<=vs.length) (hkk:∀ lo hi,k ≠ .cut lo hi) :
  ∃ v,(loadVar t ⟨b,o + off,none⟩).run P w=.ok v w∧(∀ ds,ones vs->zig vs ds off k v):=by
 unfold bkOf at hk
 split at hk
 ·rename_i i hb hi
  cases hk
  have hload:(loadCells ⟨b,o + off,none⟩ ((vs.drop off).take i.size).length).run P w=.ok ((vs.drop off).take i.size).toArray w:=by
   refine run_loadCells_list (P:=P) w _ _ ?_
   intro j v hj
   rw [Addr.add_lit]
   rw [List.getElem?_take] at hj
   split at hj
   ·rw [List.getElem?_drop] at hj
    have:=hc _ v hj
    rwa [show o + (off + j)=o + off + j by omega] at this
   ·cases hj
  have hlen:((vs.drop off).take i.size).length=i.size:=by
   rw [List.length_take,List.length_drop]
   simp only [BK.width] at hw
   omega
  rw [hlen] at hload
  refine ⟨.agg ((vs.drop off).take i.size).toArray,?_,fun ds ho=>⟨hw,fun v hv=>ho v (List.mem_of_mem_drop (List.mem_of_mem_take hv)),rfl⟩⟩
  have hso:(sizeOf t).run P w=.ok i.size w:=by simp [sizeOf,typeInfo,program,hi,Sem.run,pure,bind,Sem.bind]
  simp only [loadVar,Sem.run_bind,zgW hb,Result.andThen_ok,if_true,hso,hload]
  rfl
 ·rename_i i hb hi
  split at hk
  ·cases hk
   simp only [BK.width] at hw
   have hlt:off<vs.length:=by omega
   refine ⟨vs[off],?_,fun ds ho=>List.getElem?_eq_getElem hlt⟩
   have:=hc off _ (List.getElem?_eq_getElem hlt)
   simp only [loadVar,Sem.run_bind,zgW hb,Result.andThen_ok,Bool.false_eq_true,if_false]
   simp [load,Sem.run,this]
  ·cases hk
 ·cases hk
theorem zih {t:TypeId} {k:BK} (hk:bkOf P t=some k):∀ lo hi,k ≠ .cut lo hi:=by
 unfold bkOf at hk
 intro lo hi
 split at hk
 ·cases hk;intro e;cases e
 ·split at hk
  ·cases hk;intro e;cases e
  ·cases hk
 ·cases hk
theorem zgu {ds:List D} {off:Nat} {k:BK} {x:D} (h:zej ds off k=some x):off + k.width<=ds.length:=by
 cases k with
 | one=>have:=getElem?_lt h;simp [BK.width];omega
 | many n =>
  simp only [zej] at h
  split at h
  ·simpa [BK.width] using ‹_›
  ·cases h
 | cut lo hi =>
  simp only [zej] at h
  split at h
  ·have:=getElem?_lt ‹_›;simp [BK.width];omega
  ·cases h
theorem zBx (h:Sim E [] a w s I ι Fs Gs) {o:Oper} {d:Nat} (hd:o.dst=some d) (hp:∀ v,(d,v) ∉ E.pin) {t ty:TypeId} {x:Operand} {y:X} {k:BK} (ho:o.op=.load t x) (hk:bkOf P t=some k)
  (hc:cX P ty x=some y) {s':St} (hv:vact (.ld d k y) s=some (.st s')):Done P o a w E s':=by
 have hrun:∀ b off v,a.eval x=.pointer (some ⟨b,off,none⟩)->(loadVar t ⟨b,off,none⟩).run P w=.ok v w->(execOp a.eval o).run P w=.ok (.value v) w:=by
  intro b off v e hl
  simp only [execOp,ho,e,Instr.loadAt,Instr.sureAddr,Sem.run_bind]
  simp [Sem.run,pure,Sem.run_bind,hl]
 simp only [vact] at hv
 split at hv
 ·rename_i p hpl
  obtain ⟨z,h1,h2⟩:=zaB (zac hv)
  obtain ⟨g1,g2⟩:=h.place hpl (zal hc a)
  obtain ⟨vs,ds,bo,vs',ds',b,of,q1,q2,q3,q4,q5,q6,ι',F',q7,q8⟩:=h.place_cells h1 g1
  have hw:=zgu q6
  rw [<- q7.length] at hw
  obtain ⟨v,hl,hva⟩:=zgt (P:=P) hk q4 hw (zih hk)
  have hval:∀ vs1 ds1 bo1 vs1' ds1' bo1',zaC w a s ι p.root vs1 ds1 bo1->Foc w vs1 ds1 bo1 p.steps vs1' ds1' bo1'->zig vs1' ds1' p.off k v:=by
   intro vs1 ds1 bo1 vs1' ds1' bo1' e1 e2
   have:vs1=vs∧ds1=ds∧bo1=bo:=by
    cases hroot:p.root with
    | slot u =>
     rw [hroot] at e1 q1
     rcases e1 with ⟨b1,c1,T1,m1,m2,m3,rfl,rfl⟩|⟨y1,m1,rfl,rfl,rfl⟩
     ·rcases q1 with ⟨b2,c2,T2,n1,n2,n3,rfl,rfl⟩|⟨y2,n1,_,_,_⟩
      ·rw [m1] at n1;cases n1
       rw [m2] at n2;cases n2
       rw [m3] at n3;cases n3
       exact ⟨rfl,rfl,rfl⟩
      ·rw [m1] at n1;cases n1
     ·rcases q1 with ⟨b2,c2,T2,n1,n2,n3,_,_⟩|⟨y2,n1,rfl,rfl,rfl⟩
      ·rw [m1] at n1;cases n1
      ·rw [m1] at n1;cases n1;exact ⟨rfl,rfl,rfl⟩
    | sto u =>
     rw [hroot] at e1 q1
     obtain ⟨b1,c1,T1,m1,m2,m3,rfl,rfl⟩:=e1
     obtain ⟨b2,c2,T2,n1,n2,n3,rfl,rfl⟩:=q1
     rw [m1] at n1;cases n1
     rw [m2] at n2;cases n2
     rw [m3] at n3;cases n3
     exact ⟨rfl,rfl,rfl⟩
   obtain ⟨rfl,rfl,rfl⟩:=this
   obtain ⟨rfl,rfl,_⟩:=e2.unique q2
   exact hva _ q5
  split at h2
  ·refine h.done hd hp h2 (hrun _ _ _ q3 hl) rfl hval ?_
   intro u hu
   obtain ⟨x0,m1,m2,_⟩:=g2 u (by simpa [SV.into] using hu)
   exact ⟨x0,m1,m2,fun p' e=>by cases e⟩
  ·rename_i hX
   obtain ⟨Fx,hr,_⟩:=h.rdP_val h1 hval
   rw [hr.noX (by simpa using hX)] at hr
   exact h.doneD hd hp h2 (hrun _ _ _ q3 hl) hr
 ·split at hv
  ·rename_i cs off hi
   obtain ⟨z,h1,h2⟩:=zaB (zac hv)
   obtain ⟨q,rfl,hs⟩:=zlg hi
   have hx:a.eval x=a.tmps.getD q undef:=zal hc a
   obtain ⟨b,o',vs,e,k1,k2,k3,k4,_⟩:=Rep.is_pim (h.slot q _ hs)
   have hw:=zgu h1
   rw [<- k4.length] at hw
   obtain ⟨v,hl,hva⟩:=zgt (P:=P) hk k2 hw (zih hk)
   obtain ⟨Fx,L,R,g1,g2,_⟩:=zft k4 h1 (hva cs k3)
   have:Fx=[]:=(List.append_eq_nil_iff.1 (List.perm_nil.1 g2.symm)).1
   subst this
   exact h.doneD hd hp h2 (hrun _ _ _ (hx.trans e) hl) (g1.monoSto (fun r b e=>by simp at e))
  ·cases hv
end
end Go.Vx
namespace Go.Vx
theorem zmo (w:World) (b o:Nat) (v:Value) {c:Array Value} {T:TypeId} (hh:w.heap[b]? = some (.cells c T (0,0))) :
  (w.setCell ⟨b,o,none⟩ v).heap[b]? = some (.cells (c.setIfInBounds o v) T (0,0)):=by
 simp [World.setCell,Array.getElem?_modify,hh]
theorem zdp (b:Nat):∀ (vs:List Value) (o:Nat) (w:World) {c:Array Value} {T:TypeId},w.heap[b]? = some (.cells c T (0,0))->o + vs.length<=c.size ->
  ∃ c2,(w.setCells b o vs).heap[b]? = some (.cells c2 T (0,0))∧c2.toList=c.toList.take o++(vs++c.toList.drop (o + vs.length))
 | [],o,w,c,T,hh,h=>⟨c,hh,by simp⟩
 | v::r,o,w,c,T,hh,h=>by
  simp only [List.length_cons] at h
  obtain ⟨c2,h1,h2⟩:=zdp b r (o + 1) _ (zmo w b o v hh) (by simp;omega)
  refine ⟨c2,h1,?_⟩
  rw [h2]
  have hlt:o<c.toList.length:=by simp;omega
  simp only [Array.toList_setIfInBounds]
  rw [List.set_eq_take_append_cons_drop,if_pos hlt]
  have hl:(c.toList.take o).length=o:=by rw [List.length_take];omega
  have e1:(c.toList.take o++v::c.toList.drop (o + 1)).take (o + 1)=c.toList.take o++[v]:=by
   rw [List.take_append,hl,List.take_of_length_le (by omega)]
   simp
  have e2:(c.toList.take o++v::c.toList.drop (o + 1)).drop (o + 1 + r.length)=c.toList.drop (o + (r.length + 1)):=by
   rw [List.drop_append,hl,List.drop_eq_nil_of_le (by omega),List.nil_append]
   rw [show o + 1 + r.length - o=r.length + 1 by omega]
   simp only [List.drop_succ_cons,List.drop_drop]
   congr 1
   omega
  rw [e1,e2]
  simp
theorem zay (b:Nat):∀ (vs:List Value) (o:Nat) (w:World) {k:Nat},k ≠ b->(w.setCells b o vs).heap[k]? = w.heap[k]?
 | [],_,_,_,_=>rfl
 | v::r,o,w,k,h=>by
  rw [World.setCells,zay b r (o + 1) _ h]
  simp [World.setCell,Array.getElem?_modify,Ne.symm h]
theorem Ext.setCells (b:Nat):∀ (vs:List Value) (o:Nat) (w:World) {S:Nat->Prop},S b->Ext S w (w.setCells b o vs)
 | [],_,w,S,_=>Ext.refl _ _
 | v::r,o,w,S,h=>by
  refine Ext.trans (b:=w.setCell ⟨b,o,none⟩ v) (S':=S) ⟨rfl,rfl,rfl,by simp [World.setCell],?_⟩ (Ext.setCells b r (o + 1) _ h) (fun _ _ e=>e)
  intro k hk hs
  have:k ≠ b:=fun e=>hs (e ▸ h)
  simp [World.setCell,Array.getElem?_modify,Ne.symm this]
section
variable {P:Program} {E:Env} {hand:List Nat} {a:Act} {w:World} {s:St} {I:Nat->Prop} {ι:List Nat} {Fs Gs:List (List Nat)}
def zha (bo:Option (Nat × Nat)) (G:List Nat):List Nat :=
 match bo with
 | some (b,_)=>b::G
 | none=>G
theorem ziB {l:List (List Nat)} (hl:l.flatten.Nodup) (t:Nat):(l.getD t []).Nodup:=by
 by_cases ht:t<l.length
 ·obtain ⟨R,hp,_⟩:=zfx (zaQ [] ht)
  exact (List.nodup_append.1 (hp.nodup_iff.1 hl)).1
 ·simp [List.getD,List.getElem?_eq_none_iff.2 (Nat.le_of_not_lt ht)]
theorem Sim.FP_nodup (h:Sim E hand a w s I ι Fs Gs) (r:Root):(FP Fs Gs r).Nodup:=by
 obtain ⟨m1,m2,_⟩:=List.nodup_append.1 h.nodup2.1
 cases r with
 | slot t=>exact ziB m1 t
 | sto t=>exact ziB m2 t
theorem Sim.rootRep (h:Sim E hand a w s I ι Fs Gs) {r:Root} {vs:List Value} {ds:List D} {bo:Option (Nat × Nat)} (hr:zaC w a s ι r vs ds bo) :
  ∃ F,RepL w I ι vs ds F∧FP Fs Gs r=zha bo F∧(∀ b o,bo=some (b,o)->o=0∧ones vs∧∃ c T,w.heap[b]? = some (.cells c T (0,0))∧vs=c.toList):=by
 obtain ⟨F,h1,h2,h3⟩:=h.rootFP hr
 refine ⟨F,h1,?_,h3⟩
 rw [h2]
 cases bo <;> rfl
theorem Sim.recellsW (h:Sim E hand a w s I ι Fs Gs) {r:Root} {vs:List Value} {ds ds2:List D} {bo:Option (Nat × Nat)} (hr:zaC w a s ι r vs ds bo) (h0:s.root r=some ds) {s1:St}
  (hs:s.setRoot r ds2=some s1) (hl:ds2.length=ds.length) (all:Bool) {w2:World} {G hand2:List Nat} {I2:Nat->Prop}
  (hblk:∀ b c T,bo=some (b,0)->w.heap[b]? = some (.cells c T (0,0))->vs=c.toList->∃ c3,w2.heap[b]? = some (.cells c3 T (0,0))∧RepL w2 I2 ι c3.toList ds2 G∧ones c3.toList)
  (hreg:bo=none->RepL w2 I2 ι vs ds2 G) (hx:Ext (fun b=>b ∈ FP Fs Gs r ∨ b ∈ hand) w w2)
  (hI:∀ b,I b->I2 b) (hI2:∀ b,I2 b->I b ∨ ((b ∈ FP Fs Gs r ∨ b ∈ hand ∨ w.heap.size<=b)∧b<w2.heap.size))
  (hn:(zha bo G++hand2).Nodup) (hha:∀ b ∈ zha bo G++hand2,¬ I2 b∧(b ∈ FP Fs Gs r ∨ b ∈ hand ∨ w.heap.size<=b)∧b<w2.heap.size) :
  ∃ Fs2 Gs2,Sim E hand2 a w2 (s1.kill r all) I2 ι Fs2 Gs2:=by
 obtain ⟨hnew,hroot2⟩:=ziA all h0 hl hs
 obtain ⟨Fs2,Gs2,hsim,_⟩:=h.reroot hnew (w2:=w2) (I2:=I2) (hand2:=hand2) (F2:=zha bo G) hx hI hI2 hn hha
  (by
   intro n sv e hsv
   subst e
   simp only [St.root,hsv] at hroot2
   rcases hr with ⟨b,c,T,hs0,hv,hh,rfl,rfl⟩|⟨x,hs0,rfl,rfl,rfl⟩
   ·rcases hnew.self hsv with ⟨_,cs2,_,rfl⟩|⟨_,_,e,_⟩
    ·simp only [Option.some.injEq] at hroot2
     subst hroot2
     obtain ⟨c3,m1,m2,m3⟩:=hblk b c T rfl hh rfl
     exact ⟨b,hv,c3,T,G,m1,m2,m3,rfl⟩
    ·rw [hs0] at e;cases e
   ·rcases hnew.self hsv with ⟨_,_,e,_⟩|⟨_,y,_,rfl⟩
    ·rw [hs0] at e;cases e
    ·simp only [Option.some.injEq] at hroot2
     subst hroot2
     obtain ⟨v0,e0,hv0⟩:=(hreg rfl).of_one
     simp only [List.cons.injEq,and_true] at e0
     rw [e0]
     exact hv0)
  (by
   intro n cs e hcs
   subst e
   simp only [St.root,hcs,Option.some.injEq] at hroot2
   subst hroot2
   obtain ⟨b,c,T,hs0,hi,hh,hvs,rfl⟩:=hr
   rw [zgV hi]
   obtain ⟨c3,m1,m2,m3⟩:=hblk b c T rfl hh hvs
   exact ⟨c3,T,G,m1,m2,m3,rfl⟩)
 exact ⟨Fs2,Gs2,hsim⟩
theorem Sim.write {Fx:List Nat} (h:Sim E (Fx++hand) a w s I ι Fs Gs) {p:Place} {cs:List D} {s1:St} (hw:s.wrP p cs=some s1) {v:Value} (hok:zgf w a s ι v (.ptr p))
  {nv:List Value} (hn:RepL w I ι nv cs Fx) (ho:ones nv) (hR:p.steps=[] ∨ zah cs=false) :
  ∃ b o,v=.pointer (some ⟨b,o,none⟩)∧(∀ j,j<nv.length->(w.cell? ⟨b,o + j,none⟩).isSome=true∧w.frozen? ⟨b,o + j,none⟩=false) ∧
   (∃ Fs2 Gs2,Sim E hand a (w.setCells b o nv) (s1.kill p.root false) I ι Fs2 Gs2)∧(p.steps ≠ []->∃ vs ds bo,zaC w a s ι p.root vs ds bo∧∀ b1 o1,bo=some (b1,o1)->b1 ≠ b):=by
 obtain ⟨ds,ds',d2,cs',g0,g1,g2,g3,g4,g5⟩:=zfL hw
 obtain ⟨vs,bo,h1⟩:=h.root_open g0
 obtain ⟨F,hr,hF,hb⟩:=h.rootRep h1
 have hnW:(zha bo F).Nodup:=hF ▸ h.FP_nodup p.root
 have hFin:∀ x,x ∈ F->x ∈ FP Fs Gs p.root:=by
  intro x hxF
  rw [hF]
  cases bo with
  | none=>exact hxF
  | some q=>exact List.mem_cons_of_mem _ hxF
 have hboF:∀ b1 o1,bo=some (b1,o1)->b1 ∉ F∧b1 ∈ FP Fs Gs p.root:=by
  intro b1 o1 e
  rw [e] at hnW hF
  exact ⟨(List.nodup_cons.1 hnW).1,by rw [hF];exact List.mem_cons_self ..⟩
 have hnF:F.Nodup:=by
  cases hbo:bo with
  | none=>rw [hbo] at hnW;exact hnW
  | some q=>rw [hbo] at hnW;exact (List.nodup_cons.1 hnW).2
 obtain ⟨vs',bo',ι',F',R,hFoc,hrep,hones,hperm,hnil,hcons,hre⟩:=zcJ p.steps bo hr hnF g1
 obtain ⟨b,o,e,hv⟩:=hok _ _ _ _ _ _ h1 hFoc
 subst e
 have hn':RepL w I ι' nv cs Fx:=by
  by_cases hst:p.steps=[]
  ·rw [(hnil hst).2.2.1];exact hn
  ·exact hn.noRef (hR.resolve_left hst)
 obtain ⟨hle,F2,L,hr2,hp2⟩:=hrep.patch hn' g2
 obtain ⟨c,T,hh,hoc,hca,hbin,hones',hzero⟩:∃ c T,w.heap[b]? = some (.cells c T (0,0))∧o + vs'.length<=c.size∧zaA w b o vs'∧(b ∈ FP Fs Gs p.root∧(p.steps=[]->b ∉ F)∧(p.steps ≠ []->b ∈ R))∧ones vs'∧(p.steps=[]->o=0∧vs'=c.toList∧bo=some (b,0)):=by
  by_cases hst:p.steps=[]
  ·obtain ⟨e1,e2,e3,_⟩:=hnil hst
   subst e1
   obtain ⟨e4,e5,c,T,hh,e6⟩:=hb b o e2.symm
   subst e4
   refine ⟨c,T,hh,by rw [e6];simp,?_,⟨(hboF b 0 e2.symm).2,?_,fun h=>absurd hst h⟩,e5,fun _=>⟨rfl,e6,e2.symm⟩⟩
   ·intro j u hj
    simp only [World.cell?,hh,Option.isSome_none,Bool.false_eq_true,if_false,Nat.zero_add]
    rw [e6] at hj
    simpa using hj
   ·exact fun _=>(hboF b 0 e2.symm).1
  ·obtain ⟨e1,b',o',c,T,e2,e3,hh,e4,hc⟩:=hcons hst
   cases e2
   refine ⟨c,T,hh,e4,hc,⟨?_,fun h=>absurd h hst,fun _=>e3⟩,hones hst,fun h=>absurd h hst⟩
   exact hFin b (hperm.mem_iff.2 (mAR _ e3))
 obtain ⟨hbFP,hbF,hbR⟩:=hbin
 have hcell:∀ j,j<nv.length->(w.cell? ⟨b,(o + p.off) + j,none⟩).isSome=true∧w.frozen? ⟨b,(o + p.off) + j,none⟩=false:=by
  intro j hj
  constructor
  ·simp only [World.cell?,hh,Option.isSome_none,Bool.false_eq_true,if_false]
   rw [Array.getElem?_eq_getElem (by omega)];rfl
  ·simp only [World.frozen?,hh]
   simp
 refine ⟨b,o + p.off,hv,hcell,?_,fun hst=>⟨vs,ds,bo,h1,fun b1 o1 e e5=>(hboF _ _ e).1 (e5 ▸ hperm.mem_iff.2 (mAR _ (hbR hst)))⟩⟩
 obtain ⟨c2,q1,q2⟩:=zdp b nv (o + p.off) w hh (by omega)
 have hI:∀ x,I x->(w.setCells b (o + p.off) nv).heap[x]? = w.heap[x]? := fun x hx=>zay b nv _ w (fun e=>(h.apart b (by rw [<- List.append_assoc];exact mAL _ (h.FP_sub hbFP))).1 (e ▸ hx))
 obtain ⟨n1,n2,n3⟩:=h.nodup2
 have hFxb:b ∉ Fx:=fun hx=>n3 b (h.FP_sub hbFP) (mAL _ hx)
 have hbF':b ∉ F':=by
  intro hx
  by_cases hst:p.steps=[]
  ·exact hbF hst (hperm.mem_iff.2 (mAL _ hx))
  ·have:=hperm.nodup_iff.1 hnF
   exact (List.nodup_append.1 this).2.2 b hx b (hbR hst) rfl
 have hbF2:b ∉ F2:=fun hx=>(List.mem_append.1 (hp2.mem_iff.2 (mAL _ hx))).elim hbF' hFxb
 have hr2':RepL (w.setCells b (o + p.off) nv) I ι' (vs'.take p.off++(nv++vs'.drop (p.off + nv.length))) d2 F2 :=
  hr2.frame (fun _ h=>h) hI (fun x hx=>zay b nv _ w (fun e=>hbF2 (e ▸ hx)))
 have ho2:ones (vs'.take p.off++(nv++vs'.drop (p.off + nv.length))):=by
  refine ones.append (fun v hv=>hones' v (List.mem_of_mem_take hv)) (ho.append (fun v hv=>hones' v (List.mem_of_mem_drop hv)))
 have hlen2:(vs'.take p.off++(nv++vs'.drop (p.off + nv.length))).length=vs'.length:=by
  simp;omega
 have hc2size:c2.size=c.size:=by
  have:=congrArg List.length q2
  simp at this
  omega
 have hat2:zaA (w.setCells b (o + p.off) nv) b o (vs'.take p.off++(nv++vs'.drop (p.off + nv.length))):=by
  refine zaA.append ?_ (zaA.append ?_ ?_)
  ·intro j u hj
   have hjl:=getElem?_lt hj
   rw [List.length_take] at hjl
   rw [World.cell?_setCells_out b nv _ w _ (fun _ _=>.inl (by simp;omega))]
   rw [List.getElem?_take] at hj
   split at hj
   ·exact hca j u hj
   ·cases hj
  ·intro j u hj
   have hjl:=getElem?_lt hj
   have hl:(vs'.take p.off).length=p.off:=by rw [List.length_take];omega
   rw [hl,World.cell?_setCells_in b nv (o + p.off) w (fun j hj=>(hcell j hj).1) j hjl]
   rw [List.getElem?_eq_getElem hjl] at hj
   exact hj
  ·intro j u hj
   have hl:(vs'.take p.off).length=p.off:=by rw [List.length_take];omega
   rw [hl,World.cell?_setCells_out b nv _ w _ (fun _ _=>.inr (by simp))]
   rw [List.getElem?_drop] at hj
   have:=hca _ u hj
   rwa [show o + (p.off + nv.length + j)=o + p.off + nv.length + j by omega] at this
 have hpat:zni w (w.setCells b (o + p.off) nv) b o (vs'.take p.off++(nv++vs'.drop (p.off + nv.length))):=by
  refine ⟨c,T,c2,hh,q1,hc2size,?_,hat2⟩
  intro j hj
  rw [hlen2] at hj
  have hl2:c2[j]? = c2.toList[j]? := by simp
  have hl1:c[j]? = c.toList[j]? := by simp
  rw [hl2,hl1,q2]
  have hct:(c.toList.take (o + p.off)).length=o + p.off:=by rw [List.length_take];simp;omega
  rcases hj with hj|hj
  ·rw [List.getElem?_append_left (by omega),List.getElem?_take,if_pos (by omega)]
  ·rw [List.getElem?_append_right (by omega),List.getElem?_append_right (by omega),List.getElem?_drop,hct]
   congr 1
   omega
 obtain ⟨G,hG,hGp⟩:=hre (w.setCells b (o + p.off) nv) I _ d2 F2 (fun _ h=>h) hI
  (fun x hx hne=>zay b nv _ w (fun e=>hne o (by rw [e])))
  (by
   intro hst b1 o1 e
   simp only [Option.some.injEq,Prod.mk.injEq] at e
   obtain ⟨rfl,rfl⟩:=e
   exact hpat) hlen2 (fun _=>ho2) hr2' cs' g3
 have hGF:∀ x ∈ G,(x ∈ FP Fs Gs p.root ∨ x ∈ Fx):=by
  intro x hx
  rcases List.mem_append.1 (hGp.mem_iff.1 hx) with hx|hx
  ·rcases List.mem_append.1 (hp2.mem_iff.2 (mAL _ hx)) with hx|hx
   ·exact .inl (hFin x (hperm.mem_iff.2 (mAL _ hx)))
   ·exact .inr hx
  ·exact .inl (hFin x (hperm.mem_iff.2 (mAR _ hx)))
 have hFFx:(F++Fx).Nodup:=by
  refine List.nodup_append.2 ⟨hnF,(List.nodup_append.1 n2).1,?_⟩
  intro x hx y hy e
  subst e
  exact n3 x (h.FP_sub (hFin x hx)) (mAL _ hy)
 have hGn:G.Nodup:=by
  have e1:(F++Fx).Perm (G++L):=by
   refine (hperm.append_right Fx).trans ?_
   have e2:((F'++R)++Fx).Perm ((F'++Fx)++R):=by rw [List.perm_iff_count];intro y;simp [List.count_append];omega
   refine e2.trans ((hp2.append_right R).trans ?_)
   refine List.Perm.trans ?_ (hGp.symm.append_right L)
   rw [List.perm_iff_count];intro y;simp [List.count_append];omega
  exact (List.nodup_append.1 (e1.nodup_iff.1 hFFx)).1
 have hlt:∀ x,x ∈ FP Fs Gs p.root ∨ x ∈ Fx++hand->¬ I x∧x<w.heap.size:=by
  intro x hx
  have:=h.apart x (by
   rcases hx with hx|hx
   ·rw [<- List.append_assoc];exact mAL _ (h.FP_sub hx)
   ·exact mAR _ (mAR _ hx))
  exact ⟨this.1,this.2.2⟩
 have hsz:(w.setCells b (o + p.off) nv).heap.size=w.heap.size:=by
  have:∀ (vs:List Value) (k:Nat) (w:World),(w.setCells b k vs).heap.size=w.heap.size:=by
   intro vs
   induction vs with
   | nil=>intros;rfl
   | cons v r ih=>intro k w;rw [World.setCells,ih];simp [World.setCell]
  exact this _ _ _
 have hFNmem:∀ x ∈ zha bo G,x ∈ FP Fs Gs p.root ∨ x ∈ Fx:=by
  intro x hx
  cases hbo:bo with
  | none=>rw [hbo] at hx;exact hGF x hx
  | some q =>
   rw [hbo] at hx
   rcases List.mem_cons.1 hx with rfl|hx
   ·exact .inl (hboF _ _ hbo).2
   ·exact hGF x hx
 have hFNn:(zha bo G).Nodup:=by
  cases hbo:bo with
  | none=>exact hGn
  | some q =>
   refine List.nodup_cons.2 ⟨?_,hGn⟩
   intro hx
   obtain ⟨m1,m2⟩:=hboF _ _ hbo
   rcases List.mem_append.1 (hGp.mem_iff.1 hx) with hx|hx
   ·rcases List.mem_append.1 (hp2.mem_iff.2 (mAL _ hx)) with hx|hx
    ·exact m1 (hperm.mem_iff.2 (mAL _ hx))
    ·exact n3 _ (h.FP_sub m2) (mAL _ hx)
   ·exact m1 (hperm.mem_iff.2 (mAR _ hx))
 refine h.recellsW h1 g0 g4 g5 false (G:=G) ?_ ?_ (Ext.setCells b nv _ w (.inl hbFP)) (fun _ h=>h) (fun x hx=>.inl hx)
  (List.nodup_append.2 ⟨hFNn,(List.nodup_append.1 n2).2.1,?_⟩) ?_
 ·intro b1 c1 T1 e hh1 hvs
  by_cases hst:p.steps=[]
  ·obtain ⟨e1,e2,e3⟩:=hzero hst
   rw [e] at e3
   simp only [Option.some.injEq,Prod.mk.injEq,and_true] at e3
   subst e3
   rw [hh] at hh1
   simp only [Option.some.injEq,Obj.cells.injEq,and_true] at hh1
   obtain ⟨rfl,rfl⟩:=hh1
   have e4:c2.toList=vs'.take p.off++(nv++vs'.drop (p.off + nv.length)):=by rw [q2,e2,e1];simp
   refine ⟨c2,q1,?_,by rw [e4];exact ho2⟩
   rw [if_pos hst] at hG
   rw [e4];exact hG
  ·have hne:b1 ≠ b:=fun e5=>(hboF _ _ e).1 (e5 ▸ hperm.mem_iff.2 (mAR _ (hbR hst)))
   refine ⟨c1,(zay b nv _ w hne).trans hh1,?_,?_⟩
   ·rw [if_neg hst] at hG
    rw [<- hvs];exact hG
   ·rw [<- hvs];exact (hb b1 0 e).2.1
 ·intro e
  have hst:p.steps ≠ []:=fun hst=>by have:=(hzero hst).2.2;rw [e] at this;cases this
  rw [if_neg hst] at hG
  exact hG
 ·intro x hx y hy e
  subst e
  rcases hFNmem x hx with hx|hx
  ·exact n3 x (h.FP_sub hx) (mAR _ hy)
  ·exact (List.nodup_append.1 n2).2.2 x hx x hy rfl
 ·intro x hx
  have:x ∈ FP Fs Gs p.root ∨ x ∈ Fx++hand:=by
   rcases List.mem_append.1 hx with hx|hx
   ·exact (hFNmem x hx).imp id (mAL _)
   ·exact .inr (mAR _ hx)
  refine ⟨(hlt x this).1,this.elim .inl (fun e=>.inr (.inl e)),?_⟩
  rw [hsz]
  exact (hlt x this).2
theorem SV.killD_cases (r:Root) (v:SV):SV.killD r v=SV.kill r false v ∨ (SV.kill r false v=.d .dead∧SV.killD r v=v∧∃ off,v=.bor ⟨r,[],off⟩ .one):=by
 cases v with
 | d x=>exact .inl rfl
 | box cs=>exact .inl rfl
 | ptr p=>exact .inl rfl
 | bor p k =>
  obtain ⟨q,st,off⟩:=p
  cases st with
  | cons x y=>exact .inl rfl
  | nil =>
   cases k with
   | many n=>exact .inl rfl
   | cut lo hi=>exact .inl rfl
   | one =>
    by_cases e:q=r
    ·subst e;exact .inr ⟨by simp [SV.kill],rfl,off,rfl⟩
    ·exact .inl (by simp [SV.kill,SV.killD,e])
theorem Sim.rekeep {hand0:List Nat} {w0:World} {I0:Nat->Prop} {Fs0 Gs0:List (List Nat)} {s1:St} {r:Root} {ds ds2:List D}
  (h0:Sim E hand0 a w0 s I0 ι Fs0 Gs0) (hr0:s.root r=some ds) (hs:s.setRoot r ds2=some s1) (hX:∀ x,ds=[x]->(SV.d (ds2.headD .dead)).isRoot=true)
  (hblk:∃ vs ds bo,zaC w0 a s ι r vs ds bo∧∀ b o,bo=some (b,o)->w.heap[b]? = w0.heap[b]?)
  (h:Sim E hand a w (s1.kill r false) I ι Fs Gs):Sim E hand a w (s1.killD r) I ι Fs Gs:=by
 have hsl:∀ (t:Nat) (sv:SV),(s1.killD r).sl[t]? = some sv->(s1.kill r false).sl[t]? = some sv ∨ ((s1.kill r false).sl[t]? = some (SV.d .dead)∧s1.sl[t]? = some sv∧∃ off,sv=SV.bor ⟨r,[],off⟩ .one):=by
  intro t sv ht
  simp only [St.killD,List.getElem?_map,Option.map_eq_some_iff] at ht
  obtain ⟨v,hv,rfl⟩:=ht
  simp only [St.kill,List.getElem?_map,hv,Option.map_some]
  rcases SV.killD_cases r v with e|⟨e1,e2,e3⟩
  ·exact .inl (by rw [e])
  ·exact .inr ⟨by rw [e1],by rw [e2],by rw [e2];exact e3⟩
 have hback:∀ (u:Nat) (x:SV),(s1.kill r false).sl[u]? = some x->x.isRoot=true->(s1.killD r).sl[u]? = some x:=by
  intro u x hu hx
  simp only [St.kill,List.getElem?_map,Option.map_eq_some_iff] at hu
  obtain ⟨v,hv,rfl⟩:=hu
  simp only [St.killD,List.getElem?_map,hv,Option.map_some]
  rcases SV.killD_cases r v with e|⟨e1,_,_⟩
  ·rw [e]
  ·rw [e1] at hx;cases hx
 have hroot:∀ {q:Root} {vs:List Value} {ds:List D} {bo:Option (Nat × Nat)},zaC w a (s1.killD r) ι q vs ds bo->zaC w a (s1.kill r false) ι q vs ds bo:=by
  intro q vs ds bo hq
  cases q with
  | sto n=>exact hq
  | slot n =>
   rcases hq with ⟨b,c,T,e1,e2⟩|⟨x,e1,e2⟩
   ·rcases hsl _ _ e1 with e|⟨_,_,_,e⟩
    ·exact .inl ⟨b,c,T,e,e2⟩
    ·cases e
   ·rcases hsl _ _ e1 with e|⟨_,_,_,e⟩
    ·exact .inr ⟨x,e,e2⟩
    ·cases e
 have hold:∀ (t off:Nat),s1.sl[t]? = some (SV.bor ⟨r,[],off⟩ .one)->s.sl[t]? = some (SV.bor ⟨r,[],off⟩ .one):=by
  intro t off ht
  cases r with
  | sto n=>simp only [St.setRoot,Option.some.injEq] at hs;subst hs;exact ht
  | slot n =>
   simp only [St.setRoot] at hs
   split at hs
   ·cases hs
    by_cases e:n=t
    ·subst e;simp [List.getElem?_set] at ht
    ·simp only [] at ht;rwa [List.getElem?_set_ne e] at ht
   ·cases hs
    by_cases e:n=t
    ·subst e;simp [List.getElem?_set] at ht
    ·simp only [] at ht;rwa [List.getElem?_set_ne e] at ht
   ·cases hs
 obtain ⟨vs0,ds0,bo0,hr1,hb0⟩:=hblk
 have hsame:∀ (vs:List Value) (ds':List D) (bo:Option (Nat × Nat)),zaC w a (s1.killD r) ι r vs ds' bo->vs=vs0:=by
  intro vs ds' bo hq
  cases r with
  | sto n =>
   obtain ⟨b,c,T,_,q2,q3,q4,q5⟩:=hq
   obtain ⟨b',c',T',_,k2,k3,k4,k5⟩:=hr1
   rw [q2] at k2;cases k2
   have:=hb0 b 0 k5
   rw [q3,k3] at this
   cases this
   rw [q4,k4]
  | slot n =>
   rcases hq with ⟨b,c,T,q1,q2,q3,q4,q5⟩|⟨x,q1,q2,q3,q4⟩
   ·rcases hr1 with ⟨b',c',T',k1,k2,k3,k4,k5⟩|⟨x',k1,k2,k3,k4⟩
    ·rw [q2] at k2
     simp only [Value.pointer.injEq,Option.some.injEq,Addr.mk.injEq,and_true] at k2
     subst k2
     have:=hb0 b 0 k5
     rw [q3,k3] at this
     cases this
     rw [q4,k4]
    ·exfalso
     simp only [St.setRoot,k1] at hs
     cases hs
     rcases hsl _ _ q1 with e|⟨_,_,_,e⟩
     ·simp [St.kill,List.getElem?_map,getElem?_lt k1,SV.kill] at e
     ·cases e
   ·rcases hr1 with ⟨b',c',T',k1,k2,k3,k4,k5⟩|⟨x',k1,k2,k3,k4⟩
    ·exfalso
     simp only [St.setRoot,k1] at hs
     cases hs
     rcases hsl _ _ q1 with e|⟨_,_,_,e⟩
     ·simp [St.kill,List.getElem?_map,getElem?_lt k1,SV.kill] at e
     ·cases e
    ·rw [q2,k2]
 refine ⟨h.defers,h.size.trans (by simp [St.kill,St.killD]),h.lenF.trans (by simp [St.kill,St.killD]),h.lenG,h.lenI,?_,?_,h.sto,h.nodup,h.apart,h.imm,h.immUp,h.ext,h.pin,?_,h.stoUp⟩
 ·intro t sv ht
  rcases hsl t sv ht with e|⟨e,_,off,rfl⟩
  ·exact h.slot t sv e
  ·have:=h.slot t _ e
   simp only [zdb] at this ⊢
   generalize Fs.getD t []=F at this ⊢
   generalize a.tmps.getD t undef=v at this
   cases this
   rfl
 ·intro t sv ht
  rcases hsl t sv ht with e|⟨_,e,off,rfl⟩
  ·have:=h.good t sv e
   cases sv with
   | d x=>trivial
   | box cs=>trivial
   | bor p k=>exact fun vs ds bo vs' ds' bo' q1 q2=>this vs ds bo vs' ds' bo' (hroot q1) q2
   | ptr p=>exact fun vs ds bo vs' ds' bo' q1 q2=>this vs ds bo vs' ds' bo' (hroot q1) q2
  ·intro vs ds' bo vs' ds'' bo' q1 q2
   cases q2
   have:=h0.good t _ (hold t off e) vs0 ds0 bo0 vs0 ds0 bo0 hr1 (.nil ..)
   rw [hsame _ _ _ q1]
   exact this
 ·intro t sv u ht hinto
  rcases hsl t sv ht with e|⟨_,e,off,rfl⟩
  ·obtain ⟨x,e1,e2,e3⟩:=h.rooted t sv u e hinto
   exact ⟨x,hback u x e1 e2,e2,e3⟩
  ·have hru:r=.slot u:=by simpa [SV.into] using hinto
   subst hru
   obtain ⟨x,e1,e2,_⟩:=h0.rooted t _ u (hold t off e) hinto
   simp only [St.setRoot,e1] at hs
   cases x with
   | bor p k=>cases hs
   | ptr p=>cases hs
   | box cs =>
    cases hs
    exact ⟨.box ds2,by simp [St.killD,getElem?_lt e1,SV.killD,SV.kill],rfl,fun p e=>by cases e⟩
   | d y =>
    cases hs
    simp only [St.root,e1,Option.some.injEq] at hr0
    exact ⟨.d (ds2.headD .dead),by simp [St.killD,getElem?_lt e1,SV.killD,SV.kill],hX y hr0.symm,fun p e=>by cases e⟩
theorem zud {g:List D->Option (List D)} {x:D} {cs:List D} {st:List (Nat × Nat)} (hst:st ≠ []) (h:upd g [x] st=some cs):(SV.d (cs.headD .dead)).isRoot=true:=by
 cases st with
 | nil=>exact absurd rfl hst
 | cons q r =>
  obtain ⟨k,i⟩:=q
  simp only [upd] at h
  cases k with
  | succ k=>simp at h
  | zero =>
   simp only [List.getElem?_cons_zero] at h
   split at h
   ·split at h
    ·split at h
     ·cases h;rfl
     ·cases h
    ·cases h
   ·cases h
theorem Sim.writeS {Fx:List Nat} (h:Sim E (Fx++hand) a w s I ι Fs Gs) {p:Place} {cs:List D} {s1:St} (hw:s.wrP p cs=some s1) {v:Value} (hok:zgf w a s ι v (.ptr p))
  {nv:List Value} (hn:RepL w I ι nv cs Fx) (ho:ones nv) (hR:p.steps=[] ∨ zah cs=false) :
  ∃ b o,v=.pointer (some ⟨b,o,none⟩)∧(∀ j,j<nv.length->(w.cell? ⟨b,o + j,none⟩).isSome=true∧w.frozen? ⟨b,o + j,none⟩=false) ∧
   ∃ Fs2 Gs2,Sim E hand a (w.setCells b o nv) (s1.killS p) I ι Fs2 Gs2:=by
 obtain ⟨b,o,e1,e2,⟨Fs2,Gs2,e3⟩,e4⟩:=h.write hw hok hn ho hR
 refine ⟨b,o,e1,e2,Fs2,Gs2,?_⟩
 unfold St.killS
 by_cases hst:p.steps=[]
 ·rw [if_pos hst];exact e3
 ·rw [if_neg hst]
  obtain ⟨ds,ds',d2,cs',g0,g1,g2,g3,g4,g5⟩:=zfL hw
  obtain ⟨vs,ds1,bo,k1,k2⟩:=e4 hst
  refine h.rekeep g0 g4 ?_ ⟨vs,ds1,bo,k1,fun b1 o1 e=>zay b nv _ w (k2 b1 o1 e)⟩ e3
  intro x hx
  subst hx
  exact zud hst g3
theorem zBy (h:Sim E [] a w s I ι Fs Gs) {o:Oper} (hd:o.dst=none) {t ty:TypeId} {x1 x2:Operand} {y1 y2:X} {n:Nat} (ho:o.op=.store t x1 x2) (hn:zcd P t=some n)
  (hc1:cX P ty x1=some y1) (hc2:cX P t x2=some y2) {s':St} (hv:vact (.st n y1 y2) s=some (.st s')):Done P o a w E s':=by
 simp only [vact] at hv
 obtain ⟨⟨x,s1⟩,h1,h2⟩:=zaB (zac hv)
 obtain ⟨cs,h3,h4⟩:=zaB h2
 obtain ⟨p,h5,h6⟩:=zaB h4
 split at h6
 ·rename_i hcond
  obtain ⟨s2,h7,rfl⟩:=Option.map_eq_some_iff.1 h6
  obtain ⟨Fx,Fs1,Gs1,hrx,hsim⟩:=h.take h1 (zal hc2 a)
  obtain ⟨hrc,hoc,hlc,hvc⟩:=hrx.cellsN h3
  subst hvc
  obtain ⟨g1,_⟩:=hsim.place h5 (zal hc1 a)
  obtain ⟨b,of,e,hcell,Fs2,Gs2,hs2⟩:=hsim.writeS h7 g1 hrc hoc hcond
  have hrun:(execOp a.eval o).run P w=.ok .skip (w.setCells b of (a.eval x2).cells.toList):=by
   have hst:=run_storeCells_cells (P:=P) b of (a.eval x2).cells.toList 0 w (by simpa using fun j hj=>(hcell j (by simpa using hj)).1) (by simpa using fun j hj=>(hcell j (by simpa using hj)).2) hoc
   have hso:(sizeOf t).run P w=.ok n w:=by
    unfold zcd at hn
    obtain ⟨i,hi,rfl⟩:=Option.map_eq_some_iff.1 hn
    simp [sizeOf,typeInfo,program,hi,Sem.run,pure,bind,Sem.bind]
   have hsz:(a.eval x2).cells.size=n:=by
    have:=hrc.length
    simp only [Array.length_toList] at this
    omega
   simp only [execOp,ho,Instr.storeAt,Instr.sureAddr,e,Sem.run_bind]
   simp [Sem.run,pure,Sem.run_bind,storeVar,hso,hsz,hst]
  exact ⟨_,_,undef,I,ι,Fs2,Gs2,hrun,.inr ⟨rfl,rfl⟩,by rw [hd];exact hs2⟩
 ·cases h6
end
end Go.Vx
namespace Go.Vx
section
variable {P:Program} {E:Env} {hand:List Nat} {a:Act} {w:World} {s:St} {I:Nat->Prop} {ι:List Nat} {Fs Gs:List (List Nat)}
theorem zqs {x:X} {y:D} {s1:St} (h:s.take x=some (y,s1)):s.rd x=some y:=by
 cases x with
 | c d=>cases h;rfl
 | t n =>
  simp only [St.take] at h
  simp only [St.rd]
  split at h
  ·rename_i z hs
   split at h <;> · cases h;rfl
  ·rename_i p k hs
   split at h
   ·rename_i z hz
    split at h
    ·cases h;exact hz
    ·cases h
   ·cases h
  ·split at h
   ·cases h
    rename_i hlt
    simp [hlt]
   ·cases h
  ·cases h
theorem Rep.slCells {v:Value} {o:Bool} {z:Nat} {xs:List D} {F:List Nat} (h:Rep w I ι v (.sl o z xs) F) :
  ∃ vs G,RepL w I [] vs (zaj xs) G∧ones vs∧(∀ x ∈ xs,x.cells.length=z)∧vs.length=xs.length * z ∧
   (((∃ ad cap,v=.slice ad 0 cap∧xs=[]∧(o=true->cap=0)∧(ad=none->cap=0))∧vs=[]∧G=[]∧F=[]) ∨
    ∃ b off cap,v=.slice (some ⟨b,off,none⟩) xs.length cap∧xs.length<=cap∧zaA w b off vs∧((o=false∧G=[]∧F=[]) ∨ (o=true∧F=b::G∧∃ c T,w.heap[b]? = some (.cells c T (0,0))∧off + cap * z<=c.size))):=by
 cases h with
 | nil=>exact ⟨[],[],.nil _,(fun _ h=>by cases h),fun _ h=>(by cases h),by simp,.inl ⟨⟨none,0,rfl,rfl,fun _=>rfl,fun _=>rfl⟩,rfl,rfl,rfl⟩⟩
 | emp _ _ _ ad=>exact ⟨[],[],.nil _,(fun _ h=>by cases h),fun _ h=>(by cases h),by simp,.inl ⟨⟨some ad,0,rfl,rfl,fun _=>rfl,fun _=>rfl⟩,rfl,rfl,rfl⟩⟩
 | empS _ _ ad cap=>exact ⟨[],[],.nil _,(fun _ h=>by cases h),fun _ h=>(by cases h),by simp,.inl ⟨⟨some ad,cap,rfl,rfl,fun e=>(by cases e),fun e=>(by cases e)⟩,rfl,rfl,rfl⟩⟩
 | shr _ b off n cap _ _ vs hn hb hc ho hr hz =>
  refine ⟨vs,[],hr,ho,hz,by rw [hr.length,zaq hz],.inr ⟨b,off,cap,?_,?_,hc,.inl ⟨rfl,rfl,rfl⟩⟩⟩
  ·rw [hn.1]
  ·omega
 | own _ b off n cap _ _ vs T c G hn hh hs hnc hc ho hr hz =>
  refine ⟨vs,G,hr,ho,hz,by rw [hr.length,zaq hz],.inr ⟨b,off,cap,?_,?_,hc,.inr ⟨rfl,rfl,c,T,hh,hs⟩⟩⟩
  ·rw [hn]
  ·omega
theorem zaA.addr {b off:Nat} {vs:List Value} (h:zaA w b off vs):∀ j u,vs[j]? = some u->w.cell? ((⟨b,off,none⟩:Addr).add j)=some u:=fun j u hj=>by rw [Addr.add_lit];exact h j u hj
theorem Rep.src {v:Value} {o:Bool} {z:Nat} {xs:List D} {F:List Nat} (h:Rep w I ι v (.sl o z xs) F) {tx:TypeId} (hk:(∃ e',P.underlying tx=some (.slice e')) ∨ P.underlying tx=some .string) :
  ∃ vs G,RepL w I [] vs (zaj xs) G∧(∀ x ∈ xs,x.cells.length=z)∧Src P z tx v xs.length vs w∧(F=G ∨ ∃ b,F=b::G):=by
 obtain ⟨vs,G,h1,h2,h3,h4,h5⟩:=h.slCells
 refine ⟨vs,G,h1,h3,?_,?_⟩
 ·rcases h5 with ⟨⟨ad,cap,rfl,rfl,_,_⟩,rfl,rfl,rfl⟩|⟨b,off,cap,rfl,h6,h7,_⟩
  ·cases ad with
   | none=>exact ⟨hk,fun _=>rfl,run_firstCells_none w z 0 0 cap,run_firstCells_none w.drew z 0 0 cap,by simp,fun _ h=>by cases h⟩
   | some ad =>
    exact ⟨hk,fun _=>rfl,run_firstCells_some w z 0 ad 0 cap [] (by simp) (by simp),run_firstCells_some w.drew z 0 ad 0 cap [] (by simp) (by simp),by simp,fun _ h=>by cases h⟩
  ·exact ⟨hk,fun _=>rfl,run_firstCells_some w z _ _ _ cap vs h4 h7.addr,run_firstCells_some w.drew z _ _ _ cap vs h4 (by simpa using h7.addr),h4,h2⟩
 ·rcases h5 with ⟨_,rfl,rfl,rfl⟩|⟨b,off,cap,rfl,h6,h7,⟨_,rfl,rfl⟩|⟨_,rfl,_⟩⟩
  ·exact .inl rfl
  ·exact .inl rfl
  ·exact .inr ⟨b,rfl⟩
theorem zjP:∀ {xs:List D},zgc xs=false->zgc (zaj xs)=false
 | [],_=>rfl
 | x::r,h=>by
  simp only [zgc,Bool.or_eq_false_iff] at h
  have hx:zgc x.cells=false:=by cases x <;> simp_all [D.cells,zgc,D.hasX]
  have:∀ (a b:List D),zgc a=false->zgc b=false->zgc (a++b)=false:=by
   intro a b ha hb
   induction a with
   | nil=>exact hb
   | cons y a ih=>simp [zgc] at ha ⊢;exact ⟨ha.1,by simpa using ih (by simpa using ha.2)⟩
  simp only [zaj]
  exact this _ _ hx (zjP h.2)
theorem zjb (l:List UInt8):zaj (l.map zhE)=l.map zhE:=by
 induction l with
 | nil=>rfl
 | cons x r ih=>simp [zaj,D.cells,zhE] at ih ⊢;exact ih
theorem zmp (l:List UInt8):RepL w I ι (l.map fun b=>Value.int .u8 b.toNat) (l.map zhE) []:=by
 induction l with
 | nil=>exact .nil _
 | cons x r ih=>exact .cons _ _ _ [] _ _ [] (.int ..) ih
theorem Sim.news (h:Sim E hand a w s I ι Fs Gs) {y:X} {sz:Nat} {ys:List D} {s':St} (hn:s.news sz y=some (ys,s')) {v:Value} (hv:XV a y v) {tx:TypeId} (hk:(∃ e',P.underlying tx=some (.slice e')) ∨ P.underlying tx=some .string) :
  ∃ news G Fs' Gs',RepL w I [] news (zaj ys) G∧(∀ x ∈ ys,x.cells.length=sz)∧Src P sz tx v ys.length news w∧Sim E (G++hand) a w s' I ι Fs' Gs':=by
 unfold St.news at hn
 split at hn
 ·rename_i o z zs hr
  split at hn
  ·rename_i hz
   subst hz
   split at hn
   ·rename_i hX
    split at hn
    ·rename_i o' z' ys' s1 ht
     simp only [Option.some.injEq,Prod.mk.injEq] at hn
     obtain ⟨rfl,rfl⟩:=hn
     have hrd:=zqs ht
     rw [hr] at hrd
     simp only [Option.some.injEq,D.sl.injEq] at hrd
     obtain ⟨rfl,rfl,rfl⟩:=hrd
     obtain ⟨Fx,Fs1,Gs1,hrx,hsim⟩:=h.take ht hv
     obtain ⟨vs,G,h1,h3,h4,h5⟩:=hrx.src (P:=P) hk
     refine ⟨vs,G,Fs1,Gs1,h1,h3,h4,?_⟩
     rcases h5 with rfl|⟨b,rfl⟩
     ·exact hsim
     ·exact hsim.less (List.nodup_cons.1 hsim.nodup2.2.1).2 (fun x hx=>List.mem_cons_of_mem _ hx)
    ·cases hn
   ·rename_i hX
    simp only [Option.some.injEq,Prod.mk.injEq] at hn
    obtain ⟨rfl,rfl⟩:=hn
    obtain ⟨Fx,hrx,_⟩:=h.rd hr hv
    obtain ⟨vs,G,h1,h3,h4,h5⟩:=hrx.src (P:=P) hk
    have hG:G=[]:=by
     cases o with
     | false =>
      obtain rfl:Fx=[]:=hrx.noX (by simp [D.hasX])
      rcases h5 with e|⟨b,e⟩
      ·exact e.symm
      ·cases e
     | true =>
      exact h1.noX (zjP (by simpa using hX))
    subst hG
    exact ⟨vs,[],Fs,Gs,h1,h3,h4,by simpa using h⟩
  ·cases hn
 ·rename_i b hr
  split at hn
  ·rename_i hz
   subst hz
   simp only [Option.some.injEq,Prod.mk.injEq] at hn
   obtain ⟨rfl,rfl⟩:=hn
   obtain ⟨Fx,hrx,_⟩:=h.rd hr hv
   rw [hrx.is_str]
   refine ⟨byteCells b,[],Fs,Gs,?_,?_,?_,by simpa using h⟩
   ·rw [zjb];exact zmp _
   ·intro x hx
    obtain ⟨c,_,rfl⟩:=List.mem_map.1 hx
    rfl
   ·have hlen:(b.data.toList.map zhE).length=b.size:=by rw [List.length_map,Array.length_toList];rfl
    rw [hlen]
    exact ⟨hk,fun _=>rfl,firstCells_string b w,firstCells_string b w.drew,by rw [byteCells_length,Nat.mul_one],fun u hu=>by
     obtain ⟨_,_,rfl⟩:=List.mem_map.1 hu
     rfl⟩
  ·cases hn
 ·cases hn
theorem zjQ (t tx ty e:TypeId) {size:Nat} (ht:P.underlying t=some (.slice e)) (hn:zcd P e=some size) (base:Option Addr) (sLen sCap:Nat) (x:Value) (hs:Src P size tx x 0 [] w) (hroom:sLen<=sCap) :
  (Builtin.append_ #[t,tx] ty #[.slice base sLen sCap,x]).run P w=.ok (.slice base sLen sCap) w:=by
 unfold zcd at hn
 obtain ⟨i,hi,rfl⟩:=Option.map_eq_some_iff.1 hn
 rcases hs.kind with ⟨e',hk⟩|hk <;> cases base <;> simp [Builtin.append_,run_underlying ht,run_underlying hk,sizeOf,typeInfo,hi,hs.len,hroom,hs.cells,storeCells]
theorem zvc (h:Sim E [] a w s I ι Fs Gs) {o:Oper} {d:Nat} (hd:o.dst=some d) (hp:∀ v,(d,v) ∉ E.pin) {x1 x2:Operand} {y1 y2:X} {t1 t2 ty1 ty2 e:TypeId} {i:TypeInfo} {z:List D}
  (ho:o.op=.call { callee:=.builtin .append,args := #[x1,x2],argTypes := #[t1,t2] }) (ht:P.underlying t1=some (.slice e)) (hi:P.info? e=some i) (hz:zhH P e=some z) (hpos:0<i.size) (hby:i.bytes<=65536)
  (hk:(∃ e',P.underlying t2=some (.slice e')) ∨ P.underlying t2=some .string) (hc1:cX P ty1 x1=some y1) (hc2:cX P ty2 x2=some y2) {s':St} (hv:vact (.app d i.size y1 y2) s=some (.st s')):Done P o a w E s':=by
 obtain ⟨⟨x,s1⟩,h1,h2⟩:=zaB (zac hv)
 obtain ⟨Fx,Fs1,Gs1,hrx,hsim1⟩:=h.take h1 (zal hc1 a)
 obtain ⟨i',zv,hi',hz1,hzs,_⟩:=zfv hz
 rw [hi] at hi';cases hi'
 split at h2
 ·rename_i own zz xs hx
  simp only at hx hrx
  replace hrx:=hrx.asl
  rw [hx] at hrx
  split at h2
  ·rename_i hcond
   obtain ⟨rfl,rfl⟩:=hcond
   obtain ⟨⟨ys,s2⟩,h3,h4⟩:=zaB h2
   obtain ⟨news,G,Fs2,Gs2,hrn,hzn,hsrc,hsim2⟩:=hsim1.news (P:=P) h3 (zal hc2 a) hk
   simp only at h4
   split at h4
   ·rename_i hmost
    obtain ⟨vs,Gx,hrv,hov,hzv,hlv,hcase⟩:=hrx.slCells
    have hrunof:∀ v' w',(Builtin.append_ #[t1,t2] o.type #[a.eval x1,a.eval x2]).run P w=.ok v' w'->(execOp a.eval o).run P w=.ok (.value v') w':=by
     intro v' w' hr
     simp [execOp,ho,resolve,invoke,builtin,hr,Result.andThen]
    have hsz:zcd P e=some i.size:=by simp [zcd,hi]
    have hby2:(xs.length + ys.length) * i.bytes<=140737488355328:=by
     have:=Nat.mul_le_mul hmost hby
     unfold most at this
     omega
    have hzall:∀ x ∈ xs++ys,x.cells.length=i.size:=fun x hx=>(List.mem_append.1 hx).elim (hzv x) (hzn x)
    by_cases hys:ys=[]
    ·subst hys
     obtain ⟨rfl,rfl⟩:news=[]∧G=[]:=by cases hrn;exact ⟨rfl,rfl⟩
     obtain ⟨ad,cap,ev,hcap⟩:=hrx.is_sl
     have hr:=zjQ (P:=P) t1 t2 o.type e ht hsz ad xs.length cap _ hsrc hcap
     rw [<- ev] at hr
     obtain ⟨Fs3,g3⟩:=Sim.setVal (F:=Fx) (hand:=[]) (by simpa using hsim2) h4 hp (by simpa using hrx)
     exact ⟨_,_,_,I,ι,Fs3,Gs2,hrunof _ _ hr,.inl rfl,by rw [hd];exact g3⟩
    ·have hyl:0<ys.length:=List.length_pos_iff.2 hys
     have grow:∀ ad cap,a.eval x1=.slice ad xs.length cap->cap<xs.length + ys.length->(Builtin.firstCells i.size xs.length (.slice ad xs.length cap)).run P w.drew=.ok vs.toArray w.drew->(∀ b ∈ Gx,b ∈ Fx)->Gx.Nodup->Done P o a w E s':=by
      intro ad cap ev hcap hold hsub hGn
      have hr:=run_append_grow_src (P:=P) w t1 t2 o.type e i zv ht hi hz1 ad xs.length cap vs hold (a.eval x2) ys.length news hsrc hcap (by unfold most at hmost;omega) (growslice_fits hcap hby2)
      rw [<- ev] at hr
      have hge:=grownCap_ge w (xs.length + ys.length) cap e
      generalize hgc:grownCap w (xs.length + ys.length) cap e=newCap at hr hge
      have hext:Ext (· ∈ G++(Fx++[])) w (w.drew.alloc (.cells ((vs++news).toArray++Builtin.zeroCells zv.cells (newCap - (xs.length + ys.length))) e)) :=
       (Ext.drew _ w).trans (Ext.alloc (· ∈ G++(Fx++[])) w.drew _) (fun _ _ h=>h)
      have hsize:(w.drew.alloc (.cells ((vs++news).toArray++Builtin.zeroCells zv.cells (newCap - (xs.length + ys.length))) e)).heap.size=w.heap.size + 1:=by simp
      obtain ⟨_,n2,_⟩:=hsim2.nodup2
      have hap:∀ b ∈ G++(Fx++[]),¬ I b∧b<w.heap.size:=fun b hb=>by
       have:=hsim2.apart b (mAR _ (mAR _ hb))
       exact ⟨this.1,this.2.2⟩
      have hmem:∀ b ∈ Gx++G,b ∈ G++(Fx++[]):=by
       intro b hb
       rcases List.mem_append.1 hb with hb|hb
       ·exact mAR _ (mAL _ (hsub b hb))
       ·exact mAL _ hb
      have hsim3:Sim E ((w.heap.size::(Gx++G))++[]) a (w.drew.alloc (.cells ((vs++news).toArray++Builtin.zeroCells zv.cells (newCap - (xs.length + ys.length))) e)) s2 I ι Fs2 Gs2:=by
       refine hsim2.world hext (fun _ h=>h) (fun _ h=>.inl h) ?_ ?_
       ·rw [List.append_nil]
        refine List.nodup_cons.2 ⟨fun hb=>?_,List.nodup_append.2 ⟨hGn,(List.nodup_append.1 n2).1,?_⟩⟩
        ·have:=(hap _ (hmem _ hb)).2;omega
        ·intro x hx y hy e
         subst e
         exact (List.nodup_append.1 n2).2.2 x hy x (mAL _ (hsub x hx)) rfl
       ·intro b hb
        rw [List.append_nil] at hb
        rcases List.mem_cons.1 hb with rfl|hb
        ·refine ⟨fun hI=>?_,.inr (Nat.le_refl _),by rw [hsize];omega⟩
         have:=(hsim2.imm _ hI).1;omega
        ·have:=hap _ (hmem _ hb)
         exact ⟨this.1,.inl (hmem _ hb),by rw [hsize];omega⟩
      have hsame:∀ b,b<w.heap.size->(w.drew.alloc (.cells ((vs++news).toArray++Builtin.zeroCells zv.cells (newCap - (xs.length + ys.length))) e)).heap[b]? = w.heap[b]? := fun b hb=>heap_alloc_old w.drew _ hb
      have hrep:Rep (w.drew.alloc (.cells ((vs++news).toArray++Builtin.zeroCells zv.cells (newCap - (xs.length + ys.length))) e)) I ι (.slice (some ⟨w.heap.size,0,none⟩) (xs.length + ys.length) newCap) (.sl true i.size (xs++ys)) (w.heap.size::(Gx++G)):=by
       have hnew:(w.drew.alloc (.cells ((vs++news).toArray++Builtin.zeroCells zv.cells (newCap - (xs.length + ys.length))) e)).heap[w.heap.size]? = some (.cells ((vs++news).toArray++Builtin.zeroCells zv.cells (newCap - (xs.length + ys.length))) e (0,0)):=heap_alloc_new w.drew _
       have hlen2:(vs++news).length=(xs.length + ys.length) * i.size:=by rw [List.length_append,hlv,hsrc.newsLen,Nat.add_mul]
       refine .own _ _ _ _ _ _ _ (vs++news) e _ _ (by simp) hnew ?_ hge ?_ (hov.append hsrc.one) ?_ hzall
       ·simp only [Array.size_append,List.size_toArray,size_zeroCells,hzs,hlen2,Nat.zero_add]
        rw [<- Nat.add_mul]
        exact Nat.mul_le_mul_right _ (by omega)
       ·intro j u hj
        simp only [World.cell?,hnew,Option.isSome_none,Bool.false_eq_true,if_false,Nat.zero_add]
        have:=getElem?_lt hj
        rw [Array.getElem?_append_left (by simpa using this)]
        simpa using hj
       ·rw [zav]
        refine RepL.append ?_ ?_
        ·exact hrv.frame (fun _ h=>h) (fun b hb=>hsame b (hsim2.imm b hb).1) (fun b hb=>hsame b (hap b (hmem b (mAL _ hb))).2)
        ·exact hrn.frame (fun _ h=>h) (fun b hb=>hsame b (hsim2.imm b hb).1) (fun b hb=>hsame b (hap b (hmem b (mAR _ hb))).2)
      obtain ⟨Fs3,g3⟩:=Sim.setVal (F:=w.heap.size::(Gx++G)) (hand:=[]) hsim3 h4 hp hrep
      exact ⟨_,_,_,I,ι,Fs3,Gs2,hrunof _ _ hr,.inl rfl,by rw [hd];exact g3⟩
     rcases hcase with ⟨⟨ad,cap,ev,rfl,hc0,_⟩,rfl,rfl,rfl⟩|⟨b,off,cap,ev,hcap,hca,⟨e0,_⟩|⟨_,rfl,c,T,hh,hcs⟩⟩
     ·obtain rfl:=hc0 rfl
      refine grow ad 0 (by simpa using ev) (by simp;exact hyl) ?_ (fun _ h=>h) List.nodup_nil
      cases ad with
      | none=>exact run_firstCells_none w.drew _ _ _ _
      | some ad=>exact run_firstCells_some w.drew _ _ ad _ _ [] (by simp) (by simp)
     ·cases e0
     ·by_cases hroom:xs.length + ys.length<=cap
      ·
       have hcells:∀ j,j<news.length->(w.cell? ⟨b,off + xs.length * i.size + j,none⟩).isSome=true∧w.frozen? ⟨b,off + xs.length * i.size + j,none⟩=false:=by
        intro j hj
        have hle:(xs.length + ys.length) * i.size<=cap * i.size:=Nat.mul_le_mul_right _ hroom
        rw [Nat.add_mul,<- hsrc.newsLen] at hle
        constructor
        ·simp only [World.cell?,hh,Option.isSome_none,Bool.false_eq_true,if_false]
         rw [Array.getElem?_eq_getElem (by omega)];rfl
        ·simp only [World.frozen?,hh]
         simp
       have hr:=run_append_room_src (P:=P) w t1 t2 o.type e i ht hi b off xs.length cap (a.eval x2) ys.length news hsrc hroom (fun j hj=>(hcells j hj).1) (fun j hj=>(hcells j hj).2)
       rw [<- ev] at hr
       have hle:(xs.length + ys.length) * i.size<=cap * i.size:=Nat.mul_le_mul_right _ hroom
       rw [Nat.add_mul,<- hsrc.newsLen] at hle
       obtain ⟨c2,q1,q2⟩:=zdp b news (off + xs.length * i.size) w hh (by omega)
       obtain ⟨_,n2,_⟩:=hsim2.nodup2
       have hap:∀ x ∈ G++((b::Gx)++[]),¬ I x∧x<w.heap.size:=fun x hx=>by
        have:=hsim2.apart x (mAR _ (mAR _ hx))
        exact ⟨this.1,this.2.2⟩
       have hperm:(G++((b::Gx)++[])).Perm ((b::(Gx++G))++[]):=by
        rw [List.perm_iff_count];intro y;simp [List.count_append,List.count_cons];omega
       have hsize:(w.setCells b (off + xs.length * i.size) news).heap.size=w.heap.size:=by
        have:∀ (vs:List Value) (k:Nat) (w:World),(w.setCells b k vs).heap.size=w.heap.size:=by
         intro vs
         induction vs with
         | nil=>intros;rfl
         | cons v r ih=>intro k w;rw [World.setCells,ih];simp [World.setCell]
        exact this _ _ _
       have hnd:=hperm.nodup_iff.1 n2
       have hsim3:Sim E ((b::(Gx++G))++[]) a (w.setCells b (off + xs.length * i.size) news) s2 I ι Fs2 Gs2:=by
        refine hsim2.world (Ext.setCells b news _ w (by simp)) (fun _ h=>h) (fun _ h=>.inl h) hnd ?_
        intro x hx
        have hx':=hperm.mem_iff.2 hx
        exact ⟨(hap x hx').1,.inl hx',by rw [hsize];exact (hap x hx').2⟩
       rw [List.append_nil] at hnd
       have hbG:=(List.nodup_cons.1 hnd).1
       have hIw:∀ x,I x->(w.setCells b (off + xs.length * i.size) news).heap[x]? = w.heap[x]? := fun x hx=>zay b news _ w (fun e=>(hap b (by simp)).1 (e ▸ hx))
       have hrep:Rep (w.setCells b (off + xs.length * i.size) news) I ι (.slice (some ⟨b,off,none⟩) (xs.length + ys.length) cap) (.sl true i.size (xs++ys)) (b::(Gx++G)):=by
        refine .own _ _ _ _ _ _ _ (vs++news) T c2 _ (by simp) q1 ?_ hroom ?_ (hov.append hsrc.one) ?_ hzall
        ·have:=congrArg List.length q2
         simp at this
         omega
        ·refine zaA.append ?_ ?_
         ·intro j u hj
          have hjl:=getElem?_lt hj
          rw [World.cell?_setCells_out b news _ w _ (fun _ _=>.inl (by simp;omega))]
          exact hca j u hj
         ·intro j u hj
          have hjl:=getElem?_lt hj
          rw [hlv,World.cell?_setCells_in b news _ w (fun j hj=>(hcells j hj).1) j hjl]
          rw [List.getElem?_eq_getElem hjl] at hj
          exact hj
        ·rw [zav]
         refine RepL.append ?_ ?_
         ·exact hrv.frame (fun _ h=>h) hIw (fun x hx=>zay b news _ w (fun e=>hbG (e ▸ mAL _ hx)))
         ·exact hrn.frame (fun _ h=>h) hIw (fun x hx=>zay b news _ w (fun e=>hbG (e ▸ mAR _ hx)))
       obtain ⟨Fs3,g3⟩:=Sim.setVal (F:=b::(Gx++G)) (hand:=[]) hsim3 h4 hp hrep
       exact ⟨_,_,_,I,ι,Fs3,Gs2,hrunof _ _ hr,.inl rfl,by rw [hd];exact g3⟩
      ·refine grow _ cap ev (by omega) ?_ (fun x hx=>List.mem_cons_of_mem _ hx) ?_
       ·exact run_firstCells_some w.drew _ _ _ _ _ vs hlv (by simpa using hca.addr)
       ·have:=hsim2.nodup2.2.1
        exact (List.nodup_cons.1 (List.nodup_append.1 (List.nodup_append.1 this).2.1).1).2
   ·cases h4
  ·cases h2
 ·cases h2
end
end Go.Vx
namespace Go.Vx
section
variable {P:Program} {E:Env} {hand:List Nat} {a:Act} {w:World} {s:St} {I:Nat->Prop} {ι:List Nat} {Fs Gs:List (List Nat)}
theorem zlj (h:Sim E [] a w s I ι Fs Gs) {o:Oper} {d:Nat} (hd:o.dst=some d) (hp:∀ v,(d,v) ∉ E.pin) {x:Operand} {y:X} {ty src dst e:TypeId} (ho:o.op=.convert src dst x)
  (h1:P.underlying src=some .string) (h2:P.underlying dst=some (.slice e)) (h3:P.underlying e=some (.int .u8)) (hc:cX P ty x=some y) {s':St} (hv:vact (.conv d .bytes y) s=some (.st s')):Done P o a w E s':=by
 obtain ⟨z,g1,g2⟩:=zaB (zac hv)
 obtain ⟨r,g3,g4⟩:=zaB g2
 obtain ⟨Fx,hr,_⟩:=h.rd g1 (zal hc a)
 obtain ⟨b,rfl,rfl⟩:∃ b,z=.str b∧r=.sl false 1 (b.data.toList.map zhE):=by
  cases z <;> simp [zlc] at g3
  rename_i b
  exact ⟨b,rfl,by simpa using g3.symm⟩
 have hrun:(execOp a.eval o).run P w=.ok (.value (.slice (some ⟨w.heap.size,0,none⟩) b.size (grownCap w b.size 0 e))) (Lib.bytesWorld w e b):=by
  have:=Lib.run_convert_string_bytes (P:=P) w src dst e b h1 h2 h3
  simp [execOp,ho,hr.is_str,this,Result.andThen]
 have hlen:(b.data.toList.map zhE).length=b.size:=by rw [List.length_map,Array.length_toList];rfl
 have hsim:Sim E [] a (Lib.bytesWorld w e b) s (fun x=>I x ∨ x=w.heap.size) ι Fs Gs:=by
  refine h.world ⟨rfl,rfl,rfl,by rw [Lib.bytesWorld_size];omega,fun k hk _=>Lib.bytesWorld_at_old w e b k hk⟩ (fun _ h=>.inl h) ?_ List.nodup_nil (fun _ hb=>by cases hb)
  intro x hx
  rcases hx with hx|rfl
  ·exact .inl hx
  ·exact .inr ⟨.inr (Nat.le_refl _),by rw [Lib.bytesWorld_size];omega⟩
 have hrep:Rep (Lib.bytesWorld w e b) (fun x=>I x ∨ x=w.heap.size) ι (.slice (some ⟨w.heap.size,0,none⟩) b.size (grownCap w b.size 0 e)) (.sl false 1 (b.data.toList.map zhE)) []:=by
  refine .shr _ _ _ _ _ _ _ (byteCells b) ⟨hlen.symm,grownCap_ge w _ _ _⟩ (.inr rfl) ?_ ?_ ?_ ?_
  ·intro j u hj
   have hjl:=getElem?_lt hj
   rw [byteCells_length] at hjl
   rw [Nat.zero_add,Lib.bytesWorld_cell w e b j hjl]
   unfold byteCells at hj
   rw [List.getElem?_map] at hj
   have:b.data.toList[j]? = some (b.data.toList.getD j 0):=zaQ 0 (by rw [Array.length_toList];exact hjl)
   rw [this] at hj
   simpa using hj
  ·intro u hu
   obtain ⟨_,_,rfl⟩:=List.mem_map.1 hu
   rfl
  ·rw [zjb];exact zmp _
  ·intro x hx
   obtain ⟨c,_,rfl⟩:=List.mem_map.1 hx
   rfl
 obtain ⟨Fs2,g5⟩:=Sim.setVal (F:=[]) (hand:=[]) hsim g4 hp hrep
 exact ⟨_,_,_,_,ι,Fs2,Gs,hrun,.inl rfl,by rw [hd];exact g5⟩
theorem zjc:∀ {xs:List D} {l:List UInt8},zhF xs=some l->∃ ns:List Int,xs=ns.map (D.int .u8)∧l=ns.map fun n=>n.toNat.toUInt8
 | [],l,h=>by cases h;exact ⟨[],rfl,rfl⟩
 | x::r,l,h=>by
  unfold zhF at h
  split at h
  ·rename_i heq;cases heq
  ·rename_i n r' heq
   obtain ⟨l',h1,rfl⟩:=Option.map_eq_some_iff.1 h
   obtain ⟨ns,h2,rfl⟩:=zjc h1
   simp only [List.cons.injEq] at heq
   obtain ⟨rfl,rfl⟩:=heq
   exact ⟨n::ns,by simp [h2],rfl⟩
  ·cases h
theorem zow:∀ {ns:List Int} {vs:List Value} {F:List Nat},RepL w I ι vs (zaj (ns.map (D.int .u8))) F->vs=ns.map (Value.int .u8)
 | [],vs,F,h=>by cases h;rfl
 | n::ns,vs,F,h=>by
  simp only [List.map_cons,zaj,D.cells,List.singleton_append] at h
  cases h with
  | cons=>rename_i h1 h2;rw [Rep.is_int h1,zow h2];rfl
theorem zqt (ns:List Int):∀ (s:ByteArray),ns.foldl (fun r n=>r.push (UInt8.ofNat n.toNat)) s=⟨s.data++(ns.map fun n=>n.toNat.toUInt8).toArray⟩:=by
 induction ns with
 | nil=>intro s;simp
 | cons n ns ih =>
  intro s
  simp only [List.foldl_cons,ih]
  congr 1
  simp [ByteArray.push]
theorem zmq (h:Sim E [] a w s I ι Fs Gs) {o:Oper} {d:Nat} (hd:o.dst=some d) (hp:∀ v,(d,v) ∉ E.pin) {x:Operand} {y:X} {ty src dst e:TypeId} (ho:o.op=.convert src dst x)
  (h1:P.underlying src=some (.slice e)) (h2:P.underlying dst=some .string) (h3:P.underlying e=some (.int .u8)) (hc:cX P ty x=some y) {s':St} (hv:vact (.conv d .text y) s=some (.st s')):Done P o a w E s':=by
 obtain ⟨z,g1,g2⟩:=zaB (zac hv)
 obtain ⟨r,g3,g4⟩:=zaB g2
 obtain ⟨Fx,hr,_⟩:=h.rd g1 (zal hc a)
 simp only [zlc] at g3
 split at g3 <;> try (cases g3;done)
 all_goals (first|(rename_i heq;cases heq;done)|skip)
 rename_i own xs heq
 cases heq
 obtain ⟨l,q1,rfl⟩:=Option.map_eq_some_iff.1 g3
 obtain ⟨ns,rfl,rfl⟩:=zjc q1
 obtain ⟨vs,G,r1,r2,r3,r4,r5⟩:=hr.slCells
 have hvs:=zow r1
 refine h.doneD hd hp g4 (v:=.string ⟨(ns.map fun n=>n.toNat.toUInt8).toArray⟩) ?_ (.str ..)
 rcases r5 with ⟨⟨ad,cap,ev,e0,_,_⟩,hv0,_,_⟩|⟨b,off,cap,ev,_,hca,_⟩
 ·have e1:ns=[]:=by simpa using e0
  subst e1
  have hrun:(convert src dst (.slice ad 0 cap)).run P w=.ok (.string ⟨#[]⟩) w:=by
   rw [run_convert_bytes_string w src dst e ad 0 cap h1 h3 h2]
   cases ad with
   | none=>rfl
   | some ad =>
    have:=run_bytesToString (P:=P) w ad 0 cap [] (by simpa using run_loadCells_list (P:=P) w ad [] (by simp))
    exact this
  simp [execOp,ho,ev,hrun,Result.andThen]
 ·have hrun:(convert src dst (a.eval x)).run P w=.ok (.string ⟨(ns.map fun n=>n.toNat.toUInt8).toArray⟩) w:=by
   rw [ev,run_convert_bytes_string w src dst e _ _ cap h1 h3 h2]
   have:=run_bytesToString (P:=P) w ⟨b,off,none⟩ (List.map (D.int .u8) ns).length cap ns (by
    have:=run_loadCells_list (P:=P) w ⟨b,off,none⟩ vs hca.addr
    rw [hvs] at this
    simpa using this)
   rw [this,zqt]
   simp
  simp [execOp,ho,hrun,Result.andThen]
end
end Go.Vx
namespace Go.Vx
section
variable {P:Program} {E:Env} {hand:List Nat} {a:Act} {w:World} {s:St} {I:Nat->Prop} {ι:List Nat} {Fs Gs:List (List Nat)}
theorem ziC (t tx ty e:TypeId) (i:TypeInfo) (z:Value) (k k2:IntKind) (ht:P.underlying t=some (.slice e)) (hk:P.underlying tx=some (.int k)) (hi:P.info? e=some i) (hz:i.zero=some z)
  (hpos:0<i.size) (hby:i.bytes<=65536) (n:Nat) (hm:n<=2147483648) :
  (Builtin.append_ #[t,tx] ty #[.slice none 0 0,.int k2 n]).run P w =
   if n=0 then .ok (.slice none 0 0) w
   else .ok (.slice (some ⟨w.heap.size,0,none⟩) n (grownCap w n 0 e)) (w.drew.alloc (.cells (Builtin.zeroCells z.cells n++Builtin.zeroCells z.cells (grownCap w n 0 e - n)) e)):=by
 have h1:IntKind.i64.wrap (n:Int)=n:=IntWalk.i64_in _ (by omega)
 have h2:¬ ((n:Int)<0):=by omega
 have hb:n * i.bytes<=2147483648 * 65536:=Nat.mul_le_mul hm hby
 have h3:¬ (281474976710656<(n:Int) * (i.bytes:Int)):=by
  have:((n * i.bytes:Nat):Int)<=281474976710656:=by omega
  simpa using this
 have h63:¬ (9223372036854775807<(n:Int)):=by omega
 by_cases h0:n=0
 ·subst h0
  have h1':IntKind.i64.wrap 0=0:=by simpa using h1
  simp [Builtin.append_,run_underlying ht,run_underlying hk,sizeOf,typeInfo,hi,asInt,asIntOf,h1']
 ·have h48:¬ (281474976710656<Builtin.nextslicecap n 0 * i.bytes):=by
   have:Builtin.nextslicecap n 0=n:=by simp [Builtin.nextslicecap];omega
   rw [this];omega
  have hns:¬ (n=0 ∨ i.size=0):=by omega
  simp [Builtin.append_,run_underlying ht,run_underlying hk,sizeOf,typeInfo,zeroValue,hi,hz,asInt,asIntOf,h1,h2,h3,h0,h63,h48,hns,Question.forced,Builtin.firstCells,newRow,grownCap]
  intro hh
  exact absurd (Nat.mul_eq_zero.1 hh) hns
theorem zzK (h:Sim E [] a w s I ι Fs Gs) {o:Oper} {d:Nat} (hd:o.dst=some d) (hp:∀ v,(d,v) ∉ E.pin) {x1 x2:Operand} {y1 y2:X} {t1 t2 ty1 ty2 e:TypeId} {i:TypeInfo} {z:D} {k:IntKind}
  (ho:o.op=.call { callee:=.builtin .append,args := #[x1,x2],argTypes := #[t1,t2] }) (ht:P.underlying t1=some (.slice e)) (hk:P.underlying t2=some (.int k)) (hi:P.info? e=some i) (hpos:0<i.size) (hby:i.bytes<=65536) (hz:zfM P e=some z) (hzc:z.cells.length=i.size)
  (hc1:cX P ty1 x1=some y1) (hc2:cX P ty2 x2=some y2) {s':St} (hv:vact (.apn d i.size z y1 y2) s=some (.st s')):Done P o a w E s':=by
 obtain ⟨i',zv,hi',hz1,hzs,hzl,hrep,hon,hR⟩:=zgZ hz
 rw [hi] at hi';cases hi'
 simp only [vact] at hv
 split at hv
 ·rename_i zz hb
  split at hv
  ·rename_i hzz
   subst hzz
   obtain ⟨n,h3,h4⟩:=zaB (zac hv)
   split at h4
   ·rename_i hm
    obtain ⟨k2,hk2⟩:=zhp h3
    obtain ⟨F1,r1,_⟩:=h.rd hb (zal hc1 a)
    obtain ⟨F2,r2,_⟩:=h.rd hk2 (zal hc2 a)
    have hr:=ziC (P:=P) (w:=w) t1 t2 o.type e i zv k k2 ht hk hi hz1 hpos hby n (by unfold most at hm;omega)
    have hrunof:∀ v' w',(Builtin.append_ #[t1,t2] o.type #[a.eval x1,a.eval x2]).run P w=.ok v' w'->(execOp a.eval o).run P w=.ok (.value v') w':=by
     intro v' w' hr
     simp [execOp,ho,resolve,invoke,builtin,hr,Result.andThen]
    rw [<- r1.is_nils,<- r2.is_int] at hr
    by_cases h0:n=0
    ·subst h0
     rw [if_pos rfl,r1.is_nils] at hr
     rw [<- r1.is_nils] at hr
     refine h.doneD hd hp h4 (hrunof _ _ hr) ?_
     rw [r1.is_nils]
     exact .nil ..
    ·rw [if_neg h0] at hr
     have hge:n<=grownCap w n 0 e:=grownCap_ge w n 0 e
     generalize hgc:grownCap w n 0 e=newCap at hr hge
     have hsim:Sim E ([w.heap.size]++[]) a (w.drew.alloc (.cells (Builtin.zeroCells zv.cells n++Builtin.zeroCells zv.cells (newCap - n)) e)) s I ι Fs Gs:=by
      have hext:Ext (· ∈ ([]:List Nat)) w (w.drew.alloc (.cells (Builtin.zeroCells zv.cells n++Builtin.zeroCells zv.cells (newCap - n)) e)) :=
       (Ext.drew _ w).trans (Ext.alloc (· ∈ ([]:List Nat)) w.drew _) (fun _ _ h=>h)
      refine h.world hext (fun _ h=>h) (fun _ h=>.inl h) (by simp) ?_
      intro b hb
      simp only [List.append_nil,List.mem_singleton] at hb
      subst hb
      refine ⟨fun hI=>?_,.inr (Nat.le_refl _),by simp⟩
      have:=(h.imm _ hI).1;omega
     obtain ⟨m1,m2⟩:=zjB (z:=zv.cells) (zd:=z) (by omega) (hrep w.drew I []) hon n
     have hzn:madeCells zv.cells (n * zv.cells.size)=Builtin.zeroCells zv.cells n:=rfl
     rw [hzn] at m1 m2
     have hrepN:Rep (w.drew.alloc (.cells (Builtin.zeroCells zv.cells n++Builtin.zeroCells zv.cells (newCap - n)) e)) I ι (.slice (some ⟨w.heap.size,0,none⟩) n newCap) (.sl true i.size (zda z n)) [w.heap.size]:=by
      refine Rep.new_own (w:=w.drew) (fun b hb=>(h.imm b hb).1) m1 m2 (fun x hx=>by rw [zhq hx];exact hzc) (by rw [zfj]) hge ?_ ?_
      ·rw [Array.size_append,size_zeroCells,size_zeroCells,hzs,<- Nat.add_mul]
       exact Nat.mul_le_mul_right _ (by omega)
      ·intro j v hj
       have:=getElem?_lt hj
       rw [Array.getElem?_append_left (by simpa using this)]
       simpa using hj
     obtain ⟨Fs2,g3⟩:=Sim.setVal (F:=[w.heap.size]) (hand:=[]) hsim h4 hp hrepN
     exact ⟨_,_,_,I,ι,Fs2,Gs,hrunof _ _ hr,.inl rfl,by rw [hd];exact g3⟩
   ·cases h4
  ·cases hv
 ·cases hv
end
end Go.Vx
namespace Go.Vx
theorem SV.prom_cases (t n:Nat) (v:SV):SV.prom t n v=.d .dead ∨ (∃ off,v=.ptr ⟨.slot t,[],off⟩∧SV.prom t n v=.d (.ref n off)) ∨
  (SV.prom t n v=v∧(∀ p k,v=.bor p k->p.root ≠ .slot t∧∀ r,p.root=.sto r->r<n)∧(∀ p,v=.ptr p->p.root ≠ .slot t∧∀ r,p.root=.sto r->r<n)):=by
 cases v with
 | d x=>exact .inr (.inr ⟨rfl,fun _ _ h=>(by cases h),fun _ h=>(by cases h)⟩)
 | box cs=>exact .inr (.inr ⟨rfl,fun _ _ h=>(by cases h),fun _ h=>(by cases h)⟩)
 | bor p k =>
  obtain ⟨root,st,off⟩:=p
  cases root with
  | slot u =>
   by_cases h:u=t
   ·exact .inl (by simp [SV.prom,SV.kill,h])
   ·refine .inr (.inr ⟨by simp [SV.prom,SV.kill,h],fun p' k' e=>?_,fun _ e=>by cases e⟩)
    cases e
    exact ⟨by simpa using h,fun r e=>by cases e⟩
  | sto r =>
   by_cases h:r<n
   ·refine .inr (.inr ⟨by simp [SV.prom,h],fun p' k' e=>?_,fun _ e=>by cases e⟩)
    cases e
    exact ⟨by simp,fun r' e=>by cases e;exact h⟩
   ·exact .inl (by simp [SV.prom,h])
 | ptr p =>
  obtain ⟨root,st,off⟩:=p
  cases root with
  | slot u =>
   by_cases h:u=t
   ·subst h
    cases st with
    | nil=>exact .inr (.inl ⟨off,rfl,by simp [SV.prom]⟩)
    | cons x y=>exact .inl (by simp [SV.prom,SV.kill])
   ·refine .inr (.inr ⟨?_,fun _ _ e=>(by cases e),fun p' e=>?_⟩)
    ·cases st with
     | nil=>simp [SV.prom,h]
     | cons x y=>simp [SV.prom,SV.kill,h]
    ·cases e
     exact ⟨by simpa using h,fun r e=>by cases e⟩
  | sto r =>
   by_cases h:r<n
   ·refine .inr (.inr ⟨by simp [SV.prom,h],fun _ _ e=>(by cases e),fun p' e=>?_⟩)
    cases e
    exact ⟨by simp,fun r' e=>by cases e;exact h⟩
   ·exact .inl (by simp [SV.prom,h])
theorem SV.prom_root {t n:Nat} {x:SV} (h:x.isRoot=true):SV.prom t n x=x:=by
 cases x with
 | d x=>rfl
 | box cs=>rfl
 | bor p k=>simp [SV.isRoot] at h
 | ptr p=>simp [SV.isRoot] at h
section
variable {P:Program} {E:Env} {hand:List Nat} {a:Act} {w:World} {s:St} {I:Nat->Prop} {ι:List Nat} {Fs Gs:List (List Nat)}
theorem zdb.monoSto {ι ι':List Nat} (hι:∀ (r b:Nat),ι[r]? = some b->ι'[r]? = some b) {v:Value} {sv:SV} {F:List Nat} (h:zdb w I ι v sv F):zdb w I ι' v sv F:=by
 cases sv with
 | d x=>exact Rep.monoSto hι h
 | box cs=>obtain ⟨b,hv,c,T,G,hh,hr,ho,rfl⟩:=h;exact ⟨b,hv,c,T,G,hh,hr.monoSto hι,ho,rfl⟩
 | bor p k=>exact h
 | ptr p=>exact h
theorem Sim.promote (h:Sim E hand a w s I ι Fs Gs) {t n:Nat} {s':St} (hs:s.promote t=some (n,s')) :
  ∃ ι' Fs' Gs',Sim E hand a w s' I ι' Fs' Gs'∧(∀ r b:Nat,ι[r]? = some b->ι'[r]? = some b):=by
 unfold St.promote at hs
 split at hs
 ·rename_i cs ht
  simp only [Option.some.injEq,Prod.mk.injEq] at hs
  obtain ⟨rfl,rfl⟩:=hs
  obtain ⟨b,hbv,c,T,G,hh,hr,ho,hF⟩:=h.slot t _ ht
  have htlt:t<s.sl.length:=getElem?_lt ht
  have hup:∀ r b':Nat,ι[r]? = some b'->(ι++[b])[r]? = some b':=fun r b' e=>by
   rw [List.getElem?_append_left (getElem?_lt e)];exact e
  have hnew:(ι++[b])[s.sto.length]? = some b:=by rw [<- h.lenI];simp
  obtain ⟨R,hp,hset⟩:=zfx (zaQ [] (show t<Fs.length by rw [h.lenF];exact htlt))
  have hperm:(Fs.flatten++(Gs.flatten++hand)).Perm ((Fs.set t []).flatten++((Gs++[Fs.getD t []]).flatten++hand)):=by
   refine (hp.append_right _).trans ?_
   refine List.Perm.trans ?_ ((hset []).symm.append_right _)
   simp only [List.flatten_append,List.flatten_cons,List.flatten_nil,List.append_nil,List.nil_append]
   rw [List.perm_iff_count];intro y;simp [List.count_append];omega
  have hRI:zaC w a s ι (.slot t) c.toList cs (some (b,0)):=.inl ⟨b,c,T,ht,hbv,hh,rfl,rfl⟩
  have hget:∀ u sv,u ≠ t->((s.sl.map (SV.prom t s.sto.length)).set t (.d (.ref s.sto.length 0)))[u]? = some sv->∃ sv0,s.sl[u]? = some sv0∧sv=SV.prom t s.sto.length sv0:=by
   intro u sv hne hu
   rw [List.getElem?_set_ne (Ne.symm hne),List.getElem?_map] at hu
   obtain ⟨sv0,h0,rfl⟩:=Option.map_eq_some_iff.1 hu
   exact ⟨sv0,h0,rfl⟩
  have hself:∀ sv,((s.sl.map (SV.prom t s.sto.length)).set t (.d (.ref s.sto.length 0)))[t]? = some sv->sv=.d (.ref s.sto.length 0):=by
   intro sv hu
   rw [List.getElem?_set_self (by simpa using htlt)] at hu
   exact (Option.some.inj hu).symm
  have hroots:∀ u x,u ≠ t->s.sl[u]? = some x->x.isRoot=true->((s.sl.map (SV.prom t s.sto.length)).set t (.d (.ref s.sto.length 0)))[u]? = some x:=by
   intro u x hne hx hxr
   rw [List.getElem?_set_ne (Ne.symm hne),List.getElem?_map,hx,Option.map_some,SV.prom_root hxr]
  have back:∀ {u:Nat} {sv:SV} {p:Place} {vs:List Value} {ds:List D} {bo:Option (Nat × Nat)},s.sl[u]? = some sv->(∀ x,p.root=.slot x->sv.into x=true)->p.root ≠ .slot t->(∀ r,p.root=.sto r->r<s.sto.length) ->
    zaC w a ⟨(s.sl.map (SV.prom t s.sto.length)).set t (.d (.ref s.sto.length 0)),s.sto++[cs]⟩ (ι++[b]) p.root vs ds bo->zaC w a s ι p.root vs ds bo:=by
   intro u sv p vs ds bo hu hin hne hlt hri
   obtain ⟨root,st,off⟩:=p
   cases root with
   | slot x =>
    have hxt:x ≠ t:=fun e=>hne (by rw [e])
    obtain ⟨y,hy,hyr,_⟩:=h.rooted u sv x hu (hin x rfl)
    have hy':=hroots x y hxt hy hyr
    rcases hri with ⟨b1,c1,T1,m1,m2,m3,rfl,rfl⟩|⟨y1,m1,rfl,rfl,rfl⟩
    ·rw [hy'] at m1;cases m1
     exact .inl ⟨b1,c1,T1,hy,m2,m3,rfl,rfl⟩
    ·rw [hy'] at m1;cases m1
     exact .inr ⟨y1,hy,rfl,rfl,rfl⟩
   | sto r =>
    obtain ⟨b1,c1,T1,m1,m2,m3,rfl,rfl⟩:=hri
    have hr1:=hlt r rfl
    simp only at m1
    rw [List.getElem?_append_left hr1] at m1
    rw [List.getElem?_append_left (by rw [h.lenI];exact hr1)] at m2
    exact ⟨b1,c1,T1,m1,m2,m3,rfl,rfl⟩
  refine ⟨ι++[b],Fs.set t [],Gs++[Fs.getD t []],?_,hup⟩
  refine ⟨h.defers,by simpa using h.size,by simpa using h.lenF,by simp [h.lenG],by simp [h.lenI],?_,?_,?_,?_,?_,h.imm,h.immUp,h.ext,h.pin,?_,fun r b' e=>hup r b' (h.stoUp r b' e)⟩
  ·intro u sv hu
   by_cases hut:u=t
   ·subst hut
    rw [hself sv hu]
    have hFs:(Fs.set u []).getD u []=[]:=by simp [List.getD,List.getElem?_set_self (show u<Fs.length by rw [h.lenF];exact htlt)]
    rw [hFs,hbv]
    have:Rep w I (ι++[b]) (.pointer (some ⟨b,0,none⟩)) (.ref s.sto.length 0) []:=.ref _ _ _ _ hnew
    exact this
   ·obtain ⟨sv0,h0,rfl⟩:=hget u sv hut hu
    have hFu:(Fs.set t []).getD u []=Fs.getD u []:=by simp [List.getD,List.getElem?_set_ne (Ne.symm hut)]
    rw [hFu]
    have hs0:=h.slot u _ h0
    rcases SV.prom_cases t s.sto.length sv0 with e|⟨off,rfl,e⟩|⟨e,_,_⟩
    ·rw [e]
     have:Fs.getD u []=[] ∨ True:=.inr trivial
     have hFn:Fs.getD u []=[]:=by
      cases sv0 with
      | d x =>
       simp only [SV.prom,SV.kill] at e
       cases e
       exact hs0.noX rfl
      | box cs0=>simp [SV.prom,SV.kill] at e
      | bor p k=>exact hs0
      | ptr p=>exact hs0
     rw [hFn]
     exact .dead ..
    ·rw [e]
     have hFn:Fs.getD u []=[]:=hs0
     rw [hFn]
     obtain ⟨b',o',e1,hv'⟩:=h.good u _ h0 _ _ _ _ _ _ hRI (.nil _ _ _)
     simp only [Option.some.injEq,Prod.mk.injEq] at e1
     obtain ⟨rfl,rfl⟩:=e1
     rw [hv']
     have:Rep w I (ι++[b]) (.pointer (some ⟨b,0 + off,none⟩)) (.ref s.sto.length off) []:=by
      rw [Nat.zero_add];exact .ref _ _ _ _ hnew
     exact this
    ·rw [e];exact hs0.monoSto hup
  ·intro u sv hu
   by_cases hut:u=t
   ·subst hut
    rw [hself sv hu]
    trivial
   ·obtain ⟨sv0,h0,rfl⟩:=hget u sv hut hu
    have hg:=h.good u _ h0
    rcases SV.prom_cases t s.sto.length sv0 with e|⟨off,rfl,e⟩|⟨e,hb1,hp1⟩
    ·rw [e];trivial
    ·rw [e];trivial
    ·rw [e]
     cases sv0 with
     | d x=>trivial
     | box cs0=>trivial
     | bor p k =>
      intro vs ds bo vs' ds' bo' h1 h2
      exact hg vs ds bo vs' ds' bo' (back h0 (fun x hx=>by simp [SV.into,hx]) (hb1 p k rfl).1 (hb1 p k rfl).2 h1) h2
     | ptr p =>
      intro vs ds bo vs' ds' bo' h1 h2
      exact hg vs ds bo vs' ds' bo' (back h0 (fun x hx=>by simp [SV.into,hx]) (hp1 p rfl).1 (hp1 p rfl).2 h1) h2
  ·intro r cs1 hr1
   simp only at hr1
   by_cases hlt:r<s.sto.length
   ·rw [List.getElem?_append_left hlt] at hr1
    obtain ⟨c1,T1,G1,q1,q2,q3,q4⟩:=h.sto r _ hr1
    have e1:(ι++[b]).getD r 0=ι.getD r 0:=by simp only [List.getD];rw [List.getElem?_append_left (by rw [h.lenI];exact hlt)]
    have e2:(Gs++[Fs.getD t []]).getD r []=Gs.getD r []:=by simp only [List.getD];rw [List.getElem?_append_left (by rw [h.lenG];exact hlt)]
    rw [e1,e2]
    exact ⟨c1,T1,G1,q1,q2.monoSto hup,q3,q4⟩
   ·have hre:r=s.sto.length:=by have:=getElem?_lt hr1;simp at this;omega
    subst hre
    simp only [List.getElem?_append_right (Nat.le_refl _),Nat.sub_self,List.getElem?_cons_zero,Option.some.injEq] at hr1
    subst hr1
    have e1:(ι++[b]).getD s.sto.length 0=b:=zgV hnew
    have e2:(Gs++[Fs.getD t []]).getD s.sto.length []=Fs.getD t []:=by rw [<- h.lenG];simp
    rw [e1,e2]
    exact ⟨c,T,G,hh,hr.monoSto hup,ho,hF⟩
  ·exact hperm.nodup_iff.1 h.nodup
  ·exact fun x hx=>h.apart x (hperm.mem_iff.2 hx)
  ·intro u sv x hu hin
   by_cases hut:u=t
   ·subst hut
    rw [hself sv hu] at hin
    simp [SV.into] at hin
   ·obtain ⟨sv0,h0,rfl⟩:=hget u sv hut hu
    rcases SV.prom_cases t s.sto.length sv0 with e|⟨off,rfl,e⟩|⟨e,hb1,hp1⟩
    ·rw [e] at hin;simp [SV.into] at hin
    ·rw [e] at hin;simp [SV.into] at hin
    ·rw [e] at hin ⊢
     obtain ⟨y,hy,hyr,hyb⟩:=h.rooted u sv0 x h0 hin
     have hxt:x ≠ t:=by
      intro ext
      subst ext
      rcases Root.ne_of_into hin with ⟨p,k,rfl,hpr⟩|⟨p,rfl,hpr⟩
      ·exact (hb1 p k rfl).1 hpr
      ·exact (hp1 p rfl).1 hpr
     exact ⟨y,hroots x y hxt hy hyr,hyr,hyb⟩
 ·cases hs
theorem Sim.prom (h:Sim E hand a w s I ι Fs Gs) {x:X} {s':St} (hs:s.prom x=some s') :
  ∃ ι' Fs' Gs',Sim E hand a w s' I ι' Fs' Gs'∧(∀ r b:Nat,ι[r]? = some b->ι'[r]? = some b):=by
 cases x with
 | c d=>cases hs;exact ⟨ι,Fs,Gs,h,fun _ _ e=>e⟩
 | t n =>
  simp only [St.prom] at hs
  split at hs
  ·obtain ⟨r,h1,rfl⟩:=Option.map_eq_some_iff.1 hs
   exact h.promote h1
  ·obtain ⟨r,h1,rfl⟩:=Option.map_eq_some_iff.1 hs
   exact h.promote h1
  ·cases hs;exact ⟨ι,Fs,Gs,h,fun _ _ e=>e⟩
theorem Sim.proms:∀ {xs:List X} {s s':St} {ι:List Nat} {Fs Gs:List (List Nat)},Sim E hand a w s I ι Fs Gs->s.proms xs=some s' ->
  ∃ ι' Fs' Gs',Sim E hand a w s' I ι' Fs' Gs'∧(∀ r b:Nat,ι[r]? = some b->ι'[r]? = some b)
 | [],s,s',ι,Fs,Gs,h,hs=>by cases hs;exact ⟨ι,Fs,Gs,h,fun _ _ e=>e⟩
 | x::xs,s,s',ι,Fs,Gs,h,hs=>by
  simp only [St.proms] at hs
  split at hs
  ·rename_i s1 h1
   obtain ⟨ι1,Fs1,Gs1,g1,g2⟩:=h.prom h1
   obtain ⟨ι2,Fs2,Gs2,g3,g4⟩:=Sim.proms g1 hs
   exact ⟨ι2,Fs2,Gs2,g3,fun r b e=>g4 r b (g2 r b e)⟩
  ·cases hs
end
end Go.Vx
namespace Go.Vx
theorem Rep.monoI {w:World} {I I':Nat->Prop} {ι:List Nat} {v:Value} {d:D} {F:List Nat} (h:Rep w I ι v d F) (hI:∀ b,I b->I' b):Rep w I' ι v d F:=h.frame hI (fun _ _=>rfl) (fun _ _=>rfl)
theorem RepL.monoI {w:World} {I I':Nat->Prop} {ι:List Nat} {v:List Value} {d:List D} {F:List Nat} (h:RepL w I ι v d F) (hI:∀ b,I b->I' b):RepL w I' ι v d F:=h.frame hI (fun _ _=>rfl) (fun _ _=>rfl)
theorem zue {w:World} {I:Nat->Prop} {ι:List Nat} {vs:List Value} {ds d2:List D} {F:List Nat} {off n:Nat} (h:RepL w I ι vs ds F) (hs:zdA ds off (zad ((ds.drop off).take n))=some d2) :
  ∃ Fx R,F.Perm (Fx++R)∧RepL w (fun b=>I b ∨ b ∈ Fx) ι vs d2 R∧∃ v1 v2 v3,vs=v1++(v2++v3)∧v1.length=off∧v2.length=((ds.drop off).take n).length∧RepL w I ι v2 ((ds.drop off).take n) Fx:=by
 unfold zdA at hs
 split at hs
 ·rename_i hle
  cases hs
  rw [zcQ] at hle
  have hlen:((ds.drop off).take n).length<=(ds.drop off).length:=by rw [List.length_take];omega
  have e:ds=ds.take off++((ds.drop off).take n++ds.drop (off + ((ds.drop off).take n).length)):=by
   have e1:(ds.drop off).take n=(ds.drop off).take ((ds.drop off).take n).length:=by
    rw [List.length_take,List.take_eq_take_iff];simp
   have e2:(ds.drop off).drop ((ds.drop off).take n).length=ds.drop (off + ((ds.drop off).take n).length):=by rw [List.drop_drop]
   rw [<- e2]
   conv=>rhs;rhs;lhs;rw [e1]
   rw [List.take_append_drop,List.take_append_drop]
  have hr:=h
  rw [e] at hr
  obtain ⟨u1,u23,G1,G23,rfl,rfl,hl1,hr1,hr23⟩:=hr.split
  obtain ⟨u2,u3,G2,G3,rfl,rfl,hl2,hr2,hr3⟩:=hr23.split
  refine ⟨G2,G1++G3,List.perm_append_comm_assoc _ _ _,?_,u1,u2,u3,rfl,?_,hl2,hr2⟩
  ·rw [zcQ]
   refine (hr1.monoI (fun _ h=>.inl h)).append ?_
   have:=hr2.freeze.append (hr3.monoI (I':=fun b=>I b ∨ b ∈ G2) (fun _ h=>.inl h))
   simpa using this
  ·rw [hl1,List.length_take];omega
 ·cases hs
section
variable {P:Program} {E:Env} {hand:List Nat} {a:Act} {w:World} {s:St} {I:Nat->Prop} {ι:List Nat} {Fs Gs:List (List Nat)}
theorem zmr {p:Place} {n:Nat} {s1:St} (hw:s.frzP p n=some s1) :
  ∃ ds ds' d2 cs s2,s.root p.root=some ds∧focus ds p.steps=some ds'∧zdA ds' p.off (zad ((ds'.drop p.off).take n))=some d2∧upd (fun _=>some d2) ds p.steps=some cs∧s.setRoot p.root cs=some s2∧cs.length=ds.length∧s1=s2.kill p.root false:=by
 unfold St.frzP at hw
 split at hw
 ·rename_i ds hr
  split at hw
  ·rename_i cs hu
   obtain ⟨s2,h0,rfl⟩:=Option.map_eq_some_iff.1 hw
   obtain ⟨d1,d2,h1,h2,h3⟩:=zjK _ hu
   refine ⟨ds,d1,d2,cs,s2,hr,h1,h2,h3,h0,?_,rfl⟩
   by_cases hst:p.steps=[]
   ·rw [hst] at h1 h3
    simp only [upd,Option.some.injEq] at h3
    simp only [focus,Option.some.injEq] at h1
    subst h1;subst h3
    exact ziZ h2
   ·exact zkK hst h3
  ·cases hw
 ·cases hw
def IX (I:Nat->Prop) (Fx:List Nat) (b:Nat):Prop:=I b ∨ b ∈ Fx
theorem Sim.frzP (h:Sim E hand a w s I ι Fs Gs) {p:Place} {k:BK} {x:D} {s1:St} (hx:s.rdP p k=some x) (hw:s.frzP p k.width=some s1) {v:Value}
  (hv:∀ vs ds bo vs' ds' bo',zaC w a s ι p.root vs ds bo->Foc w vs ds bo p.steps vs' ds' bo'->zig vs' ds' p.off k v) :
  ∃ Fx Fs2 Gs2,Sim E hand a w s1 (IX I Fx) ι Fs2 Gs2∧Rep w (IX I Fx) ι v x.freeze []:=by
 obtain ⟨vs,ds,bo,ds',h0,h1,h2,h3⟩:=h.rdP_open hx
 obtain ⟨ds0,ds0',d2,cs,s2,g0,g1,g2,g3,g4,g5,rfl⟩:=zmr hw
 rw [h0] at g0;cases g0
 rw [h2] at g1;cases g1
 obtain ⟨F,hr,hF,hb⟩:=h.rootRep h1
 have hnW:(zha bo F).Nodup:=hF ▸ h.FP_nodup p.root
 have hFin:∀ x,x ∈ F->x ∈ FP Fs Gs p.root:=by
  intro x hxF
  rw [hF]
  cases bo with
  | none=>exact hxF
  | some q=>exact List.mem_cons_of_mem _ hxF
 have hboF:∀ b1 o1,bo=some (b1,o1)->b1 ∉ F∧b1 ∈ FP Fs Gs p.root:=by
  intro b1 o1 e
  rw [e] at hnW hF
  exact ⟨(List.nodup_cons.1 hnW).1,by rw [hF];exact List.mem_cons_self ..⟩
 have hn:F.Nodup:=by
  cases hbo:bo with
  | none=>rw [hbo] at hnW;exact hnW
  | some q=>rw [hbo] at hnW;exact (List.nodup_cons.1 hnW).2
 obtain ⟨vs',bo',ι',F',R,hFoc,hrep,hones,hperm,hnil,hcons,hre⟩:=zcJ p.steps bo hr hn h2
 obtain ⟨Fx,R',hp2,hrep2,v1,v2,v3,e1,e2,e3,hrx⟩:=zue hrep g2
 obtain ⟨G,hG,hGp⟩:=hre w (IX I Fx) vs' d2 R' (fun _ h=>.inl h) (fun _ _=>rfl) (fun _ _ _=>rfl)
  (by
   intro hst b o e
   obtain ⟨_,b',o',c,T,e',_,hh,hle,hc⟩:=hcons hst
   rw [e'] at e
   simp only [Option.some.injEq,Prod.mk.injEq] at e
   obtain ⟨rfl,rfl⟩:=e
   exact ⟨c,T,c,hh,hh,rfl,fun _ _=>rfl,hc⟩) rfl hones hrep2 cs g3
 have hG':RepL w (IX I Fx) ι vs cs G:=by
  by_cases hst:p.steps=[]
  ·rw [if_pos hst,(hnil hst).1] at hG;exact hG
  ·rw [if_neg hst] at hG;exact hG
 have hFperm:F.Perm (Fx++(R'++R)):=by
  refine hperm.trans ((hp2.append_right R).trans ?_)
  rw [List.append_assoc]
 have hGF:∀ b,b ∈ G->b ∈ F:=fun b hbG=>hFperm.mem_iff.2 (mAR _ (hGp.mem_iff.1 hbG))
 have hFxF:∀ b,b ∈ Fx->b ∈ F:=fun b hbx=>hFperm.mem_iff.2 (mAL _ hbx)
 have hdis:∀ b,b ∈ G->b ∉ Fx:=fun b hbG hbx =>
  (List.nodup_append.1 (hFperm.nodup_iff.1 hn)).2.2 b hbx b (hGp.mem_iff.1 hbG) rfl
 have hGn:G.Nodup:=hGp.nodup_iff.2 (List.nodup_append.1 (hFperm.nodup_iff.1 hn)).2.1
 obtain ⟨n1,n2,n3⟩:=h.nodup2
 have hlt:∀ b,b ∈ FP Fs Gs p.root->¬ I b∧b<w.heap.size:=by
  intro b hb
  have:=h.apart b (by rw [<- List.append_assoc];exact mAL _ (h.FP_sub hb))
  exact ⟨this.1,this.2.2⟩
 have hWmem:∀ b,b ∈ zha bo G->b ∈ FP Fs Gs p.root∧b ∉ Fx:=by
  intro b hbW
  cases hbo:bo with
  | none=>rw [hbo] at hbW;exact ⟨hFin b (hGF b hbW),hdis b hbW⟩
  | some q =>
   rw [hbo] at hbW
   rcases List.mem_cons.1 hbW with rfl|hbW
   ·exact ⟨(hboF _ _ hbo).2,fun hx=>(hboF _ _ hbo).1 (hFxF _ hx)⟩
   ·exact ⟨hFin b (hGF b hbW),hdis b hbW⟩
 have hWn:(zha bo G).Nodup:=by
  cases hbo:bo with
  | none=>exact hGn
  | some q=>exact List.nodup_cons.2 ⟨fun hx=>(hboF _ _ hbo).1 (hGF _ hx),hGn⟩
 obtain ⟨Fs2,Gs2,hsim⟩:=h.recellsW h1 h0 g4 g5 false (w2:=w) (G:=G) (hand2:=hand) (I2:=IX I Fx)
  (fun b c T e hh hvs=>⟨c,hh,hvs ▸ hG',hvs ▸ (hb b 0 e).2.1⟩) (fun _=>hG') (Ext.refl _ _) (fun _ h=>.inl h)
  (fun b hbI=>hbI.imp id (fun hx=>⟨.inl (hFin b (hFxF b hx)),(hlt b (hFin b (hFxF b hx))).2⟩))
  (List.nodup_append.2 ⟨hWn,n2,fun x hx y hy e=>n3 x (h.FP_sub (hWmem x hx).1) (e ▸ hy)⟩)
  (by
   intro b hbm
   rcases List.mem_append.1 hbm with hbm|hbm
   ·obtain ⟨q1,q2⟩:=hWmem b hbm
    exact ⟨fun hI=>hI.elim (hlt b q1).1 q2,.inl q1,(hlt b q1).2⟩
   ·have:=h.apart b (mAR _ (mAR _ hbm))
    exact ⟨fun hI=>hI.elim this.1 (fun hx=>n3 b (h.FP_sub (hFin b (hFxF b hx))) hbm),.inr (.inl hbm),this.2.2⟩)
 refine ⟨Fx,Fs2,Gs2,hsim,?_⟩
 have hva:=hv _ _ _ _ _ _ h1 hFoc
 have hlenx:((ds'.drop p.off).take k.width).length<=(ds'.drop p.off).length:=by rw [List.length_take];omega
 have fin:∀ {y:D} {Fy:List Nat} {ι2:List Nat},Rep w I ι2 v y Fy->(∀ b,b ∈ Fy->b ∈ Fx)->(ι2=ι ∨ ι2=[])->Rep w (IX I Fx) ι v y.freeze []:=by
  intro y Fy ι2 hy hsub hι
  have h5:Rep w (IX I Fx) ι2 v y.freeze []:=hy.freeze.monoI (fun b hbI=>hbI.imp id (hsub b))
  rcases hι with rfl|rfl
  ·exact h5
  ·exact h5.monoSto (fun r b e=>by simp at e)
 have hι:ι'=ι ∨ ι'=[]:=by
  by_cases hst:p.steps=[]
  ·exact .inl (hnil hst).2.2.1
  ·exact .inr (hcons hst).1
 have hone:∀ {y:D} {u:Value},ds'[p.off]? = some y->vs'[p.off]? = some u->k.width=1->Rep w I ι' u y Fx:=by
  intro y u hy hu hk1
  have hd:(ds'.drop p.off).take k.width=[y]:=by
   rw [hk1,List.drop_eq_getElem_cons (getElem?_lt hy)]
   simp only [List.take_succ_cons,List.take_zero,List.cons.injEq,and_true]
   exact (List.getElem?_eq_some_iff.1 hy).2
  rw [hd] at hrx e3
  obtain ⟨u',hu'⟩:∃ u',v2=[u']:=by
   match v2,e3 with
   | [u'],_=>exact ⟨u',rfl⟩
  subst hu'
  have:u'=u:=by
   rw [e1,List.getElem?_append_right (by omega)] at hu
   simpa [e2] using hu
  subst this
  obtain ⟨u0,hu0,hr0⟩:=hrx.of_one
  simp only [List.cons.injEq,and_true] at hu0
  rw [hu0];exact hr0
 cases k with
 | one =>
  simp only [zej] at h3
  exact fin (hone h3 hva rfl) (fun _ h=>h) hι
 | many m =>
  simp only [zej] at h3
  split at h3
  ·rename_i hle
   cases h3
   obtain ⟨q1,q2,rfl⟩:=hva
   have e4:(vs'.drop p.off).take m=v2:=by
    have hl2:v2.length=m:=by rw [e3,List.length_take,List.length_drop];simp only [BK.width];omega
    rw [e1,<- e2,List.drop_left,<- hl2,List.take_left]
   have hy:Rep w I ι' (.agg ((vs'.drop p.off).take m).toArray) (.agg ((ds'.drop p.off).take m)) Fx:=.agg _ _ _ _ (by rw [e4];exact hrx) q2
   exact fin hy (fun _ h=>h) hι
  ·cases h3
 | cut lo hi =>
  simp only [zej] at h3
  split at h3
  ·rename_i o z xs hy
   split at h3
   ·rename_i hbnd
    cases h3
    obtain ⟨u,hu,hvv⟩:=hva
    obtain rfl:=hvv o z xs hy
    obtain ⟨Fy,L,q1,q2⟩:=(hone hy hu rfl).cut hbnd.1 hbnd.2
    exact fin q1 (fun b hb=>q2.mem_iff.2 (mAL _ hb)) hι
   ·cases h3
  ·cases h3
theorem Sim.setPlain (h:Sim E hand a w s I ι Fs Gs) {n:Nat} {sv:SV} (hn:s.sl[n]? = some sv) (hr:sv.isRoot=false) {x:D} (hx:Rep w I ι (a.tmps.getD n undef) x []) (hX:x.hasX=false) :
  Sim E hand a w { s with sl:=s.sl.set n (.d x) } I ι Fs Gs:=by
 have hlt:n<s.sl.length:=getElem?_lt hn
 have hFn:Fs.getD n []=[]:=by
  have h0:=h.slot n _ hn
  cases sv with
  | d y =>
   have:y.hasX=false:=by
    cases y <;> simp_all [SV.isRoot,D.hasX]
   exact h0.noX this
  | box cs=>simp [SV.isRoot] at hr
  | bor p k=>exact h0
  | ptr p=>exact h0
 have hget:∀ u v,u ≠ n->(s.sl.set n (.d x))[u]? = some v->s.sl[u]? = some v:=fun u v hne hu=>by rw [List.getElem?_set_ne (Ne.symm hne)] at hu;exact hu
 have hself:∀ v,(s.sl.set n (.d x))[n]? = some v->v=.d x:=fun v hu=>by rw [List.getElem?_set_self hlt] at hu;exact (Option.some.inj hu).symm
 have back:∀ {u:Nat} {v:SV} {p:Place} {vs:List Value} {ds:List D} {bo:Option (Nat × Nat)},s.sl[u]? = some v->(∀ x,p.root=.slot x->v.into x=true) ->
   zaC w a { s with sl:=s.sl.set n (.d x) } ι p.root vs ds bo->zaC w a s ι p.root vs ds bo:=by
  intro u v p vs ds bo hu hin hri
  obtain ⟨root,st,off⟩:=p
  cases root with
  | slot q =>
   obtain ⟨y,hy,hyr,_⟩:=h.rooted u v q hu (hin q rfl)
   have hqn:q ≠ n:=by
    intro e
    subst e
    rw [hn] at hy
    cases hy
    rw [hyr] at hr
    cases hr
   rcases hri with ⟨b1,c1,T1,m1,m2,m3,rfl,rfl⟩|⟨y1,m1,rfl,rfl,rfl⟩
   ·exact .inl ⟨b1,c1,T1,hget q _ hqn m1,m2,m3,rfl,rfl⟩
   ·exact .inr ⟨y1,hget q _ hqn m1,rfl,rfl,rfl⟩
  | sto r=>exact hri
 refine ⟨h.defers,by simpa using h.size,by simpa using h.lenF,h.lenG,h.lenI,?_,?_,h.sto,h.nodup,h.apart,h.imm,h.immUp,h.ext,h.pin,?_,h.stoUp⟩
 ·intro u v hu
  by_cases hun:u=n
  ·subst hun
   rw [hself v hu,hFn];exact hx
  ·exact h.slot u v (hget u v hun hu)
 ·intro u v hu
  by_cases hun:u=n
  ·subst hun
   rw [hself v hu];trivial
  ·have h0:=hget u v hun hu
   have hg:=h.good u v h0
   cases v with
   | d y=>trivial
   | box cs=>trivial
   | bor p k=>exact fun vs ds bo vs' ds' bo' h1 h2=>hg vs ds bo vs' ds' bo' (back h0 (fun x hx=>by simp [SV.into,hx]) h1) h2
   | ptr p=>exact fun vs ds bo vs' ds' bo' h1 h2=>hg vs ds bo vs' ds' bo' (back h0 (fun x hx=>by simp [SV.into,hx]) h1) h2
 ·intro u v q hu hin
  by_cases hun:u=n
  ·subst hun
   rw [hself v hu] at hin
   simp [SV.into] at hin
  ·obtain ⟨y,hy,hyr,hyb⟩:=h.rooted u v q (hget u v hun hu) hin
   have hqn:q ≠ n:=by
    intro e
    subst e
    rw [hn] at hy
    cases hy
    rw [hyr] at hr
    cases hr
   exact ⟨y,by simp only [];rw [List.getElem?_set_ne (Ne.symm hqn)];exact hy,hyr,hyb⟩
mutual
theorem D.freeze_noX:∀ (d:D),d.freeze.hasX=false
 | .int ..=>rfl
 | .bool _=>rfl
 | .str _=>rfl
 | .sl o z xs=>rfl
 | .agg cs=>by simp only [D.freeze,D.hasX];exact zhT cs
 | .tup ps=>by simp only [D.freeze,D.hasX];exact zhT ps
 | .fn ..=>rfl
 | .bf ..=>rfl
 | .nilp=>rfl
 | .nilf=>rfl
 | .anyb=>rfl
 | .nils _=>rfl
 | .gho _=>rfl
 | .ref ..=>rfl
 | .pim ..=>rfl
 | .dead=>rfl
theorem zhT:∀ (l:List D),zgc (zad l)=false
 | []=>rfl
 | x::r=>by simp only [zad,zgc,D.freeze_noX x,zhT r,Bool.or_self]
end
theorem Sim.frz (h:Sim E hand a w s I ι Fs Gs) {x:X} {s':St} (hs:s.frz x=some s'):∃ I' Fs' Gs',Sim E hand a w s' I' ι Fs' Gs'∧∀ b,I b->I' b:=by
 cases x with
 | c d=>cases hs;exact ⟨I,Fs,Gs,h,fun _ h=>h⟩
 | t n =>
  simp only [St.frz] at hs
  split at hs
  ·rename_i y hy
   split at hs
   ·cases hs
    have hroot:s.root (.slot n)=some [y]:=by simp [St.root,hy]
    have hset:s.setRoot (.slot n) [y.freeze]=some { s with sl:=s.sl.set n (.d y.freeze) }:=by simp [St.setRoot,hy]
    have hri:zaC w a s ι (.slot n) [a.tmps.getD n undef] [y] none:=.inr ⟨y,hy,rfl,rfl,rfl⟩
    obtain ⟨F,hr,hF,_⟩:=h.rootRep hri
    have hF':FP Fs Gs (.slot n)=F:=hF
    obtain ⟨v0,e0,hv0⟩:=hr.of_one
    simp only [List.cons.injEq,and_true] at e0
    obtain ⟨n1,n2,n3⟩:=h.nodup2
    have hlt:∀ b,b ∈ F->¬ I b∧b<w.heap.size:=by
     intro b hb
     have:=h.apart b (by rw [<- List.append_assoc];exact mAL _ (h.FP_sub (r:=.slot n) (hF' ▸ hb)))
     exact ⟨this.1,this.2.2⟩
    obtain ⟨Fs2,Gs2,hsim⟩:=h.recellsW hri hroot hset rfl true (w2:=w) (G:=[]) (hand2:=hand) (I2:=IX I F) (fun b c T e=>by cases e)
     (fun _=>by rw [e0];exact RepL.one hv0.freeze) (Ext.refl _ _) (fun _ h=>.inl h)
     (fun b hbI=>hbI.imp id (fun hx=>⟨.inl (hF'.symm ▸ hx),(hlt b hx).2⟩))
     (by simpa [zha] using n2)
     (by
      intro b hb
      have hb:b ∈ hand:=by simpa [zha] using hb
      have:=h.apart b (mAR _ (mAR _ hb))
      exact ⟨fun hI=>hI.elim this.1 (fun hx=>n3 b (h.FP_sub (r:=.slot n) (hF'.symm ▸ hx)) hb),.inr (.inl hb),this.2.2⟩)
    refine ⟨IX I F,Fs2,Gs2,?_,fun _ h=>.inl h⟩
    have e:(St.kill { s with sl:=s.sl.set n (.d y.freeze) } (.slot n) true)={ s with sl:=(s.sl.map (SV.kill (.slot n) true)).set n (.d y.freeze) }:=by
     simp [St.kill,List.map_set,SV.kill_d]
    rw [<- e]
    exact hsim
   ·cases hs;exact ⟨I,Fs,Gs,h,fun _ h=>h⟩
  ·rename_i p k hk
   split at hs
   ·rename_i y hy
    obtain ⟨s1,h1,rfl⟩:=Option.map_eq_some_iff.1 hs
    obtain ⟨Fx,Fs2,Gs2,hsim,hrep⟩:=h.frzP hy h1 (h.good n _ hk)
    refine ⟨IX I Fx,Fs2,Gs2,?_,fun _ h=>.inl h⟩
    obtain ⟨ds,ds',d2,cs,s2,g0,g1,g2,g3,g4,g5,rfl⟩:=zmr h1
    have hnk:∃ sv,(s2.kill p.root false).sl[n]? = some sv∧sv.isRoot=false:=by
     have hs2:∃ sv,s2.sl[n]? = some sv∧sv.isRoot=false:=by
      cases hroot:p.root with
      | slot u =>
       rw [hroot] at g4
       have hun:u ≠ n:=by
        intro e
        subst e
        rw [hroot] at g0
        simp [St.root,hk] at g0
       simp only [St.setRoot] at g4
       split at g4
       ·cases g4;exact ⟨_,by simp only [];rw [List.getElem?_set_ne hun];exact hk,rfl⟩
       ·cases g4;exact ⟨_,by simp only [];rw [List.getElem?_set_ne hun];exact hk,rfl⟩
       ·cases g4
      | sto r =>
       rw [hroot] at g4
       simp only [St.setRoot,Option.some.injEq] at g4
       subst g4
       exact ⟨_,hk,rfl⟩
     obtain ⟨sv,q1,q2⟩:=hs2
     refine ⟨SV.kill p.root false sv,by simp [St.kill,q1],?_⟩
     rcases SV.kill_cases p.root false sv with e|⟨e,_⟩
     ·rw [e];rfl
     ·rw [e];exact q2
    obtain ⟨sv,q1,q2⟩:=hnk
    exact hsim.setPlain q1 q2 hrep (D.freeze_noX y)
   ·cases hs
  ·cases hs;exact ⟨I,Fs,Gs,h,fun _ h=>h⟩
theorem Sim.frzs {as:List (M × X)}:∀ {s s':St} {I:Nat->Prop} {Fs Gs:List (List Nat)},Sim E hand a w s I ι Fs Gs->s.frzs as=some s'->∃ I' Fs' Gs',Sim E hand a w s' I' ι Fs' Gs'∧∀ b,I b->I' b:=by
 induction as with
 | nil=>intro s s' I Fs Gs h hs;cases hs;exact ⟨I,Fs,Gs,h,fun _ h=>h⟩
 | cons p as ih =>
  intro s s' I Fs Gs h hs
  obtain ⟨m,x⟩:=p
  cases m with
  | fz =>
   simp only [St.frzs] at hs
   split at hs
   ·rename_i s1 h1
    obtain ⟨I1,Fs1,Gs1,g1,g2⟩:=h.frz h1
    obtain ⟨I2,Fs2,Gs2,g3,g4⟩:=ih g1 hs
    exact ⟨I2,Fs2,Gs2,g3,fun b e=>g4 b (g2 b e)⟩
   ·cases hs
  | rd=>exact ih h hs
  | im n=>exact ih h hs
  | mv=>exact ih h hs
  | mu=>exact ih h hs
end
theorem SV.shut_cases (t:Nat) (cs:List D) (v:SV):SV.shut t cs v=.d .dead ∨ (∃ off,v=.ptr ⟨.slot t,[],off⟩∧SV.shut t cs v=.d (.pim cs off)) ∨
  (SV.shut t cs v=v∧(∀ p k,v=.bor p k->p.root ≠ .slot t)∧(∀ p,v=.ptr p->p.root ≠ .slot t)):=by
 cases v with
 | d x=>exact .inr (.inr ⟨rfl,fun _ _ h=>(by cases h),fun _ h=>(by cases h)⟩)
 | box cs=>exact .inr (.inr ⟨rfl,fun _ _ h=>(by cases h),fun _ h=>(by cases h)⟩)
 | bor p k =>
  by_cases h:p.root=.slot t
  ·exact .inl (by simp [SV.shut,SV.kill,h])
  ·exact .inr (.inr ⟨by simp [SV.shut,SV.kill,h],fun p' k' e=>(by cases e;exact h),fun _ e=>(by cases e)⟩)
 | ptr p =>
  obtain ⟨root,st,off⟩:=p
  cases root with
  | slot u =>
   by_cases h:u=t
   ·subst h
    cases st with
    | nil=>exact .inr (.inl ⟨off,rfl,by simp [SV.shut]⟩)
    | cons x y=>exact .inl (by simp [SV.shut,SV.kill])
   ·refine .inr (.inr ⟨?_,fun _ _ e=>(by cases e),fun p' e=>(by cases e;simpa using h)⟩)
    cases st with
    | nil=>simp [SV.shut,h]
    | cons x y=>simp [SV.shut,SV.kill,h]
  | sto r=>exact .inr (.inr ⟨by cases st <;> simp [SV.shut,SV.kill],fun _ _ e=>(by cases e),fun p' e=>(by cases e;simp)⟩)
theorem SV.shut_root {t:Nat} {cs:List D} {x:SV} (h:x.isRoot=true):SV.shut t cs x=x:=by
 cases x with
 | d x=>rfl
 | box cs=>rfl
 | bor p k=>simp [SV.isRoot] at h
 | ptr p=>simp [SV.isRoot] at h
section
variable {P:Program} {E:Env} {hand:List Nat} {a:Act} {w:World} {s:St} {I:Nat->Prop} {ι:List Nat} {Fs Gs:List (List Nat)}
theorem zdb.monoI {I':Nat->Prop} (hI:∀ b,I b->I' b) {v:Value} {sv:SV} {F:List Nat} (h:zdb w I ι v sv F):zdb w I' ι v sv F:=by
 cases sv with
 | d x=>exact Rep.monoI h hI
 | box cs=>obtain ⟨b,hv,c,T,G,hh,hr,ho,rfl⟩:=h;exact ⟨b,hv,c,T,G,hh,hr.monoI hI,ho,rfl⟩
 | bor p k=>exact h
 | ptr p=>exact h
theorem Sim.shut1 (h:Sim E hand a w s I ι Fs Gs) {t:Nat} {s':St} (hs:s.shut1 t=some s'):∃ I' Fs',Sim E hand a w s' I' ι Fs' Gs:=by
 unfold St.shut1 at hs
 split at hs
 ·rename_i cs ht
  split at hs
  ·rename_i hnr
   cases hs
   obtain ⟨b,hbv,c,T,G,hh,hr,ho,hF⟩:=h.slot t _ ht
   have htlt:t<s.sl.length:=getElem?_lt ht
   have hup:∀ x,I x->I x ∨ x ∈ Fs.getD t []:=fun x hx=>.inl hx
   obtain ⟨R,hp,hset⟩:=zfx (zaQ [] (show t<Fs.length by rw [h.lenF];exact htlt))
   have hsubF:∀ x,x ∈ (Fs.set t []).flatten->x ∈ Fs.flatten∧x ∈ R:=fun x hx=>by
    have:=(hset []).mem_iff.1 hx
    rw [List.nil_append] at this
    exact ⟨hp.mem_iff.2 (mAR _ this),this⟩
   have hnd:(Fs.flatten++(Gs.flatten++hand)).Nodup:=h.nodup
   obtain ⟨n1,n2,n3⟩:=List.nodup_append.1 hnd
   obtain ⟨m1,m2,m3⟩:=List.nodup_append.1 (hp.nodup_iff.1 n1)
   have hRI:zaC w a s ι (.slot t) c.toList cs (some (b,0)):=.inl ⟨b,c,T,ht,hbv,hh,rfl,rfl⟩
   have hpim:∀ off,Rep w (fun x=>I x ∨ x ∈ Fs.getD t []) ι (.pointer (some ⟨b,0 + off,none⟩)) (.pim (zad cs) off) []:=fun off=>by
    refine .pim _ b 0 off _ c.toList (.inr (by rw [hF];exact List.mem_cons_self ..)) ?_ ho ?_
    ·intro j u hj
     simp only [World.cell?,hh,Option.isSome_none,Bool.false_eq_true,if_false,Nat.zero_add]
     simpa using hj
    ·exact ((hr.noRef (ι':=[]) hnr).freeze).monoI (fun k hk=>hk.imp id (fun hk=>by rw [hF];exact List.mem_cons_of_mem _ hk))
   have hget:∀ u sv,u ≠ t->((s.sl.map (SV.shut t (zad cs))).set t (.d (.pim (zad cs) 0)))[u]? = some sv->∃ sv0,s.sl[u]? = some sv0∧sv=SV.shut t (zad cs) sv0:=by
    intro u sv hne hu
    rw [List.getElem?_set_ne (Ne.symm hne),List.getElem?_map] at hu
    obtain ⟨sv0,h0,rfl⟩:=Option.map_eq_some_iff.1 hu
    exact ⟨sv0,h0,rfl⟩
   have hself:∀ sv,((s.sl.map (SV.shut t (zad cs))).set t (.d (.pim (zad cs) 0)))[t]? = some sv->sv=.d (.pim (zad cs) 0):=by
    intro sv hu
    rw [List.getElem?_set_self (by simpa using htlt)] at hu
    exact (Option.some.inj hu).symm
   have hroots:∀ u x,u ≠ t->s.sl[u]? = some x->x.isRoot=true->((s.sl.map (SV.shut t (zad cs))).set t (.d (.pim (zad cs) 0)))[u]? = some x:=by
    intro u x hne hx hxr
    rw [List.getElem?_set_ne (Ne.symm hne),List.getElem?_map,hx,Option.map_some,SV.shut_root hxr]
   have back:∀ {u:Nat} {sv:SV} {p:Place} {vs:List Value} {ds:List D} {bo:Option (Nat × Nat)},s.sl[u]? = some sv->(∀ x,p.root=.slot x->sv.into x=true)->p.root ≠ .slot t ->
     zaC w a ⟨(s.sl.map (SV.shut t (zad cs))).set t (.d (.pim (zad cs) 0)),s.sto⟩ ι p.root vs ds bo->zaC w a s ι p.root vs ds bo:=by
    intro u sv p vs ds bo hu hin hne hri
    obtain ⟨root,st,off⟩:=p
    cases root with
    | slot x =>
     have hxt:x ≠ t:=fun e=>hne (by rw [e])
     obtain ⟨y,hy,hyr,_⟩:=h.rooted u sv x hu (hin x rfl)
     have hy':=hroots x y hxt hy hyr
     rcases hri with ⟨b1,c1,T1,m1,m2,m3,rfl,rfl⟩|⟨y1,m1,rfl,rfl,rfl⟩
     ·rw [hy'] at m1;cases m1
      exact .inl ⟨b1,c1,T1,hy,m2,m3,rfl,rfl⟩
     ·rw [hy'] at m1;cases m1
      exact .inr ⟨y1,hy,rfl,rfl,rfl⟩
    | sto r=>exact hri
   refine ⟨fun x=>I x ∨ x ∈ Fs.getD t [],Fs.set t [],?_⟩
   refine ⟨h.defers,by simpa using h.size,by simpa using h.lenF,h.lenG,h.lenI,?_,?_,?_,?_,?_,?_,fun x hx=>.inl (h.immUp x hx),h.ext,h.pin,?_,h.stoUp⟩
   ·intro u sv hu
    by_cases hut:u=t
    ·subst hut
     rw [hself sv hu]
     have hFs:(Fs.set u []).getD u []=[]:=by simp [List.getD,List.getElem?_set_self (show u<Fs.length by rw [h.lenF];exact htlt)]
     rw [hFs,hbv]
     exact hpim 0
    ·obtain ⟨sv0,h0,rfl⟩:=hget u sv hut hu
     have hFu:(Fs.set t []).getD u []=Fs.getD u []:=by simp [List.getD,List.getElem?_set_ne (Ne.symm hut)]
     rw [hFu]
     have hs0:=h.slot u _ h0
     rcases SV.shut_cases t (zad cs) sv0 with e|⟨off,rfl,e⟩|⟨e,_,_⟩
     ·rw [e]
      have hFn:Fs.getD u []=[]:=by
       cases sv0 with
       | d x =>
        simp only [SV.shut,SV.kill] at e
        cases e
        exact hs0.noX rfl
       | box cs0=>simp [SV.shut,SV.kill] at e
       | bor p k=>exact hs0
       | ptr p=>exact hs0
      rw [hFn]
      exact .dead ..
     ·rw [e]
      have hFn:Fs.getD u []=[]:=hs0
      rw [hFn]
      obtain ⟨b',o',e1,hv'⟩:=h.good u _ h0 _ _ _ _ _ _ hRI (.nil _ _ _)
      simp only [Option.some.injEq,Prod.mk.injEq] at e1
      obtain ⟨rfl,rfl⟩:=e1
      rw [hv']
      exact hpim off
     ·rw [e];exact hs0.monoI hup
   ·intro u sv hu
    by_cases hut:u=t
    ·subst hut
     rw [hself sv hu]
     trivial
    ·obtain ⟨sv0,h0,rfl⟩:=hget u sv hut hu
     have hg:=h.good u _ h0
     rcases SV.shut_cases t (zad cs) sv0 with e|⟨off,rfl,e⟩|⟨e,hb1,hp1⟩
     ·rw [e];trivial
     ·rw [e];trivial
     ·rw [e]
      cases sv0 with
      | d x=>trivial
      | box cs0=>trivial
      | bor p k =>
       intro vs ds bo vs' ds' bo' h1 h2
       exact hg vs ds bo vs' ds' bo' (back h0 (fun x hx=>by simp [SV.into,hx]) (hb1 p k rfl) h1) h2
      | ptr p =>
       intro vs ds bo vs' ds' bo' h1 h2
       exact hg vs ds bo vs' ds' bo' (back h0 (fun x hx=>by simp [SV.into,hx]) (hp1 p rfl) h1) h2
   ·intro r cs1 hr1
    obtain ⟨c1,T1,G1,q1,q2,q3,q4⟩:=h.sto r _ hr1
    exact ⟨c1,T1,G1,q1,q2.monoI hup,q3,q4⟩
   ·refine List.nodup_append.2 ⟨(hset []).nodup_iff.2 (by simpa using m2),n2,fun x hx y hy=>n3 x (hsubF x hx).1 y hy⟩
   ·intro x hx
    have hx':x ∈ Fs.flatten++(Gs.flatten++hand):=by
     rcases List.mem_append.1 hx with q|q
     ·exact mAL _ (hsubF x q).1
     ·exact mAR _ q
    have:=h.apart x hx'
    refine ⟨fun q=>q.elim this.1 (fun q=>?_),this.2⟩
    rcases List.mem_append.1 hx with z|z
    ·exact m3 x q x (hsubF x z).2 rfl
    ·exact n3 x (hp.mem_iff.2 (mAL _ q)) x z rfl
   ·intro x hx
    rcases hx with hx|hx
    ·exact h.imm x hx
    ·have:=h.apart x (mAL _ (hp.mem_iff.2 (mAL _ hx)))
     exact ⟨this.2.2,.inr this.2.1⟩
   ·intro u sv x hu hin
    by_cases hut:u=t
    ·subst hut
     rw [hself sv hu] at hin
     simp [SV.into] at hin
    ·obtain ⟨sv0,h0,rfl⟩:=hget u sv hut hu
     rcases SV.shut_cases t (zad cs) sv0 with e|⟨off,rfl,e⟩|⟨e,hb1,hp1⟩
     ·rw [e] at hin;simp [SV.into] at hin
     ·rw [e] at hin;simp [SV.into] at hin
     ·rw [e] at hin ⊢
      obtain ⟨y,hy,hyr,hyb⟩:=h.rooted u sv0 x h0 hin
      have hxt:x ≠ t:=by
       intro ext
       subst ext
       rcases Root.ne_of_into hin with ⟨p,k,rfl,hpr⟩|⟨p,rfl,hpr⟩
       ·exact (hb1 p k rfl) hpr
       ·exact (hp1 p rfl) hpr
      exact ⟨y,hroots x y hxt hy hyr,hyr,hyb⟩
  ·cases hs
 ·cases hs
theorem Sim.shutX (h:Sim E hand a w s I ι Fs Gs) {x:X} {s':St} (hs:s.shutX x=some s'):∃ I' Fs',Sim E hand a w s' I' ι Fs' Gs:=by
 cases x with
 | c d=>cases hs;exact ⟨I,Fs,h⟩
 | t n =>
  simp only [St.shutX] at hs
  split at hs
  ·exact h.shut1 hs
  ·exact h.shut1 hs
  ·cases hs;exact ⟨I,Fs,h⟩
theorem Sim.shuts:∀ {xs:List X} {s s':St} {I:Nat->Prop} {Fs:List (List Nat)},Sim E hand a w s I ι Fs Gs->s.shuts xs=some s'->∃ I' Fs',Sim E hand a w s' I' ι Fs' Gs
 | [],s,s',I,Fs,h,hs=>by cases hs;exact ⟨I,Fs,h⟩
 | x::xs,s,s',I,Fs,h,hs=>by
  simp only [St.shuts] at hs
  split at hs
  ·rename_i s1 h1
   obtain ⟨I1,Fs1,g1⟩:=h.shutX h1
   exact Sim.shuts g1 hs
  ·cases hs
end
end Go.Vx
namespace Go.Vx
inductive RepS (w:World) (I:Nat->Prop) (ι:List Nat):List Value->List D->List (List Nat)->Prop
 | nil:RepS w I ι [] [] []
 | cons (v:Value) (d:D) (F:List Nat) (vs:List Value) (ds:List D) (Fs:List (List Nat)):Rep w I ι v d F->RepS w I ι vs ds Fs->RepS w I ι (v::vs) (d::ds) (F::Fs)
inductive RepO (w:World) (I:Nat->Prop) (ι:List Nat):List Value->List (Option D)->List (List Nat)->Prop
 | nil:RepO w I ι [] [] []
 | none (v:Value) (vs:List Value) (ds:List (Option D)) (Fs:List (List Nat)):RepO w I ι vs ds Fs->RepO w I ι (v::vs) (none::ds) ([]::Fs)
 | some (v:Value) (d:D) (F:List Nat) (vs:List Value) (ds:List (Option D)) (Fs:List (List Nat)):Rep w I ι v d F->RepO w I ι vs ds Fs->RepO w I ι (v::vs) (some d::ds) (F::Fs)
theorem RepS.frame {w w':World} {I I':Nat->Prop} {ι:List Nat} {vs:List Value} {ds:List D} {Fs:List (List Nat)} (hI:∀ b,I b->I' b) (hw:∀ b,I b->w'.heap[b]? = w.heap[b]?) (h:RepS w I ι vs ds Fs)
  (hF:∀ b ∈ Fs.flatten,w'.heap[b]? = w.heap[b]?):RepS w' I' ι vs ds Fs:=by
 induction h with
 | nil=>exact .nil
 | cons v d F vs ds Fs h1 h2 ih =>
  exact .cons _ _ _ _ _ _ (h1.frame hI hw (fun b hb=>hF b (by simp [hb]))) (ih (fun b hb=>hF b (by simp only [List.flatten_cons];exact mAR _ hb)))
theorem RepS.length {w:World} {I:Nat->Prop} {ι:List Nat} {vs:List Value} {ds:List D} {Fs:List (List Nat)} (h:RepS w I ι vs ds Fs):vs.length=ds.length∧Fs.length=ds.length:=by
 induction h with
 | nil=>exact ⟨rfl,rfl⟩
 | cons _ _ _ _ _ _ _ _ ih=>simp [ih.1,ih.2]
theorem RepS.noRef {w:World} {I:Nat->Prop} {ι ι':List Nat} {vs:List Value} {ds:List D} {Fs:List (List Nat)} (h:RepS w I ι vs ds Fs) (he:zah ds=false):RepS w I ι' vs ds Fs:=by
 induction h with
 | nil=>exact .nil
 | cons v d F vs ds Fs h1 h2 ih =>
  simp only [zah,Bool.or_eq_false_iff] at he
  exact .cons _ _ _ _ _ _ (h1.noRef he.1) (ih he.2)
theorem RepS.noS {w:World} {I I':Nat->Prop} {ι:List Nat} {vs:List Value} {ds:List D} {Fs:List (List Nat)} (h:RepS w I ι vs ds Fs) (he:noSL ds=true):RepS w I' ι vs ds Fs:=by
 induction h with
 | nil=>exact .nil
 | cons v d F vs ds Fs h1 h2 ih =>
  simp only [noSL,Bool.and_eq_true] at he
  exact .cons _ _ _ _ _ _ (h1.noS he.1) (ih he.2)
theorem RepS.append {w:World} {I:Nat->Prop} {ι:List Nat} {vs us:List Value} {ds es:List D} {Fs Hs:List (List Nat)} (h:RepS w I ι vs ds Fs) (h2:RepS w I ι us es Hs):RepS w I ι (vs++us) (ds++es) (Fs++Hs):=by
 induction h with
 | nil=>exact h2
 | cons v d F vs ds Fs h1 _ ih=>exact .cons _ _ _ _ _ _ h1 ih
theorem RepL.toS {w:World} {I:Nat->Prop} {ι:List Nat}:∀ {vs:List Value} {ds:List D} {F:List Nat},RepL w I ι vs ds F->∃ Fs,RepS w I ι vs ds Fs∧Fs.flatten=F
 | _,_,_,.nil _=>⟨[],.nil,rfl⟩
 | _,_,_,.cons _ v d F vs ds G h t=>by
  obtain ⟨Fs,h1,h2⟩:=t.toS
  exact ⟨F::Fs,.cons _ _ _ _ _ _ h h1,by simp [h2]⟩
theorem RepS.toL {w:World} {I:Nat->Prop} {ι:List Nat} {vs:List Value} {ds:List D} {Fs:List (List Nat)} (h:RepS w I ι vs ds Fs):RepL w I ι vs ds Fs.flatten:=by
 induction h with
 | nil=>exact .nil _
 | cons v d F vs ds Fs h1 _ ih=>exact .cons _ _ _ _ _ _ _ h1 ih
def musV:List M->List Value->List Value
 | .mu::ms,v::vs=>v::musV ms vs
 | _::ms,_::vs=>musV ms vs
 | _,_=>[]
def ziD (s s':St):Prop:=(∀ (t:Nat) (x:D),s.sl[t]? = some (SV.d x)->∃ y,s'.sl[t]? = some (SV.d y))∧(∀ (t:Nat) (cs:List D),s.sl[t]? = some (SV.box cs)->∃ ds,s'.sl[t]? = some (SV.box ds))
theorem ziD.refl (s:St):ziD s s:=⟨fun t x h=>⟨x,h⟩,fun t cs h=>⟨cs,h⟩⟩
theorem ziD.trans {a b c:St} (h:ziD a b) (k:ziD b c):ziD a c :=
 ⟨fun t x e=>let ⟨y,e2⟩:=h.1 t x e;k.1 t y e2,fun t x e=>let ⟨y,e2⟩:=h.2 t x e;k.2 t y e2⟩
theorem ziD.kill (s:St) (r:Root) (all:Bool):ziD s (s.kill r all) :=
 ⟨fun t x h=>⟨x,by simp [St.kill,h,SV.kill]⟩,fun t cs h=>⟨cs,by simp [St.kill,h,SV.kill]⟩⟩
theorem ziD.setRoot {s s':St} {r:Root} {cs:List D} (h:s.setRoot r cs=some s'):ziD s s':=by
 cases r with
 | slot n =>
  simp only [St.setRoot] at h
  split at h
  ·rename_i c hn
   cases h
   refine ⟨fun t x ht=>⟨x,?_⟩,fun t c ht=>?_⟩
   ·have:n ≠ t:=fun e=>by subst e;rw [hn] at ht;cases ht
    simp only [];rw [List.getElem?_set_ne this];exact ht
   ·by_cases e:n=t
    ·subst e;exact ⟨cs,by simp only [];rw [List.getElem?_set_self (getElem?_lt hn)]⟩
    ·exact ⟨c,by simp only [];rw [List.getElem?_set_ne e];exact ht⟩
  ·rename_i y hn
   cases h
   refine ⟨fun t x ht=>?_,fun t c ht=>⟨c,?_⟩⟩
   ·by_cases e:n=t
    ·subst e;exact ⟨_,by simp only [];rw [List.getElem?_set_self (getElem?_lt hn)]⟩
    ·exact ⟨x,by simp only [];rw [List.getElem?_set_ne e];exact ht⟩
   ·have:n ≠ t:=fun e=>by subst e;rw [hn] at ht;cases ht
    simp only [];rw [List.getElem?_set_ne this];exact ht
  ·cases h
 | sto r=>simp only [St.setRoot,Option.some.injEq] at h;subst h;exact .refl _
theorem ziD.wrP {s s':St} {p:Place} {news:List D} (h:s.wrP p news=some s'):ziD s s':=by
 obtain ⟨_,_,_,_,_,_,_,_,h5,_⟩:=zfL h
 exact .setRoot h5
theorem ziD.take {s s':St} {x:X} {y:D} (h:s.take x=some (y,s')):ziD s s':=by
 cases x with
 | c d=>cases h;exact .refl _
 | t n =>
  simp only [St.take] at h
  split at h
  ·rename_i z hn
   split at h
   ·cases h
    refine ⟨fun t x ht=>?_,fun t c ht=>⟨c,?_⟩⟩
    ·by_cases e:n=t
     ·subst e;exact ⟨.dead,by simp only [];rw [List.getElem?_set_self (by simpa using getElem?_lt hn)]⟩
     ·exact ⟨x,by simp only [];rw [List.getElem?_set_ne e,List.getElem?_map,ht];rfl⟩
    ·have:n ≠ t:=fun e=>by subst e;rw [hn] at ht;cases ht
     simp only [];rw [List.getElem?_set_ne this,List.getElem?_map,ht];rfl
   ·cases h;exact .refl _
  ·split at h
   ·split at h
    ·rename_i s1 hw
     cases h
     exact (ziD.wrP hw).trans (.kill _ _ _)
    ·cases h
   ·cases h
  ·split at h
   ·cases h;exact .refl _
   ·cases h
  ·cases h
def Held (a:Act) (w:World) (s:St) (p:Place) (v:Value):Prop :=
 ∃ t off,p=⟨.slot t,[],off⟩∧((off=0∧v=a.tmps.getD t undef∧∃ x,s.sl[t]? = some (.d x)) ∨
  (∃ b c T cs,s.sl[t]? = some (.box cs)∧a.tmps.getD t undef=.pointer (some ⟨b,0,none⟩)∧w.heap[b]? = some (.cells c T (0,0))∧c[off]? = some v))
theorem Held.keep {a:Act} {w:World} {s s':St} {p:Place} {v:Value} (h:Held a w s p v) (k:ziD s s'):Held a w s' p v:=by
 obtain ⟨t,off,e,⟨e1,e2,x,e3⟩|⟨b,c,T,cs,e1,e2,e3,e4⟩⟩:=h
 ·exact ⟨t,off,e,.inl ⟨e1,e2,k.1 t x e3⟩⟩
 ·obtain ⟨ds,e5⟩:=k.2 t cs e1
  exact ⟨t,off,e,.inr ⟨b,c,T,ds,e5,e2,e3,e4⟩⟩
section
variable {P:Program} {E:Env} {hand:List Nat} {a:Act} {w:World} {s:St} {I:Nat->Prop} {ι:List Nat} {Fs Gs:List (List Nat)}
theorem Held.world (h:Sim E hand a w s I ι Fs Gs) {w2:World} (hx:∀ b,b ∈ Fs.flatten->w2.heap[b]? = w.heap[b]?) {p:Place} {v:Value} (hh:Held a w s p v):Held a w2 s p v:=by
 obtain ⟨t,off,e,h1|⟨b,c,T,cs,e1,e2,e3,e4⟩⟩:=hh
 ·exact ⟨t,off,e,.inl h1⟩
 ·refine ⟨t,off,e,.inr ⟨b,c,T,cs,e1,e2,?_,e4⟩⟩
  rw [hx b ?_]
  ·exact e3
  ·obtain ⟨b',hv,c',T',G,q1,q2,q3,q4⟩:=h.slot t _ e1
   rw [e2] at hv
   simp only [Value.pointer.injEq,Option.some.injEq,Addr.mk.injEq,and_true] at hv
   subst hv
   exact h.memF (t:=t) (by rw [q4];exact List.mem_cons_self ..)
theorem Sim.put1 {F:List Nat} (h:Sim E (F++hand) a w s I ι Fs Gs) {p:Place} {v:Value} (hh:Held a w s p v) {x:D} {s1:St} (hw:s.wrP p [x]=some s1) (hr:Rep w I ι v x F) :
  ∃ Fs2 Gs2,Sim E hand a w (s1.kill p.root false) I ι Fs2 Gs2:=by
 obtain ⟨t,off,rfl,hcase⟩:=hh
 obtain ⟨ds,ds',d2,cs,g0,g1,g2,g3,g4,g5⟩:=zfL hw
 simp only [focus,Option.some.injEq] at g1
 subst g1
 simp only [upd,Option.some.injEq] at g3
 subst g3
 simp only at g0 g2 g4
 obtain ⟨vs,bo,h1⟩:=h.root_open g0
 obtain ⟨G,hrG,hF,hb⟩:=h.rootRep h1
 have hvs:vs[off]? = some v:=by
  rcases h1 with ⟨b1,c1,T1,m1,m2,m3,rfl,rfl⟩|⟨y1,m1,rfl,rfl,rfl⟩
  ·rcases hcase with ⟨_,_,x0,e⟩|⟨b2,c2,T2,cs2,n1,n2,n3,n4⟩
   ·rw [m1] at e;cases e
   ·rw [m2] at n2
    simp only [Value.pointer.injEq,Option.some.injEq,Addr.mk.injEq,and_true] at n2
    subst n2
    rw [m3] at n3
    simp only [Option.some.injEq,Obj.cells.injEq,and_true] at n3
    obtain ⟨rfl,rfl⟩:=n3
    simpa using n4
  ·rcases hcase with ⟨rfl,rfl,x0,e⟩|⟨b2,c2,T2,cs2,n1,n2,n3,n4⟩
   ·rfl
   ·rw [m1] at n1;cases n1
 obtain ⟨hle,F2,L,hr2,hp2⟩:=hrG.patch (RepL.one hr) g2
 have hsame:vs.take off++([v]++vs.drop (off + [v].length))=vs:=by
  have:=zgT hvs
  simpa using this.symm
 rw [hsame] at hr2
 obtain ⟨n1,n2,n3⟩:=h.nodup2
 have hnW:(zha bo G).Nodup:=hF ▸ h.FP_nodup _
 have hin:∀ b,b ∈ F2->b ∈ FP Fs Gs (.slot t) ∨ b ∈ F:=by
  intro b hb2
  rcases List.mem_append.1 (hp2.mem_iff.2 (mAL _ hb2)) with hb2|hb2
  ·left;rw [hF]
   cases bo with
   | none=>exact hb2
   | some q=>exact List.mem_cons_of_mem _ hb2
  ·exact .inr hb2
 have hGF:(zha bo (G++F)).Nodup:=by
  have hFP:∀ b,b ∈ zha bo G->b ∉ F:=fun b hbW hbF=>n3 b (h.FP_sub (r:=.slot t) (hF ▸ hbW)) (mAL _ hbF)
  cases bo with
  | none=>exact List.nodup_append.2 ⟨hnW,(List.nodup_append.1 n2).1,fun x hx y hy e=>hFP x hx (e ▸ hy)⟩
  | some q =>
   obtain ⟨k1,k2⟩:=List.nodup_cons.1 hnW
   refine List.nodup_cons.2 ⟨fun hx=>(List.mem_append.1 hx).elim k1 (hFP _ (List.mem_cons_self ..)),List.nodup_append.2 ⟨k2,(List.nodup_append.1 n2).1,fun x hx y hy e=>hFP x (List.mem_cons_of_mem _ hx) (e ▸ hy)⟩⟩
 have hWn:(zha bo F2).Nodup:=by
  cases bo with
  | none=>exact (List.nodup_append.1 (hp2.nodup_iff.1 hGF)).1
  | some q =>
   obtain ⟨k1,k2⟩:=List.nodup_cons.1 hGF
   exact List.nodup_cons.2 ⟨fun hx=>k1 (hp2.mem_iff.2 (mAL _ hx)),(List.nodup_append.1 (hp2.nodup_iff.1 k2)).1⟩
 have hWin:∀ b,b ∈ zha bo F2->b ∈ FP Fs Gs (.slot t) ∨ b ∈ F:=by
  intro b hbW
  cases bo with
  | none=>exact hin b hbW
  | some q =>
   rcases List.mem_cons.1 hbW with rfl|hbW
   ·left;rw [hF];exact List.mem_cons_self ..
   ·exact hin b hbW
 have hlt:∀ b,b ∈ FP Fs Gs (.slot t) ∨ b ∈ F++hand->¬ I b∧b<w.heap.size:=by
  intro b hb
  have:=h.apart b (by
   rcases hb with hb|hb
   ·rw [<- List.append_assoc];exact mAL _ (h.FP_sub hb)
   ·exact mAR _ (mAR _ hb))
  exact ⟨this.1,this.2.2⟩
 refine h.recellsW h1 g0 g4 g5 false (w2:=w) (G:=F2) (hand2:=hand) (I2:=I) (fun b c T e hh hvs=>⟨c,hh,hvs ▸ hr2,hvs ▸ (hb b 0 e).2.1⟩) (fun _=>hr2) (Ext.refl _ _) (fun _ h=>h) (fun _ h=>.inl h)
  (List.nodup_append.2 ⟨hWn,(List.nodup_append.1 n2).2.1,?_⟩) ?_
 ·intro x hx y hy e
  subst e
  rcases hWin x hx with hx|hx
  ·exact n3 x (h.FP_sub hx) (mAR _ hy)
  ·exact (List.nodup_append.1 n2).2.2 x hx x hy rfl
 ·intro b hbm
  have:b ∈ FP Fs Gs (.slot t) ∨ b ∈ F++hand:=by
   rcases List.mem_append.1 hbm with hbm|hbm
   ·exact (hWin b hbm).imp id (mAL _)
   ·exact .inr (mAR _ hbm)
  exact ⟨(hlt b this).1,this.elim .inl (fun e=>.inr (.inl e)),(hlt b this).2⟩
theorem Sim.putBack:∀ {ps:List Place} {vs:List Value} {ds:List D} {Hs:List (List Nat)} {s s1:St} {Fs Gs:List (List Nat)},Sim E (Hs.flatten++hand) a w s I ι Fs Gs->All2 (fun p v=>Held a w s p v) ps vs->RepS w I ι vs ds Hs ->
  putBack s ps ds=some s1->∃ Fs2 Gs2,Sim E hand a w s1 I ι Fs2 Gs2
 | [],vs,ds,Hs,s,s1,Fs,Gs,h,hh,hr,hp=>by
  cases hh
  cases hr
  cases hp
  exact ⟨Fs,Gs,by simpa using h⟩
 | p::ps,vs,ds,Hs,s,s1,Fs,Gs,h,hh,hr,hp=>by
  cases hh with
  | cons h1 h2 =>
   cases hr with
   | cons v d F vs ds Hs r1 r2 =>
    simp only [Vx.putBack] at hp
    split at hp
    ·rename_i s2 hw
     have h':Sim E (F++(Hs.flatten++hand)) a w s I ι Fs Gs:=by simpa using h
     obtain ⟨Fs2,Gs2,h3⟩:=h'.put1 h1 hw r1
     exact Sim.putBack h3 (h2.imp (fun p v hv=>hv.keep ((ziD.wrP hw).trans (.kill _ _ _)))) r2 hp
    ·cases hp
theorem Sim.hand1 (h:Sim E hand a w s I ι Fs Gs) {x:X} {y:D} {p:Place} {s1:St} (hx:s.hand x=some (y,p,s1)) {v:Value} (hv:XV a x v) :
  ∃ Fx Fs2 Gs2,Rep w I ι v y Fx∧Sim E (Fx++hand) a w s1 I ι Fs2 Gs2∧Held a w s1 p v∧ziD s s1:=by
 cases x with
 | c d=>cases hx
 | t n =>
  simp only [St.hand] at hx
  split at hx
  ·rename_i z hn
   split at hx
   ·obtain ⟨⟨y1,s2⟩,h1,h2⟩:=Option.map_eq_some_iff.1 hx
    simp only [Prod.mk.injEq] at h2
    obtain ⟨rfl,rfl,rfl⟩:=h2
    obtain ⟨Fx,Fs2,Gs2,h3,h4⟩:=h.take h1 hv
    exact ⟨Fx,Fs2,Gs2,h3,h4,Held.keep ⟨n,0,rfl,.inl ⟨rfl,hv,z,hn⟩⟩ (.take h1),.take h1⟩
   ·cases hx
  ·rename_i t off hn
   obtain ⟨⟨y1,s2⟩,h1,h2⟩:=Option.map_eq_some_iff.1 hx
   simp only [Prod.mk.injEq] at h2
   obtain ⟨rfl,rfl,rfl⟩:=h2
   obtain ⟨Fx,Fs2,Gs2,h3,h4⟩:=h.take h1 hv
   refine ⟨Fx,Fs2,Gs2,h3,h4,Held.keep ?_ (.take h1),.take h1⟩
   have hg:=h.good n _ hn
   have hrd:=zqs h1
   simp only [St.rd,hn] at hrd
   obtain ⟨vs,ds,bo,ds',q0,q1,q2,q3⟩:=h.rdP_open hrd
   simp only [focus,Option.some.injEq] at q2
   subst q2
   have hva:=hg vs ds bo _ _ _ q1 (.nil _ _ _)
   have hva':vs[off]? = some v:=by rw [hv];exact hva
   rcases q1 with ⟨b1,c1,T1,m1,m2,m3,rfl,rfl⟩|⟨y1,m1,rfl,rfl,rfl⟩
   ·exact ⟨t,off,rfl,.inr ⟨b1,c1,T1,_,m1,m2,m3,by simpa using hva'⟩⟩
   ·have h0:=getElem?_lt hva'
    simp only [List.length_singleton] at h0
    obtain rfl:off=0:=by omega
    simp only [List.getElem?_cons_zero,Option.some.injEq] at hva'
    exact ⟨t,0,rfl,.inl ⟨rfl,hva'.symm,_,m1⟩⟩
  ·cases hx
theorem Sim.takes:∀ {as:List (M × X)} {vs:List Value} {os:List (Option D)} {ps:List Place} {s s1:St} {Fs Gs:List (List Nat)} {hand:List Nat},All2 (fun (p:M × X) v=>XV a p.2 v) as vs ->
  Sim E hand a w s I ι Fs Gs->s.takes as=some (os,ps,s1) ->
  ∃ Hs Fs2 Gs2,RepO w I ι vs os Hs∧Sim E (Hs.flatten++hand) a w s1 I ι Fs2 Gs2∧All2 (fun p v=>Held a w s1 p v) ps (musV (as.map fun p=>p.1) vs)∧ziD s s1
 | [],vs,os,ps,s,s1,Fs,Gs,hand,hv,h,ht=>by
  cases hv
  cases ht
  exact ⟨[],Fs,Gs,.nil,by simpa using h,.nil,.refl _⟩
 | (m,x)::as,vs,os,ps,s,s1,Fs,Gs,hand,hv,h,ht=>by
  cases hv with
  | cons hx hv =>
   rename_i v vs
   have skip:∀ {m:M},m ≠ .mu->(s.takes as).map (fun a=>((none:Option D)::a.1,a.2))=some (os,ps,s1) ->
     ∃ Hs Fs2 Gs2,RepO w I ι (v::vs) os Hs∧Sim E (Hs.flatten++hand) a w s1 I ι Fs2 Gs2∧All2 (fun p v=>Held a w s1 p v) ps (musV (((m,x)::as).map fun p=>p.1) (v::vs))∧ziD s s1:=by
    intro m hm ht
    obtain ⟨⟨os1,ps1,s2⟩,h1,h2⟩:=Option.map_eq_some_iff.1 ht
    simp only [Prod.mk.injEq] at h2
    obtain ⟨rfl,rfl,rfl⟩:=h2
    obtain ⟨Hs,Fs2,Gs2,g1,g2,g3,g4⟩:=Sim.takes hv h h1
    refine ⟨[]::Hs,Fs2,Gs2,.none _ _ _ _ g1,by simpa using g2,?_,g4⟩
    cases m <;> first|exact g3|exact absurd rfl hm
   cases m with
   | rd=>exact skip (by simp) (by simpa [St.takes] using ht)
   | fz=>exact skip (by simp) (by simpa [St.takes] using ht)
   | im n=>exact skip (by simp) (by simpa [St.takes] using ht)
   | mv =>
    simp only [St.takes] at ht
    split at ht
    ·rename_i y hy
     obtain ⟨⟨os1,ps1,s2⟩,h1,h2⟩:=Option.map_eq_some_iff.1 ht
     simp only [Prod.mk.injEq] at h2
     obtain ⟨rfl,rfl,rfl⟩:=h2
     obtain ⟨Fx,Fs1,Gs1,r1,r2⟩:=h.take hy hx
     obtain ⟨Hs,Fs2,Gs2,g1,g2,g3,g4⟩:=Sim.takes hv r2 h1
     refine ⟨Fx::Hs,Fs2,Gs2,.some _ _ _ _ _ _ r1 g1,?_,g3,(ziD.take hy).trans g4⟩
     refine g2.less ?_ (fun b hb=>?_)
     ·have:=g2.nodup2.2.1
      have hp:(Hs.flatten++(Fx++hand)).Perm ((Fx::Hs).flatten++hand):=by
       rw [List.perm_iff_count];intro y;simp [List.count_append];omega
      exact hp.nodup_iff.1 this
     ·simp only [List.flatten_cons,List.mem_append] at hb ⊢
      exact hb.elim (fun hb=>hb.elim (fun hb=>.inr (.inl hb)) .inl) (fun hb=>.inr (.inr hb))
    ·cases ht
   | mu =>
    simp only [St.takes] at ht
    split at ht
    ·rename_i y hy
     obtain ⟨⟨os1,ps1,s2⟩,h1,h2⟩:=Option.map_eq_some_iff.1 ht
     simp only [Prod.mk.injEq] at h2
     obtain ⟨rfl,rfl,rfl⟩:=h2
     obtain ⟨y1,p1,s3⟩:=y
     obtain ⟨Fx,Fs1,Gs1,r1,r2,r3,r4⟩:=h.hand1 hy hx
     obtain ⟨Hs,Fs2,Gs2,g1,g2,g3,g4⟩:=Sim.takes hv r2 h1
     refine ⟨Fx::Hs,Fs2,Gs2,.some _ _ _ _ _ _ r1 g1,?_,.cons (r3.keep g4) g3,r4.trans g4⟩
     refine g2.less ?_ (fun b hb=>?_)
     ·have:=g2.nodup2.2.1
      have hp:(Hs.flatten++(Fx++hand)).Perm ((Fx::Hs).flatten++hand):=by
       rw [List.perm_iff_count];intro y;simp [List.count_append];omega
      exact hp.nodup_iff.1 this
     ·simp only [List.flatten_cons,List.mem_append] at hb ⊢
      exact hb.elim (fun hb=>hb.elim (fun hb=>.inr (.inl hb)) .inl) (fun hb=>.inr (.inr hb))
    ·cases ht
theorem Sim.lend (h:Sim E hand a w s I ι Fs Gs) {x:X} {y:D} {b:Bool} (hx:s.lend x=some (y,b)) {v:Value} (hv:XV a x v) :
  Rep w (fun k=>I k ∨ k ∈ Fs.flatten++Gs.flatten) ι v y []∧(b=false->Rep w I ι v y []):=by
 cases x with
 | c d =>
  cases hx
  have:Rep w I ι v d.freeze []:=(hv w I ι).freeze.monoI (fun _ h=>h.elim id (fun h=>by cases h))
  exact ⟨this.monoI (fun _ h=>.inl h),fun _=>this⟩
 | t n =>
  cases hv
  simp only [St.lend] at hx
  split at hx
  ·rename_i z hn
   split at hx
   ·cases hx
    exact ⟨(h.slot n _ hn).freeze.monoI (fun k hk=>hk.imp id (fun hk=>mAL _ (h.memF hk))),fun e=>by cases e⟩
   ·rename_i hX
    cases hx
    have h0:Rep w I ι (a.tmps.getD n undef) y (Fs.getD n []):=h.slot n _ hn
    have:Fs.getD n []=[]:=h0.noX (by simpa using hX)
    rw [this] at h0
    exact ⟨h0.monoI (fun _ h=>.inl h),fun _=>h0⟩
  ·rename_i p k hn
   obtain ⟨z,h1,h2⟩:=Option.map_eq_some_iff.1 hx
   simp only [Prod.mk.injEq] at h2
   obtain ⟨rfl,rfl⟩:=h2
   obtain ⟨Fx,h3,h4⟩:=h.rdP_val h1 (h.good n _ hn)
   exact ⟨h3.freeze.monoI (fun k hk=>hk.imp id (h4 k)),fun e=>by cases e⟩
  ·rename_i r off hn
   split at hx
   ·rename_i hlt
    cases hx
    obtain ⟨Fx,h1,_⟩:=h.rd (x:=.t n) (y:=.ref r off) (by simp [St.rd,hn,hlt]) rfl
    have:Fx=[]:=Rep.noX h1 rfl
    subst this
    exact ⟨h1.monoI (fun _ h=>.inl h),fun _=>h1⟩
   ·cases hx
  ·cases hx
theorem Sim.lendI (h:Sim E hand a w s I ι Fs Gs) {x:X} {y:D} {b:Bool} {n:Nat} (hx:s.lendI n x=some (y,b)) {v:Value} (hv:XV a x v) :
  Rep w (fun k=>I k ∨ k ∈ Fs.flatten++Gs.flatten) ι v y []∧(b=false->Rep w I ι v y []):=by
 simp only [St.lendI] at hx
 split at hx
 ·rename_i p hp
  split at hx
  ·rename_i cs hcs
   split at hx
   ·rename_i c hf
    split at hx
    ·rename_i hc
     cases hx
     refine ⟨?_,fun e=>by cases e⟩
     obtain ⟨vs,bo,h1⟩:=h.root_open hcs
     obtain ⟨F,hr,hn,hF,hb⟩:=zbe h h1
     obtain ⟨vs',bo',ι',F',R,hFoc,hrep,hones,hperm,hnil,hcons,_⟩:=zcJ p.steps bo hr hn hf
     obtain ⟨b,o,e,hv⟩:=(h.place hp hv).1 _ _ _ _ _ _ h1 hFoc
     subst e
     subst hv
     have hsub:∀ k ∈ F,k ∈ Fs.flatten++Gs.flatten:=fun k hk=>h.FP_sub (r:=p.root) (by rw [hF];cases bo with|none=>exact hk|some bo=>exact List.mem_cons_of_mem _ hk)
     have hrep2:RepL w (fun k=>I k ∨ k ∈ Fs.flatten++Gs.flatten) [] vs' (zad c) [] :=
      ((hrep.noRef (ι':=[]) hc).freeze).monoI (fun k hk=>hk.imp id (fun hk=>hsub k (hperm.mem_iff.2 (mAL _ hk))))
     by_cases hst:p.steps=[]
     ·obtain ⟨e1,e2,e3,e4⟩:=hnil hst
      subst e1
      subst e2
      obtain ⟨e5,e6,c',T,hh,e7⟩:=hb b o rfl
      subst e5
      have hbF:b ∈ Fs.flatten++Gs.flatten:=h.FP_sub (r:=p.root) (by rw [hF];exact List.mem_cons_self ..)
      refine zlh (b:=b) (o:=0) (.inr hbF) ?_ e6 hrep2
      intro j u hj
      rw [e7] at hj
      simp only [World.cell?,hh,Option.isSome_none,Bool.false_eq_true,if_false,Nat.zero_add]
      simpa using hj
     ·obtain ⟨e1,b2,o2,c',E',e2,e3,e4,e5,e6⟩:=hcons hst
      cases e2
      exact zlh (.inr (hsub _ (hperm.mem_iff.2 (mAR _ e3)))) e6 (hones hst) hrep2
    ·cases hx
   ·cases hx
  ·cases hx
 ·exact h.lend hx hv
theorem Sim.lends {Fs Gs:List (List Nat)} (h:Sim E hand a w s I ι Fs Gs):∀ {as:List (M × X)} {vs:List Value} {os:List (Option D)} {ds:List D} {b:Bool} {Hs:List (List Nat)},All2 (fun (p:M × X) v=>XV a p.2 v) as vs ->
  RepO w I ι vs os Hs->s.lends as os=some (ds,b)->RepS w (fun k=>I k ∨ k ∈ Fs.flatten++Gs.flatten) ι vs ds Hs∧(b=false->RepS w I ι vs ds Hs)
 | [],vs,os,ds,b,Hs,hv,ho,hl=>by
  cases hv
  cases ho
  cases hl
  exact ⟨.nil,fun _=>.nil⟩
 | (m,x)::as,vs,os,ds,b,Hs,hv,ho,hl=>by
  cases hv with
  | cons hx hv =>
   cases ho with
   | none _ _ _ _ ho =>
    simp only [St.lends] at hl
    split at hl
    ·rename_i y hy
     obtain ⟨⟨ds1,b1⟩,h1,h2⟩:=Option.map_eq_some_iff.1 hl
     simp only [Prod.mk.injEq] at h2
     obtain ⟨rfl,rfl⟩:=h2
     obtain ⟨g1,g2⟩:=Sim.lends h hv ho h1
     obtain ⟨y1,b2⟩:=y
     obtain ⟨k1,k2⟩:Rep w (fun k=>I k ∨ k ∈ Fs.flatten++Gs.flatten) ι _ y1 []∧(b2=false->Rep w I ι _ y1 []):=by
      cases m with
      | im n=>exact h.lendI hy hx
      | _=>exact h.lend hy hx
     refine ⟨.cons _ _ _ _ _ _ k1 g1,fun e=>?_⟩
     simp only [Bool.or_eq_false_iff] at e
     exact .cons _ _ _ _ _ _ (k2 e.1) (g2 e.2)
    ·cases hl
   | some _ d F _ _ _ hd ho =>
    simp only [St.lends] at hl
    obtain ⟨⟨ds1,b1⟩,h1,h2⟩:=Option.map_eq_some_iff.1 hl
    simp only [Prod.mk.injEq] at h2
    obtain ⟨rfl,rfl⟩:=h2
    obtain ⟨g1,g2⟩:=Sim.lends h hv ho h1
    exact ⟨.cons _ _ _ _ _ _ (hd.monoI (fun _ h=>.inl h)) g1,fun e=>.cons _ _ _ _ _ _ hd (g2 e)⟩
end
end Go.Vx
namespace Go.Vx
section
variable {P:Program} {E:Env} {hand:List Nat} {a:Act} {w:World} {s:St} {I:Nat->Prop} {ι:List Nat} {Fs Gs:List (List Nat)}
theorem Foc.upd_same {w:World} {d2:List D}:∀ (st:List (Nat × Nat)) {vs:List Value} {ds cs:List D} {bo:Option (Nat × Nat)} {vs' ds':List _} {bo':Option (Nat × Nat)} {vs1 ds1:List _} {bo1:Option (Nat × Nat)},
  upd (fun _=>some d2) ds st=some cs->Foc w vs ds bo st vs' ds' bo'->Foc w vs cs bo st vs1 ds1 bo1->vs1=vs'
 | [],vs,ds,cs,bo,vs',ds',bo',vs1,ds1,bo1,hu,h1,h2=>by
  cases h1;cases h2;rfl
 | (k,i)::r,vs,ds,cs,bo,vs',ds',bo',vs1,ds1,bo1,hu,h1,h2=>by
  cases h1 with
  | cons _ _ _ _ _ _ b o n cap z xs x v1 _ _ _ hv hd hx hc hl hr =>
   simp only [upd,hd,hx] at hu
   split at hu
   ·rename_i cs' hu2
    cases hu
    cases h2 with
    | cons _ _ _ _ _ _ b2 o2 n2 cap2 z2 xs2 x2 v2 _ _ _ hv' hd' hx' hc' hl' hr' =>
     rw [hv] at hv'
     cases hv'
     rw [List.getElem?_set_self (getElem?_lt hd)] at hd'
     simp only [Option.some.injEq,D.sl.injEq,true_and] at hd'
     obtain ⟨rfl,rfl⟩:=hd'
     rw [List.getElem?_set_self (getElem?_lt hx)] at hx'
     simp only [Option.some.injEq] at hx'
     subst hx'
     obtain rfl:=zaA.unique hc hc' (by omega)
     cases r with
     | nil=>cases hr;cases hr';rfl
     | cons q r =>
      have hcell:(x.withCells cs').cells=cs':=by
       cases x with
       | agg l=>rfl
       | _ =>
        obtain ⟨k2,i2⟩:=q
        simp only [upd,D.cells] at hu2
        cases k2 with
        | zero =>
         simp only [List.getElem?_cons_zero] at hu2
         repeat' (first|(cases hu2;done)|split at hu2)
         all_goals (try (simp only [Option.some.injEq] at hu2;subst hu2;rfl))
        | succ k2=>simp at hu2
      rw [hcell] at hr'
      exact Foc.upd_same (q::r) hu2 hr hr'
   ·cases hu
def zqu (a:Act) (s:St) (q:Place × BK) (v:Value):Prop :=
 ∃ n t st off,q.1=⟨.slot t,st,off⟩∧s.sl[n]? = some (.bor ⟨.slot t,st,off⟩ q.2)∧a.tmps.getD n undef=v∧(∀ lo hi,q.2 ≠ .cut lo hi)
theorem Sim.handG (h:Sim E hand a w s I ι Fs Gs) {x:X} {y:D} {q:Place × BK} {s1:St} (hx:s.handG x=some (y,q,s1)) {v:Value} (hv:XV a x v) :
  ∃ Fx Fs2 Gs2,Rep w I ι v y Fx∧Sim E (Fx++hand) a w s1 I ι Fs2 Gs2∧zqu a s1 q v:=by
 cases x with
 | c d=>cases hx
 | t n =>
  simp only [St.handG] at hx
  split at hx
  ·rename_i t st off k hn
   have hcut:∀ lo hi,k ≠ .cut lo hi:=by
    intro lo hi e
    subst e
    cases hx
   have hx2:∃ r y0,s.take (.t n)=some r∧r.2.sl[t]? = some y0∧y0.isRoot=true∧(r.2.setD n (.bor ⟨.slot t,st,off⟩ k)).map (fun s'=>(r.1,((⟨.slot t,st,off⟩:Place),k),s'))=some (y,q,s1):=by
    cases k with
    | cut lo hi=>exact absurd rfl (hcut lo hi)
    | one =>
     simp only at hx
     split at hx
     ·rename_i r hr
      split at hx
      ·rename_i y0 hy0
       split at hx
       ·rename_i hroot;exact ⟨r,y0,hr,hy0,hroot,hx⟩
       ·cases hx
      ·cases hx
     ·cases hx
    | many m =>
     simp only at hx
     split at hx
     ·rename_i r hr
      split at hx
      ·rename_i y0 hy0
       split at hx
       ·rename_i hroot;exact ⟨r,y0,hr,hy0,hroot,hx⟩
       ·cases hx
      ·cases hx
     ·cases hx
   obtain ⟨⟨y1,s2⟩,y0,hr,hy0,hroot,hx3⟩:=hx2
   obtain ⟨s3,h3,h4⟩:=Option.map_eq_some_iff.1 hx3
   simp only [Prod.mk.injEq] at h4
   obtain ⟨rfl,rfl,rfl⟩:=h4
   obtain ⟨Fx,Fs2,Gs2,r1,r2⟩:=h.take hr hv
   have hlt:n<a.tmps.size:=by rw [h.size];exact getElem?_lt hn
   have hg:=h.good n _ hn
   simp only [St.take,hn] at hr
   split at hr
   ·rename_i y2 hrd
    split at hr
    ·rename_i s4 hw
     simp only [Option.some.injEq,Prod.mk.injEq] at hr
     obtain ⟨rfl,rfl⟩:=hr
     obtain ⟨vs,ds,bo,ds',k0,k1,k2,k3⟩:=h.rdP_open hrd
     obtain ⟨ds0,ds0',d2,cs,g0,g1,g2,g3,g4,g5⟩:=zfL hw
     rw [k0] at g0;cases g0
     simp only at k2 g1 g3
     rw [k2] at g1;cases g1
     obtain ⟨F,hrF,hnF,hF,hb⟩:=zbe h k1
     obtain ⟨vs',bo',ι',F',R,hFoc,hrep,_⟩:=zcJ st bo hrF hnF k2
     have hold:=hg _ _ _ _ _ _ k1 hFoc
     have hok2:zgf w a (s4.kill (.slot t) false) ι (a.tmps.getD n undef) (.bor ⟨.slot t,st,off⟩ k):=by
      intro us es bo2 us' es' bo2' e1 e2
      have hroots:us=vs∧es=cs:=by
       obtain ⟨hnew,hroot2⟩:=ziA false k0 g5 g4
       simp only [St.root] at hroot2
       rcases e1 with ⟨b1,c1,T1,m1,m2,m3,rfl,rfl⟩|⟨z1,m1,rfl,rfl,rfl⟩
       ·rw [m1] at hroot2
        simp only [Option.some.injEq] at hroot2
        rcases k1 with ⟨b3,c3,T3,n1,n2,n3,rfl,rfl⟩|⟨z3,n1,rfl,rfl,rfl⟩
        ·rw [m2] at n2;cases n2
         rw [m3] at n3;cases n3
         exact ⟨rfl,hroot2⟩
        ·exfalso
         rcases hnew.self m1 with ⟨_,_,q1,_⟩|⟨_,_,_,q1⟩
         ·rw [n1] at q1;cases q1
         ·cases q1
       ·rw [m1] at hroot2
        simp only [Option.some.injEq] at hroot2
        rcases k1 with ⟨b3,c3,T3,n1,n2,n3,rfl,rfl⟩|⟨z3,n1,rfl,rfl,rfl⟩
        ·exfalso
         rcases hnew.self m1 with ⟨_,_,_,q1⟩|⟨_,_,q1,_⟩
         ·cases q1
         ·rw [n1] at q1;cases q1
        ·exact ⟨rfl,hroot2⟩
      obtain ⟨rfl,rfl⟩:=hroots
      have hbo:∀ {b1 b2:Option (Nat × Nat)},Foc w us es b1 st us' es' bo2'->∃ bo3,Foc w us es b2 st us' es' bo3:=by
       intro b1 b2 hf
       cases hf with
       | nil=>exact ⟨_,.nil _ _ _⟩
       | cons _ _ _ _ _ _ _ _ _ _ _ _ _ _ _ _ _ q1 q2 q3 q4 q5 q6=>exact ⟨_,.cons _ _ _ _ _ _ _ _ _ _ _ _ _ _ _ _ _ q1 q2 q3 q4 q5 q6⟩
      obtain ⟨bo3,e3⟩:=hbo (b2:=bo) e2
      obtain rfl:=Foc.upd_same st g3 hFoc e3
      cases k with
      | one=>exact hold
      | many m=>exact hold
      | cut lo hi=>exact absurd rfl (hcut lo hi)
     obtain ⟨Fs3,h5⟩:=r2.setSame h3 rfl hok2 (by
      intro u hu
      simp only [SV.into,beq_iff_eq,Root.slot.injEq] at hu
      subst hu
      exact ⟨y0,hy0,hroot,fun p e=>by cases e⟩)
     refine ⟨Fx,Fs3,Gs2,r1,h5,n,t,st,off,rfl,?_,hv.symm,hcut⟩
     have:=h3
     unfold St.setD at this
     split at this
     ·split at this
      ·cases this
      ·split at this <;> (cases this;simp only [];rw [List.getElem?_set_self];simpa using getElem?_lt ‹_›)
     ·cases this
    ·cases hr
   ·cases hr
  ·cases hx
theorem RepO.nones:∀ (r:List (M × X)) {vs:List Value},r.length=vs.length->RepO w I ι vs (r.map fun _=>(Option.none:Option D)) (r.map fun _=>[])∧(r.map fun _=>([]:List Nat)).flatten=[]
 | [],vs,h=>by
  cases vs with
  | nil=>exact ⟨.nil,rfl⟩
  | cons=>cases h
 | p::r,vs,h=>by
  cases vs with
  | nil=>cases h
  | cons v vs =>
   obtain ⟨h1,h2⟩:=RepO.nones r (vs:=vs) (by simpa using h)
   exact ⟨.none _ _ _ _ h1,h2⟩
theorem zii:∀ (r:List (M × X)) (vs:List Value),(r.all fun a=>a.1.calm)=true->musV (r.map fun p=>p.1) vs=[]
 | [],vs,_=>by cases vs <;> rfl
 | (m,x)::r,[],h=>by cases m <;> rfl
 | (m,x)::r,v::vs,h=>by
  simp only [List.all_cons,Bool.and_eq_true] at h
  cases m with
  | rd=>exact zii r vs h.2
  | fz=>exact zii r vs h.2
  | im n=>exact zii r vs h.2
  | mv=>exact absurd h.1 (by simp [M.calm])
  | mu=>exact absurd h.1 (by simp [M.calm])
theorem All2.len {α β:Type} {R:α->β->Prop}:∀ {xs:List α} {ys:List β},All2 R xs ys->xs.length=ys.length
 | _,_,.nil=>rfl
 | _,_,.cons _ h=>by simp [All2.len h]
theorem Sim.takesG:∀ {as:List (M × X)} {vs:List Value} {os:List (Option D)} {q:Place × BK} {s1:St},All2 (fun (p:M × X) v=>XV a p.2 v) as vs ->
  Sim E hand a w s I ι Fs Gs->s.takesG as=some (os,q,s1) ->
  ∃ Hs Fs2 Gs2 v,RepO w I ι vs os Hs∧Sim E (Hs.flatten++hand) a w s1 I ι Fs2 Gs2∧musV (as.map fun p=>p.1) vs=[v]∧zqu a s1 q v
 | [],vs,os,q,s1,hv,h,ht=>by cases ht
 | (m,x)::as,_,os,q,s1,hv,h,ht=>by
  cases hv with
  | cons hx hv =>
   rename_i v vs
   have skip:∀ {m:M},m.calm=true->(s.takesG as).map (fun a=>((none:Option D)::a.1,a.2))=some (os,q,s1) ->
     ∃ Hs Fs2 Gs2 u,RepO w I ι (v::vs) os Hs∧Sim E (Hs.flatten++hand) a w s1 I ι Fs2 Gs2∧musV (((m,x)::as).map fun p=>p.1) (v::vs)=[u]∧zqu a s1 q u:=by
    intro m hm ht
    obtain ⟨⟨os1,q1,s2⟩,h1,h2⟩:=Option.map_eq_some_iff.1 ht
    simp only [Prod.mk.injEq] at h2
    obtain ⟨rfl,rfl,rfl⟩:=h2
    obtain ⟨Hs,Fs2,Gs2,u,g1,g2,g3,g4⟩:=Sim.takesG hv h h1
    refine ⟨[]::Hs,Fs2,Gs2,u,.none _ _ _ _ g1,by simpa using g2,?_,g4⟩
    cases m <;> first|exact g3|exact absurd hm (by simp [M.calm])
   cases m with
   | rd=>exact skip rfl (by simpa [St.takesG,M.calm] using ht)
   | fz=>exact skip rfl (by simpa [St.takesG,M.calm] using ht)
   | im n=>exact skip rfl (by simpa [St.takesG,M.calm] using ht)
   | mv=>simp [St.takesG,M.calm] at ht
   | mu =>
    simp only [St.takesG] at ht
    split at ht
    ·rename_i hcalm
     obtain ⟨⟨y,q1,s2⟩,h1,h2⟩:=Option.map_eq_some_iff.1 ht
     simp only [Prod.mk.injEq] at h2
     obtain ⟨rfl,rfl,rfl⟩:=h2
     obtain ⟨Fx,Fs2,Gs2,r1,r2,r3⟩:=h.handG h1 hx
     obtain ⟨n1,n2⟩:=RepO.nones (w:=w) (I:=I) (ι:=ι) as (All2.len hv)
     refine ⟨Fx::as.map (fun _=>[]),Fs2,Gs2,v,.some _ _ _ _ _ _ r1 n1,?_,?_,r3⟩
     ·rw [List.flatten_cons,n2,List.append_nil];exact r2
     ·simp only [List.map_cons,musV,zii as vs hcalm]
    ·cases ht
theorem Sim.putG {F:List Nat} (h:Sim E (F++hand) a w s I ι Fs Gs) {q:Place × BK} {v:Value} (hh:zqu a s q v) {x:D} (hr:Rep w I ι v x F) {news:List D} (hn:q.2.news x=some news)
  (href:q.1.steps=[] ∨ zah news=false) {s1:St} (hw:s.wrP q.1 news=some s1):∃ Fs2 Gs2,Sim E hand a w (s1.kill q.1.root false) I ι Fs2 Gs2:=by
 obtain ⟨n,t,st,off,hq,hsl,rfl,hcut⟩:=hh
 obtain ⟨p,k⟩:=q
 simp only at hq hsl hcut hn href hw ⊢
 subst hq
 have hg:=h.good n _ hsl
 obtain ⟨ds,ds',d2,cs,g0,g1,g2,g3,g4,g5⟩:=zfL hw
 simp only at g0 g1 g2 g3 g4 href ⊢
 obtain ⟨vs,bo,h1⟩:=h.root_open g0
 obtain ⟨F0,hrF,hnF,hF,hb⟩:=zbe h h1
 obtain ⟨vs',bo',ι',F',R,hFoc,hrep,hones,hperm,hnil,hcons,hre⟩:=zcJ st bo hrF hnF g1
 have hval:=hg _ _ _ _ _ _ h1 hFoc
 obtain ⟨nv,hnv,hsame⟩:∃ nv,RepL w I ι nv news F∧vs'.take off++(nv++vs'.drop (off + nv.length))=vs':=by
  cases k with
  | cut lo hi=>exact absurd rfl (hcut lo hi)
  | one =>
   simp only [BK.news,Option.some.injEq] at hn
   subst hn
   refine ⟨[a.tmps.getD n undef],RepL.one hr,?_⟩
   have:=zgT (show vs'[off]? = some (a.tmps.getD n undef) from hval)
   simpa using this.symm
  | many m =>
   obtain ⟨hle,_,hv⟩:off + m<=vs'.length∧ones ((vs'.drop off).take m)∧a.tmps.getD n undef=.agg ((vs'.drop off).take m).toArray:=hval
   cases x with
   | agg cs' =>
    simp only [BK.news] at hn
    split at hn
    ·rename_i hl
     simp only [Option.some.injEq] at hn
     subst hn
     rw [hv] at hr
     obtain ⟨us,e1,e2,_⟩:=hr.is_agg
     have e3:(vs'.drop off).take m=us:=by
      have:=congrArg (fun z=>match z with|Value.agg c=>c.toList|_=>[]) e1
      simpa using this
     refine ⟨(vs'.drop off).take m,by rw [e3];exact e2,?_⟩
     have hlen:((vs'.drop off).take m).length=m:=by rw [List.length_take,List.length_drop];omega
     rw [hlen,<- List.drop_drop,List.take_append_drop,List.take_append_drop]
    ·cases hn
   | _=>cases hn
 have hnv':RepL w I ι' nv news F:=by
  by_cases hst:st=[]
  ·rw [(hnil hst).2.2.1];exact hnv
  ·exact hnv.noRef (href.resolve_left hst)
 obtain ⟨_,F2,L,hrep2,hperm2⟩:=hrep.patch hnv' g2
 rw [hsame] at hrep2
 obtain ⟨G,hG,hGp⟩:=hre w I vs' d2 F2 (fun _ h=>h) (fun _ _=>rfl) (fun _ _ _=>rfl)
  (by
   intro hst b o e
   obtain ⟨_,b',o',c,T,e',_,hh,hle,hc⟩:=hcons hst
   rw [e'] at e
   simp only [Option.some.injEq,Prod.mk.injEq] at e
   obtain ⟨rfl,rfl⟩:=e
   exact ⟨c,T,c,hh,hh,rfl,fun _ _=>rfl,hc⟩) rfl hones hrep2 cs g3
 have hG':RepL w I ι vs cs G:=by
  by_cases hst:st=[]
  ·rw [if_pos hst,(hnil hst).1] at hG;exact hG
  ·rw [if_neg hst] at hG;exact hG
 obtain ⟨n1,n2,n3⟩:=h.nodup2
 have hFin:∀ b,b ∈ F0->b ∈ FP Fs Gs (.slot t):=by
  intro b hbF
  rw [hF]
  clear hb
  cases bo with
  | none=>exact hbF
  | some q=>exact List.mem_cons_of_mem _ hbF
 have hsub:∀ b,b ∈ G->b ∈ F0 ∨ b ∈ F:=by
  intro b hb
  rcases List.mem_append.1 (hGp.mem_iff.1 hb) with hb|hb
  ·rcases List.mem_append.1 (hperm2.mem_iff.2 (mAL _ hb)) with hb|hb
   ·exact .inl (hperm.mem_iff.2 (mAL _ hb))
   ·exact .inr hb
  ·exact .inl (hperm.mem_iff.2 (mAR _ hb))
 have hFd:∀ b,b ∈ F0->b ∉ F:=fun b hb1 hb2=>n3 b (h.FP_sub (hFin b hb1)) (mAL _ hb2)
 have hnG:G.Nodup:=by
  have e1:(F0++F).Perm (L++G):=by
   have e2:(F0++F).Perm ((F'++R)++F):=hperm.append_right _
   have e3:((F'++R)++F).Perm ((F'++F)++R):=by rw [List.perm_iff_count];intro y;simp [List.count_append];omega
   have e4:((F'++F)++R).Perm ((F2++L)++R):=hperm2.append_right _
   have e5:((F2++L)++R).Perm (L++(F2++R)):=by rw [List.perm_iff_count];intro y;simp [List.count_append];omega
   exact e2.trans (e3.trans (e4.trans (e5.trans (hGp.symm.append_left L))))
  have hn0:(F0++F).Nodup:=List.nodup_append.2 ⟨hnF,(List.nodup_append.1 n2).1,fun x hx y hy e=>hFd x hx (e ▸ hy)⟩
  exact (List.nodup_append.1 (e1.nodup_iff.1 hn0)).2.1
 have hap:∀ b,b ∈ FP Fs Gs (.slot t) ∨ b ∈ F++hand->¬ I b:=by
  intro b hb
  rcases hb with hb|hb
  ·exact (h.apart b (by rw [<- List.append_assoc];exact mAL _ (h.FP_sub hb))).1
  ·exact (h.apart b (mAR _ (mAR _ hb))).1
 have hin:∀ b ∈ G++hand,b ∈ FP Fs Gs (.slot t) ∨ b ∈ F++hand:=by
  intro b hb
  rcases List.mem_append.1 hb with hb|hb
  ·exact (hsub b hb).imp (hFin b) (mAL _)
  ·exact .inr (mAR _ hb)
 obtain ⟨Fs2,Gs2,hsim⟩:=h.recells h1 g0 g4 g5 false (F2:=G) (hand2:=hand) (I2:=I) hG' (fun _ h=>h) (fun _ h=>.inl h)
  (fun b hb=>⟨hap b (hin b hb),hin b hb⟩)
  (by
   refine List.nodup_append.2 ⟨hnG,(List.nodup_append.1 n2).2.1,?_⟩
   intro x hx y hy e
   subst e
   rcases hsub x hx with hx|hx
   ·exact n3 x (h.FP_sub (hFin x hx)) (mAR _ hy)
   ·exact (List.nodup_append.1 n2).2.2 x hx x hy rfl)
  (by
   intro b o e
   subst e
   have hbF:b ∈ FP Fs Gs (.slot t):=by rw [hF];exact List.mem_cons_self ..
   have hnFP:(b::F0).Nodup:=by
    obtain ⟨m1,m2,_⟩:=List.nodup_append.1 n1
    have key:∀ {l:List (List Nat)} {t:Nat},l.flatten.Nodup->(l.getD t []).Nodup:=by
     intro l t hl
     by_cases ht:t<l.length
     ·obtain ⟨R,hp,_⟩:=zfx (zaQ [] ht)
      exact (List.nodup_append.1 (hp.nodup_iff.1 hl)).1
     ·simp [List.getD,List.getElem?_eq_none_iff.2 (Nat.le_of_not_lt ht)]
    have:(FP Fs Gs (.slot t)).Nodup:=key m1
    rw [hF] at this;exact this
   refine ⟨hap b (.inl hbF),?_⟩
   intro hb
   rcases List.mem_append.1 hb with hb|hb
   ·rcases hsub b hb with hb|hb
    ·exact (List.nodup_cons.1 hnFP).1 hb
    ·exact n3 b (h.FP_sub hbF) (mAL _ hb)
   ·exact n3 b (h.FP_sub hbF) (mAR _ hb))
 exact ⟨Fs2,Gs2,hsim⟩
def znm (a:Act) (w:World) (s:St) (ps:List Place) (gb:Option (Place × BK)) (vs:List Value):Prop :=
 (gb=none∧All2 (fun p v=>Held a w s p v) ps vs) ∨ ∃ q v,gb=some q∧ps=[]∧vs=[v]∧zqu a s q v
theorem znm.world (h:Sim E hand a w s I ι Fs Gs) {w2:World} (hx:∀ b,b ∈ Fs.flatten->w2.heap[b]? = w.heap[b]?) {ps:List Place} {gb:Option (Place × BK)} {vs:List Value} (hb:znm a w s ps gb vs):znm a w2 s ps gb vs:=by
 rcases hb with ⟨h1,h2⟩|⟨q,v,h1⟩
 ·exact .inl ⟨h1,h2.imp (fun p v hv=>hv.world h hx)⟩
 ·exact .inr ⟨q,v,h1⟩
theorem Sim.putBackG {ps:List Place} {gb:Option (Place × BK)} {vs:List Value} {ds:List D} {Hs:List (List Nat)} {s1:St} (h:Sim E (Hs.flatten++hand) a w s I ι Fs Gs) (hb:znm a w s ps gb vs) (hr:RepS w I ι vs ds Hs)
  (hp:putBackG s ps gb ds=some s1):∃ Fs2 Gs2,Sim E hand a w s1 I ι Fs2 Gs2:=by
 rcases hb with ⟨rfl,h2⟩|⟨q,v,rfl,rfl,rfl,h2⟩
 ·exact Sim.putBack h h2 hr hp
 ·cases hr with
  | cons _ x F _ _ Fs1 r1 r2 =>
   cases r2
   simp only [Vx.putBackG] at hp
   split at hp
   ·rename_i news hn
    split at hp
    ·rename_i href
     obtain ⟨s2,hw,rfl⟩:=Option.map_eq_some_iff.1 hp
     exact Sim.putG (F:=F) (by simpa using h) h2 r1 hn href hw
    ·cases hp
   ·cases hp
theorem zox {w2:World} {I2:Nat->Prop} {ι2:List Nat} {us us':List Value} {outs:List D} {Fo:List (List Nat)} {s0:St} {a0:Act} {w0:World} {ps:List Place} {gb:Option (Place × BK)} {s1 s2:St} (hm:us=us' ∨ us'=[]) (hps:znm a0 w0 s0 ps gb us') (hp:Vx.putBackG s1 ps gb outs=some s2)
  (hr:RepS w2 I2 ι2 us outs Fo):RepS w2 I2 ι2 us' outs Fo:=by
 rcases hm with rfl|rfl
 ·exact hr
 ·rcases hps with ⟨rfl,h2⟩|⟨q,v,_,_,e,_⟩
  ·cases h2
   cases outs with
   | nil=>cases hr;exact .nil
   | cons x r=>cases hp
  ·cases e
end
end Go.Vx

