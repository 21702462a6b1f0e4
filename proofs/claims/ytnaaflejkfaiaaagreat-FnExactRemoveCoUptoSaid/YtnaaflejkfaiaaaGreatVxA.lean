/-
  An evaluator for the model's code on values, and the proof that what it tells of a call the program does; part 1.
-/
import GoSem.Step
import Derived.ArgAppend
import Derived.Below
import Derived.WalkKit
import Derived.Laws.StructEq
import Derived.Laws.Slices
set_option linter.unusedVariables false
set_option linter.unusedSimpArgs false
namespace Go.Vx
theorem mAR {α:Type} {a:α} {l₂:List α} (l₁:List α) (h:a ∈ l₂):a ∈ l₁++l₂:=List.mem_append_right l₁ h
theorem mAL {α:Type} {a:α} {l₁:List α} (l₂:List α) (h:a ∈ l₁):a ∈ l₁++l₂:=List.mem_append_left l₂ h
inductive D where
 | int (k:IntKind) (n:Int)
 | bool (b:Bool)
 | str (s:ByteArray)
 | sl (own:Bool) (sz:Nat) (xs:List D)
 | agg (cs:List D)
 | tup (ps:List D)
 | fn (f:Nat) (caps:List D)
 | bf (f:Nat) (fs:List D)
 | nilp
 | nilf
 | ref (r off:Nat)
 | pim (cs:List D) (off:Nat)
 | anyb
 | nils (z:Nat)
 | gho (n:Nat)
 | dead
 deriving Inhabited
def D.asl:D->D
 | .nils z=>.sl true z []
 | d=>d
def D.cells:D->List D
 | .agg cs=>cs
 | d=>[d]
def D.cellsN (n:Nat):D->Option (List D)
 | .agg cs=>if cs.length=n then some cs else none
 | .tup _=>none
 | .dead=>none
 | d=>if n=1 then some [d] else none
def D.withCells (d:D) (cs:List D):D :=
 match d with
 | .agg _=>.agg cs
 | _=>cs.headD .dead
mutual
def D.hasX:D->Bool
 | .sl o _ _=>o
 | .agg cs=>zgc cs
 | .tup ps=>zgc ps
 | _=>false
def zgc:List D->Bool
 | []=>false
 | d::r=>d.hasX || zgc r
end
mutual
def D.noS:D->Bool
 | .sl o _ xs=>o && noSL xs
 | .agg cs=>noSL cs
 | .tup ps=>noSL ps
 | .fn _ caps=>noSL caps
 | .bf _ fs=>noSL fs
 | .pim _ _=>false
 | _=>true
def noSL:List D->Bool
 | []=>true
 | d::r=>d.noS && noSL r
end
mutual
def D.hasRef:D->Bool
 | .agg cs=>zah cs
 | .tup ps=>zah ps
 | .fn _ caps=>zah caps
 | .bf _ fs=>zah fs
 | .ref _ _=>true
 | _=>false
def zah:List D->Bool
 | []=>false
 | d::r=>d.hasRef || zah r
end
mutual
def D.freeze:D->D
 | .sl _ z xs=>.sl false z (zad xs)
 | .agg cs=>.agg (zad cs)
 | .tup ps=>.tup (zad ps)
 | d=>d
def zad:List D->List D
 | []=>[]
 | d::r=>d.freeze::zad r
end
inductive Root where
 | slot (t:Nat)
 | sto (r:Nat)
 deriving DecidableEq,Inhabited
structure Place where
 root:Root
 steps:List (Nat × Nat)
 off:Nat
 deriving Inhabited
inductive BK where
 | one
 | many (n:Nat)
 | cut (lo hi:Nat)
 deriving Inhabited
inductive SV where
 | d (x:D)
 | box (cs:List D)
 | bor (p:Place) (k:BK)
 | ptr (p:Place)
 deriving Inhabited
structure St where
 sl:List SV
 sto:List (List D)
 deriving Inhabited
inductive X where
 | t (n:Nat)
 | c (d:D)
 deriving Inhabited
inductive M where
 | rd|fz|mv|mu|im (n:Nat)
 deriving DecidableEq,Inhabited
inductive Cv where
 | int (k:IntKind)
 | same
 | bytes
 | text
 deriving Inhabited
inductive CK where
 | int|bool|str
 deriving Inhabited,DecidableEq
inductive I where
 | mv (d:Nat) (x:X)
 | nc (d:Nat) (x:X)
 | asg (d:Nat) (x:X)
 | pick (d:Nat) (c a b:X)
 | alloc (d:Nat) (z:List D)
 | box (d n:Nat) (x:X)
 | build (d:Nat) (z:List D) (ps:List (Nat × Nat × X))
 | bsl (d sz:Nat) (z:D) (len:Nat) (ps:List (Nat × X))
 | ld (d:Nat) (k:BK) (a:X)
 | st (n:Nat) (a x:X)
 | fad (d off wd:Nat) (x:X)
 | fld (d:Nat) (k:BK) (off:Nat) (x:X)
 | iad (d sz:Nat) (x i:X)
 | iar (d len sz:Nat) (x i:X)
 | ixs (d:Nat) (x i:X)
 | bin (d:Nat) (op:BinOp) (x y:X)
 | eqb (d:Nat) (neg:Bool) (x y:X)
 | isn (d:Nat) (neg:Bool) (x:X)
 | eqa (d:Nat) (neg:Bool) (ks:List CK) (x y:X)
 | un (d:Nat) (op:UnOp) (x:X)
 | conv (d:Nat) (c:Cv) (x:X)
 | slc (d sz:Nat) (x:X) (lo hi:Option X)
 | sls (d:Nat) (x:X) (lo hi:Option X)
 | mks (d sz:Nat) (z:D) (len cap:X)
 | ext (d:Nat) (x:X) (i:Nat)
 | call (d:Option Nat) (f:Nat) (as:List (M × X))
 | cag (d:Option Nat) (f:Nat) (as:List (M × X))
 | cal (d:Option Nat) (g:X) (as:List (M × X))
 | len (d:Nat) (x:X)
 | les (d:Nat) (x:X)
 | app (d sz:Nat) (x y:X)
 | mkf (d f:Nat) (cs:List X)
 | mkb (d f:Nat) (fs:List X)
 | cap (d:Nat) (x:X)
 | apn (d sz:Nat) (z:D) (x n:X)
 | mkz (d f:Nat) (cs:List X)
 | gd (g:Nat) (w:Bool) (i:I)
 | no
 deriving Inhabited
inductive C where
 | ops (l:List I)
 | draw (l:List I) (ps:List (Nat × Nat))
 | seq (a b:C)
 | cond (c:X) (a b:C)
 | block (id:Nat) (a:C)
 | loop (a:C)
 | exit (id:Nat)
 | ret
 | skip
 | clr (l:List Nat)
 | cnk (p:C) (x:X) (a b r:C)
 deriving Inhabited
inductive RV where
 | tmp (t:Nat)
 | cell (t:Nat) (k:BK)
 deriving Inhabited
structure F where
 np:Nat
 ntmps:Nat
 mus:List Nat
 res:List RV
 body:C
 deriving Inhabited
abbrev Res:=D × List D × List (List D)
abbrev H:=Nat->List D->List (List D)->Option Res
def focus:List D->List (Nat × Nat)->Option (List D)
 | cs,[]=>some cs
 | cs,(o,i)::r =>
  match cs[o]? with
  | some (.sl true z xs) =>
   match xs[i]? with
   | some x=>focus x.cells r
   | none=>none
  | _=>none
def upd (g:List D->Option (List D)):List D->List (Nat × Nat)->Option (List D)
 | cs,[]=>g cs
 | cs,(o,i)::r =>
  match cs[o]? with
  | some (.sl true z xs) =>
   match xs[i]? with
   | some x =>
    match upd g x.cells r with
    | some cs'=>some (cs.set o (.sl true z (xs.set i (x.withCells cs'))))
    | none=>none
   | none=>none
  | _=>none
def zej (cs:List D) (off:Nat):BK->Option D
 | .one=>cs[off]?
 | .many n=>if off + n<=cs.length then some (.agg ((cs.drop off).take n)) else none
 | .cut lo hi =>
  match cs[off]? with
  | some (.sl o z xs)=>if lo<=hi∧hi<=xs.length then some (.sl o z ((xs.drop lo).take (hi - lo))) else none
  | _=>none
def zdA (cs:List D) (off:Nat) (news:List D):Option (List D) :=
 if off + news.length<=cs.length then some (cs.take off++(news++cs.drop (off + news.length))) else none
def St.root (s:St):Root->Option (List D)
 | .slot t =>
  match s.sl[t]? with
  | some (.box cs)=>some cs
  | some (.d x)=>some [x]
  | _=>none
 | .sto r=>s.sto[r]?
def St.setRoot (s:St) (r:Root) (cs:List D):Option St :=
 match r with
 | .slot t =>
  match s.sl[t]? with
  | some (.box _)=>some { s with sl:=s.sl.set t (.box cs) }
  | some (.d _)=>some { s with sl:=s.sl.set t (.d (cs.headD .dead)) }
  | _=>none
 | .sto r=>some { s with sto:=s.sto.set r cs }
def St.rdP (s:St) (p:Place) (k:BK):Option D :=
 match s.root p.root with
 | some cs =>
  match focus cs p.steps with
  | some c=>zej c p.off k
  | none=>none
 | none=>none
def St.wrP (s:St) (p:Place) (news:List D):Option St :=
 match s.root p.root with
 | some cs =>
  match upd (fun c=>zdA c p.off news) cs p.steps with
  | some cs'=>s.setRoot p.root cs'
  | none=>none
 | none=>none
def SV.kill (r:Root) (all:Bool):SV->SV
 | .bor p k=>if p.root=r then .d .dead else .bor p k
 | .ptr p=>if p.root=r∧(all=true ∨ p.steps ≠ []) then .d .dead else .ptr p
 | v=>v
def SV.killSto (n:Nat):SV->SV
 | .bor ⟨.sto r,st,o⟩ k=>.d .dead
 | .ptr ⟨.sto r,st,o⟩=>if st=[]∧r<n then .ptr ⟨.sto r,st,o⟩ else .d .dead
 | v=>v
def St.kill (s:St) (r:Root) (all:Bool):St:={ s with sl:=s.sl.map (SV.kill r all) }
def SV.killD (r:Root):SV->SV
 | .bor ⟨q,[],off⟩ .one=>.bor ⟨q,[],off⟩ .one
 | v=>SV.kill r false v
def St.killD (s:St) (r:Root):St:={ s with sl:=s.sl.map (SV.killD r) }
def St.killS (s:St) (p:Place):St:=if p.steps=[] then s.kill p.root false else s.killD p.root
def St.putSto (s:St) (sto:List (List D)):St:=⟨s.sl.map (SV.killSto s.sto.length),sto⟩
def SV.isRoot:SV->Bool
 | .box _=>true
 | .d (.tup _)=>true
 | .d x=>x.hasX
 | _=>false
def SV.into (t:Nat):SV->Bool
 | .bor p _=>p.root == .slot t
 | .ptr p=>p.root == .slot t
 | _=>false
def St.setD (s:St) (t:Nat) (v:SV):Option St :=
 match s.sl[t]? with
 | some o =>
  if v.into t=true then none
  else if o.isRoot=true then some { s with sl:=(s.sl.map (SV.kill (.slot t) true)).set t v } else some { s with sl:=s.sl.set t v }
 | none=>none
def St.setO (s:St) (t:Option Nat) (v:SV):Option St :=
 match t with
 | some t=>s.setD t v
 | none=>some s
def St.sv (s:St):X->Option SV
 | .c d=>some (.d d)
 | .t n =>
  match s.sl[n]? with
  | some (.d x)=>if x.hasX=true then some (.bor ⟨.slot n,[],0⟩ .one) else some (.d x)
  | some (.box _)=>some (.ptr ⟨.slot n,[],0⟩)
  | some v=>some v
  | none=>none
def St.rd (s:St):X->Option D
 | .c d=>some d
 | .t n =>
  match s.sl[n]? with
  | some (.d x)=>some x
  | some (.bor p k)=>s.rdP p k
  | some (.ptr ⟨.sto r,[],off⟩)=>if r<s.sto.length then some (.ref r off) else none
  | _=>none
def zhD (n:Nat):List D:=List.replicate n .dead
def BK.width:BK->Nat
 | .many n=>n
 | _=>1
mutual
def D.left:D->D
 | .sl true _ xs=>.gho xs.length
 | .agg cs=>.agg (zjr cs)
 | .tup _=>.dead
 | d=>d
def zjr:List D->List D
 | []=>[]
 | d::r=>d.left::zjr r
end
def znh:BK->D->List D
 | .many _,.agg cs=>zjr cs
 | .one,d=>[d.left]
 | k,_=>zhD k.width
def St.take (s:St):X->Option (D × St)
 | .c d=>some (d,s)
 | .t n =>
  match s.sl[n]? with
  | some (.d x) =>
   if x.hasX=true then some (x,{ s with sl:=(s.sl.map (SV.kill (.slot n) true)).set n (.d .dead) }) else some (x,s)
  | some (.bor p k) =>
   match s.rdP p k with
   | some x =>
    match s.wrP p (znh k x) with
    | some s'=>some (x,s'.kill p.root false)
    | none=>none
   | none=>none
  | some (.ptr ⟨.sto r,[],off⟩)=>if r<s.sto.length then some (.ref r off,s) else none
  | _=>none
def St.place (s:St):X->Option Place
 | .t n =>
  match s.sl[n]? with
  | some (.ptr p)=>some p
  | some (.box _)=>some ⟨.slot n,[],0⟩
  | some (.d (.ref r off))=>some ⟨.sto r,[],off⟩
  | _=>none
 | .c _=>none
def St.imm (s:St):X->Option (List D × Nat)
 | .t n =>
  match s.sl[n]? with
  | some (.d (.pim cs off))=>some (cs,off)
  | _=>none
 | .c _=>none
def zgP:CK->D->D->Option Bool
 | .int,.int k a,.int k' b=>if k=k' then some (a == b) else none
 | .bool,.bool a,.bool b=>some (a == b)
 | .str,.str a,.str b=>some (a.toList == b.toList)
 | _,_,_=>none
def zcc:List CK->List D->List D->Option Bool
 | [],[],[]=>some true
 | k::ks,a::as,b::bs =>
  match zgP k a b with
  | some x =>
   match zcc ks as bs with
   | some y=>some (x && y)
   | none=>none
  | none=>none
 | _,_,_=>none
def zgQ:Nat:=9223372036854775807
def dand (k:IntKind) (a b:Int):Int:=k.wrap ((BitVec.ofInt k.bits a &&& BitVec.ofInt k.bits b).toNat:Int)
def dbin (op:BinOp) (x y:D):Option D :=
 match x,y with
 | .int k a,.int k' b =>
  match op with
  | .shl=>if 0<=b then some (.int k (k.wrap (a * 2 ^ (min b.toNat k.bits)))) else none
  | .shr=>if 0<=b then some (.int k (a.fdiv (2 ^ (min b.toNat k.bits)))) else none
  | .and=>if k=k' then some (.int k (dand k a b)) else none
  | .add=>if k=k' then some (.int k (k.wrap (a + b))) else none
  | .sub=>if k=k' then some (.int k (k.wrap (a - b))) else none
  | .mul=>if k=k' then some (.int k (k.wrap (a * b))) else none
  | .quo=>if k=k'∧b ≠ 0 then some (.int k (k.wrap (a.tdiv b))) else none
  | .rem=>if k=k'∧b ≠ 0 then some (.int k (a.tmod b)) else none
  | .eql=>if k=k' then some (.bool (a == b)) else none
  | .neq=>if k=k' then some (.bool (a != b)) else none
  | .lss=>if k=k' then some (.bool (decide (a<b))) else none
  | .leq=>if k=k' then some (.bool (decide (a<=b))) else none
  | .gtr=>if k=k' then some (.bool (decide (a > b))) else none
  | .geq=>if k=k' then some (.bool (decide (a ≥ b))) else none
  | _=>none
 | .str a,.str b =>
  match op with
  | .add=>if a.size + b.size<=zgQ then some (.str (a++b)) else none
  | .eql=>some (.bool (a.toList == b.toList))
  | .neq=>some (.bool (!(a.toList == b.toList)))
  | .lss=>some (.bool (Op.bytesLess a.toList b.toList))
  | .leq=>some (.bool (Op.bytesLess a.toList b.toList || a.toList == b.toList))
  | .gtr=>some (.bool (!(Op.bytesLess a.toList b.toList || a.toList == b.toList)))
  | .geq=>some (.bool (!(Op.bytesLess a.toList b.toList)))
  | _=>none
 | _,_=>none
def dun (op:UnOp) (x:D):Option D :=
 match op,x with
 | .not,.bool b=>some (.bool (!b))
 | .neg,.int k n=>some (.int k (k.wrap (0 - n)))
 | _,_=>none
def zhE (b:UInt8):D:=.int .u8 b.toNat
def zhF:List D->Option (List UInt8)
 | []=>some []
 | .int .u8 n::r=>(zhF r).map fun l=>n.toNat.toUInt8::l
 | _::_=>none
def zlc:Cv->D->Option D
 | .int k,.int _ n=>some (.int k (k.wrap n))
 | .same,.str s=>some (.str s)
 | .bytes,.str s=>some (.sl false 1 (s.data.toList.map zhE))
 | .text,.sl _ 1 xs=>(zhF xs).map fun l=>.str ⟨l.toArray⟩
 | _,_=>none
def St.bound (s:St) (x:Option X) (dflt:Nat):Option Nat :=
 match x with
 | none=>some dflt
 | some x =>
  match s.rd x with
  | some (.int _ n)=>if 0<=n then some n.toNat else none
  | _=>none
def most:Nat:=2147483648
def zda (z:D):Nat->List D
 | 0=>[]
 | n + 1=>z::zda z n
structure Req where
 f:Nat
 args:List D
 sto:List (List D)
 post:Res->Option St
def SV.prom (t n:Nat):SV->SV
 | .ptr ⟨.slot u,[],off⟩=>if u=t then .d (.ref n off) else .ptr ⟨.slot u,[],off⟩
 | .ptr ⟨.sto r,st,off⟩=>if r<n then .ptr ⟨.sto r,st,off⟩ else .d .dead
 | .bor ⟨.sto r,st,off⟩ k=>if r<n then .bor ⟨.sto r,st,off⟩ k else .d .dead
 | v=>SV.kill (.slot t) true v
def St.promote (s:St) (t:Nat):Option (Nat × St) :=
 match s.sl[t]? with
 | some (.box cs)=>some (s.sto.length,⟨(s.sl.map (SV.prom t s.sto.length)).set t (.d (.ref s.sto.length 0)),s.sto++[cs]⟩)
 | _=>none
def St.prom (s:St):X->Option St
 | .t n =>
  match s.sl[n]? with
  | some (.box _)=>(s.promote n).map fun r=>r.2
  | some (.ptr ⟨.slot t,[],off⟩)=>(s.promote t).map fun r=>r.2
  | _=>some s
 | .c _=>some s
def St.proms (s:St):List X->Option St
 | []=>some s
 | x::r =>
  match s.prom x with
  | some s'=>s'.proms r
  | none=>none
def SV.shut (t:Nat) (cs:List D):SV->SV
 | .ptr ⟨.slot u,[],off⟩=>if u=t then .d (.pim cs off) else .ptr ⟨.slot u,[],off⟩
 | v=>SV.kill (.slot t) true v
def St.shut1 (s:St) (t:Nat):Option St :=
 match s.sl[t]? with
 | some (.box cs)=>if zah cs=false then some { s with sl:=(s.sl.map (SV.shut t (zad cs))).set t (.d (.pim (zad cs) 0)) } else none
 | _=>none
def St.shutX (s:St):X->Option St
 | .t n =>
  match s.sl[n]? with
  | some (.box _)=>s.shut1 n
  | some (.ptr ⟨.slot t,[],off⟩)=>s.shut1 t
  | _=>some s
 | .c _=>some s
def St.shuts (s:St):List X->Option St
 | []=>some s
 | x::r =>
  match s.shutX x with
  | some s'=>s'.shuts r
  | none=>none
def St.frzP (s:St) (p:Place) (n:Nat):Option St :=
 match s.root p.root with
 | some cs =>
  match upd (fun c=>zdA c p.off (zad ((c.drop p.off).take n))) cs p.steps with
  | some cs'=>(s.setRoot p.root cs').map fun s'=>s'.kill p.root false
  | none=>none
 | none=>none
def St.frz (s:St):X->Option St
 | .c _=>some s
 | .t n =>
  match s.sl[n]? with
  | some (.d y)=>if y.hasX=true then some { s with sl:=(s.sl.map (SV.kill (.slot n) true)).set n (.d y.freeze) } else some s
  | some (.bor p k) =>
   match s.rdP p k with
   | some y=>(s.frzP p k.width).map fun s'=>{ s' with sl:=s'.sl.set n (.d y.freeze) }
   | none=>none
  | _=>some s
def St.frzO (s:St):Option Nat->Option St
 | some t=>s.frz (.t t)
 | none=>some s
def St.frzs (s:St):List (M × X)->Option St
 | []=>some s
 | (.fz,x)::r =>
  match s.frz x with
  | some s'=>s'.frzs r
  | none=>none
 | _::r=>s.frzs r
def St.lend (s:St):X->Option (D × Bool)
 | .c d=>some (d.freeze,false)
 | .t n =>
  match s.sl[n]? with
  | some (.d y)=>if y.hasX=true then some (y.freeze,true) else some (y,false)
  | some (.bor p k)=>(s.rdP p k).map fun y=>(y.freeze,true)
  | some (.ptr ⟨.sto r,[],off⟩)=>if r<s.sto.length then some (.ref r off,false) else none
  | _=>none
def pimN (cs:List D) (o wd:Nat):D:=if wd=0 ∨ cs.length<o + wd then .pim cs o else .pim ((cs.drop o).take wd) 0
def St.lendI (s:St) (n:Nat) (x:X):Option (D × Bool) :=
 match s.place x with
 | some p =>
  match s.root p.root with
  | some cs =>
   match focus cs p.steps with
   | some c=>if zah c=false then some (pimN (zad c) p.off n,true) else none
   | none=>none
  | none=>none
 | none=>s.lend x
def St.lendM (s:St) (m:M) (x:X):Option (D × Bool) :=
 match m with
 | .im n=>s.lendI n x
 | _=>s.lend x
def St.hand (s:St) (x:X):Option (D × Place × St) :=
 match x with
 | .c _=>none
 | .t n =>
  match s.sl[n]? with
  | some (.d y)=>if y.hasX=true then (s.take x).map fun r=>(r.1,⟨.slot n,[],0⟩,r.2) else none
  | some (.bor ⟨.slot t,[],off⟩ .one)=>(s.take x).map fun r=>(r.1,⟨.slot t,[],off⟩,r.2)
  | _=>none
def St.handG (s:St) (x:X):Option (D × (Place × BK) × St) :=
 match x with
 | .c _=>none
 | .t n =>
  match s.sl[n]? with
  | some (.bor ⟨.slot t,st,off⟩ k) =>
   match k with
   | .cut _ _=>none
   | k =>
    match s.take x with
    | some r =>
     match r.2.sl[t]? with
     | some y=>if y.isRoot=true then (r.2.setD n (.bor ⟨.slot t,st,off⟩ k)).map fun s'=>(r.1,(⟨.slot t,st,off⟩,k),s') else none
     | none=>none
    | none=>none
  | _=>none
def M.calm:M->Bool
 | .rd|.fz=>true
 | .im _=>true
 | _=>false
def St.takesG (s:St):List (M × X)->Option (List (Option D) × (Place × BK) × St)
 | []=>none
 | (.mu,x)::r=>if (r.all fun a=>a.1.calm)=true then (s.handG x).map fun y=>(some y.1::r.map (fun _=>none),y.2) else none
 | (m,_)::r=>if m.calm=true then (s.takesG r).map fun a=>(none::a.1,a.2) else none
def St.takes (s:St):List (M × X)->Option (List (Option D) × List Place × St)
 | []=>some ([],[],s)
 | (.rd,x)::r=>(s.takes r).map fun a=>(none::a.1,a.2)
 | (.fz,x)::r=>(s.takes r).map fun a=>(none::a.1,a.2)
 | (.im _,x)::r=>(s.takes r).map fun a=>(none::a.1,a.2)
 | (.mv,x)::r =>
  match s.take x with
  | some y=>(y.2.takes r).map fun a=>(some y.1::a.1,a.2)
  | none=>none
 | (.mu,x)::r =>
  match s.hand x with
  | some y=>(y.2.2.takes r).map fun a=>(some y.1::a.1,y.2.1::a.2.1,a.2.2)
  | none=>none
def St.lends (s:St):List (M × X)->List (Option D)->Option (List D × Bool)
 | (m,x)::r,none::o =>
  match s.lendM m x with
  | some y=>(s.lends r o).map fun a=>(y.1::a.1,y.2 || a.2)
  | none=>none
 | _::r,some d::o=>(s.lends r o).map fun a=>(d::a.1,a.2)
 | [],[]=>some ([],false)
 | _,_=>none
structure Args where
 vals:List D
 lent:Bool
 back:List Place
 gb:Option (Place × BK)
 st:St
def St.args (s:St) (as:List (M × X)):Option Args :=
 match s.proms (as.map fun a=>a.2) with
 | some s0 =>
  match s0.frzs as with
  | some s1 =>
   match s1.takes as with
   | some t=>(t.2.2.lends as t.1).map fun l=>⟨l.1,l.2,t.2.1,none,t.2.2⟩
   | none =>
    match s1.takesG as with
    | some t=>(t.2.2.lends as t.1).map fun l=>⟨l.1,l.2,[],some t.2.1,t.2.2⟩
    | none=>none
  | none=>none
 | none=>none
def putBack (s:St):List Place->List D->Option St
 | [],[]=>some s
 | p::ps,x::xs =>
  match s.wrP p [x] with
  | some s'=>putBack (s'.kill p.root false) ps xs
  | none=>none
 | _,_=>none
def BK.news:BK->D->Option (List D)
 | .one,x=>some [x]
 | .many n,.agg cs=>if cs.length=n then some cs else none
 | _,_=>none
def putBackG (s:St) (ps:List Place) (gb:Option (Place × BK)) (outs:List D):Option St :=
 match gb with
 | none=>putBack s ps outs
 | some (p,k) =>
  match outs with
  | [x] =>
   match k.news x with
   | some news=>if p.steps=[] ∨ zah news=false then (s.wrP p news).map fun s'=>s'.kill p.root false else none
   | none=>none
  | _=>none
def ztY (s:St) (lent:Bool) (ps:List Place) (gb:Option (Place × BK)):D->List D->List (List D)->Option (St × D)
 | .ref j off,[],sto' =>
  match sto'[j]?,ps,gb with
  | some cs,[],none=>if zah cs=false∧(lent=false ∨ noSL cs=true) then some (s.putSto (s.sto++[cs]),.ref s.sto.length off) else none
  | _,_,_=>none
 | _,_,_=>none
def zdz (g:Bool) (dst:Option Nat) (f:Nat) (a:Args) (more:List D):Option Req :=
 let vals:=a.vals++more
 let pure:=!(zah vals)
 if a.lent=false ∨ pure=true then
  some ⟨f,vals,if pure=true then [] else a.st.sto,fun (r,outs,sto') =>
   if pure=true∧(r.hasRef || zah outs)=true then
    if g=true then
     match ztY a.st a.lent a.back a.gb r outs sto' with
     | some p=>p.1.setO dst (.d p.2)
     | none=>none
    else none
   else
   if a.lent=true∧(r.noS && noSL outs)=false then none else
   match putBackG (if pure=true then a.st else a.st.putSto sto') a.back a.gb outs with
   | some s=>if g=true then (s.setO dst (.d r)).bind fun s=>s.frzO dst else s.setO dst (.d r)
   | none=>none⟩
 else none
def I.dst:I->Option Nat
 | .mv d _|.nc d _|.asg d _|.pick d _ _ _|.alloc d _|.box d _ _|.build d _ _|.bsl d _ _ _ _|.ld d _ _|.fad d _ _ _|.fld d _ _ _|.iad d _ _ _|.iar d _ _ _ _
 | .ixs d _ _|.bin d _ _ _|.eqb d _ _ _|.isn d _ _|.eqa d _ _ _ _|.un d _ _|.conv d _ _|.slc d _ _ _ _|.sls d _ _ _|.mks d _ _ _ _|.ext d _ _|.len d _|.les d _|.app d _ _ _|.mkf d _ _|.mkb d _ _|.cap d _|.apn d _ _ _ _|.mkz d _ _=>some d
 | .call d _ _|.cag d _ _|.cal d _ _=>d
 | .gd _ _ i=>i.dst
 | .st _ _ _|.no=>none
def St.fill (s:St) (z:List D):List (Nat × Nat × X)->Option (List D × St)
 | []=>some (z,s)
 | (off,n,x)::r =>
  match s.take x with
  | some (v,s') =>
   match v.cellsN n with
   | some cs =>
    match zdA z off cs with
    | some z'=>s'.fill z' r
    | none=>none
   | none=>none
  | none=>none
def St.elems (s:St) (sz:Nat) (xs:List D):List (Nat × X)->Option (List D × St)
 | []=>some (xs,s)
 | (i,x)::r =>
  match s.take x with
  | some (v,s') =>
   if i<xs.length∧(v.cellsN sz).isSome=true∧v.hasRef=false then s'.elems sz (xs.set i v) r else none
  | none=>none
def St.caps (s:St):List X->Option (List D)
 | []=>some []
 | x::r =>
  match s.rd x with
  | some v=>if v.hasX=true then none else (s.caps r).map fun a=>v::a
  | none=>none
def St.num (s:St) (x:X):Option Nat :=
 match s.rd x with
 | some (.int _ n)=>if 0<=n then some n.toNat else none
 | _=>none
def St.isPtr (s:St):X->Option SV
 | .t n =>
  match s.sl[n]? with
  | some (.box _)=>some (.ptr ⟨.slot n,[],0⟩)
  | some (.ptr p)=>some (.ptr p)
  | _=>none
 | .c _=>none
def St.elemAt (s:St) (sz:Nat) (x:X) (i:Nat):Option SV :=
 match x with
 | .c _=>none
 | .t n =>
  match s.sl[n]? with
  | some (.d (.sl own z xs)) =>
   if z=sz then
    match own with
    | true=>if i<xs.length then some (.ptr ⟨.slot n,[(0,i)],0⟩) else none
    | false=>(xs[i]?).map fun e=>.d (.pim e.cells 0)
   else none
  | some (.bor p .one) =>
   match s.rdP p .one with
   | some (.sl true z xs)=>if z=sz∧i<xs.length then some (.ptr ⟨p.root,p.steps++[(p.off,i)],0⟩) else none
   | _=>none
  | some (.bor p (.cut lo hi)) =>
   match s.rdP p .one with
   | some (.sl true z xs)=>if z=sz∧i<hi - lo∧lo + i<xs.length then some (.ptr ⟨p.root,p.steps++[(p.off,lo + i)],0⟩) else none
   | _=>none
  | _=>none
def St.slice (s:St) (sz:Nat) (x:X) (lo hi:Option X):Option SV :=
 match s.bound lo 0 with
 | some l =>
  match s.rd x with
  | some (.nils z)=>if z=sz∧l=0∧s.bound hi 0=some 0 then some (.d (.nils z)) else none
  | some (.sl o z xs) =>
   if z=sz then
    match s.bound hi xs.length with
    | some h =>
     if l<=h∧h<=xs.length then
      match o with
      | false=>some (.d (.sl false z ((xs.drop l).take (h - l))))
      | true =>
       match x with
       | .t n =>
        match s.sl[n]? with
        | some (.d _)=>some (.bor ⟨.slot n,[],0⟩ (.cut l h))
        | some (.bor p .one)=>some (.bor p (.cut l h))
        | _=>none
       | .c _=>none
     else none
    | none=>none
   else none
  | _=>none
 | none=>none
def St.sliceS (s:St) (x:X) (lo hi:Option X):Option D :=
 match s.bound lo 0 with
 | some l =>
  match s.rd x with
  | some (.str b) =>
   match s.bound hi b.size with
   | some h=>if l<=h∧h<=b.size then some (.str (b.extract l h)) else none
   | none=>none
  | _=>none
 | none=>none
def St.tupAt (s:St):X->Option (Nat × List D)
 | .t n =>
  match s.sl[n]? with
  | some (.d (.tup ps))=>some (n,ps)
  | _=>none
 | .c _=>none
def St.reg (s:St) (n:Nat) (x:D):St:={ s with sl:=(s.sl.map (SV.kill (.slot n) true)).set n (.d x) }
def St.news (s:St) (sz:Nat) (y:X):Option (List D × St) :=
 match s.rd y with
 | some (.sl o z ys) =>
  if z=sz then
   if o=true∧zgc ys=true then
    match s.take y with
    | some (.sl _ _ ys',s')=>some (ys',s')
    | _=>none
   else some (ys,s)
  else none
 | some (.str b)=>if sz=1 then some (b.data.toList.map zhE,s) else none
 | _=>none
def calM:List D->M
 | []=>.rd
 | _::_=>.fz
inductive Act' where
 | st (s:St)
 | rq (q:Req)
def okS (s:Option St):Option Act':=s.map .st
def vact:I->St->Option Act'
 | .mv d x,s =>
  match s.tupAt x with
  | some (n,ps)=>okS ((s.reg n .dead).setD d (.d (.tup ps)))
  | none=>okS ((s.sv x).bind fun v=>s.setD d v)
 | .nc d x,s =>
  match s.sv x with
  | some (.ptr p)=>if (s.rdP p .one).isSome=true then okS (s.setD d (.ptr p)) else none
  | some (.d (.ref r o))=>okS (s.setD d (.d (.ref r o)))
  | some (.d (.pim cs o))=>okS (s.setD d (.d (.pim cs o)))
  | some (.d (.fn f cs))=>okS (s.setD d (.d (.fn f cs)))
  | _=>none
 | .asg d x,s =>
  match s.isPtr x with
  | some v=>okS (s.setD d v)
  | none=>okS ((s.take x).bind fun r=>r.2.setD d (.d r.1))
 | .pick d c a b,s =>
  match s.rd c with
  | some (.bool t)=>if t=true then okS ((s.sv a).bind fun v=>s.setD d v) else okS ((s.sv b).bind fun v=>s.setD d v)
  | _=>none
 | .alloc d z,s=>okS (s.setD d (.box z))
 | .box d n x,s=>okS ((s.take x).bind fun r=>(r.1.cellsN n).bind fun cs=>r.2.setD d (.box cs))
 | .build d z ps,s=>okS ((s.fill z ps).bind fun r=>r.2.setD d (.d (.agg r.1)))
 | .bsl d sz z len ps,s=>okS ((s.elems sz (zda z len) ps).bind fun r=>r.2.setD d (.d (.sl true sz r.1)))
 | .ld d k a,s =>
  match s.place a with
  | some p=>okS ((s.rdP p k).bind fun x=>if x.hasX=true then s.setD d (.bor p k) else s.setD d (.d x))
  | none =>
   match s.imm a with
   | some (cs,off)=>okS ((zej cs off k).bind fun x=>s.setD d (.d x))
   | none=>none
 | .st n a x,s=>okS ((s.take x).bind fun r=>(r.1.cellsN n).bind fun cs=>(r.2.place a).bind fun p =>
    if p.steps=[] ∨ zah cs=false then (r.2.wrP p cs).map fun s'=>s'.killS p else none)
 | .fad d off wd x,s =>
  match s.place x with
  | some p=>if (s.rdP p .one).isSome=true then okS (s.setD d (.ptr ⟨p.root,p.steps,p.off + off⟩)) else none
  | none =>
   match s.imm x with
   | some (cs,o)=>okS (s.setD d (.d (pimN cs (o + off) wd)))
   | none=>none
 | .fld d k off x,s =>
  match s.rd x with
  | some (.agg cs)=>okS ((zej cs off k).bind fun y=>if y.hasX=true then none else s.setD d (.d y))
  | _=>none
 | .iad d sz x i,s=>okS ((s.num i).bind fun n=>(s.elemAt sz x n).bind fun v=>s.setD d v)
 | .iar d len sz x i,s =>
  match s.num i with
  | some n =>
   if n<len then
    match s.place x with
    | some p=>if (s.rdP p .one).isSome=true then okS (s.setD d (.ptr ⟨p.root,p.steps,p.off + n * sz⟩)) else none
    | none =>
     match s.imm x with
     | some (cs,o)=>okS (s.setD d (.d (.pim cs (o + n * sz))))
     | none=>none
   else none
  | none=>none
 | .ixs d x i,s =>
  match s.rd x with
  | some (.str b)=>okS ((s.num i).bind fun n=>(b.data.toList[n]?).bind fun c=>s.setD d (.d (zhE c)))
  | _=>none
 | .bin d op x y,s=>okS ((s.rd x).bind fun a=>(s.rd y).bind fun b=>(dbin op a b).bind fun r=>s.setD d (.d r))
 | .un d op x,s=>okS ((s.rd x).bind fun a=>(dun op a).bind fun r=>s.setD d (.d r))
 | .conv d c x,s=>okS ((s.rd x).bind fun a=>(zlc c a).bind fun r=>s.setD d (.d r))
 | .slc d sz x lo hi,s=>okS ((s.slice sz x lo hi).bind fun v=>s.setD d v)
 | .sls d x lo hi,s=>okS ((s.sliceS x lo hi).bind fun v=>s.setD d (.d v))
 | .mks d sz z len cap,s=>okS ((s.num len).bind fun n=>(s.num cap).bind fun m=>if n<=m∧m<=most then s.setD d (.d (.sl true sz (zda z n))) else none)
 | .ext d x i,s =>
  match s.tupAt x with
  | some (n,ps)=>okS ((ps[i]?).bind fun p=>if p.hasX=true then (s.reg n (.tup (ps.set i .dead))).setD d (.d p) else s.setD d (.d p))
  | none=>none
 | .call d f as,s=>(s.args as).bind fun a=>(zdz false d f a []).map .rq
 | .cag d f as,s=>(s.args as).bind fun a=>(zdz true d f a []).map .rq
 | .cal d g as,s =>
  match s.rd g with
  | some (.fn f caps)=>(s.args (as.map fun a=>(calM caps,a.2))).bind fun a=>(zdz false d f a caps).map .rq
  | some (.bf f fs)=>(s.args as).bind fun a=>(zdz false d f { a with vals:=fs++a.vals } []).map .rq
  | _=>none
 | .eqb d neg x y,s =>
  match s.rd x,s.rd y with
  | some (.bool a),some (.bool b)=>okS (s.setD d (.d (.bool (if neg=true then !(a == b) else a == b))))
  | _,_=>none
 | .eqa d neg ks x y,s =>
  match s.rd x,s.rd y with
  | some (.agg as),some (.agg bs)=>okS ((zcc ks as bs).bind fun r=>s.setD d (.d (.bool (if neg=true then !r else r))))
  | _,_=>none
 | .isn d neg x,s =>
  match s.rd x with
  | some (.sl _ _ [])=>okS (s.setD d (.d .anyb))
  | some (.sl _ _ (_::_))=>okS (s.setD d (.d (.bool neg)))
  | _=>none
 | .les d x,s =>
  match s.rd x with
  | some (.str b)=>okS (s.setD d (.d (.int .i64 b.size)))
  | _=>none
 | .len d x,s =>
  match (s.rd x).map D.asl with
  | some (.sl _ _ xs)=>okS (s.setD d (.d (.int .i64 xs.length)))
  | some (.gho n)=>okS (s.setD d (.d (.int .i64 n)))
  | _=>none
 | .app d sz x y,s=>okS ((s.take x).bind fun r =>
   match r.1.asl with
   | .sl o z xs =>
    if o=true∧z=sz then
     (r.2.news sz y).bind fun w=>if xs.length + w.1.length<=most then w.2.setD d (.d (.sl true sz (xs++w.1))) else none
    else none
   | _=>none)
 | .mkf d f cs,s=>okS ((s.proms cs).bind fun s1=>(s1.caps cs).bind fun r=>s1.setD d (.d (.fn f r)))
 | .mkb d f fs,s=>okS ((s.caps fs).bind fun r=>s.setD d (.d (.bf f r)))
 | .cap d x,s =>
  match s.rd x with
  | some (.nils _)=>okS (s.setD d (.d (.int .i64 0)))
  | _=>none
 | .apn d sz z x n,s =>
  match s.rd x with
  | some (.nils z')=>if z'=sz then okS ((s.num n).bind fun m=>if m<=most then s.setD d (.d (.sl true sz (zda z m))) else none) else none
  | _=>none
 | .mkz d f cs,s=>okS ((s.shuts cs).bind fun s1=>(s1.caps cs).bind fun r=>s1.setD d (.d (.fn f r)))
 | .gd g w i,s =>
  match s.rd (.t g) with
  | some (.bool b) =>
   if b=w then vact i s
   else match i.dst with
    | some d=>okS (s.setD d (.d (.tup [])))
    | none=>some (.st s)
  | some (.tup []) =>
   match i.dst with
   | some d=>okS (s.setD d (.d (.tup [])))
   | none=>some (.st s)
  | _=>none
 | .no,_=>none
def zbg (h:H) (i:I) (s:St):Option St :=
 match vact i s with
 | some (.st s')=>some s'
 | some (.rq q)=>(h q.f q.args q.sto).bind q.post
 | none=>none
def vops (h:H):List I->St->Option St
 | [],s=>some s
 | i::r,s=>(zbg h i s).bind (vops h r)
abbrev FPt:=Option (List Root × List Root)
def SV.refs:SV->List Root
 | .bor p _=>[p.root]
 | .ptr p=>[p.root]
 | .d (.ref r _)=>[.sto r]
 | _=>[]
def St.rootOK (s:St):Root->Bool
 | .slot u =>
  match s.sl[u]? with
  | some x=>x.isRoot
  | none=>false
 | .sto _=>true
def St.tch (s:St):X->Option (List Root)
 | .c _=>some []
 | .t n =>
  match s.sl[n]? with
  | some (.d .dead)=>none
  | some v=>if v.refs.all s.rootOK=true then some (.slot n::v.refs) else none
  | none=>none
def St.tchs (s:St):List X->Option (List Root)
 | []=>some []
 | x::r =>
  match s.tch x,s.tchs r with
  | some a,some b=>some (a++b)
  | _,_=>none
def optX:Option X->List X
 | some x=>[x]
 | none=>[]
def I.xs:I->Option (List X)
 | .mv _ x|.nc _ x|.asg _ x|.box _ _ x|.ld _ _ x|.fad _ _ _ x|.fld _ _ _ x|.un _ _ x|.conv _ _ x|.ext _ x _|.len _ x|.les _ x|.isn _ _ x=>some [x]
 | .pick _ c a b=>some [c,a,b]
 | .alloc _ _=>some []
 | .build _ _ ps=>some (ps.map fun p=>p.2.2)
 | .bsl _ _ _ _ ps=>some (ps.map fun p=>p.2)
 | .iad _ _ x i|.iar _ _ _ x i|.ixs _ x i|.bin _ _ x i|.eqb _ _ x i|.eqa _ _ _ x i|.mks _ _ _ x i|.app _ _ x i=>some [x,i]
 | .slc _ _ x lo hi|.sls _ x lo hi=>some (x::(optX lo++optX hi))
 | .call _ _ as=>some (as.map fun a=>a.2)
 | .mkb _ _ fs=>some fs
 | _=>none
def St.takesI (s:St):I->Bool
 | .asg _ _|.box _ _ _|.build _ _ _|.bsl _ _ _ _ _|.app _ _ _ _=>true
 | .mv _ x=>(s.tupAt x).isSome
 | .ext _ x i =>
  match s.tupAt x with
  | some (_,ps) =>
   match ps[i]? with
   | some p=>p.hasX
   | none=>true
  | none=>true
 | _=>false
def St.plainArg (s:St):M × X->Bool
 | (.mv,_)=>false
 | (.mu,_)=>false
 | (.im _,x) =>
  match x with
  | .c _=>true
  | .t n =>
   match s.sl[n]? with
   | some (.d y)=>!y.hasX
   | some (.ptr ⟨.sto _,[],_⟩)=>true
   | _=>false
 | (m,x) =>
  match x with
  | .c _=>true
  | .t n =>
   match s.sl[n]? with
   | some (.d y)=>m == .rd || !y.hasX
   | some (.bor _ _)=>m == .rd
   | _=>false
def fpI1 (i:I) (s:St):FPt :=
 match i.xs,i.dst with
 | some xs,some d =>
  match s.tchs xs with
  | some t =>
   match i with
   | .call _ _ as =>
    if as.all s.plainArg=true then
     match s.args as with
     | some a=>if zah a.vals=true then none else some (t,[.slot d])
     | none=>none
    else none
   | _=>if s.takesI i=true then some (t,.slot d::t) else some (t,[.slot d])
  | none=>none
 | _,_=>none
def fpI (i:I) (s:St):FPt :=
 match i with
 | .gd g w j =>
  match s.sl[g]? with
  | some (.d (.bool b)) =>
   if b=w then (fpI1 j s).map fun p=>(.slot g::p.1,p.2)
   else
    match j.dst with
    | some d=>some ([.slot g],[.slot d])
    | none=>none
  | some (.d (.tup [])) =>
   match j.dst with
   | some d=>some ([.slot g],[.slot d])
   | none=>none
  | _=>none
 | .cal d (.t n) as =>
  match s.sl[n]? with
  | some (.d (.fn f []))=>(fpI1 (.call d f (as.map fun a=>(M.rd,a.2))) s).map fun p=>(.slot n::p.1,p.2)
  | _=>none
 | .st n (.t m) x =>
  match s.sl[m]? with
  | some (.ptr _)=>(s.tchs [.t m,x]).map fun t=>(t,t)
  | some (.box _)=>(s.tchs [.t m,x]).map fun t=>(t,t)
  | _=>none
 | i=>fpI1 i s
def zgR (a b:List Root):Bool:=a.all fun r=>!b.contains r
def zjI:FPt->FPt->Bool
 | some (t1,m1),some (t2,m2)=>zgR m1 t2 && zgR m1 m2 && zgR m2 t1
 | _,_=>false
def zfS (fs:List FPt) (p:Nat × Nat):Bool :=
 match fs[p.1]?,fs[p.2]? with
 | some a,some b=>zjI a b
 | _,_=>false
def ziz:I->I->Bool
 | .ext d (.t n) a,.ext e (.t m) b=>n == m && (a != b && (d != e && (d != n && e != n)))
 | _,_=>false
def zqk (l:List I) (ps:List (Nat × Nat)):List (Nat × Nat):=ps.filter fun p=>!ziz (l.getD p.1 .no) (l.getD p.2 .no)
def zdB (h:H):List I->St->Option (St × List FPt)
 | [],s=>some (s,[])
 | i::r,s =>
  match zbg h i s with
  | some s1=>(zdB h r s1).map fun q=>(q.1,fpI i s::q.2)
  | none=>none
inductive Ex where
 | nrm
 | exit (id:Nat)
 | ret
 deriving Inhabited,DecidableEq
def iter (f:St->Option (Ex × St)):Nat->St->Option (Ex × St)
 | 0,_=>none
 | n + 1,s =>
  match f s with
  | some (.nrm,s')=>iter f n s'
  | r=>r
def St.clr1 (s:St) (t:Nat):St :=
 match s.sl[t]? with
 | some o=>if o.isRoot=true then ⟨(s.sl.map (SV.kill (.slot t) true)).set t (.d .dead),s.sto⟩ else ⟨s.sl.set t (.d .dead),s.sto⟩
 | none=>s
def St.clr (s:St):List Nat->St
 | []=>s
 | t::r=>(s.clr1 t).clr r
def C.strip:C->C
 | .seq a b =>
  match a,b with
  | .clr _,b=>b.strip
  | a,.clr _=>a.strip
  | a,b=>.seq a.strip b.strip
 | .cond x a b=>.cond x a.strip b.strip
 | .block id a=>.block id a.strip
 | .loop a=>.loop a.strip
 | .cnk p x a b r=>.seq (.seq p.strip (.cond x a.strip b.strip)) r.strip
 | c=>c
def C.clrOK (mus:List Nat):C->Bool
 | .seq a b=>a.clrOK mus && b.clrOK mus
 | .cond _ a b=>a.clrOK mus && b.clrOK mus
 | .block _ a=>a.clrOK mus
 | .loop a=>a.clrOK mus
 | .clr l=>l.all fun t=>!mus.contains t
 | .cnk p _ a b r=>p.clrOK mus && a.clrOK mus && b.clrOK mus && r.clrOK mus
 | _=>true
def F.plain (fn:F):F:={ fn with body:=fn.body.strip }
def zdW (q:Option (Ex × St)) (f:St->Option (Ex × St)):Option (Ex × St) :=
 match q with
 | some (.nrm,s)=>f s
 | q=>q
open Classical in
noncomputable def zpn (q q':Option (Ex × St)):Option (Ex × St) :=
 match q,q' with
 | some r,some r'=>if r=r' then some r else none
 | _,_=>none
open Classical in
noncomputable def zaw (h:H) (n:Nat):C->St->Option (Ex × St)
 | .ops l,s=>(vops h l s).map fun s'=>(.nrm,s')
 | .draw l ps,s =>
  match zdB h l s with
  | some q=>if ps.all (zfS q.2)=true then some (.nrm,q.1) else none
  | none=>none
 | .seq a b,s =>
  match zaw h n a s with
  | some (.nrm,s')=>zaw h n b s'
  | r=>r
 | .cond x a b,s =>
  match s.rd x with
  | some (.bool t)=>if t=true then zaw h n a s else zaw h n b s
  | some .anyb =>
   match zaw h n a s,zaw h n b s with
   | some r,some r'=>if r=r' then some r else none
   | _,_=>none
  | _=>none
 | .block id a,s =>
  match zaw h n a s with
  | some (.exit j,s')=>if j=id then some (.nrm,s') else some (.exit j,s')
  | r=>r
 | .loop a,s=>iter (zaw h n a) n s
 | .exit id,s=>some (.exit id,s)
 | .ret,s=>some (.ret,s)
 | .skip,s=>some (.nrm,s)
 | .clr l,s=>some (.nrm,s.clr l)
 | .cnk p x a b r,s=>zdW (zaw h n p s) fun s =>
  match s.rd x with
  | some (.bool true)=>zdW (zaw h n a s) fun s=>zaw h n r s
  | some (.bool false)=>zdW (zaw h n b s) fun s=>zaw h n r s
  | some .anyb=>zpn (zdW (zaw h n a s) fun s=>zaw h n r s) (zdW (zaw h n b s) fun s=>zaw h n r s)
  | _=>none
def St.results (s:St):List RV->Option (List D × St)
 | []=>some ([],s)
 | .tmp t::r =>
  match s.take (.t t) with
  | some (v,s')=>(s'.results r).map fun a=>(v::a.1,a.2)
  | none=>none
 | .cell t k::r =>
  match s.place (.t t) with
  | some p =>
   match s.rdP p k with
   | some v =>
    match s.wrP p (zhD k.width) with
    | some s'=>((s'.kill p.root false).results r).map fun a=>(v::a.1,a.2)
    | none=>none
   | none=>none
  | none=>none
def zjs:List D->D
 | [d]=>d
 | l=>.tup l
def St.outs (s:St):List Nat->Option (List D)
 | []=>some []
 | i::r =>
  match s.sl[i]? with
  | some (.d x)=>(s.outs r).map fun l=>x::l
  | _=>none
def F.init (fn:F) (args:List D) (sto:List (List D)):St:=⟨args.map SV.d++List.replicate (fn.ntmps - args.length) (.d .dead),sto⟩
def RV.xs:List RV->List X
 | []=>[]
 | .tmp t::r=>.t t::RV.xs r
 | .cell _ _::r=>RV.xs r
def St.fin (s:St) (rs:List RV):Option (List D × St):=(s.proms (RV.xs rs)).bind fun s=>s.results rs
def F.finish (fn:F):Option (Ex × St)->Option Res
 | some (.nrm,s)|some (.ret,s) =>
  match s.fin fn.res with
  | some r=>(r.2.outs fn.mus).map fun outs=>(zjs r.1,outs,r.2.sto)
  | none=>none
 | _=>none
structure Tab where
 fn:Nat->Option F
 pr:Nat->Option (List D->Option (D × List D))
 mrk:Nat->Option (List (Nat × BK × Nat))
def zgd (h:H):List (Nat × BK × Nat)->List D->IntKind × Int->Option ((IntKind × Int) × List D)
 | [],cs,k=>some (k,cs)
 | (off,kd,g)::r,cs,k =>
  match zej cs off kd with
  | some x =>
   match h g [x,.int k.1 k.2] [] with
   | some (.int j n,[x'],_) =>
    if x'.hasRef=true then none else
    match zdA cs off (zhD kd.width) with
    | some d2 =>
     match kd.news x' with
     | some news =>
      match zdA d2 off news with
      | some d3=>zgd h r d3 (j,n)
      | none=>none
     | none=>none
    | none=>none
   | _=>none
  | none=>none
def zjJ (h:H) (ms:List (Nat × BK × Nat)) (args:List D) (sto:List (List D)):Option Res :=
 match args with
 | [.agg cs,.int k n]=>if zah cs=true then none else (zgd h ms cs (k,n)).map fun r=>(.int r.1.1 r.1.2,[.agg r.2],sto)
 | _=>none
noncomputable def zaR (tab:Tab):Nat->H
 | 0,_,_,_=>none
 | n + 1,f,args,sto =>
  match tab.pr f with
  | some g=>(g args).map fun d=>(d.1,d.2,sto)
  | none =>
   match tab.mrk f with
   | some ms=>zjJ (zaR tab n) ms args sto
   | none =>
    match tab.fn f with
    | some fn=>if args.length=fn.np then fn.finish (zaw (zaR tab n) n fn.body (fn.init args sto)) else none
    | none=>none
end Go.Vx
namespace Go.Vx
def LeH (h h':H):Prop:=∀ f a s r,h f a s=some r->h' f a s=some r
theorem LeH.refl (h:H):LeH h h:=fun _ _ _ _ x=>x
theorem LeH.trans {a b c:H} (x:LeH a b) (y:LeH b c):LeH a c:=fun f g s r h=>y f g s r (x f g s r h)
theorem zge {h h':H} (hh:LeH h h') {i:I} {s s':St} (e:zbg h i s=some s'):zbg h' i s=some s':=by
 unfold zbg at *
 split at e
 ·exact e
 ·rename_i q _
  cases hq:h q.f q.args q.sto with
  | none=>simp [hq] at e
  | some r=>rw [hq] at e;rw [hh _ _ _ _ hq];exact e
 ·cases e
theorem zia {h h':H} (hh:LeH h h'):∀ {l:List I} {s s':St},vops h l s=some s'->vops h' l s=some s'
 | [],_,_,e=>e
 | i::r,s,s',e=>by
  simp only [vops] at *
  cases hi:zbg h i s with
  | none=>simp [hi] at e
  | some t=>rw [hi] at e;rw [zge hh hi];exact zia hh e
theorem zhm {h h':H} (hh:LeH h h'):∀ {l:List I} {s:St} {r:St × List FPt},zdB h l s=some r->zdB h' l s=some r
 | [],_,_,e=>e
 | i::l,s,r,e=>by
  simp only [zdB] at *
  cases hi:zbg h i s with
  | none=>simp [hi] at e
  | some t =>
   rw [hi] at e
   rw [zge hh hi]
   obtain ⟨q,hq,rfl⟩:=Option.map_eq_some_iff.1 e
   simp only [zhm hh hq,Option.map_some]
theorem zib {f f':St->Option (Ex × St)} (hf:∀ s r,f s=some r->f' s=some r):∀ {n m:Nat} (_:n<=m) {s:St} {r:Ex × St},iter f n s=some r->iter f' m s=some r
 | 0,_,_,_,_,e=>by simp [iter] at e
 | n + 1,0,h,_,_,_=>by omega
 | n + 1,m + 1,h,s,r,e=>by
  simp only [iter] at *
  cases hs:f s with
  | none=>simp [hs] at e
  | some x =>
   rw [hs] at e
   rw [hf _ _ hs]
   obtain ⟨ex,s'⟩:=x
   cases ex with
   | nrm=>exact zib hf (by omega) e
   | exit j=>exact e
   | ret=>exact e
theorem zfs {q q':Option (Ex × St)} {f f':St->Option (Ex × St)} (hq:∀ r,q=some r->q'=some r) (hf:∀ s r,f s=some r->f' s=some r) {r:Ex × St} (e:zdW q f=some r):zdW q' f'=some r:=by
 cases q with
 | none=>cases e
 | some x =>
  rw [hq x rfl]
  obtain ⟨ex,s⟩:=x
  cases ex with
  | nrm=>exact hf s r e
  | exit j=>exact e
  | ret=>exact e
theorem zpo {q q':Option (Ex × St)} {r:Ex × St}:zpn q q'=some r ↔ q=some r∧q'=some r:=by
 unfold zpn
 constructor
 ·intro e
  split at e
  ·split at e
   ·rename_i h;subst h;cases e;exact ⟨rfl,rfl⟩
   ·cases e
  ·cases e
 ·rintro ⟨rfl,rfl⟩
  simp
theorem zap {h h':H} (hh:LeH h h') {n m:Nat} (hn:n<=m):∀ {c:C} {s:St} {r:Ex × St},zaw h n c s=some r->zaw h' m c s=some r
 | .ops l,s,r,e=>by
  simp only [zaw] at *
  cases hl:vops h l s with
  | none=>simp [hl] at e
  | some t=>rw [hl] at e;rw [zia hh hl];exact e
 | .draw l ps,s,r,e=>by
  simp only [zaw] at *
  cases hl:zdB h l s with
  | none=>simp [hl] at e
  | some t=>rw [hl] at e;rw [zhm hh hl];exact e
 | .seq a b,s,r,e=>by
  simp only [zaw] at *
  cases ha:zaw h n a s with
  | none=>simp [ha] at e
  | some x =>
   rw [ha] at e
   rw [zap hh hn ha]
   obtain ⟨ex,s'⟩:=x
   cases ex with
   | nrm=>exact zap hh hn e
   | exit j=>exact e
   | ret=>exact e
 | .cond x a b,s,r,e=>by
  simp only [zaw] at *
  split at e
  ·split at e
   ·rename_i ht;simp only [ht,if_true];exact zap hh hn e
   ·rename_i ht;simp only [ht];exact zap hh hn e
  ·split at e
   ·rename_i r1 r2 h1 h2
    rw [zap hh hn h1,zap hh hn h2]
    exact e
   ·cases e
  ·cases e
 | .block id a,s,r,e=>by
  simp only [zaw] at *
  cases ha:zaw h n a s with
  | none=>simp [ha] at e
  | some x=>rw [ha] at e;rw [zap hh hn ha];exact e
 | .loop a,s,r,e=>by
  simp only [zaw] at *
  exact zib (fun s r hs=>zap hh hn hs) hn e
 | .exit id,s,r,e=>e
 | .ret,s,r,e=>e
 | .skip,s,r,e=>e
 | .clr _,s,r,e=>e
 | .cnk p x a b c,s,r,e=>by
  simp only [zaw] at *
  refine zfs (fun _ h=>zap hh hn h) (fun s r e=>?_) e
  split at e
  ·exact zfs (fun _ h=>zap hh hn h) (fun _ _ h=>zap hh hn h) e
  ·exact zfs (fun _ h=>zap hh hn h) (fun _ _ h=>zap hh hn h) e
  ·obtain ⟨h1,h2⟩:=zpo.1 e
   exact zpo.2 ⟨zfs (fun _ h=>zap hh hn h) (fun _ _ h=>zap hh hn h) h1,zfs (fun _ h=>zap hh hn h) (fun _ _ h=>zap hh hn h) h2⟩
  ·cases e
theorem zhR {h h':H} (hh:LeH h h'):∀ {ms:List (Nat × BK × Nat)} {cs:List D} {k:IntKind × Int} {r:(IntKind × Int) × List D},zgd h ms cs k=some r->zgd h' ms cs k=some r
 | [],cs,k,r,e=>e
 | (off,kd,g)::ms,cs,k,r,e=>by
  simp only [zgd] at *
  cases h1:zej cs off kd with
  | none=>rw [h1] at e;cases e
  | some x =>
   rw [h1] at e
   simp only at e ⊢
   cases h2:h g [x,.int k.1 k.2] [] with
   | none=>rw [h2] at e;cases e
   | some q =>
    rw [h2] at e
    rw [hh _ _ _ _ h2]
    obtain ⟨d,outs,st⟩:=q
    cases d with
    | int j n =>
     match outs,e with
     | [x'],e =>
      simp only at e ⊢
      split at e
      ·cases e
      ·rename_i hc
       rw [if_neg hc]
       split at e
       ·split at e
        ·split at e
         ·exact zhR hh e
         ·cases e
        ·cases e
       ·cases e
     | [],e=>cases e
     | _::_::_,e=>cases e
    | _=>cases e
theorem zkG {h h':H} (hh:LeH h h') {ms:List (Nat × BK × Nat)} {args:List D} {sto:List (List D)} {r:Res} (e:zjJ h ms args sto=some r):zjJ h' ms args sto=some r:=by
 unfold zjJ at *
 split at e
 ·split at e
  ·cases e
  ·obtain ⟨q,h1,h2⟩:=Option.map_eq_some_iff.1 e
   rename_i hc
   rw [if_neg hc,zhR hh h1]
   exact Option.map_eq_some_iff.2 ⟨q,rfl,h2⟩
 ·cases e
theorem zaE (tab:Tab):∀ {n m:Nat},n<=m->LeH (zaR tab n) (zaR tab m)
 | 0,_,_,f,a,s,r,e=>by simp [zaR] at e
 | n + 1,0,h,_,_,_,_,_=>by omega
 | n + 1,m + 1,h,f,a,s,r,e=>by
  simp only [zaR] at *
  cases hp:tab.pr f with
  | some g=>simpa [hp] using e
  | none =>
   simp only [hp] at e ⊢
   cases hmk:tab.mrk f with
   | some ms=>simp only [hmk] at e ⊢;exact zkG (zaE tab (by omega)) e
   | none =>
   simp only [hmk] at e ⊢
   cases hfn:tab.fn f with
   | none=>simp [hfn] at e
   | some fn =>
    simp only [hfn] at e ⊢
    by_cases hl:a.length=fn.np
    ·rw [if_pos hl] at e ⊢
     cases hc:zaw (zaR tab n) n fn.body (fn.init a s) with
     | none=>simp [hc,F.finish] at e
     | some x =>
      rw [hc] at e
      rw [zap (zaE tab (by omega)) (by omega) hc]
      exact e
    ·rw [if_neg hl] at e;cases e
open Classical in
noncomputable def Lim {α:Type} (g:Nat->Option α):Option α:=if h:∃ n r,g n=some r then g (Classical.choose h) else none
theorem zor {α:Type} {g:Nat->Option α} (hm:∀ n m r,n<=m->g n=some r->g m=some r) {r:α}:Lim g=some r ↔ ∃ n,g n=some r:=by
 constructor
 ·intro h
  unfold Lim at h
  split at h
  ·exact ⟨_,h⟩
  ·cases h
 ·rintro ⟨n,hn⟩
  unfold Lim
  have hex:∃ n r,g n=some r:=⟨n,r,hn⟩
  rw [dif_pos hex]
  obtain ⟨r',hr'⟩:=Classical.choose_spec hex
  rw [hr']
  have a:=hm _ (max n (Classical.choose hex)) _ (Nat.le_max_left ..) hn
  have b:=hm _ (max n (Classical.choose hex)) _ (Nat.le_max_right ..) hr'
  rw [a] at b
  exact b.symm
theorem zfT {α:Type} {a b:Option α} (h:∀ r,a=some r ↔ b=some r):a=b:=by
 cases a with
 | none=>cases b with
  | none=>rfl
  | some r=>exact absurd ((h r).2 rfl) (by simp)
 | some r=>exact ((h r).1 rfl).symm
variable (tab:Tab)
noncomputable def zaa:H:=fun f a s=>Lim fun n=>zaR tab n f a s
noncomputable def vrun (c:C) (s:St):Option (Ex × St):=Lim fun n=>zaw (zaR tab n) n c s
theorem zeG {f:Nat} {a:List D} {s:List (List D)} {r:Res}:zaa tab f a s=some r ↔ ∃ n,zaR tab n f a s=some r :=
 zor fun _ _ _ h e=>zaE tab h _ _ _ _ e
theorem zas {c:C} {s:St} {r:Ex × St}:vrun tab c s=some r ↔ ∃ n,zaw (zaR tab n) n c s=some r :=
 zor fun _ _ _ h e=>zap (zaE tab h) h e
theorem zic (n:Nat):LeH (zaR tab n) (zaa tab):=fun _ _ _ _ h=>(zeG tab).2 ⟨n,h⟩
theorem zmf {i:I} {s s':St}:zbg (zaa tab) i s=some s' ↔ ∃ n,zbg (zaR tab n) i s=some s':=by
 constructor
 ·intro e
  unfold zbg at *
  split at e
  ·exact ⟨0,e⟩
  ·rename_i q _
   cases hq:zaa tab q.f q.args q.sto with
   | none=>simp [hq] at e
   | some r =>
    obtain ⟨n,hn⟩:=(zeG tab).1 hq
    rw [hq] at e
    exact ⟨n,by rw [hn];exact e⟩
  ·cases e
 ·rintro ⟨n,e⟩;exact zge (zic tab n) e
theorem zos:∀ {l:List I} {s s':St},vops (zaa tab) l s=some s' ↔ ∃ n,vops (zaR tab n) l s=some s'
 | [],_,_=>by simp [vops]
 | i::r,s,s'=>by
  constructor
  ·intro e
   simp only [vops] at e
   cases hi:zbg (zaa tab) i s with
   | none=>simp [hi] at e
   | some t =>
    rw [hi] at e
    obtain ⟨n,hn⟩:=(zmf tab).1 hi
    obtain ⟨m,hm⟩:=zos.1 e
    refine ⟨max n m,?_⟩
    simp only [vops]
    rw [zge (zaE tab (Nat.le_max_left n m)) hn]
    exact zia (zaE tab (Nat.le_max_right n m)) hm
  ·rintro ⟨n,e⟩;exact zia (zic tab n) e
theorem zmg:∀ {l:List I} {s:St} {r:St × List FPt},zdB (zaa tab) l s=some r ↔ ∃ n,zdB (zaR tab n) l s=some r
 | [],_,_=>by simp [zdB]
 | i::l,s,r=>by
  constructor
  ·intro e
   simp only [zdB] at e
   cases hi:zbg (zaa tab) i s with
   | none=>simp [hi] at e
   | some t =>
    rw [hi] at e
    obtain ⟨q,hq,rfl⟩:=Option.map_eq_some_iff.1 e
    obtain ⟨n,hn⟩:=(zmf tab).1 hi
    obtain ⟨m,hm⟩:=zmg.1 hq
    refine ⟨max n m,?_⟩
    simp only [zdB]
    rw [zge (zaE tab (Nat.le_max_left n m)) hn]
    simp only [zhm (zaE tab (Nat.le_max_right n m)) hm,Option.map_some]
  ·rintro ⟨n,e⟩;exact zhm (zic tab n) e
theorem zql (l:List I) (ps:List (Nat × Nat)) (s:St):vrun tab (.draw l ps) s=match zdB (zaa tab) l s with
  | some q=>if ps.all (zfS q.2)=true then some (.nrm,q.1) else none
  | none=>none:=by
 apply zfT
 intro r
 rw [zas]
 simp only [zaw]
 constructor
 ·rintro ⟨n,e⟩
  cases hl:zdB (zaR tab n) l s with
  | none=>simp [hl] at e
  | some q=>rw [hl] at e;rw [(zmg tab).2 ⟨n,hl⟩];exact e
 ·intro e
  cases hl:zdB (zaa tab) l s with
  | none=>simp [hl] at e
  | some q =>
   rw [hl] at e
   obtain ⟨n,hn⟩:=(zmg tab).1 hl
   exact ⟨n,by rw [hn];exact e⟩
theorem zjy (l:List I) (s:St):vrun tab (.ops l) s=(vops (zaa tab) l s).map fun s'=>(.nrm,s'):=by
 apply zfT
 intro r
 rw [zas]
 simp only [zaw,Option.map_eq_some_iff]
 constructor
 ·rintro ⟨n,t,ht,rfl⟩;exact ⟨t,(zos tab).2 ⟨n,ht⟩,rfl⟩
 ·rintro ⟨t,ht,rfl⟩;obtain ⟨n,hn⟩:=(zos tab).1 ht;exact ⟨n,t,hn,rfl⟩
theorem zld (a b:C) (s:St):vrun tab (.seq a b) s=match vrun tab a s with
  | some (.nrm,s')=>vrun tab b s'
  | r=>r:=by
 apply zfT
 intro r
 rw [zas]
 simp only [zaw]
 constructor
 ·rintro ⟨n,e⟩
  cases ha:zaw (zaR tab n) n a s with
  | none=>simp [ha] at e
  | some x =>
   rw [ha] at e
   rw [(zas tab).2 ⟨n,ha⟩]
   obtain ⟨ex,s'⟩:=x
   cases ex with
   | nrm=>exact (zas tab).2 ⟨n,e⟩
   | exit j=>exact e
   | ret=>exact e
 ·intro e
  cases ha:vrun tab a s with
  | none=>simp [ha] at e
  | some x =>
   rw [ha] at e
   obtain ⟨n,hn⟩:=(zas tab).1 ha
   obtain ⟨ex,s'⟩:=x
   cases ex with
   | nrm =>
    obtain ⟨m,hm⟩:=(zas tab).1 e
    exact ⟨max n m,by
     rw [zap (zaE tab (Nat.le_max_left n m)) (Nat.le_max_left n m) hn]
     exact zap (zaE tab (Nat.le_max_right n m)) (Nat.le_max_right n m) hm⟩
   | exit j=>exact ⟨n,by rw [hn];exact e⟩
   | ret=>exact ⟨n,by rw [hn];exact e⟩
open Classical in
theorem zqm (x:X) (a b:C) (s:St):vrun tab (.cond x a b) s=match s.rd x with
  | some (.bool t)=>if t=true then vrun tab a s else vrun tab b s
  | some .anyb =>
   match vrun tab a s,vrun tab b s with
   | some r,some r'=>if r=r' then some r else none
   | _,_=>none
  | _=>none:=by
 apply zfT
 intro r
 rw [zas]
 simp only [zaw]
 cases hx:s.rd x with
 | none=>simp
 | some d =>
  cases d with
  | bool t=>cases t <;> simp [zas]
  | anyb =>
   simp only
   constructor
   ·rintro ⟨n,e⟩
    split at e
    ·rename_i r1 r2 h1 h2
     rw [(zas tab).2 ⟨n,h1⟩,(zas tab).2 ⟨n,h2⟩]
     exact e
    ·cases e
   ·intro e
    split at e
    ·rename_i r1 r2 h1 h2
     obtain ⟨n,h3⟩:=(zas tab).1 h1
     obtain ⟨m,h4⟩:=(zas tab).1 h2
     refine ⟨max n m,?_⟩
     rw [zap (zaE tab (Nat.le_max_left n m)) (Nat.le_max_left n m) h3,zap (zaE tab (Nat.le_max_right n m)) (Nat.le_max_right n m) h4]
     exact e
    ·cases e
  | _=>simp
theorem zpp (id:Nat) (a:C) (s:St):vrun tab (.block id a) s=match vrun tab a s with
  | some (.exit j,s')=>if j=id then some (.nrm,s') else some (.exit j,s')
  | r=>r:=by
 apply zfT
 intro r
 rw [zas]
 simp only [zaw]
 constructor
 ·rintro ⟨n,e⟩
  cases ha:zaw (zaR tab n) n a s with
  | none=>simp [ha] at e
  | some x=>rw [ha] at e;rw [(zas tab).2 ⟨n,ha⟩];exact e
 ·intro e
  cases ha:vrun tab a s with
  | none=>simp [ha] at e
  | some x=>rw [ha] at e;obtain ⟨n,hn⟩:=(zas tab).1 ha;exact ⟨n,by rw [hn];exact e⟩
theorem zqn (a:C) (s:St):vrun tab (.loop a) s=match vrun tab a s with
  | some (.nrm,s')=>vrun tab (.loop a) s'
  | r=>r:=by
 apply zfT
 intro r
 rw [zas]
 simp only [zaw]
 constructor
 ·rintro ⟨n,e⟩
  cases n with
  | zero=>simp [iter] at e
  | succ n =>
   simp only [iter] at e
   cases ha:zaw (zaR tab (n + 1)) (n + 1) a s with
   | none=>simp [ha] at e
   | some x =>
    rw [ha] at e
    rw [(zas tab).2 ⟨n + 1,ha⟩]
    obtain ⟨ex,s'⟩:=x
    cases ex with
    | nrm=>exact (zas tab).2 ⟨n + 1,by simp only [zaw];exact zib (fun _ _ h=>h) (Nat.le_succ n) e⟩
    | exit j=>exact e
    | ret=>exact e
 ·intro e
  cases ha:vrun tab a s with
  | none=>simp [ha] at e
  | some x =>
   rw [ha] at e
   obtain ⟨n,hn⟩:=(zas tab).1 ha
   obtain ⟨ex,s'⟩:=x
   cases ex with
   | nrm =>
    obtain ⟨m,hm⟩:=(zas tab).1 e
    simp only [zaw] at hm
    refine ⟨max n m + 1,?_⟩
    simp only [iter]
    rw [zap (zaE tab (by omega)) (by omega) hn]
    exact zib (fun _ _ h=>zap (zaE tab (by omega)) (by omega) h) (by omega) hm
   | exit j=>exact ⟨n + 1,by simp only [iter];rw [zap (zaE tab (Nat.le_succ n)) (Nat.le_succ n) hn];exact e⟩
   | ret=>exact ⟨n + 1,by simp only [iter];rw [zap (zaE tab (Nat.le_succ n)) (Nat.le_succ n) hn];exact e⟩
theorem zqo (id:Nat) (s:St):vrun tab (.exit id) s=some (.exit id,s):=(zas tab).2 ⟨0,rfl⟩
theorem ztZ (s:St):vrun tab .ret s=some (.ret,s):=(zas tab).2 ⟨0,rfl⟩
theorem zmh {q:Nat->Option (Ex × St)} {f:Nat->St->Option (Ex × St)} (hq:∀ n m r,n<=m->q n=some r->q m=some r) (hf:∀ n m s r,n<=m->f n s=some r->f m s=some r) {q0:Option (Ex × St)} {f0:St->Option (Ex × St)}
  (h1:∀ r,q0=some r ↔ ∃ n,q n=some r) (h2:∀ s r,f0 s=some r ↔ ∃ n,f n s=some r) (r:Ex × St):zdW q0 f0=some r ↔ ∃ n,zdW (q n) (f n)=some r:=by
 constructor
 ·intro e
  cases hq0:q0 with
  | none=>rw [hq0] at e;cases e
  | some x =>
   rw [hq0] at e
   obtain ⟨n,hn⟩:=(h1 x).1 hq0
   obtain ⟨ex,s⟩:=x
   cases ex with
   | nrm =>
    obtain ⟨m,hm⟩:=(h2 s r).1 e
    exact ⟨max n m,by rw [hq n _ _ (Nat.le_max_left n m) hn];exact hf m _ _ _ (Nat.le_max_right n m) hm⟩
   | exit j=>exact ⟨n,by rw [hn];exact e⟩
   | ret=>exact ⟨n,by rw [hn];exact e⟩
 ·rintro ⟨n,e⟩
  cases hqn:q n with
  | none=>rw [hqn] at e;cases e
  | some x =>
   rw [hqn] at e
   rw [(h1 x).2 ⟨n,hqn⟩]
   obtain ⟨ex,s⟩:=x
   cases ex with
   | nrm=>exact (h2 s r).2 ⟨n,e⟩
   | exit j=>exact e
   | ret=>exact e
theorem zua (p:C) (x:X) (a b c:C) (s:St):vrun tab (.cnk p x a b c) s=zdW (vrun tab p s) fun s =>
  match s.rd x with
  | some (.bool true)=>zdW (vrun tab a s) fun s=>vrun tab c s
  | some (.bool false)=>zdW (vrun tab b s) fun s=>vrun tab c s
  | some .anyb=>zpn (zdW (vrun tab a s) fun s=>vrun tab c s) (zdW (vrun tab b s) fun s=>vrun tab c s)
  | _=>none:=by
 have hmv:∀ (c:C) (s:St) (n m:Nat) (r:Ex × St),n<=m->zaw (zaR tab n) n c s=some r->zaw (zaR tab m) m c s=some r:=fun c s n m r h e=>zap (zaE tab h) h e
 have two:∀ (a:C) (s:St) (r:Ex × St),zdW (vrun tab a s) (fun s=>vrun tab c s)=some r ↔ ∃ n,zdW (zaw (zaR tab n) n a s) (fun s=>zaw (zaR tab n) n c s)=some r :=
  fun a s r=>zmh (fun n m r=>hmv a s n m r) (fun n m s r=>hmv c s n m r) (fun r=>zas tab) (fun s r=>zas tab) r
 have mono2:∀ (a:C) (s:St) (n m:Nat) (r:Ex × St),n<=m->zdW (zaw (zaR tab n) n a s) (fun s=>zaw (zaR tab n) n c s)=some r->zdW (zaw (zaR tab m) m a s) (fun s=>zaw (zaR tab m) m c s)=some r :=
  fun a s n m r h e=>zfs (fun r=>hmv a s n m r h) (fun s r=>hmv c s n m r h) e
 apply zfT
 intro r
 rw [zas]
 simp only [zaw]
 refine (zmh (fun n m r=>hmv p s n m r) (fun n m s r h e=>?_) (fun r=>zas tab) (fun s r=>?_) r).symm
 ·split at e
  ·exact mono2 a s n m r h e
  ·exact mono2 b s n m r h e
  ·obtain ⟨h1,h2⟩:=zpo.1 e
   exact zpo.2 ⟨mono2 a s n m r h h1,mono2 b s n m r h h2⟩
  ·cases e
 ·generalize s.rd x=o
  rcases o with _|d
  ·simp
  ·cases d with
   | bool t =>
    cases t with
    | true=>exact two a s r
    | false=>exact two b s r
   | anyb =>
    simp only
    rw [zpo,two a s r,two b s r]
    constructor
    ·rintro ⟨⟨n,h1⟩,⟨m,h2⟩⟩
     exact ⟨max n m,zpo.2 ⟨mono2 a s _ _ _ (Nat.le_max_left n m) h1,mono2 b s _ _ _ (Nat.le_max_right n m) h2⟩⟩
    ·rintro ⟨n,e⟩
     obtain ⟨h1,h2⟩:=zpo.1 e
     exact ⟨⟨n,h1⟩,⟨n,h2⟩⟩
   | _=>simp
theorem zot (l:List Nat) (s:St):vrun tab (.clr l) s=some (.nrm,s.clr l):=(zas tab).2 ⟨0,rfl⟩
theorem zqp (s:St):vrun tab .skip s=some (.nrm,s):=(zas tab).2 ⟨0,rfl⟩
theorem zub {f:Nat} {fn:F} (hp:tab.pr f=none) (hmk:tab.mrk f=none) (hf:tab.fn f=some fn) (args:List D) (sto:List (List D)) (hl:args.length=fn.np) :
  zaa tab f args sto=fn.finish (vrun tab fn.body (fn.init args sto)):=by
 apply zfT
 intro r
 rw [zeG]
 constructor
 ·rintro ⟨n,e⟩
  cases n with
  | zero=>simp [zaR] at e
  | succ n =>
   simp only [zaR,hp,hmk,hf,hl,if_true] at e
   cases hc:zaw (zaR tab n) n fn.body (fn.init args sto) with
   | none=>simp [hc,F.finish] at e
   | some x=>rw [hc] at e;rw [(zas tab).2 ⟨n,hc⟩];exact e
 ·intro e
  cases hc:vrun tab fn.body (fn.init args sto) with
  | none=>simp [hc,F.finish] at e
  | some x =>
   obtain ⟨n,hn⟩:=(zas tab).1 hc
   rw [hc] at e
   exact ⟨n + 1,by simp only [zaR,hp,hmk,hf,hl,if_true];rw [hn];exact e⟩
theorem zpq {f:Nat} {g:List D->Option (D × List D)} (hp:tab.pr f=some g) (args:List D) (sto:List (List D)) :
  zaa tab f args sto=(g args).map fun d=>(d.1,d.2,sto):=by
 apply zfT
 intro r
 rw [zeG]
 constructor
 ·rintro ⟨n,e⟩
  cases n with
  | zero=>simp [zaR] at e
  | succ n=>simpa only [zaR,hp] using e
 ·intro e;exact ⟨1,by simpa only [zaR,hp] using e⟩
theorem zkH:∀ {ms:List (Nat × BK × Nat)} {cs:List D} {k:IntKind × Int} {r:(IntKind × Int) × List D},zgd (zaa tab) ms cs k=some r->∃ n,zgd (zaR tab n) ms cs k=some r
 | [],cs,k,r,e=>⟨0,e⟩
 | (off,kd,g)::ms,cs,k,r,e=>by
  simp only [zgd] at *
  cases h1:zej cs off kd with
  | none=>rw [h1] at e;cases e
  | some x =>
   rw [h1] at e
   simp only at e ⊢
   cases h2:zaa tab g [x,.int k.1 k.2] [] with
   | none=>rw [h2] at e;cases e
   | some q =>
    rw [h2] at e
    obtain ⟨n1,hn1⟩:=(zeG tab).1 h2
    obtain ⟨d,outs,st⟩:=q
    cases d with
    | int j n =>
     match outs,e,hn1 with
     | [x'],e,hn1 =>
      simp only at e
      split at e
      ·cases e
      ·rename_i hc
       split at e
       ·rename_i d2 h3
        split at e
        ·rename_i news h4
         split at e
         ·rename_i d3 h5
          obtain ⟨n2,hn2⟩:=zkH e
          refine ⟨max n1 n2,?_⟩
          rw [zaE tab (Nat.le_max_left n1 n2) _ _ _ _ hn1]
          simp only [if_neg hc,h3,h4,h5]
          exact zhR (zaE tab (Nat.le_max_right n1 n2)) hn2
         ·cases e
        ·cases e
       ·cases e
     | [],e,_=>cases e
     | _::_::_,e,_=>cases e
    | _=>cases e
theorem zkI {f:Nat} {ms:List (Nat × BK × Nat)} (hp:tab.pr f=none) (hmk:tab.mrk f=some ms) (args:List D) (sto:List (List D)) :
  zaa tab f args sto=zjJ (zaa tab) ms args sto:=by
 apply zfT
 intro r
 rw [zeG]
 constructor
 ·rintro ⟨n,e⟩
  cases n with
  | zero=>simp [zaR] at e
  | succ n =>
   simp only [zaR,hp,hmk] at e
   exact zkG (zic tab n) e
 ·intro e
  unfold zjJ at e
  split at e
  ·rename_i cs k n
   split at e
   ·cases e
   ·rename_i hc
    obtain ⟨q,h1,h2⟩:=Option.map_eq_some_iff.1 e
    obtain ⟨m,hm⟩:=zkH tab h1
    refine ⟨m + 1,?_⟩
    simp only [zaR,hp,hmk,zjJ,if_neg hc,hm]
    exact Option.map_eq_some_iff.2 ⟨q,rfl,h2⟩
  ·cases e
end Go.Vx
namespace Go.Vx
def zaA (w:World) (b o:Nat) (vs:List Value):Prop:=∀ j v,vs[j]? = some v->w.cell? ⟨b,o + j,none⟩=some v
def ones (vs:List Value):Prop:=∀ v ∈ vs,v.oneCell'=true
def zaj:List D->List D
 | []=>[]
 | x::r=>x.cells++zaj r
mutual
inductive Rep (w:World) (I:Nat->Prop):List Nat->Value->D->List Nat->Prop
 | int (ι k n):Rep w I ι (.int k n) (.int k n) []
 | bool (ι b):Rep w I ι (.bool b) (.bool b) []
 | str (ι s):Rep w I ι (.string s) (.str s) []
 | fn (ι f vs ds):RepL w I ι vs ds []->Rep w I ι (.func (.func f) #[] vs.toArray) (.fn f ds) []
 | bf (ι f vs ds):RepL w I ι vs ds []->Rep w I ι (.func (.func f) vs.toArray #[]) (.bf f ds) []
 | nilp (ι):Rep w I ι (.pointer none) .nilp []
 | nilf (ι):Rep w I ι .nilFunc .nilf []
 | anyb (ι b):Rep w I ι (.bool b) .anyb []
 | nils (ι z):Rep w I ι (.slice none 0 0) (.nils z) []
 | gho (ι p n c):Rep w I ι (.slice p n c) (.gho n) []
 | ref (ι r off b):ι[r]? = some b->Rep w I ι (.pointer (some ⟨b,off,none⟩)) (.ref r off) []
 | pim (ι b o off cs vs):I b->zaA w b o vs->ones vs->RepL w I [] vs cs []->Rep w I ι (.pointer (some ⟨b,o + off,none⟩)) (.pim cs off) []
 | agg (ι vs ds F):RepL w I ι vs ds F->ones vs->Rep w I ι (.agg vs.toArray) (.agg ds) F
 | tup (ι vs ds F):RepL w I ι vs ds F->Rep w I ι (.tuple vs.toArray) (.tup ds) F
 | nil (ι own z):Rep w I ι (.slice none 0 0) (.sl own z []) []
 | emp (ι own z a):Rep w I ι (.slice (some a) 0 0) (.sl own z []) []
 | empS (ι z a cap):Rep w I ι (.slice (some a) 0 cap) (.sl false z []) []
 | shr (ι b o n cap z xs vs):(n=xs.length∧n<=cap)->I b->zaA w b o vs->ones vs->RepL w I [] vs (zaj xs) []->(∀ x ∈ xs,x.cells.length=z) ->
   Rep w I ι (.slice (some ⟨b,o,none⟩) n cap) (.sl false z xs) []
 | own (ι b o n cap z xs vs E c F):n=xs.length->w.heap[b]? = some (.cells c E (0,0))->o + cap * z<=c.size->n<=cap->zaA w b o vs->ones vs->RepL w I [] vs (zaj xs) F ->
   (∀ x ∈ xs,x.cells.length=z)->Rep w I ι (.slice (some ⟨b,o,none⟩) n cap) (.sl true z xs) (b::F)
 | dead (ι v):Rep w I ι v .dead []
inductive RepL (w:World) (I:Nat->Prop):List Nat->List Value->List D->List Nat->Prop
 | nil (ι):RepL w I ι [] [] []
 | cons (ι v d F vs ds G):Rep w I ι v d F->RepL w I ι vs ds G->RepL w I ι (v::vs) (d::ds) (F++G)
end
theorem zaA.frame {w w':World} {b o:Nat} {vs:List Value} (h:zaA w b o vs) (hb:w'.heap[b]? = w.heap[b]?):zaA w' b o vs :=
 fun j v hv=>(World.cell?_of_block (w:=w) (w':=w') (a:=⟨b,o + j,none⟩) hb).trans (h j v hv)
mutual
theorem Rep.frame {w w':World} {I I':Nat->Prop} (hI:∀ b,I b->I' b) (hw:∀ b,I b->w'.heap[b]? = w.heap[b]?):∀ {ι:List Nat} {v:Value} {d:D} {F:List Nat},
  Rep w I ι v d F->(∀ b ∈ F,w'.heap[b]? = w.heap[b]?)->Rep w' I' ι v d F
 | _,_,_,_,.int ..,_=>.int ..
 | _,_,_,_,.bool ..,_=>.bool ..
 | _,_,_,_,.str ..,_=>.str ..
 | _,_,_,_,.fn _ _ _ _ h,_=>.fn _ _ _ _ (RepL.frame hI hw h (fun _ hb=>by cases hb))
 | _,_,_,_,.bf _ _ _ _ h,_=>.bf _ _ _ _ (RepL.frame hI hw h (fun _ hb=>by cases hb))
 | _,_,_,_,.nilp ..,_=>.nilp ..
 | _,_,_,_,.nilf ..,_=>.nilf ..
 | _,_,_,_,.anyb ..,_=>.anyb ..
 | _,_,_,_,.nils ..,_=>.nils ..
 | _,_,_,_,.gho ..,_=>.gho ..
 | _,_,_,_,.ref _ _ _ _ h,_=>.ref _ _ _ _ h
 | _,_,_,_,.pim _ b _ _ _ _ hb hc ho h,_=>.pim _ _ _ _ _ _ (hI _ hb) (hc.frame (hw _ hb)) ho (RepL.frame hI hw h (fun _ hb=>by cases hb))
 | _,_,_,_,.agg _ _ _ _ h ho,hF=>.agg _ _ _ _ (RepL.frame hI hw h hF) ho
 | _,_,_,_,.tup _ _ _ _ h,hF=>.tup _ _ _ _ (RepL.frame hI hw h hF)
 | _,_,_,_,.nil ..,_=>.nil ..
 | _,_,_,_,.emp ..,_=>.emp ..
 | _,_,_,_,.empS ..,_=>.empS ..
 | _,_,_,_,.shr _ _ _ _ _ _ _ _ hn hb hc ho h hz,_=>.shr _ _ _ _ _ _ _ _ hn (hI _ hb) (hc.frame (hw _ hb)) ho (RepL.frame hI hw h (fun _ hb=>by cases hb)) hz
 | _,_,_,_,.own _ _ _ _ _ _ _ _ _ _ _ hn hh hs hl hc ho h hz,hF =>
  .own _ _ _ _ _ _ _ _ _ _ _ hn ((hF _ (List.mem_cons_self ..)).trans hh) hs hl (hc.frame (hF _ (List.mem_cons_self ..))) ho (RepL.frame hI hw h (fun _ hb=>hF _ (List.mem_cons_of_mem _ hb))) hz
 | _,_,_,_,.dead ..,_=>.dead ..
theorem RepL.frame {w w':World} {I I':Nat->Prop} (hI:∀ b,I b->I' b) (hw:∀ b,I b->w'.heap[b]? = w.heap[b]?):∀ {ι:List Nat} {v:List Value} {d:List D} {F:List Nat},
  RepL w I ι v d F->(∀ b ∈ F,w'.heap[b]? = w.heap[b]?)->RepL w' I' ι v d F
 | _,_,_,_,.nil _,_=>.nil _
 | _,_,_,_,.cons _ _ _ _ _ _ _ h t,hF=>.cons _ _ _ _ _ _ _ (Rep.frame hI hw h (fun _ hb=>hF _ (mAL _ hb))) (RepL.frame hI hw t (fun _ hb=>hF _ (mAR _ hb)))
end
mutual
theorem Rep.monoSto {w:World} {I:Nat->Prop} {ι ι':List Nat} (hι:∀ (r b:Nat),ι[r]? = some b->ι'[r]? = some b):∀ {v:Value} {d:D} {F:List Nat},Rep w I ι v d F->Rep w I ι' v d F
 | _,_,_,.int ..=>.int ..
 | _,_,_,.bool ..=>.bool ..
 | _,_,_,.str ..=>.str ..
 | _,_,_,.fn _ _ _ _ h=>.fn _ _ _ _ (RepL.monoSto hι h)
 | _,_,_,.bf _ _ _ _ h=>.bf _ _ _ _ (RepL.monoSto hι h)
 | _,_,_,.nilp ..=>.nilp ..
 | _,_,_,.nilf ..=>.nilf ..
 | _,_,_,.anyb ..=>.anyb ..
 | _,_,_,.nils ..=>.nils ..
 | _,_,_,.gho ..=>.gho ..
 | _,_,_,.ref _ _ _ _ h=>.ref _ _ _ _ (hι _ _ h)
 | _,_,_,.pim _ _ _ _ _ _ hb hc ho h=>.pim _ _ _ _ _ _ hb hc ho h
 | _,_,_,.agg _ _ _ _ h ho=>.agg _ _ _ _ (RepL.monoSto hι h) ho
 | _,_,_,.tup _ _ _ _ h=>.tup _ _ _ _ (RepL.monoSto hι h)
 | _,_,_,.nil ..=>.nil ..
 | _,_,_,.emp ..=>.emp ..
 | _,_,_,.empS ..=>.empS ..
 | _,_,_,.shr _ _ _ _ _ _ _ _ hn hb hc ho h hz=>.shr _ _ _ _ _ _ _ _ hn hb hc ho h hz
 | _,_,_,.own _ _ _ _ _ _ _ _ _ _ _ hn hh hs hl hc ho h hz=>.own _ _ _ _ _ _ _ _ _ _ _ hn hh hs hl hc ho h hz
 | _,_,_,.dead ..=>.dead ..
theorem RepL.monoSto {w:World} {I:Nat->Prop} {ι ι':List Nat} (hι:∀ (r b:Nat),ι[r]? = some b->ι'[r]? = some b):∀ {v:List Value} {d:List D} {F:List Nat},RepL w I ι v d F->RepL w I ι' v d F
 | _,_,_,.nil _=>.nil _
 | _,_,_,.cons _ _ _ _ _ _ _ h t=>.cons _ _ _ _ _ _ _ (Rep.monoSto hι h) (RepL.monoSto hι t)
end
mutual
theorem Rep.noRef {w:World} {I:Nat->Prop} {ι ι':List Nat}:∀ {v:Value} {d:D} {F:List Nat},Rep w I ι v d F->d.hasRef=false->Rep w I ι' v d F
 | _,_,_,.int ..,_=>.int ..
 | _,_,_,.bool ..,_=>.bool ..
 | _,_,_,.str ..,_=>.str ..
 | _,_,_,.fn _ _ _ _ h,e=>.fn _ _ _ _ (RepL.noRef h (by simpa [D.hasRef] using e))
 | _,_,_,.bf _ _ _ _ h,e=>.bf _ _ _ _ (RepL.noRef h (by simpa [D.hasRef] using e))
 | _,_,_,.nilp ..,_=>.nilp ..
 | _,_,_,.nilf ..,_=>.nilf ..
 | _,_,_,.anyb ..,_=>.anyb ..
 | _,_,_,.nils ..,_=>.nils ..
 | _,_,_,.gho ..,_=>.gho ..
 | _,_,_,.ref ..,e=>by simp [D.hasRef] at e
 | _,_,_,.pim _ _ _ _ _ _ hb hc ho h,_=>.pim _ _ _ _ _ _ hb hc ho h
 | _,_,_,.agg _ _ _ _ h ho,e=>.agg _ _ _ _ (RepL.noRef h (by simpa [D.hasRef] using e)) ho
 | _,_,_,.tup _ _ _ _ h,e=>.tup _ _ _ _ (RepL.noRef h (by simpa [D.hasRef] using e))
 | _,_,_,.nil ..,_=>.nil ..
 | _,_,_,.emp ..,_=>.emp ..
 | _,_,_,.empS ..,_=>.empS ..
 | _,_,_,.shr _ _ _ _ _ _ _ _ hn hb hc ho h hz,_=>.shr _ _ _ _ _ _ _ _ hn hb hc ho h hz
 | _,_,_,.own _ _ _ _ _ _ _ _ _ _ _ hn hh hs hl hc ho h hz,_=>.own _ _ _ _ _ _ _ _ _ _ _ hn hh hs hl hc ho h hz
 | _,_,_,.dead ..,_=>.dead ..
theorem RepL.noRef {w:World} {I:Nat->Prop} {ι ι':List Nat}:∀ {v:List Value} {d:List D} {F:List Nat},RepL w I ι v d F->zah d=false->RepL w I ι' v d F
 | _,_,_,.nil _,_=>.nil _
 | _,_,_,.cons _ _ _ _ _ _ _ h t,e=>by
  simp [zah] at e
  exact .cons _ _ _ _ _ _ _ (Rep.noRef h e.1) (RepL.noRef t e.2)
end
mutual
theorem Rep.noX {w:World} {I:Nat->Prop} {ι:List Nat}:∀ {v:Value} {d:D} {F:List Nat},Rep w I ι v d F->d.hasX=false->F=[]
 | _,_,_,.int ..,_=>rfl
 | _,_,_,.bool ..,_=>rfl
 | _,_,_,.str ..,_=>rfl
 | _,_,_,.fn ..,_=>rfl
 | _,_,_,.bf ..,_=>rfl
 | _,_,_,.nilp ..,_=>rfl
 | _,_,_,.nilf ..,_=>rfl
 | _,_,_,.anyb ..,_=>rfl
 | _,_,_,.nils ..,_=>rfl
 | _,_,_,.gho ..,_=>rfl
 | _,_,_,.ref ..,_=>rfl
 | _,_,_,.pim ..,_=>rfl
 | _,_,_,.agg _ _ _ _ h ho,e=>RepL.noX h (by simpa [D.hasX] using e)
 | _,_,_,.tup _ _ _ _ h,e=>RepL.noX h (by simpa [D.hasX] using e)
 | _,_,_,.nil ..,_=>rfl
 | _,_,_,.emp ..,_=>rfl
 | _,_,_,.empS ..,_=>rfl
 | _,_,_,.shr ..,_=>rfl
 | _,_,_,.own _ _ _ _ _ _ _ _ _ _ _ hn hh hs hl hc ho h hz,e=>by simp [D.hasX] at e
 | _,_,_,.dead ..,_=>rfl
theorem RepL.noX {w:World} {I:Nat->Prop} {ι:List Nat}:∀ {v:List Value} {d:List D} {F:List Nat},RepL w I ι v d F->zgc d=false->F=[]
 | _,_,_,.nil _,_=>rfl
 | _,_,_,.cons _ _ _ _ _ _ _ h t,e=>by
  simp [zgc] at e
  rw [Rep.noX h e.1,RepL.noX t e.2];rfl
end
mutual
theorem Rep.noS {w:World} {I I':Nat->Prop} {ι:List Nat}:∀ {v:Value} {d:D} {F:List Nat},Rep w I ι v d F->d.noS=true->Rep w I' ι v d F
 | _,_,_,.int ..,_=>.int ..
 | _,_,_,.bool ..,_=>.bool ..
 | _,_,_,.str ..,_=>.str ..
 | _,_,_,.fn _ _ _ _ h,e=>.fn _ _ _ _ (RepL.noS h (by simpa [D.noS] using e))
 | _,_,_,.bf _ _ _ _ h,e=>.bf _ _ _ _ (RepL.noS h (by simpa [D.noS] using e))
 | _,_,_,.nilp ..,_=>.nilp ..
 | _,_,_,.anyb ..,_=>.anyb ..
 | _,_,_,.nils ..,_=>.nils ..
 | _,_,_,.gho ..,_=>.gho ..
 | _,_,_,.nilf ..,_=>.nilf ..
 | _,_,_,.ref _ _ _ _ h,_=>.ref _ _ _ _ h
 | _,_,_,.pim ..,e=>by simp [D.noS] at e
 | _,_,_,.agg _ _ _ _ h ho,e=>.agg _ _ _ _ (RepL.noS h (by simpa [D.noS] using e)) ho
 | _,_,_,.tup _ _ _ _ h,e=>.tup _ _ _ _ (RepL.noS h (by simpa [D.noS] using e))
 | _,_,_,.nil ..,_=>.nil ..
 | _,_,_,.emp ..,_=>.emp ..
 | _,_,_,.empS ..,e=>by simp [D.noS] at e
 | _,_,_,.shr ..,e=>by simp [D.noS] at e
 | _,_,_,.own _ _ _ _ _ _ xs _ _ _ _ hn hh hs hl hc ho h hz,e=>.own _ _ _ _ _ _ _ _ _ _ _ hn hh hs hl hc ho (RepL.noS h (by
   have e':noSL xs=true:=by simpa [D.noS] using e
   clear h hn hz e
   induction xs with
   | nil=>rfl
   | cons x r ih =>
    simp only [noSL,Bool.and_eq_true] at e'
    have hx:noSL x.cells=true:=by cases x <;> simp_all [D.cells,noSL,D.noS]
    have:∀ (a b:List D),noSL a=true->noSL b=true->noSL (a++b)=true:=by
     intro a b ha hb
     induction a with
     | nil=>exact hb
     | cons y a ih2=>simp [noSL] at ha ⊢;exact ⟨ha.1,ih2 ha.2⟩
    exact this _ _ hx (ih e'.2))) hz
 | _,_,_,.dead ..,_=>.dead ..
theorem RepL.noS {w:World} {I I':Nat->Prop} {ι:List Nat}:∀ {v:List Value} {d:List D} {F:List Nat},RepL w I ι v d F->noSL d=true->RepL w I' ι v d F
 | _,_,_,.nil _,_=>.nil _
 | _,_,_,.cons _ _ _ _ _ _ _ h t,e=>by
  simp [noSL] at e
  exact .cons _ _ _ _ _ _ _ (Rep.noS h e.1) (RepL.noS t e.2)
end
theorem zgS (x:D):x.freeze.cells=zad x.cells:=by cases x <;> simp [D.freeze,D.cells,zad]
theorem zkw (a b:List D):zad (a++b)=zad a++zad b:=by
 induction a with
 | nil=>rfl
 | cons x r ih=>simp [zad,ih]
theorem zcQ (a:List D):(zad a).length=a.length:=by
 induction a with
 | nil=>rfl
 | cons x r ih=>simp [zad,ih]
theorem zhG (a:List D):zad a=a.map D.freeze:=by
 induction a with
 | nil=>rfl
 | cons x r ih=>simp [zad,ih]
theorem zid (xs:List D):zaj (zad xs)=zad (zaj xs):=by
 induction xs with
 | nil=>rfl
 | cons x r ih=>simp [zad,zaj,zgS,zkw,ih]
mutual
theorem Rep.freeze {w:World} {I:Nat->Prop} {ι:List Nat}:∀ {v:Value} {d:D} {F:List Nat},Rep w I ι v d F->Rep w (fun b=>I b ∨ b ∈ F) ι v d.freeze []
 | _,_,_,.int ..=>by simp only [D.freeze];exact .int ..
 | _,_,_,.bool ..=>by simp only [D.freeze];exact .bool ..
 | _,_,_,.str ..=>by simp only [D.freeze];exact .str ..
 | _,_,_,.fn _ _ _ _ h=>by simp only [D.freeze];exact .fn _ _ _ _ (RepL.frame (fun _ h=>.inl h) (fun _ _=>rfl) h (fun _ h=>by cases h))
 | _,_,_,.bf _ _ _ _ h=>by simp only [D.freeze];exact .bf _ _ _ _ (RepL.frame (fun _ h=>.inl h) (fun _ _=>rfl) h (fun _ h=>by cases h))
 | _,_,_,.nilp ..=>by simp only [D.freeze];exact .nilp ..
 | _,_,_,.nilf ..=>by simp only [D.freeze];exact .nilf ..
 | _,_,_,.anyb ..=>by simp only [D.freeze];exact .anyb ..
 | _,_,_,.nils ..=>by simp only [D.freeze];exact .nils ..
 | _,_,_,.gho ..=>by simp only [D.freeze];exact .gho ..
 | _,_,_,.ref _ _ _ _ h=>by simp only [D.freeze];exact .ref _ _ _ _ h
 | _,_,_,.pim _ _ _ _ _ _ hb hc ho h=>by simp only [D.freeze];exact .pim _ _ _ _ _ _ (.inl hb) hc ho (RepL.frame (fun _ h=>.inl h) (fun _ _=>rfl) h (fun _ h=>by cases h))
 | _,_,_,.agg _ _ _ _ h ho=>by simp only [D.freeze];exact .agg _ _ _ _ (RepL.freeze h) ho
 | _,_,_,.tup _ _ _ _ h=>by simp only [D.freeze];exact .tup _ _ _ _ (RepL.freeze h)
 | _,_,_,.nil ..=>by simp only [D.freeze];exact .nil ..
 | _,_,_,.emp ..=>by simp only [D.freeze];exact .emp ..
 | _,_,_,.empS _ _ _ _=>by simp only [D.freeze];exact .empS ..
 | _,_,_,.shr _ b _ n _ _ xs vs hn hb hc ho h hz=>by
  simp only [D.freeze]
  refine .shr _ _ _ _ _ _ _ vs (by rw [zcQ];exact hn) (.inl hb) hc ho ?_ ?_
  ·rw [zid]
   exact RepL.frame (fun b h=>h.elim .inl (fun h=>by cases h)) (fun _ _=>rfl) (RepL.freeze h) (fun _ h=>by cases h)
  ·intro x hx
   rw [zhG] at hx
   obtain ⟨y,hy,rfl⟩:=List.mem_map.1 hx
   rw [zgS,zcQ];exact hz y hy
 | _,_,_,.own _ b _ _ _ _ xs vs _ _ F hn hh hs hl hc ho h hz=>by
  simp only [D.freeze]
  refine .shr _ _ _ _ _ _ _ vs (by rw [zcQ];exact ⟨hn,hl⟩) (.inr (List.mem_cons_self ..)) hc ho ?_ ?_
  ·rw [zid]
   exact RepL.frame (fun b h=>h.imp id (List.mem_cons_of_mem _)) (fun _ _=>rfl) (RepL.freeze h) (fun _ h=>by cases h)
  ·intro x hx
   rw [zhG] at hx
   obtain ⟨y,hy,rfl⟩:=List.mem_map.1 hx
   rw [zgS,zcQ];exact hz y hy
 | _,_,_,.dead ..=>by simp only [D.freeze];exact .dead ..
theorem RepL.freeze {w:World} {I:Nat->Prop} {ι:List Nat}:∀ {v:List Value} {d:List D} {F:List Nat},RepL w I ι v d F->RepL w (fun b=>I b ∨ b ∈ F) ι v (zad d) []
 | _,_,_,.nil _=>.nil _
 | _,_,_,.cons _ _ _ _ _ _ _ h t=>by
  simp only [zad]
  exact .cons _ _ _ [] _ _ [] (Rep.frame (fun _ h=>h.imp id (mAL _)) (fun _ _=>rfl) (Rep.freeze h) (fun _ h=>by cases h))
   (RepL.frame (fun _ h=>h.imp id (mAR _)) (fun _ _=>rfl) (RepL.freeze t) (fun _ h=>by cases h))
end
mutual
theorem Rep.lt {w:World} {I:Nat->Prop} {ι:List Nat}:∀ {v:Value} {d:D} {F:List Nat},Rep w I ι v d F->∀ b ∈ F,b<w.heap.size
 | _,_,_,.agg _ _ _ _ h ho,b,hb=>RepL.lt h b hb
 | _,_,_,.tup _ _ _ _ h,b,hb=>RepL.lt h b hb
 | _,_,_,.own _ b _ _ _ _ xs vs _ _ F hn hh hs hl hc ho h hz,b',hb=>by
  cases hb with
  | head=>exact (Array.getElem?_eq_some_iff.1 hh).1
  | tail _ hb=>exact RepL.lt h b' hb
theorem RepL.lt {w:World} {I:Nat->Prop} {ι:List Nat}:∀ {v:List Value} {d:List D} {F:List Nat},RepL w I ι v d F->∀ b ∈ F,b<w.heap.size
 | _,_,_,.cons _ _ _ _ _ _ _ h t,b,hb=>(List.mem_append.1 hb).elim (Rep.lt h b) (RepL.lt t b)
end
section
variable {w:World} {I:Nat->Prop} {ι:List Nat}
theorem RepL.length {vs:List Value} {ds:List D} {F:List Nat} (h:RepL w I ι vs ds F):vs.length=ds.length:=by
 induction ds generalizing vs F with
 | nil=>cases h;rfl
 | cons d r ih=>cases h with|cons _ _ _ _ _ _ _ h t=>simp [ih t]
theorem RepL.append {vs vs':List Value} {ds ds':List D} {F F':List Nat} (h:RepL w I ι vs ds F) (h':RepL w I ι vs' ds' F'):RepL w I ι (vs++vs') (ds++ds') (F++F'):=by
 induction ds generalizing vs F with
 | nil=>cases h;exact h'
 | cons d r ih=>cases h with|cons _ _ _ _ _ _ _ h t=>rw [List.append_assoc];exact .cons _ _ _ _ _ _ _ h (ih t)
theorem RepL.split {vs:List Value}:∀ {ds ds':List D} {F:List Nat},RepL w I ι vs (ds++ds') F ->
  ∃ v1 v2 F1 F2,vs=v1++v2∧F=F1++F2∧v1.length=ds.length∧RepL w I ι v1 ds F1∧RepL w I ι v2 ds' F2:=by
 intro ds
 induction ds generalizing vs with
 | nil=>intro ds' F h;exact ⟨[],vs,[],F,rfl,rfl,rfl,.nil _,h⟩
 | cons d r ih =>
  intro ds' F h
  cases h with
  | cons _ v _ F0 vs' _ G h t =>
   obtain ⟨v1,v2,F1,F2,rfl,rfl,hl,h1,h2⟩:=ih t
   exact ⟨v::v1,v2,F0++F1,F2,rfl,by rw [List.append_assoc],by simp [hl],.cons _ _ _ _ _ _ _ h h1,h2⟩
theorem RepL.one {v:Value} {d:D} {F:List Nat} (h:Rep w I ι v d F):RepL w I ι [v] [d] F:=by
 have:=RepL.cons ι v d F [] [] [] h (.nil _)
 simpa using this
theorem RepL.of_one {vs:List Value} {d:D} {F:List Nat} (h:RepL w I ι vs [d] F):∃ v,vs=[v]∧Rep w I ι v d F:=by
 cases h with
 | cons _ v _ F0 vs' _ G h t=>cases t;exact ⟨v,rfl,by simpa using h⟩
theorem RepL.at {vs:List Value} {ds:List D} {F:List Nat} {k:Nat} {d:D} (h:RepL w I ι vs ds F) (hk:ds[k]? = some d) :
  ∃ v1 v v2 F1 G F2,vs=v1++v::v2∧v1.length=k∧F=F1++(G++F2)∧RepL w I ι v1 (ds.take k) F1∧Rep w I ι v d G∧RepL w I ι v2 (ds.drop (k + 1)) F2:=by
 have hlt:k<ds.length:=(List.getElem?_eq_some_iff.1 hk).1
 have e:ds=ds.take k++([d]++ds.drop (k + 1)):=by
  have h1:ds.drop k=d::ds.drop (k + 1):=by
   rw [List.drop_eq_getElem_cons hlt,(List.getElem?_eq_some_iff.1 hk).2]
  simp [<- h1]
 rw [e] at h
 obtain ⟨v1,v2,F1,F2,rfl,rfl,hl,h1,h2⟩:=h.split
 obtain ⟨v3,v4,F3,F4,rfl,rfl,hl2,h3,h4⟩:=h2.split
 obtain ⟨v,rfl,hv⟩:=h3.of_one
 exact ⟨v1,v,v4,F1,F3,F4,rfl,by simpa [Nat.min_eq_left (Nat.le_of_lt hlt)] using hl,rfl,h1,hv,h4⟩
end
end Go.Vx
namespace Go.Vx
inductive Foc (w:World):List Value->List D->Option (Nat × Nat)->List (Nat × Nat)->List Value->List D->Option (Nat × Nat)->Prop
 | nil (vs ds bo):Foc w vs ds bo [] vs ds bo
 | cons (vs ds bo k i r b o n cap z xs x vs1 vs' ds' bo'):vs[k]? = some (.slice (some ⟨b,o,none⟩) n cap)->ds[k]? = some (.sl true z xs)->xs[i]? = some x ->
   zaA w b (o + i * z) vs1->vs1.length=z->Foc w vs1 x.cells (some (b,o + i * z)) r vs' ds' bo'->Foc w vs ds bo ((k,i)::r) vs' ds' bo'
theorem zaA.unique {w:World} {b o:Nat} {a c:List Value} (ha:zaA w b o a) (hc:zaA w b o c) (hl:a.length=c.length):a=c:=by
 apply List.ext_getElem? fun j=>?_
 cases h:a[j]? with
 | none =>
  have:c[j]? = none:=by rw [List.getElem?_eq_none_iff] at h ⊢;omega
  rw [this]
 | some v =>
  have hj:j<c.length:=by rw [<- hl];exact (List.getElem?_eq_some_iff.1 h).1
  have h2:=hc j _ (List.getElem?_eq_getElem hj)
  rw [ha j v h] at h2
  rw [List.getElem?_eq_getElem hj]
  exact h2
theorem Foc.unique {w:World} {vs:List Value} {ds:List D} {bo:Option (Nat × Nat)} {st:List (Nat × Nat)} {v1 v2:List Value} {d1 d2:List D} {b1 b2:Option (Nat × Nat)}
  (h:Foc w vs ds bo st v1 d1 b1) (h':Foc w vs ds bo st v2 d2 b2):v1=v2∧d1=d2∧b1=b2:=by
 induction h with
 | nil=>cases h';exact ⟨rfl,rfl,rfl⟩
 | cons _ _ _ _ _ _ _ _ _ _ _ _ _ _ _ _ _ hv hd hx hc hl _ ih =>
  cases h' with
  | cons _ _ _ _ _ _ _ _ _ _ _ _ _ _ _ _ _ hv' hd' hx' hc' hl' h2 =>
   rw [hv] at hv';cases hv'
   rw [hd] at hd';cases hd'
   rw [hx] at hx';cases hx'
   obtain rfl:=zaA.unique hc hc' (by omega)
   exact ih h2
theorem Rep.cells_one {w:World} {I:Nat->Prop} {ι:List Nat} {v:Value} {d:D} {F:List Nat} (h:Rep w I ι v d F) (h1:v.oneCell'=true):d.cells=[d]:=by
 cases h <;> first|rfl|simp [Value.oneCell'] at h1
theorem zav (a b:List D):zaj (a++b)=zaj a++zaj b:=by
 induction a with
 | nil=>rfl
 | cons x r ih=>simp [zaj,ih]
theorem zaq {z:Nat}:∀ {xs:List D},(∀ x ∈ xs,x.cells.length=z)->(zaj xs).length=xs.length * z
 | [],_=>by simp [zaj]
 | x::r,h=>by
  simp only [zaj,List.length_append,List.length_cons]
  rw [h x (List.mem_cons_self ..),zaq (fun y hy=>h y (List.mem_cons_of_mem _ hy)),Nat.add_mul]
  omega
theorem zgT {α:Type} {xs:List α} {i:Nat} {x:α} (h:xs[i]? = some x):xs=xs.take i++x::xs.drop (i + 1):=by
 have hlt:i<xs.length:=(List.getElem?_eq_some_iff.1 h).1
 have h1:xs.drop i=x::xs.drop (i + 1):=by rw [List.drop_eq_getElem_cons hlt,(List.getElem?_eq_some_iff.1 h).2]
 rw [<- h1,List.take_append_drop]
theorem zie {α:Type} {xs:List α} {i:Nat} {x:α} (y:α) (h:xs[i]? = some x):xs.set i y=xs.take i++y::xs.drop (i + 1):=by
 have hlt:i<xs.length:=(List.getElem?_eq_some_iff.1 h).1
 rw [List.set_eq_take_append_cons_drop,if_pos hlt]
theorem zaA.append {w:World} {b o:Nat} {a c:List Value} (ha:zaA w b o a) (hc:zaA w b (o + a.length) c):zaA w b o (a++c):=by
 intro j v hj
 rw [List.getElem?_append] at hj
 split at hj
 ·exact ha j v hj
 ·have:=hc _ v hj
  rwa [show o + a.length + (j - a.length)=o + j by omega] at this
theorem zaA.left {w:World} {b o:Nat} {a c:List Value} (h:zaA w b o (a++c)):zaA w b o a:=fun j v hj=>h j v (by
 rw [List.getElem?_append_left (List.getElem?_eq_some_iff.1 hj).1];exact hj)
theorem zaA.right {w:World} {b o:Nat} {a c:List Value} (h:zaA w b o (a++c)):zaA w b (o + a.length) c:=fun j v hj=>by
 have:=h (a.length + j) v (by rw [List.getElem?_append_right (by omega)];simpa using hj)
 rwa [show o + (a.length + j)=o + a.length + j by omega] at this
theorem ones.left {a c:List Value} (h:ones (a++c)):ones a:=fun v hv=>h v (mAL _ hv)
theorem ones.right {a c:List Value} (h:ones (a++c)):ones c:=fun v hv=>h v (mAR _ hv)
theorem ones.append {a c:List Value} (h:ones a) (h':ones c):ones (a++c):=fun v hv=>(List.mem_append.1 hv).elim (h v) (h' v)
theorem zjK (g:List D->Option (List D)):∀ {st:List (Nat × Nat)} {ds cs:List D},upd g ds st=some cs ->
  ∃ d1 d2,focus ds st=some d1∧g d1=some d2∧upd (fun _=>some d2) ds st=some cs
 | [],ds,cs,h=>⟨ds,cs,rfl,h,rfl⟩
 | (k,i)::r,ds,cs,h=>by
  simp only [upd] at h
  split at h
  ·rename_i z xs hk
   split at h
   ·rename_i x hx
    split at h
    ·rename_i cs' hu
     obtain ⟨d1,d2,h1,h2,h3⟩:=zjK g hu
     exact ⟨d1,d2,by simp [focus,hk,hx,h1],h2,by simp only [upd,hk,hx,h3];exact h⟩
    ·cases h
   ·cases h
  ·cases h
def zni (w w2:World) (b o:Nat) (vs2:List Value):Prop :=
 ∃ c E c2,w.heap[b]? = some (.cells c E (0,0))∧w2.heap[b]? = some (.cells c2 E (0,0))∧c2.size=c.size∧(∀ j,(j<o ∨ o + vs2.length<=j)->c2[j]? = c[j]?)∧zaA w2 b o vs2
theorem zni.cellsAt {w w2:World} {b o o':Nat} {vs2 vs:List Value} (h:zni w w2 b o vs2) (hc:zaA w b o' vs) (ho:o' + vs.length<=o ∨ o + vs2.length<=o'):zaA w2 b o' vs:=by
 obtain ⟨c,E,c2,h1,h2,hs,hj,_⟩:=h
 intro j v hv
 have hlt:=(List.getElem?_eq_some_iff.1 hv).1
 have:=hc j v hv
 simp only [World.cell?,h1,Option.isSome_none,Bool.false_eq_true,if_false] at this
 simp only [World.cell?,h2,Option.isSome_none,Bool.false_eq_true,if_false]
 rw [hj _ (by omega)]
 exact this
theorem zcJ {w:World} {I:Nat->Prop}:∀ (st:List (Nat × Nat)) {ι:List Nat} {vs:List Value} {ds ds':List D} {F:List Nat} (bo:Option (Nat × Nat)),
  RepL w I ι vs ds F->F.Nodup->focus ds st=some ds' ->
  ∃ vs' bo' ι' F' R,Foc w vs ds bo st vs' ds' bo'∧RepL w I ι' vs' ds' F'∧(st ≠ []->ones vs')∧F.Perm (F'++R) ∧
   (st=[]->vs'=vs∧bo'=bo∧ι'=ι∧R=[]) ∧
   (st ≠ []->ι'=[]∧∃ b o c E,bo'=some (b,o)∧b ∈ R∧w.heap[b]? = some (.cells c E (0,0))∧o + vs'.length<=c.size∧zaA w b o vs') ∧
   ∀ (w2:World) (I2:Nat->Prop) (vs2:List Value) (ds2:List D) (F2:List Nat),(∀ b,I b->I2 b)->(∀ b,I b->w2.heap[b]? = w.heap[b]?) ->
    (∀ b ∈ R,(∀ o,bo' ≠ some (b,o))->w2.heap[b]? = w.heap[b]?)->(st ≠ []->∀ b o,bo'=some (b,o)->zni w w2 b o vs2) ->
    vs2.length=vs'.length->(st ≠ []->ones vs2)->RepL w2 I2 ι' vs2 ds2 F2 ->
    ∀ cs,upd (fun _=>some ds2) ds st=some cs->∃ G,RepL w2 I2 ι (if st=[] then vs2 else vs) cs G∧G.Perm (F2++R)
 | [],ι,vs,ds,ds',F,bo,h,hn,hf=>by
  cases hf
  refine ⟨vs,bo,ι,F,[],.nil _ _ _,h,fun h=>absurd rfl h,by simp,fun _=>⟨rfl,rfl,rfl,rfl⟩,fun h=>absurd rfl h,?_⟩
  intro w2 I2 vs2 ds2 F2 hI hw hR hP hl ho2 h2 cs hu
  simp only [upd,Option.some.injEq] at hu
  subst hu
  exact ⟨F2,by simpa using h2,by simp⟩
 | (k,i)::r,ι,vs,ds,ds',F,bo,h,hn,hf=>by
  simp only [focus] at hf
  split at hf
  ·rename_i z xs hk
   split at hf
   ·rename_i x hx
    obtain ⟨va,v,vb,Fa,G0,Fb,rfl,hla,rfl,hva,hv,hvb⟩:=h.at hk
    cases hv with
    | nil=>simp at hx
    | emp=>simp at hx
    | own _ b o n cap _ _ vsb E c Fi hnn hh hs hnc hc hob hr hz =>
    have hxs:=zgT hx
    have hilt:i<xs.length:=(List.getElem?_eq_some_iff.1 hx).1
    have hcl:zaj xs=zaj (xs.take i)++(x.cells++zaj (xs.drop (i + 1))):=by
     conv=>lhs;rw [hxs]
     simp [zav,zaj]
    rw [hcl] at hr
    obtain ⟨u1,u23,G1,G23,rfl,rfl,hl1,hr1,hr23⟩:=hr.split
    obtain ⟨u2,u3,G2,G3,rfl,rfl,hl2,hr2,hr3⟩:=hr23.split
    have hzi:(zaj (xs.take i)).length=i * z:=by
     rw [zaq (fun y hy=>hz y (List.mem_of_mem_take hy)),List.length_take];congr 1;omega
    have hxz:x.cells.length=z:=hz x (List.mem_of_getElem? hx)
    have hu1:u1.length=i * z:=by rw [hl1,hzi]
    have hu2:u2.length=z:=by rw [hl2,hxz]
    have hc2:zaA w b (o + i * z) u2:=by have:=hc.right.left;rwa [hu1] at this
    have hon2:ones u2:=hob.right.left
    have hvk:(va++Value.slice (some ⟨b,o,none⟩) n cap::vb)[k]? = some (Value.slice (some ⟨b,o,none⟩) n cap):=by
     rw [List.getElem?_append_right (by omega)];simp [hla]
    have hnd:(b::(G1++(G2++G3))).Nodup:=by
     have:=(List.nodup_append.1 hn).2.1
     exact (List.nodup_append.1 this).1
    have hnd2:G2.Nodup:=by
     have:=(List.nodup_cons.1 hnd).2
     exact (List.nodup_append.1 (List.nodup_append.1 this).2.1).1
    obtain ⟨vs',bo',ι',F',R,hFoc,hrep,hones,hperm,hnil,hcons,hre⟩:=zcJ r (some (b,o + i * z)) hr2 hnd2 hf
    have hpermAll:(Fa++(b::(G1++(G2++G3))++Fb)).Perm (F'++(b::(R++(Fa++(G1++(G3++Fb)))))):=by
     have e1:(Fa++(b::(G1++(G2++G3))++Fb)).Perm (G2++(b::(Fa++(G1++(G3++Fb))))):=by
      rw [List.perm_iff_count];intro a;simp [List.count_append,List.count_cons];omega
     have e2:(G2++(b::(Fa++(G1++(G3++Fb))))).Perm ((F'++R)++(b::(Fa++(G1++(G3++Fb))))):=hperm.append_right _
     refine e1.trans (e2.trans ?_)
     rw [List.perm_iff_count];intro a;simp [List.count_append,List.count_cons];omega
    refine ⟨vs',bo',ι',F',b::(R++(Fa++(G1++(G3++Fb)))),.cons _ _ _ _ _ _ _ _ _ _ _ _ _ _ _ _ _ hvk hk hx hc2 hu2 hFoc,hrep,?_,hpermAll,fun h=>by simp at h,?_,?_⟩
    ·intro _
     cases r with
     | nil=>rw [(hnil rfl).1];exact hon2
     | cons s r=>exact hones (by simp)
    ·intro _
     cases r with
     | nil =>
      obtain ⟨e1,e2,e3,_⟩:=hnil rfl
      refine ⟨e3,b,o + i * z,c,E,e2,List.mem_cons_self ..,hh,?_,?_⟩
      ·rw [e1,hu2]
       have hmul:(i + 1) * z<=cap * z:=Nat.mul_le_mul_right z (by omega)
       have:(i + 1) * z=i * z + z:=Nat.succ_mul i z
       omega
      ·rw [e1];exact hc2
     | cons s r =>
      obtain ⟨e1,b',o',c',E',e2,hb',rest⟩:=hcons (by simp)
      exact ⟨e1,b',o',c',E',e2,List.mem_cons_of_mem _ (mAL _ hb'),rest⟩
    ·intro w2 I2 vs2 ds2 F2 hI hw hR hP hl ho2 h2 cs hu
     simp only [upd,hk,hx] at hu
     split at hu
     ·rename_i cs' hu'
      simp only [Option.some.injEq] at hu
      subst hu
      have hRne:∀ y,y ∈ R++(Fa++(G1++(G3++Fb)))->y ≠ b:=by
       intro y hy e
       subst e
       have hn':=hpermAll.nodup_iff.1 hn
       have hn2:=(List.nodup_append.1 hn').2.1
       exact (List.nodup_cons.1 hn2).1 hy
      have hsub:∃ G,RepL w2 I2 [] (if r=[] then vs2 else u2) cs' G∧G.Perm (F2++R):=by
       refine hre w2 I2 vs2 ds2 F2 hI hw ?_ ?_ hl (fun _=>ho2 (by simp)) h2 cs' hu'
       ·intro y hy hne
        exact hR y (List.mem_cons_of_mem _ (mAL _ hy)) hne
       ·intro hr b' o' e
        exact hP (by simp) b' o' e
      obtain ⟨G,hG,hGp⟩:=hsub
      have hother:∀ y,y ∈ Fa++(G1++(G3++Fb))->w2.heap[y]? = w.heap[y]? := by
       intro y hy
       refine hR y (List.mem_cons_of_mem _ (mAR _ hy)) ?_
       intro o' e
       cases r with
       | nil =>
        obtain ⟨_,e2,_⟩:=hnil rfl
        rw [e2] at e
        simp only [Option.some.injEq,Prod.mk.injEq] at e
        exact hRne y (mAR _ hy) e.1.symm
       | cons s r =>
        obtain ⟨_,b',o'',c',E',e2,hb',_⟩:=hcons (by simp)
        rw [e2] at e
        simp only [Option.some.injEq,Prod.mk.injEq] at e
        obtain ⟨rfl,_⟩:=e
        have hn':=hpermAll.nodup_iff.1 hn
        have hn2:=(List.nodup_cons.1 (List.nodup_append.1 hn').2.1).2
        exact (List.nodup_append.1 hn2).2.2 _ hb' _ hy rfl
      have hblock:∃ c2,w2.heap[b]? = some (.cells c2 E (0,0))∧c2.size=c.size∧zaA w2 b o (u1++((if r=[] then vs2 else u2)++u3)):=by
       cases r with
       | nil =>
        obtain ⟨e1,e2,_⟩:=hnil rfl
        have hp:=hP (by simp) b (o + i * z) e2
        have hvl:vs2.length=z:=by rw [hl,e1,hu2]
        have hp':=hp
        obtain ⟨c0,E0,c2,k1,k2,k3,k4,k5⟩:=hp
        rw [hh] at k1
        simp only [Option.some.injEq,Obj.cells.injEq] at k1
        obtain ⟨rfl,rfl,_⟩:=k1
        refine ⟨c2,k2,k3,?_⟩
        simp only [if_true]
        refine (hp'.cellsAt hc.left (.inl (by omega))).append ?_
        rw [hu1]
        refine k5.append ?_
        have h3:=hc.right.right
        rw [hu1,hu2] at h3
        rw [hvl]
        exact hp'.cellsAt h3 (.inr (by omega))
       | cons s r =>
        have hb:w2.heap[b]? = w.heap[b]? := by
         refine hR b (List.mem_cons_self ..) ?_
         intro o' e
         obtain ⟨_,b',o'',c',E',e2,hb',_⟩:=hcons (by simp)
         rw [e2] at e
         simp only [Option.some.injEq,Prod.mk.injEq] at e
         exact hRne b' (mAL _ hb') e.1
        exact ⟨c,hb.trans hh,rfl,by simpa using hc.frame hb⟩
      obtain ⟨c2,hb2,hs2,hcell⟩:=hblock
      have hcsl:cs'.length=z:=by
       rw [<- hG.length]
       split
       ·rename_i e;subst e;rw [hl,(hnil rfl).1,hu2]
       ·exact hu2
      have hon':ones (if r=[] then vs2 else u2):=by
       split
       ·exact ho2 (by simp)
       ·exact hon2
      have hwc:(x.withCells cs').cells=cs':=by
       cases x with
       | agg _=>rfl
       | _ =>
        simp only [D.cells,List.length_cons,List.length_nil] at hxz
        obtain ⟨y,rfl⟩:∃ y,cs'=[y]:=by
         match cs',hcsl with
         | [y],_=>exact ⟨y,rfl⟩
         | [],e=>simp at e;omega
         | _::_::_,e=>simp at e;omega
        obtain ⟨v0,e0,hv0⟩:=hG.of_one
        simp only [D.withCells,List.headD_cons]
        exact hv0.cells_one (hon' v0 (by rw [e0];simp))
      have hnew:zaj (xs.set i (x.withCells cs'))=zaj (xs.take i)++(cs'++zaj (xs.drop (i + 1))):=by
       rw [zie _ hx];simp [zav,zaj,hwc]
      have fr:∀ {ι:List Nat} {a:List Value} {d:List D} {Fx:List Nat},RepL w I ι a d Fx->(∀ y ∈ Fx,y ∈ Fa++(G1++(G3++Fb)))->RepL w2 I2 ι a d Fx :=
       fun hx hsub=>hx.frame hI hw (fun y hy=>hother y (hsub y hy))
      have hown:Rep w2 I2 ι (.slice (some ⟨b,o,none⟩) n cap) (.sl true z (xs.set i (x.withCells cs'))) (b::(G1++(G++G3))):=by
       refine .own _ b o n cap z _ _ E c2 _ (by simpa using hnn) hb2 (by omega) hnc hcell ((hob.left).append (hon'.append hob.right.right)) ?_ ?_
       ·rw [hnew]
        exact (fr hr1 (fun y hy=>by simp [hy])).append (hG.append (fr hr3 (fun y hy=>by simp [hy])))
       ·intro y hy
        rcases List.mem_or_eq_of_mem_set hy with hy|rfl
        ·exact hz y hy
        ·rw [hwc];exact hcsl
      rw [if_neg (by simp)]
      rw [zie _ hk]
      refine ⟨Fa++((b::(G1++(G++G3)))++Fb),(fr hva (fun y hy=>by simp [hy])).append (.cons _ _ _ _ _ _ _ hown (fr hvb (fun y hy=>by simp [hy]))),?_⟩
      have e1:(Fa++((b::(G1++(G++G3)))++Fb)).Perm (G++(b::(Fa++(G1++(G3++Fb))))):=by
       rw [List.perm_iff_count];intro a;simp [List.count_append,List.count_cons];omega
      refine e1.trans ((hGp.append_right _).trans ?_)
      rw [List.perm_iff_count];intro a;simp [List.count_append,List.count_cons];omega
     ·cases hu
   ·cases hf
  ·cases hf
end Go.Vx
namespace Go.Vx
structure Ext (S:Nat->Prop) (w w2:World):Prop where
 os:w2.os=w.os
 tape:w2.tape=w.tape
 output:w2.output=w.output
 size:w.heap.size<=w2.heap.size
 block:∀ k,k<w.heap.size->¬ S k->w2.heap[k]? = w.heap[k]?
theorem Ext.refl (S:Nat->Prop) (w:World):Ext S w w:=⟨rfl,rfl,rfl,Nat.le_refl _,fun _ _ _=>rfl⟩
theorem Ext.trans {S S':Nat->Prop} {a b c:World} (h:Ext S a b) (k:Ext S' b c) (hS:∀ x,x<a.heap.size->S' x->S x):Ext S a c :=
 ⟨k.os.trans h.os,k.tape.trans h.tape,k.output.trans h.output,Nat.le_trans h.size k.size,fun x hx hs =>
  (k.block x (Nat.lt_of_lt_of_le hx h.size) (fun e=>hs (hS x hx e))).trans (h.block x hx hs)⟩
theorem Ext.mono {S S':Nat->Prop} {a b:World} (h:Ext S a b) (hS:∀ x,S x->S' x):Ext S' a b :=
 ⟨h.os,h.tape,h.output,h.size,fun x hx hs=>h.block x hx (fun e=>hs (hS x e))⟩
structure Env where
 w0:World
 I0:Nat->Prop
 F0:List Nat
 pin:List (Nat × Value)
 i0:List Nat
def zif (w:World) (I:Nat->Prop) (ι:List Nat) (b:Nat) (cs:List D) (F:List Nat):Prop :=
 ∃ c T G,w.heap[b]? = some (.cells c T (0,0))∧RepL w I ι c.toList cs G∧ones c.toList∧F=b::G
def zdb (w:World) (I:Nat->Prop) (ι:List Nat) (v:Value):SV->List Nat->Prop
 | .d x,F=>Rep w I ι v x F
 | .box cs,F=>∃ b,v=.pointer (some ⟨b,0,none⟩)∧zif w I ι b cs F
 | _,F=>F=[]
def zgU (u:Value) (z lo hi:Nat):Value :=
 match u with
 | .slice (some a) n cap=>.slice (if cap=lo then some a else some (a.add (lo * z))) (hi - lo) (cap - lo)
 | .slice none n cap=>.slice none (hi - lo) (cap - lo)
 | u=>u
def zig (vs:List Value) (ds:List D) (off:Nat):BK->Value->Prop
 | .one,v=>vs[off]? = some v
 | .many n,v=>off + n<=vs.length∧ones ((vs.drop off).take n)∧v=.agg ((vs.drop off).take n).toArray
 | .cut lo hi,v=>∃ u,vs[off]? = some u∧∀ o z xs,ds[off]? = some (.sl o z xs)->v=zgU u z lo hi
def zaC (w:World) (a:Act) (s:St) (ι:List Nat):Root->List Value->List D->Option (Nat × Nat)->Prop
 | .slot t,vs,ds,bo =>
  (∃ b c T,s.sl[t]? = some (.box ds)∧a.tmps.getD t undef=.pointer (some ⟨b,0,none⟩)∧w.heap[b]? = some (.cells c T (0,0))∧vs=c.toList∧bo=some (b,0)) ∨
  (∃ x,s.sl[t]? = some (.d x)∧vs=[a.tmps.getD t undef]∧ds=[x]∧bo=none)
 | .sto r,vs,ds,bo=>∃ b c T,s.sto[r]? = some ds∧ι[r]? = some b∧w.heap[b]? = some (.cells c T (0,0))∧vs=c.toList∧bo=some (b,0)
def zgf (w:World) (a:Act) (s:St) (ι:List Nat) (v:Value):SV->Prop
 | .bor p k=>∀ vs ds bo vs' ds' bo',zaC w a s ι p.root vs ds bo->Foc w vs ds bo p.steps vs' ds' bo'->zig vs' ds' p.off k v
 | .ptr p=>∀ vs ds bo vs' ds' bo',zaC w a s ι p.root vs ds bo->Foc w vs ds bo p.steps vs' ds' bo'->∃ b o,bo'=some (b,o)∧v=.pointer (some ⟨b,o + p.off,none⟩)
 | _=>True
structure Sim (E:Env) (hand:List Nat) (a:Act) (w:World) (s:St) (I:Nat->Prop) (ι:List Nat) (Fs Gs:List (List Nat)):Prop where
 defers:a.defers=[]
 size:a.tmps.size=s.sl.length
 lenF:Fs.length=s.sl.length
 lenG:Gs.length=s.sto.length
 lenI:ι.length=s.sto.length
 slot:∀ t sv,s.sl[t]? = some sv->zdb w I ι (a.tmps.getD t undef) sv (Fs.getD t [])
 good:∀ t sv,s.sl[t]? = some sv->zgf w a s ι (a.tmps.getD t undef) sv
 sto:∀ r cs,s.sto[r]? = some cs->zif w I ι (ι.getD r 0) cs (Gs.getD r [])
 nodup:(Fs.flatten++(Gs.flatten++hand)).Nodup
 apart:∀ b ∈ Fs.flatten++(Gs.flatten++hand),¬ I b∧(b ∈ E.F0 ∨ E.w0.heap.size<=b)∧b<w.heap.size
 imm:∀ b,I b->b<w.heap.size∧(E.I0 b ∨ b ∈ E.F0 ∨ E.w0.heap.size<=b)
 immUp:∀ b,E.I0 b->I b
 ext:Ext (· ∈ E.F0) E.w0 w
 pin:∀ t v,(t,v) ∈ E.pin->a.tmps[t]? = some v
 rooted:∀ (t:Nat) (sv:SV) (u:Nat),s.sl[t]? = some sv->sv.into u=true->∃ x:SV,s.sl[u]? = some x∧x.isRoot=true∧(∀ p:Place,sv=.ptr p->p.steps=[]->∃ cs,x=.box cs)
 stoUp:∀ (r b:Nat),E.i0[r]? = some b->ι[r]? = some b
theorem zfx {α:Type} {Fs:List (List α)} {t:Nat} {F:List α} (h:Fs[t]? = some F) :
  ∃ R,Fs.flatten.Perm (F++R)∧∀ F',(Fs.set t F').flatten.Perm (F'++R):=by
 refine ⟨(Fs.take t).flatten++(Fs.drop (t + 1)).flatten,?_,fun F'=>?_⟩
 ·conv=>lhs;rw [zgT h]
  simp only [List.flatten_append,List.flatten_cons]
  exact (List.perm_append_comm_assoc _ _ _)
 ·rw [zie _ h]
  simp only [List.flatten_append,List.flatten_cons]
  exact (List.perm_append_comm_assoc _ _ _)
theorem zgV {α:Type} {l:List α} {t:Nat} {x d:α} (h:l[t]? = some x):l.getD t d=x:=by simp [List.getD,h]
theorem zaQ {α:Type} {l:List α} {t:Nat} (d:α) (h:t<l.length):l[t]? = some (l.getD t d):=by simp [List.getD,List.getElem?_eq_getElem h]
theorem Foc.frame {w w2:World} {I:Nat->Prop} {vs:List Value} {ds:List D} {bo:Option (Nat × Nat)} {st:List (Nat × Nat)} {vs':List Value} {ds':List D} {bo':Option (Nat × Nat)}
  (h:Foc w2 vs ds bo st vs' ds' bo'):∀ {ι:List Nat} {F:List Nat},RepL w I ι vs ds F->(∀ b ∈ F,w2.heap[b]? = w.heap[b]?)->Foc w vs ds bo st vs' ds' bo':=by
 induction h with
 | nil=>intros;exact .nil _ _ _
 | cons vs ds bo k i r b o n cap z xs x vs1 vs' ds' bo' hv hd hx hc hl _ ih =>
  intro ι F hr hb
  obtain ⟨va,v,vb,Fa,G0,Fb,e,hla,rfl,hva,hrv,hvb⟩:=hr.at hd
  have:v=.slice (some ⟨b,o,none⟩) n cap:=by
   rw [e,List.getElem?_append_right (by omega)] at hv
   simpa [hla] using hv
  subst this
  cases hrv with
  | emp=>simp at hx
  | own _ _ _ _ _ _ _ vsb Ec c Fi hnn hh hs hnc hcb hob hrb hz =>
   have hbF:w2.heap[b]? = w.heap[b]? := hb b (by simp)
   have hcl:zaj xs=zaj (xs.take i)++(x.cells++zaj (xs.drop (i + 1))):=by
    conv=>lhs;rw [zgT hx]
    simp [zav,zaj]
   rw [hcl] at hrb
   obtain ⟨u1,u23,G1,G23,rfl,rfl,hl1,hr1,hr23⟩:=hrb.split
   obtain ⟨u2,u3,G2,G3,rfl,rfl,hl2,hr2,hr3⟩:=hr23.split
   have hilt:i<xs.length:=(List.getElem?_eq_some_iff.1 hx).1
   have hzi:u1.length=i * z:=by
    rw [hl1,zaq (fun y hy=>hz y (List.mem_of_mem_take hy)),List.length_take];congr 1;omega
   have hc':zaA w b (o + i * z) vs1:=hc.frame hbF.symm
   have hc2:zaA w b (o + i * z) u2:=by have:=hcb.right.left;rwa [hzi] at this
   have hxz:x.cells.length=z:=hz x (List.mem_of_getElem? hx)
   obtain rfl:=zaA.unique hc' hc2 (by omega)
   exact .cons _ _ _ _ _ _ _ _ _ _ _ _ _ _ _ _ _ hv hd hx hc' hl (ih hr2 (fun y hy=>hb y (by simp [hy])))
section
variable {E:Env} {hand:List Nat} {a:Act} {w:World} {s:St} {I:Nat->Prop} {ι:List Nat} {Fs Gs:List (List Nat)}
theorem Sim.memF (h:Sim E hand a w s I ι Fs Gs) {t:Nat} {b:Nat} (hb:b ∈ Fs.getD t []):b ∈ Fs.flatten:=by
 by_cases ht:t<Fs.length
 ·exact List.mem_flatten.2 ⟨_,List.mem_of_getElem? (zaQ [] ht),hb⟩
 ·simp [List.getD,List.getElem?_eq_none_iff.2 (Nat.le_of_not_lt ht)] at hb
theorem Sim.memG (h:Sim E hand a w s I ι Fs Gs) {t:Nat} {b:Nat} (hb:b ∈ Gs.getD t []):b ∈ Gs.flatten:=by
 by_cases ht:t<Gs.length
 ·exact List.mem_flatten.2 ⟨_,List.mem_of_getElem? (zaQ [] ht),hb⟩
 ·simp [List.getD,List.getElem?_eq_none_iff.2 (Nat.le_of_not_lt ht)] at hb
theorem zif.frame {w w':World} {I I':Nat->Prop} {ι:List Nat} {b:Nat} {cs:List D} {F:List Nat} (hI:∀ b,I b->I' b) (hw:∀ b,I b->w'.heap[b]? = w.heap[b]?)
  (h:zif w I ι b cs F) (hF:∀ b ∈ F,w'.heap[b]? = w.heap[b]?):zif w' I' ι b cs F:=by
 obtain ⟨c,T,G,hh,hr,ho,rfl⟩:=h
 exact ⟨c,T,G,(hF b (List.mem_cons_self ..)).trans hh,hr.frame hI hw (fun x hx=>hF x (List.mem_cons_of_mem _ hx)),ho,rfl⟩
theorem zdb.frame {w w':World} {I I':Nat->Prop} {ι:List Nat} {v:Value} {sv:SV} {F:List Nat} (hI:∀ b,I b->I' b) (hw:∀ b,I b->w'.heap[b]? = w.heap[b]?)
  (h:zdb w I ι v sv F) (hF:∀ b ∈ F,w'.heap[b]? = w.heap[b]?):zdb w' I' ι v sv F:=by
 cases sv with
 | d x=>exact Rep.frame hI hw h hF
 | box cs=>obtain ⟨b,hv,hb⟩:=h;exact ⟨b,hv,hb.frame hI hw hF⟩
 | bor p k=>exact h
 | ptr p=>exact h
theorem Sim.rootIs (h:Sim E hand a w s I ι Fs Gs) {r:Root} {vs:List Value} {ds:List D} {bo:Option (Nat × Nat)} (hr:zaC w a s ι r vs ds bo) :
  ∃ F,RepL w I ι vs ds F∧(∀ b ∈ F,b ∈ Fs.flatten++Gs.flatten)∧(∀ b o,bo=some (b,o)->b ∈ Fs.flatten++Gs.flatten):=by
 cases r with
 | slot t =>
  rcases hr with ⟨b,c,T,hs,hv,hh,rfl,rfl⟩|⟨x,hs,rfl,rfl,rfl⟩
  ·obtain ⟨b',hv',c',T',G,hh',hr,ho,hF⟩:=h.slot t _ hs
   rw [hv] at hv'
   simp only [Value.pointer.injEq,Option.some.injEq,Addr.mk.injEq,and_true] at hv'
   subst hv'
   rw [hh] at hh'
   simp only [Option.some.injEq,Obj.cells.injEq,and_true] at hh'
   obtain ⟨rfl,rfl⟩:=hh'
   refine ⟨G,hr,fun x hx=>mAL _ (h.memF (t:=t) (by rw [hF];exact List.mem_cons_of_mem _ hx)),?_⟩
   intro b1 o e
   simp only [Option.some.injEq,Prod.mk.injEq] at e
   obtain ⟨rfl,_⟩:=e
   exact mAL _ (h.memF (t:=t) (by rw [hF];exact List.mem_cons_self ..))
  ·exact ⟨_,RepL.one (h.slot t _ hs),fun x hx=>mAL _ (h.memF hx),fun b o e=>by cases e⟩
 | sto r =>
  obtain ⟨b,c,T,hs,hi,hh,rfl,rfl⟩:=hr
  obtain ⟨c',T',G,hh',hr,ho,hF⟩:=h.sto r _ hs
  rw [zgV hi] at hh' hF
  rw [hh] at hh'
  simp only [Option.some.injEq,Obj.cells.injEq,and_true] at hh'
  obtain ⟨rfl,rfl⟩:=hh'
  refine ⟨G,hr,fun x hx=>mAR _ (h.memG (t:=r) (by rw [hF];exact List.mem_cons_of_mem _ hx)),?_⟩
  intro b1 o e
  simp only [Option.some.injEq,Prod.mk.injEq] at e
  obtain ⟨rfl,_⟩:=e
  exact mAR _ (h.memG (t:=r) (by rw [hF];exact List.mem_cons_self ..))
theorem zaC.back {w w2:World} {r:Root} {vs:List Value} {ds:List D} {bo:Option (Nat × Nat)} (h:zaC w2 a s ι r vs ds bo)
  (hb:∀ b o,bo=some (b,o)->w2.heap[b]? = w.heap[b]?):zaC w a s ι r vs ds bo:=by
 cases r with
 | slot t =>
  rcases h with ⟨b,c,T,hs,hv,hh,h1,rfl⟩|h
  ·exact .inl ⟨b,c,T,hs,hv,by rw [<- hb b 0 rfl];exact hh,h1,rfl⟩
  ·exact .inr h
 | sto r =>
  obtain ⟨b,c,T,hs,hi,hh,h1,rfl⟩:=h
  exact ⟨b,c,T,hs,hi,by rw [<- hb b 0 rfl];exact hh,h1,rfl⟩
theorem Sim.rootBlock (h:Sim E hand a w s I ι Fs Gs) {w2:World} {r:Root} {vs:List Value} {ds:List D} {bo:Option (Nat × Nat)} (hr:zaC w2 a s ι r vs ds bo) :
  ∀ b o,bo=some (b,o)->b ∈ Fs.flatten++Gs.flatten:=by
 intro b o e
 cases r with
 | slot t =>
  rcases hr with ⟨b',c,T,hs,hv,hh,_,rfl⟩|⟨x,hs,_,_,rfl⟩
  ·simp only [Option.some.injEq,Prod.mk.injEq] at e
   obtain ⟨rfl,_⟩:=e
   obtain ⟨b1,hv',c',T',G,hh',hr,ho,hF⟩:=h.slot t _ hs
   rw [hv] at hv'
   simp only [Value.pointer.injEq,Option.some.injEq,Addr.mk.injEq,and_true] at hv'
   subst hv'
   exact mAL _ (h.memF (t:=t) (by rw [hF];exact List.mem_cons_self ..))
  ·cases e
 | sto r =>
  obtain ⟨b',c,T,hs,hi,hh,_,rfl⟩:=hr
  simp only [Option.some.injEq,Prod.mk.injEq] at e
  obtain ⟨rfl,_⟩:=e
  obtain ⟨c',T',G,hh',hr,ho,hF⟩:=h.sto r _ hs
  rw [zgV hi] at hF
  exact mAR _ (h.memG (t:=r) (by rw [hF];exact List.mem_cons_self ..))
theorem Sim.world (h:Sim E hand a w s I ι Fs Gs) {w2:World} {I2:Nat->Prop} {hand2:List Nat} (hx:Ext (· ∈ hand) w w2) (hI:∀ b,I b->I2 b)
  (hI2:∀ b,I2 b->I b ∨ ((b ∈ hand ∨ w.heap.size<=b)∧b<w2.heap.size)) (hn:hand2.Nodup)
  (hh:∀ b ∈ hand2,¬ I2 b∧(b ∈ hand ∨ w.heap.size<=b)∧b<w2.heap.size):Sim E hand2 a w2 s I2 ι Fs Gs:=by
 have hnh:∀ b,b ∈ Fs.flatten++Gs.flatten->b ∉ hand:=by
  intro b hb hb2
  have hnd:=h.nodup
  rw [<- List.append_assoc] at hnd
  exact (List.nodup_append.1 hnd).2.2 b hb b hb2 rfl
 have hlt:∀ b,b ∈ Fs.flatten++Gs.flatten->b<w.heap.size:=by
  intro b hb
  refine (h.apart b ?_).2.2
  rcases List.mem_append.1 hb with hb|hb
  ·exact mAL _ hb
  ·exact mAR _ (mAL _ hb)
 have hsame:∀ b,b ∈ Fs.flatten++Gs.flatten->w2.heap[b]? = w.heap[b]? := fun b hb=>hx.block b (hlt b hb) (hnh b hb)
 have hIw:∀ b,I b->w2.heap[b]? = w.heap[b]? := fun b hb=>hx.block b (h.imm b hb).1 (fun e=>(h.apart b (mAR _ (mAR _ e))).1 hb)
 have hFs:∀ t b,b ∈ Fs.getD t []->w2.heap[b]? = w.heap[b]? := fun t b hb=>hsame b (mAL _ (h.memF hb))
 have hGs:∀ t b,b ∈ Gs.getD t []->w2.heap[b]? = w.heap[b]? := fun t b hb=>hsame b (mAR _ (h.memG hb))
 refine ⟨h.defers,h.size,h.lenF,h.lenG,h.lenI,?_,?_,?_,?_,?_,?_,?_,?_,h.pin,h.rooted,h.stoUp⟩
 ·exact fun t sv hs=>(h.slot t sv hs).frame hI hIw (hFs t)
 ·intro t sv hs
  have hg:=h.good t sv hs
  have back:∀ {r:Root} {vs:List Value} {ds:List D} {bo:Option (Nat × Nat)} {st:List (Nat × Nat)} {vs':List Value} {ds':List D} {bo':Option (Nat × Nat)},
    zaC w2 a s ι r vs ds bo->Foc w2 vs ds bo st vs' ds' bo'->zaC w a s ι r vs ds bo∧Foc w vs ds bo st vs' ds' bo':=by
   intro r vs ds bo st vs' ds' bo' h1 h2
   have h1':zaC w a s ι r vs ds bo:=h1.back (fun b o e=>hsame b (h.rootBlock h1 b o e))
   obtain ⟨F,hr,hF,_⟩:=h.rootIs h1'
   exact ⟨h1',h2.frame hr (fun b hb=>hsame b (hF b hb))⟩
  cases sv with
  | d x=>trivial
  | box cs=>trivial
  | bor p k=>exact fun vs ds bo vs' ds' bo' h1 h2=>hg vs ds bo vs' ds' bo' (back h1 h2).1 (back h1 h2).2
  | ptr p=>exact fun vs ds bo vs' ds' bo' h1 h2=>hg vs ds bo vs' ds' bo' (back h1 h2).1 (back h1 h2).2
 ·exact fun r cs hs=>(h.sto r cs hs).frame hI hIw (hGs r)
 ·rw [<- List.append_assoc]
  have hnd:=h.nodup
  rw [<- List.append_assoc] at hnd
  refine List.nodup_append.2 ⟨(List.nodup_append.1 hnd).1,hn,?_⟩
  intro x hx1 y hy e
  subst e
  rcases (hh x hy).2.1 with h1|h1
  ·exact hnh x hx1 h1
  ·have:=hlt x hx1;omega
 ·intro b hb
  rw [<- List.append_assoc] at hb
  rcases List.mem_append.1 hb with hb|hb
  ·have hb':b ∈ Fs.flatten++(Gs.flatten++hand):=by rw [<- List.append_assoc];exact mAL _ hb
   refine ⟨fun e=>?_,(h.apart b hb').2.1,Nat.lt_of_lt_of_le (hlt b hb) hx.size⟩
   rcases hI2 b e with e|⟨e|e,_⟩
   ·exact (h.apart b hb').1 e
   ·exact hnh b hb e
   ·have:=hlt b hb;omega
  ·refine ⟨(hh b hb).1,?_,(hh b hb).2.2⟩
   rcases (hh b hb).2.1 with e|e
   ·exact (h.apart b (mAR _ (mAR _ e))).2.1
   ·have:=h.ext.size;exact .inr (by omega)
 ·intro b hb
  rcases hI2 b hb with e|⟨e,hl⟩
  ·exact ⟨Nat.lt_of_lt_of_le (h.imm b e).1 hx.size,(h.imm b e).2⟩
  ·refine ⟨hl,?_⟩
   rcases e with e|e
   ·exact .inr (h.apart b (mAR _ (mAR _ e))).2.1
   ·have:=h.ext.size;exact .inr (.inr (by omega))
 ·exact fun b hb=>hI b (h.immUp b hb)
 ·refine h.ext.trans hx ?_
  intro x hx1 hx2
  rcases (h.apart x (mAR _ (mAR _ hx2))).2.1 with e|e
  ·exact e
  ·omega
end
end Go.Vx
namespace Go.Vx
def FP (Fs Gs:List (List Nat)):Root->List Nat
 | .slot t=>Fs.getD t []
 | .sto r=>Gs.getD r []
inductive NewRoot (s:St) (all:Bool):Root->St->Prop
 | box (n:Nat) (cs cs2:List D):s.sl[n]? = some (.box cs)->NewRoot s all (.slot n) ⟨(s.sl.map (SV.kill (.slot n) all)).set n (.box cs2),s.sto⟩
 | reg (n:Nat) (x y:D):s.sl[n]? = some (.d x)->NewRoot s all (.slot n) ⟨(s.sl.map (SV.kill (.slot n) all)).set n (.d y),s.sto⟩
 | sto (r:Nat) (cs cs2:List D):s.sto[r]? = some cs->NewRoot s all (.sto r) ⟨s.sl.map (SV.kill (.sto r) all),s.sto.set r cs2⟩
section
variable {E:Env} {hand:List Nat} {a:Act} {w:World} {s:St} {I:Nat->Prop} {ι:List Nat} {Fs Gs:List (List Nat)}
theorem SV.kill_box (r:Root) (all:Bool) (cs:List D):SV.kill r all (.box cs)=.box cs:=rfl
theorem SV.kill_d (r:Root) (all:Bool) (x:D):SV.kill r all (.d x)=.d x:=rfl
theorem SV.kill_cases (r:Root) (all:Bool) (v:SV):SV.kill r all v=.d .dead ∨ (SV.kill r all v=v∧(∀ p k,v=.bor p k->p.root ≠ r)∧(∀ p,v=.ptr p->p.root=r->all=false∧p.steps=[])):=by
 cases v with
 | d x=>exact .inr ⟨rfl,fun _ _ h=>(by cases h),fun _ h=>(by cases h)⟩
 | box cs=>exact .inr ⟨rfl,fun _ _ h=>(by cases h),fun _ h=>(by cases h)⟩
 | bor p k =>
  by_cases h:p.root=r
  ·exact .inl (by simp [SV.kill,h])
  ·exact .inr ⟨by simp [SV.kill,h],fun _ _ e=>by cases e;exact h,fun _ e=>by cases e⟩
 | ptr p =>
  by_cases h:p.root=r∧(all=true ∨ p.steps ≠ [])
  ·exact .inl (by simp only [SV.kill,h,and_self,if_true])
  ·refine .inr ⟨by simp only [SV.kill,if_neg h],fun _ _ e=>(by cases e),fun _ e hr=>?_⟩
   cases e
   cases all with
   | true=>exact absurd ⟨hr,.inl rfl⟩ h
   | false =>
    refine ⟨rfl,?_⟩
    cases hp:p.steps with
    | nil=>rfl
    | cons x y=>exact absurd ⟨hr,.inr (by simp [hp])⟩ h
theorem Sim.rootFP (h:Sim E hand a w s I ι Fs Gs) {r:Root} {vs:List Value} {ds:List D} {bo:Option (Nat × Nat)} (hr:zaC w a s ι r vs ds bo) :
  ∃ F,RepL w I ι vs ds F∧(FP Fs Gs r=match bo with|some (b,_)=>b::F|none=>F)∧(∀ b o,bo=some (b,o)->o=0∧ones vs∧∃ c T,w.heap[b]? = some (.cells c T (0,0))∧vs=c.toList):=by
 cases r with
 | slot t =>
  rcases hr with ⟨b,c,T,hs,hv,hh,rfl,rfl⟩|⟨x,hs,rfl,rfl,rfl⟩
  ·obtain ⟨b',hv',c',T',G,hh',hr,ho,hF⟩:=h.slot t _ hs
   rw [hv] at hv'
   simp only [Value.pointer.injEq,Option.some.injEq,Addr.mk.injEq,and_true] at hv'
   subst hv'
   rw [hh] at hh'
   simp only [Option.some.injEq,Obj.cells.injEq,and_true] at hh'
   obtain ⟨rfl,rfl⟩:=hh'
   refine ⟨G,hr,hF,?_⟩
   intro b1 o e
   simp only [Option.some.injEq,Prod.mk.injEq] at e
   obtain ⟨rfl,rfl⟩:=e
   exact ⟨rfl,ho,_,_,hh,rfl⟩
  ·exact ⟨_,RepL.one (h.slot t _ hs),rfl,fun b o e=>by cases e⟩
 | sto r =>
  obtain ⟨b,c,T,hs,hi,hh,rfl,rfl⟩:=hr
  obtain ⟨c',T',G,hh',hr,ho,hF⟩:=h.sto r _ hs
  rw [zgV hi] at hh' hF
  rw [hh] at hh'
  simp only [Option.some.injEq,Obj.cells.injEq,and_true] at hh'
  obtain ⟨rfl,rfl⟩:=hh'
  refine ⟨G,hr,hF,?_⟩
  intro b1 o e
  simp only [Option.some.injEq,Prod.mk.injEq] at e
  obtain ⟨rfl,rfl⟩:=e
  exact ⟨rfl,ho,_,_,hh,rfl⟩
theorem zhS {α:Type} {l:List (List α)} (h:l.flatten.Nodup) {t u:Nat} (hne:t ≠ u) {b:α} (h1:b ∈ l.getD t []) (h2:b ∈ l.getD u []):False:=by
 have lt:∀ {n:Nat},b ∈ l.getD n []->n<l.length:=by
  intro n hn
  refine Nat.lt_of_not_le fun hl=>?_
  simp [List.getD,List.getElem?_eq_none_iff.2 hl] at hn
 obtain ⟨R,hp,hset⟩:=zfx (zaQ [] (lt h1))
 have hn:=hp.nodup_iff.1 h
 refine (List.nodup_append.1 hn).2.2 b h1 b ?_ rfl
 have hmem:b ∈ (l.set t []).flatten:=by
  refine List.mem_flatten.2 ⟨l.getD u [],?_,h2⟩
  refine List.mem_of_getElem? (i:=u) ?_
  rw [List.getElem?_set_ne hne]
  exact zaQ [] (lt h2)
 simpa using (hset []).mem_iff.1 hmem
theorem Sim.FP_sub (h:Sim E hand a w s I ι Fs Gs) {r:Root} {b:Nat} (hb:b ∈ FP Fs Gs r):b ∈ Fs.flatten++Gs.flatten:=by
 cases r with
 | slot t=>exact mAL _ (h.memF hb)
 | sto r=>exact mAR _ (h.memG hb)
theorem Sim.nodup2 (h:Sim E hand a w s I ι Fs Gs):(Fs.flatten++Gs.flatten).Nodup∧hand.Nodup∧∀ b ∈ Fs.flatten++Gs.flatten,b ∉ hand:=by
 have hnd:=h.nodup
 rw [<- List.append_assoc] at hnd
 obtain ⟨h1,h2,h3⟩:=List.nodup_append.1 hnd
 exact ⟨h1,h2,fun b hb hb2=>h3 b hb b hb2 rfl⟩
theorem Sim.FP_apart (h:Sim E hand a w s I ι Fs Gs) {r r':Root} (hne:r ≠ r') {b:Nat} (h1:b ∈ FP Fs Gs r) (h2:b ∈ FP Fs Gs r'):False:=by
 obtain ⟨hn,_,_⟩:=h.nodup2
 obtain ⟨n1,n2,n3⟩:=List.nodup_append.1 hn
 cases r with
 | slot t =>
  cases r' with
  | slot u=>exact zhS n1 (fun e=>hne (by rw [e])) h1 h2
  | sto u=>exact n3 b (h.memF h1) b (h.memG h2) rfl
 | sto t =>
  cases r' with
  | slot u=>exact n3 b (h.memF h2) b (h.memG h1) rfl
  | sto u=>exact zhS n2 (fun e=>hne (by rw [e])) h1 h2
theorem Sim.split (h:Sim E hand a w s I ι Fs Gs) {r:Root} {s2:St} {all:Bool} (hs:NewRoot s all r s2) :
  ∃ R,(Fs.flatten++Gs.flatten).Perm (FP Fs Gs r++R)∧∀ F2,∃ Fs2 Gs2,(Fs2.flatten++Gs2.flatten).Perm (F2++R)∧FP Fs2 Gs2 r=F2∧Fs2.length=Fs.length∧Gs2.length=Gs.length∧∀ r',r' ≠ r->FP Fs2 Gs2 r'=FP Fs Gs r':=by
 have slotCase:∀ {n:Nat},n<s.sl.length->∃ R,(Fs.flatten++Gs.flatten).Perm (FP Fs Gs (.slot n)++R)∧∀ F2,∃ Fs2 Gs2,(Fs2.flatten++Gs2.flatten).Perm (F2++R)∧FP Fs2 Gs2 (.slot n)=F2∧Fs2.length=Fs.length∧Gs2.length=Gs.length∧∀ r',r' ≠ .slot n->FP Fs2 Gs2 r'=FP Fs Gs r':=by
  intro n hn
  have hn':n<Fs.length:=by rw [h.lenF];exact hn
  obtain ⟨R,h1,h2⟩:=zfx (zaQ [] hn')
  refine ⟨R++Gs.flatten,by rw [<- List.append_assoc];exact h1.append_right _,fun F2=>⟨Fs.set n F2,Gs,?_,?_,by simp,rfl,?_⟩⟩
  ·rw [<- List.append_assoc];exact (h2 F2).append_right _
  ·simp [FP,List.getD,List.getElem?_set_self hn']
  ·intro r' hne
   cases r' with
   | slot u=>simp only [FP,List.getD];rw [List.getElem?_set_ne (fun e=>hne (by rw [e]))]
   | sto u=>rfl
 cases hs with
 | box n cs cs2 e=>exact slotCase (List.getElem?_eq_some_iff.1 e).1
 | reg n x y e=>exact slotCase (List.getElem?_eq_some_iff.1 e).1
 | sto n cs cs2 e =>
  have hn':n<Gs.length:=by rw [h.lenG];exact (List.getElem?_eq_some_iff.1 e).1
  obtain ⟨R,h1,h2⟩:=zfx (zaQ [] hn')
  refine ⟨Fs.flatten++R,?_,fun F2=>⟨Fs,Gs.set n F2,?_,?_,rfl,by simp,?_⟩⟩
  ·exact (h1.append_left _).trans (List.perm_append_comm_assoc _ _ _)
  ·exact ((h2 F2).append_left _).trans (List.perm_append_comm_assoc _ _ _)
  ·simp [FP,List.getD,List.getElem?_set_self hn']
  ·intro r' hne
   cases r' with
   | sto u=>simp only [FP,List.getD];rw [List.getElem?_set_ne (fun e=>hne (by rw [e]))]
   | slot u=>rfl
theorem NewRoot.length {all:Bool} {r:Root} {s2:St} (h:NewRoot s all r s2):s2.sl.length=s.sl.length∧s2.sto.length=s.sto.length:=by cases h <;> simp
theorem NewRoot.slot {all:Bool} {r:Root} {s2:St} (h:NewRoot s all r s2) {t:Nat} {sv2:SV} (he:s2.sl[t]? = some sv2) (hne:r ≠ .slot t) :
  ∃ sv,s.sl[t]? = some sv∧sv2=SV.kill r all sv:=by
 cases h with
 | box n cs cs2 e =>
  have:n ≠ t:=fun e=>hne (by rw [e])
  simp only [List.getElem?_set_ne this,List.getElem?_map,Option.map_eq_some_iff] at he
  obtain ⟨sv,h1,h2⟩:=he
  exact ⟨sv,h1,h2.symm⟩
 | reg n x y e =>
  have:n ≠ t:=fun e=>hne (by rw [e])
  simp only [List.getElem?_set_ne this,List.getElem?_map,Option.map_eq_some_iff] at he
  obtain ⟨sv,h1,h2⟩:=he
  exact ⟨sv,h1,h2.symm⟩
 | sto n cs cs2 e =>
  simp only [List.getElem?_map,Option.map_eq_some_iff] at he
  obtain ⟨sv,h1,h2⟩:=he
  exact ⟨sv,h1,h2.symm⟩
theorem NewRoot.self {all:Bool} {t:Nat} {s2:St} (h:NewRoot s all (.slot t) s2) {sv2:SV} (he:s2.sl[t]? = some sv2):(∃ cs cs2,s.sl[t]? = some (.box cs)∧sv2=.box cs2) ∨ (∃ x y,s.sl[t]? = some (.d x)∧sv2=.d y):=by
 cases h with
 | box n cs cs2 e =>
  have hlt:=(List.getElem?_eq_some_iff.1 e).1
  rw [List.getElem?_set_self (by simpa using hlt)] at he
  exact .inl ⟨cs,cs2,e,by simpa using he.symm⟩
 | reg n x y e =>
  have hlt:=(List.getElem?_eq_some_iff.1 e).1
  rw [List.getElem?_set_self (by simpa using hlt)] at he
  exact .inr ⟨x,y,e,by simpa using he.symm⟩
theorem NewRoot.other {all:Bool} {r r':Root} {s2:St} (h:NewRoot s all r s2) (hne:r' ≠ r) {w2:World} {vs:List Value} {ds:List D} {bo:Option (Nat × Nat)}
  (hroot:∀ u,r'=.slot u->∃ x,s.sl[u]? = some x∧x.isRoot=true) (hr:zaC w2 a s2 ι r' vs ds bo):zaC w2 a s ι r' vs ds bo:=by
 cases r' with
 | slot u =>
  have key:∀ {sv2:SV},s2.sl[u]? = some sv2->(∃ cs,sv2=.box cs) ∨ (∃ x,sv2=.d x)->s.sl[u]? = some sv2 ∨ sv2=.d .dead:=by
   intro sv2 he hb
   obtain ⟨sv,h1,rfl⟩:=h.slot he (fun e=>hne e.symm)
   rcases SV.kill_cases r all sv with hk|⟨hk,_⟩
   ·exact .inr hk
   ·rw [hk];exact .inl h1
  rcases hr with ⟨b,c,T,hs,hv,hh,h1,h2⟩|⟨x,hs,h1,h2,h3⟩
  ·rcases key hs (.inl ⟨_,rfl⟩) with e|e
   ·exact .inl ⟨b,c,T,e,hv,hh,h1,h2⟩
   ·cases e
  ·obtain ⟨sv,g1,g2⟩:=h.slot hs (fun e=>hne e.symm)
   cases sv with
   | d y=>simp only [SV.kill_d,SV.d.injEq] at g2;subst g2;exact .inr ⟨x,g1,h1,h2,h3⟩
   | box cs=>simp [SV.kill_box] at g2
   | bor p k=>obtain ⟨x,e1,e2⟩:=hroot u rfl;rw [g1] at e1;cases e1;cases e2
   | ptr p=>obtain ⟨x,e1,e2⟩:=hroot u rfl;rw [g1] at e1;cases e1;cases e2
 | sto u =>
  obtain ⟨b,c,T,hs,hi,hh,h1,h2⟩:=hr
  refine ⟨b,c,T,?_,hi,hh,h1,h2⟩
  cases h with
  | box n cs cs2 e=>exact hs
  | reg n x y e=>exact hs
  | sto n cs cs2 e =>
   rw [List.getElem?_set_ne (fun e=>hne (by rw [e]))] at hs
   exact hs
theorem Root.ne_of_into {sv:SV} {u:Nat}:sv.into u=true->(∃ p k,sv=.bor p k∧p.root=.slot u) ∨ (∃ p,sv=.ptr p∧p.root=.slot u):=by
 intro h
 cases sv with
 | d x=>cases h
 | box cs=>cases h
 | bor p k=>exact .inl ⟨p,k,rfl,by simpa [SV.into] using h⟩
 | ptr p=>exact .inr ⟨p,rfl,by simpa [SV.into] using h⟩
theorem getElem?_lt {α:Type} {l:List α} {n:Nat} {x:α} (h:l[n]? = some x):n<l.length:=(List.getElem?_eq_some_iff.1 h).1
theorem Sim.reroot (h:Sim E hand a w s I ι Fs Gs) {r:Root} {all:Bool} {s2:St} (hs:NewRoot s all r s2) {w2:World} {I2:Nat->Prop} {hand2 F2:List Nat}
  (hx:Ext (fun b=>b ∈ FP Fs Gs r ∨ b ∈ hand) w w2) (hI:∀ b,I b->I2 b)
  (hI2:∀ b,I2 b->I b ∨ ((b ∈ FP Fs Gs r ∨ b ∈ hand ∨ w.heap.size<=b)∧b<w2.heap.size)) (hn:(F2++hand2).Nodup)
  (hh:∀ b ∈ F2++hand2,¬ I2 b∧(b ∈ FP Fs Gs r ∨ b ∈ hand ∨ w.heap.size<=b)∧b<w2.heap.size)
  (hslot:∀ n sv,r=.slot n->s2.sl[n]? = some sv->zdb w2 I2 ι (a.tmps.getD n undef) sv F2)
  (hsto:∀ n cs,r=.sto n->s2.sto[n]? = some cs->zif w2 I2 ι (ι.getD n 0) cs F2) :
  ∃ Fs2 Gs2,Sim E hand2 a w2 s2 I2 ι Fs2 Gs2∧FP Fs2 Gs2 r=F2∧(∀ r',r' ≠ r->FP Fs2 Gs2 r'=FP Fs Gs r') ∧
   ∃ R,(Fs.flatten++Gs.flatten).Perm (FP Fs Gs r++R)∧(Fs2.flatten++Gs2.flatten).Perm (F2++R):=by
 obtain ⟨R,hR,hR2⟩:=h.split hs
 obtain ⟨Fs2,Gs2,hp2,hF2,hl1,hl2,hoth⟩:=hR2 F2
 obtain ⟨n1,n2,n3⟩:=h.nodup2
 obtain ⟨len1,len2⟩:=hs.length
 have hlt:∀ b,b ∈ Fs.flatten++Gs.flatten->b<w.heap.size:=by
  intro b hb
  refine (h.apart b ?_).2.2
  rw [<- List.append_assoc];exact mAL _ hb
 have hap:∀ b,b ∈ Fs.flatten++Gs.flatten->¬ I b∧(b ∈ E.F0 ∨ E.w0.heap.size<=b):=by
  intro b hb
  have:=h.apart b (by rw [<- List.append_assoc];exact mAL _ hb)
  exact ⟨this.1,this.2.1⟩
 have hRin:∀ b,b ∈ R->b ∈ Fs.flatten++Gs.flatten:=fun b hb=>hR.mem_iff.2 (mAR _ hb)
 have hRout:∀ b,b ∈ R->b ∉ FP Fs Gs r:=by
  intro b hb hb2
  exact (List.nodup_append.1 (hR.nodup_iff.1 n1)).2.2 b hb2 b hb rfl
 have hsame:∀ b,b ∈ Fs.flatten++Gs.flatten->b ∉ FP Fs Gs r->w2.heap[b]? = w.heap[b]? := fun b hb h2=>hx.block b (hlt b hb) (fun e=>e.elim h2 (n3 b hb))
 have hIw:∀ b,I b->w2.heap[b]? = w.heap[b]? := fun b hb=>hx.block b (h.imm b hb).1 (fun e=>e.elim
  (fun e=>(hap b (h.FP_sub e)).1 hb) (fun e=>(h.apart b (mAR _ (mAR _ e))).1 hb))
 have hsameO:∀ r',r' ≠ r->∀ b ∈ FP Fs Gs r',w2.heap[b]? = w.heap[b]? := fun r' hne b hb=>hsame b (h.FP_sub hb) (fun e=>h.FP_apart hne hb e)
 refine ⟨Fs2,Gs2,?_,hF2,hoth,R,hR,hp2⟩
 refine ⟨h.defers,h.size.trans len1.symm,hl1.trans (h.lenF.trans len1.symm),hl2.trans (h.lenG.trans len2.symm),h.lenI.trans len2.symm,?_,?_,?_,?_,?_,?_,?_,?_,h.pin,?_,h.stoUp⟩
 ·intro t sv ht
  by_cases hr:r=.slot t
  ·subst hr
   have:=hslot t sv rfl ht
   rw [<- hF2] at this
   exact this
  ·obtain ⟨sv0,h0,rfl⟩:=hs.slot ht hr
   have hF:Fs2.getD t []=Fs.getD t []:=hoth (.slot t) (fun e=>hr e.symm)
   rw [hF]
   have hr0:=(h.slot t sv0 h0).frame hI hIw (hsameO (.slot t) (fun e=>hr e.symm))
   rcases SV.kill_cases r all sv0 with hk|⟨hk,_⟩
   ·rw [hk]
    cases sv0 with
    | d x=>simp only [SV.kill_d] at hk;rw [<- hk];exact hr0
    | box cs=>simp [SV.kill_box] at hk
    | bor p k=>simp only [zdb] at hr0 ⊢;rw [hr0];exact .dead ..
    | ptr p=>simp only [zdb] at hr0 ⊢;rw [hr0];exact .dead ..
   ·rw [hk];exact hr0
 ·intro t sv ht
  have isRef:(∃ p k,sv=.bor p k) ∨ (∃ p,sv=.ptr p)->s.sl[t]? = some sv∧(∀ p k,sv=.bor p k->p.root ≠ r)∧(∀ p,sv=.ptr p->p.root=r->all=false∧p.steps=[]):=by
   intro hb
   by_cases hr:r=.slot t
   ·subst hr
    rcases hs.self ht with ⟨_,_,_,rfl⟩|⟨_,_,_,rfl⟩ <;> rcases hb with ⟨_,_,e⟩|⟨_,e⟩ <;> cases e
   ·obtain ⟨sv0,h0,e⟩:=hs.slot ht hr
    rcases SV.kill_cases r all sv0 with hk|⟨hk,h1,h2⟩
    ·rw [hk] at e;rcases hb with ⟨_,_,e'⟩|⟨_,e'⟩ <;> (rw [e'] at e;cases e)
    ·rw [hk] at e;subst e;exact ⟨h0,h1,h2⟩
  have rootOK:∀ p:Place,(∃ k,sv=.bor p k) ∨ sv=.ptr p->s.sl[t]? = some sv->∀ u,p.root=.slot u->∃ x,s.sl[u]? = some x∧x.isRoot=true:=by
   intro p hb h0 u hu
   have:sv.into u=true:=by rcases hb with ⟨k,rfl⟩|rfl <;> simp [SV.into,hu]
   obtain ⟨x,h1,h2,_⟩:=h.rooted t sv u h0 this
   exact ⟨x,h1,h2⟩
  have back:∀ p:Place,(∃ k,sv=.bor p k) ∨ sv=.ptr p->s.sl[t]? = some sv->p.root ≠ r->∀ {vs ds bo vs' ds' bo'},
    zaC w2 a s2 ι p.root vs ds bo->Foc w2 vs ds bo p.steps vs' ds' bo'->zaC w a s ι p.root vs ds bo∧Foc w vs ds bo p.steps vs' ds' bo':=by
   intro p hb h0 hne vs ds bo vs' ds' bo' h1 h2
   have h1a:=hs.other hne (rootOK p hb h0) h1
   have hblk:∀ b o,bo=some (b,o)->b ∈ FP Fs Gs p.root:=by
    intro b o e
    cases hroot:p.root with
    | slot u =>
     rw [hroot] at h1a
     rcases h1a with ⟨b',c,T,hsl,hv,hh',_,rfl⟩|⟨x,hsl,_,_,rfl⟩
     ·simp only [Option.some.injEq,Prod.mk.injEq] at e
      obtain ⟨rfl,_⟩:=e
      obtain ⟨b1,hv',c',T',G,_,_,_,hF⟩:=h.slot u _ hsl
      rw [hv] at hv'
      simp only [Value.pointer.injEq,Option.some.injEq,Addr.mk.injEq,and_true] at hv'
      subst hv'
      simp only [FP];rw [hF];exact List.mem_cons_self ..
     ·cases e
    | sto u =>
     rw [hroot] at h1a
     obtain ⟨b',c,T,hsl,hi,hh',_,rfl⟩:=h1a
     simp only [Option.some.injEq,Prod.mk.injEq] at e
     obtain ⟨rfl,_⟩:=e
     obtain ⟨c',T',G,_,_,_,hF⟩:=h.sto u _ hsl
     rw [zgV hi] at hF
     simp only [FP];rw [hF];exact List.mem_cons_self ..
   have h1':zaC w a s ι p.root vs ds bo:=h1a.back (fun b o e=>hsameO p.root hne b (hblk b o e))
   obtain ⟨F,hr,hF,_⟩:=h.rootFP h1'
   refine ⟨h1',h2.frame hr (fun b hb=>hsameO p.root hne b ?_)⟩
   rw [hF]
   cases bo with
   | none=>exact hb
   | some bo=>exact List.mem_cons_of_mem _ hb
  cases sv with
  | d x=>trivial
  | box cs=>trivial
  | bor p k =>
   obtain ⟨h0,h1,_⟩:=isRef (.inl ⟨p,k,rfl⟩)
   intro vs ds bo vs' ds' bo' g1 g2
   obtain ⟨q1,q2⟩:=back p (.inl ⟨k,rfl⟩) h0 (h1 p k rfl) g1 g2
   exact h.good t _ h0 vs ds bo vs' ds' bo' q1 q2
  | ptr p =>
   obtain ⟨h0,_,h1⟩:=isRef (.inr ⟨p,rfl⟩)
   intro vs ds bo vs' ds' bo' g1 g2
   by_cases hr:p.root=r
   ·obtain ⟨rfl,hst⟩:=h1 p rfl hr
    rw [hst] at g2
    cases g2
    have hold:∃ vs0 ds0,zaC w a s ι p.root vs0 ds0 bo:=by
     cases hroot:p.root with
     | slot u =>
      have hinto:(SV.ptr p).into u=true:=by simp [SV.into,hroot]
      obtain ⟨x,k1,k2,k3⟩:=h.rooted t _ u h0 hinto
      obtain ⟨cs,rfl⟩:=k3 p rfl hst
      rw [hroot] at g1
      rw [hroot] at hr
      subst hr
      rcases g1 with ⟨b,c,T,hsl,hv,hh',_,rfl⟩|⟨x,hsl,_,_,_⟩
      ·obtain ⟨b1,hv',c',T',G,hh2,_,_,_⟩:=h.slot u _ k1
       rw [hv] at hv'
       simp only [Value.pointer.injEq,Option.some.injEq,Addr.mk.injEq,and_true] at hv'
       subst hv'
       exact ⟨_,_,.inl ⟨b,c',T',k1,hv,hh2,rfl,rfl⟩⟩
      ·rcases hs.self hsl with ⟨_,_,_,e⟩|⟨_,_,e,_⟩
       ·cases e
       ·rw [k1] at e;cases e
     | sto u =>
      rw [hroot] at g1
      rw [hroot] at hr
      subst hr
      obtain ⟨b,c,T,hsl,hi,hh',_,rfl⟩:=g1
      have hu:u<s.sto.length:=by rw [<- len2];exact getElem?_lt hsl
      obtain ⟨c',T',G,hh2,_⟩:=h.sto u _ (List.getElem?_eq_getElem hu)
      rw [zgV hi] at hh2
      exact ⟨_,_,b,c',T',List.getElem?_eq_getElem hu,hi,hh2,rfl,rfl⟩
    obtain ⟨vs0,ds0,hold⟩:=hold
    exact h.good t _ h0 vs0 ds0 bo vs0 ds0 bo hold (by rw [hst];exact .nil _ _ _)
   ·obtain ⟨q1,q2⟩:=back p (.inr rfl) h0 hr g1 g2
    exact h.good t _ h0 vs ds bo vs' ds' bo' q1 q2
 ·intro n cs hn'
  by_cases hr:r=.sto n
  ·subst hr
   have:=hsto n cs rfl hn'
   rw [<- hF2] at this
   exact this
  ·have hG:Gs2.getD n []=Gs.getD n []:=hoth (.sto n) (fun e=>hr e.symm)
   rw [hG]
   have h0:s.sto[n]? = some cs:=by
    cases hs with
    | box _ _ _ _=>exact hn'
    | reg _ _ _ _=>exact hn'
    | sto m _ _ _=>rw [List.getElem?_set_ne (fun e=>hr (by rw [e]))] at hn';exact hn'
   exact (h.sto n cs h0).frame hI hIw (hsameO (.sto n) (fun e=>hr e.symm))
 ·rw [<- List.append_assoc]
  have hpp:((Fs2.flatten++Gs2.flatten)++hand2).Perm (R++(F2++hand2)) :=
   (hp2.append_right hand2).trans (by rw [List.append_assoc];exact List.perm_append_comm_assoc _ _ _)
  rw [hpp.nodup_iff]
  refine List.nodup_append.2 ⟨(List.nodup_append.1 (hR.nodup_iff.1 n1)).2.1,hn,?_⟩
  intro x hx1 y hy e
  subst e
  rcases (hh x hy).2.1 with e|e|e
  ·exact hRout x hx1 e
  ·exact n3 x (hRin x hx1) e
  ·have:=hlt x (hRin x hx1);omega
 ·intro b hb
  rw [<- List.append_assoc] at hb
  have hb':b ∈ F2++hand2 ∨ b ∈ R:=by
   rcases List.mem_append.1 hb with hb|hb
   ·rcases List.mem_append.1 (hp2.mem_iff.1 hb) with hb|hb
    ·exact .inl (mAL _ hb)
    ·exact .inr hb
   ·exact .inl (mAR _ hb)
  rcases hb' with hb|hb
  ·refine ⟨(hh b hb).1,?_,(hh b hb).2.2⟩
   rcases (hh b hb).2.1 with e|e|e
   ·exact (hap b (h.FP_sub e)).2
   ·exact (h.apart b (mAR _ (mAR _ e))).2.1
   ·have:=h.ext.size;exact .inr (by omega)
  ·refine ⟨fun e=>?_,(hap b (hRin b hb)).2,Nat.lt_of_lt_of_le (hlt b (hRin b hb)) hx.size⟩
   rcases hI2 b e with e|⟨e|e|e,_⟩
   ·exact (hap b (hRin b hb)).1 e
   ·exact hRout b hb e
   ·exact n3 b (hRin b hb) e
   ·have:=hlt b (hRin b hb);omega
 ·intro b hb
  rcases hI2 b hb with e|⟨e,hl⟩
  ·exact ⟨Nat.lt_of_lt_of_le (h.imm b e).1 hx.size,(h.imm b e).2⟩
  ·refine ⟨hl,?_⟩
   rcases e with e|e|e
   ·exact .inr (hap b (h.FP_sub e)).2
   ·exact .inr (h.apart b (mAR _ (mAR _ e))).2.1
   ·have:=h.ext.size;exact .inr (.inr (by omega))
 ·exact fun b hb=>hI b (h.immUp b hb)
 ·refine h.ext.trans hx ?_
  intro x hx1 hx2
  have:x ∈ E.F0 ∨ E.w0.heap.size<=x:=hx2.elim (fun e=>(hap x (h.FP_sub e)).2) (fun e=>(h.apart x (mAR _ (mAR _ e))).2.1)
  rcases this with e|e
  ·exact e
  ·omega
 ·intro t sv u ht hinto
  have hne:r ≠ .slot t:=by
   intro e
   subst e
   rcases hs.self ht with ⟨_,_,_,rfl⟩|⟨_,_,_,rfl⟩ <;> cases hinto
  obtain ⟨sv0,h0,e⟩:=hs.slot ht hne
  rcases SV.kill_cases r all sv0 with hk|⟨hk,k1,k2⟩
  ·rw [hk] at e;subst e;cases hinto
  ·rw [hk] at e
   subst e
   obtain ⟨x,g1,g2,g3⟩:=h.rooted t sv u h0 hinto
   by_cases hr:r=.slot u
   ·subst hr
    rcases Root.ne_of_into hinto with ⟨p,k,rfl,hp⟩|⟨p,rfl,hp⟩
    ·exact absurd hp (k1 p k rfl)
    ·obtain ⟨_,hst⟩:=k2 p rfl hp
     obtain ⟨cs,rfl⟩:=g3 p rfl hst
     have hu:u<s2.sl.length:=by rw [len1];exact getElem?_lt g1
     rcases hs.self (List.getElem?_eq_getElem hu) with ⟨_,cs2,_,e⟩|⟨_,_,e,_⟩
     ·exact ⟨_,List.getElem?_eq_getElem hu,by rw [e];rfl,fun _ _ _=>⟨cs2,e⟩⟩
     ·rw [g1] at e;cases e
   ·have hu:u<s2.sl.length:=by rw [len1];exact getElem?_lt g1
    obtain ⟨sv1,e1,e2⟩:=hs.slot (List.getElem?_eq_getElem hu) hr
    rw [g1] at e1
    cases e1
    have:SV.kill r all x=x:=by cases x with
     | d y=>rfl
     | box cs=>rfl
     | bor p k=>cases g2
     | ptr p=>cases g2
    rw [this] at e2
    exact ⟨x,by rw [List.getElem?_eq_getElem hu,e2],g2,g3⟩
end
end Go.Vx
namespace Go.Vx
section
variable {E:Env} {hand:List Nat} {a:Act} {w:World} {s:St} {I:Nat->Prop} {ι:List Nat} {Fs Gs:List (List Nat)}
theorem zaT {t:Nat} {v:Value} (h:t<a.tmps.size):(a.put (some t) v).tmps.getD t undef=v:=by
 simp [Act.put,Array.getD,h]
theorem zaO {t u:Nat} {v:Value} (h:u ≠ t):(a.put (some t) v).tmps.getD u undef=a.tmps.getD u undef:=by
 simp only [Act.put,Array.getD_eq_getD_getElem?]
 rw [Array.getElem?_setIfInBounds_ne (fun e=>h e.symm)]
theorem zdO {t:Nat} {v:Value}:(a.put (some t) v).tmps.size=a.tmps.size:=by simp [Act.put]
theorem zkJ {t u:Nat} {v:Value} (h:u ≠ t):(a.put (some t) v).tmps[u]? = a.tmps[u]? := by
 simp only [Act.put]
 rw [Array.getElem?_setIfInBounds_ne (fun e=>h e.symm)]
theorem SV.kill_id {r:Root} {v:SV} (h1:∀ p k,v=.bor p k->p.root ≠ r) (h2:∀ p,v=.ptr p->p.root ≠ r):SV.kill r true v=v:=by
 cases v with
 | d x=>rfl
 | box cs=>rfl
 | bor p k=>simp [SV.kill,h1 p k rfl]
 | ptr p=>simp [SV.kill,h2 p rfl]
theorem Sim.setD_eq (h:Sim E hand a w s I ι Fs Gs) {t:Nat} {sv:SV} {s':St} (hs:s.setD t sv=some s') :
  t<s.sl.length∧sv.into t=false∧s'=⟨(s.sl.map (SV.kill (.slot t) true)).set t sv,s.sto⟩:=by
 unfold St.setD at hs
 split at hs
 ·rename_i o ho
  split at hs
  ·cases hs
  ·rename_i hint
   refine ⟨getElem?_lt ho,by simpa using hint,?_⟩
   split at hs
   ·cases hs;rfl
   ·rename_i hroot
    cases hs
    congr 1
    apply List.ext_getElem? fun u=>?_
    by_cases hu:t=u
    ·subst hu;rw [List.getElem?_set_self (getElem?_lt ho),List.getElem?_set_self (by simpa using getElem?_lt ho)]
    ·rw [List.getElem?_set_ne hu,List.getElem?_set_ne hu,List.getElem?_map]
     cases hv:s.sl[u]? with
     | none=>rfl
     | some v =>
      simp only [Option.map_some,Option.some.injEq]
      refine (SV.kill_id ?_ ?_).symm
      ·intro p k e hp
       subst e
       obtain ⟨x,h1,h2,_⟩:=h.rooted u _ t hv (by simp [SV.into,hp])
       rw [ho] at h1;cases h1;exact hroot h2
      ·intro p e hp
       subst e
       obtain ⟨x,h1,h2,_⟩:=h.rooted u _ t hv (by simp [SV.into,hp])
       rw [ho] at h1;cases h1;exact hroot h2
 ·cases hs
theorem SV.kill_root {r:Root} {all:Bool} {x:SV} (h:x.isRoot=true):SV.kill r all x=x:=by
 cases x with
 | d y=>rfl
 | box cs=>rfl
 | bor p k=>cases h
 | ptr p=>cases h
def zgs (s:St) (sv:SV):Prop:=∀ u,sv.into u=true->∃ x:SV,s.sl[u]? = some x∧x.isRoot=true∧(∀ p:Place,sv=.ptr p->p.steps=[]->∃ cs,x=.box cs)
theorem Sim.setD {F:List Nat} (h:Sim E (F++hand) a w s I ι Fs Gs) {t:Nat} {sv:SV} {s':St} (hs:s.setD t sv=some s') (hp:∀ v,(t,v) ∉ E.pin) {v:Value}
  (hrep:zdb w I ι v sv F) (hok:zgf w a s ι v sv) (hroot:zgs s sv):∃ Fs2,Sim E hand (a.put (some t) v) w s' I ι Fs2 Gs:=by
 obtain ⟨hlt,hint,rfl⟩:=h.setD_eq hs
 have hltF:t<Fs.length:=by rw [h.lenF];exact hlt
 have hltA:t<a.tmps.size:=by rw [h.size];exact hlt
 obtain ⟨R,hR,hR2⟩:=zfx (zaQ [] hltF)
 have hF2:(Fs.set t F).getD t []=F:=by simp [List.getD,List.getElem?_set_self hltF]
 have hFne:∀ u,u ≠ t->(Fs.set t F).getD u []=Fs.getD u []:=fun u hu=>by simp only [List.getD];rw [List.getElem?_set_ne (fun e=>hu e.symm)]
 have hslot:∀ u sv',((s.sl.map (SV.kill (.slot t) true)).set t sv)[u]? = some sv'->u ≠ t->∃ sv0,s.sl[u]? = some sv0∧sv'=SV.kill (.slot t) true sv0:=by
  intro u sv' he hu
  rw [List.getElem?_set_ne (fun e=>hu e.symm),List.getElem?_map,Option.map_eq_some_iff] at he
  obtain ⟨sv0,h1,h2⟩:=he
  exact ⟨sv0,h1,h2.symm⟩
 have hself:∀ sv',((s.sl.map (SV.kill (.slot t) true)).set t sv)[t]? = some sv'->sv'=sv:=by
  intro sv' he
  rw [List.getElem?_set_self (by simpa using hlt)] at he
  exact (Option.some.inj he).symm
 have hback:∀ r,r ≠ .slot t->(∀ u,r=.slot u->∃ x,s.sl[u]? = some x∧x.isRoot=true)->∀ {vs ds bo},
   zaC w (a.put (some t) v) ⟨(s.sl.map (SV.kill (.slot t) true)).set t sv,s.sto⟩ ι r vs ds bo->zaC w a s ι r vs ds bo:=by
  intro r hne hx vs ds bo hr
  cases r with
  | slot u =>
   have hu:u ≠ t:=fun e=>hne (by rw [e])
   obtain ⟨x,hx1,hx2⟩:=hx u rfl
   have hxu:((s.sl.map (SV.kill (.slot t) true)).set t sv)[u]? = some x:=by
    rw [List.getElem?_set_ne (fun e=>hu e.symm),List.getElem?_map,hx1,Option.map_some,SV.kill_root hx2]
   rcases hr with ⟨b,c,T,hs,hv,hh,h1,h2⟩|⟨y,hs,h1,h2,h3⟩
   ·simp only [hxu,Option.some.injEq] at hs
    rw [zaO hu] at hv
    exact .inl ⟨b,c,T,by rw [hx1,hs],hv,hh,h1,h2⟩
   ·simp only [hxu,Option.some.injEq] at hs
    rw [zaO hu] at h1
    exact .inr ⟨y,by rw [hx1,hs],h1,h2,h3⟩
  | sto u=>exact hr
 refine ⟨Fs.set t F,h.defers,?_,by simp [h.lenF],h.lenG,h.lenI,?_,?_,h.sto,?_,?_,h.imm,h.immUp,h.ext,?_,?_,h.stoUp⟩
 ·rw [zdO,h.size];simp
 ·intro u sv' he
  by_cases hu:u=t
  ·subst hu
   obtain rfl:=hself sv' he
   rw [zaT hltA,hF2];exact hrep
  ·obtain ⟨sv0,h1,rfl⟩:=hslot u sv' he hu
   rw [zaO hu,hFne u hu]
   have h0:=h.slot u sv0 h1
   rcases SV.kill_cases (.slot t) true sv0 with hk|⟨hk,_⟩
   ·rw [hk]
    cases sv0 with
    | d x=>simp only [SV.kill_d] at hk;rw [<- hk];exact h0
    | box cs=>simp [SV.kill_box] at hk
    | bor p k=>simp only [zdb] at h0 ⊢;rw [h0];exact .dead ..
    | ptr p=>simp only [zdb] at h0 ⊢;rw [h0];exact .dead ..
   ·rw [hk];exact h0
 ·intro u sv' he
  by_cases hu:u=t
  ·subst hu
   obtain rfl:=hself sv' he
   rw [zaT hltA]
   cases sv' with
   | d x=>trivial
   | box cs=>trivial
   | bor p k =>
    have hne:p.root ≠ .slot u:=by intro e;simp [SV.into,e] at hint
    intro vs ds bo vs' ds' bo' g1 g2
    exact hok vs ds bo vs' ds' bo' (hback p.root hne (fun u' e=>by
     obtain ⟨x,h1,h2,_⟩:=hroot u' (by simp [SV.into,e]);exact ⟨x,h1,h2⟩) g1) g2
   | ptr p =>
    have hne:p.root ≠ .slot u:=by intro e;simp [SV.into,e] at hint
    intro vs ds bo vs' ds' bo' g1 g2
    exact hok vs ds bo vs' ds' bo' (hback p.root hne (fun u' e=>by
     obtain ⟨x,h1,h2,_⟩:=hroot u' (by simp [SV.into,e]);exact ⟨x,h1,h2⟩) g1) g2
  ·obtain ⟨sv0,h1,rfl⟩:=hslot u sv' he hu
   rw [zaO hu]
   rcases SV.kill_cases (.slot t) true sv0 with hk|⟨hk,k1,k2⟩
   ·rw [hk];trivial
   ·rw [hk]
    cases sv0 with
    | d x=>trivial
    | box cs=>trivial
    | bor p k =>
     intro vs ds bo vs' ds' bo' g1 g2
     exact h.good u _ h1 vs ds bo vs' ds' bo' (hback p.root (k1 p k rfl) (fun u' e=>by
      obtain ⟨x,q1,q2,_⟩:=h.rooted u _ u' h1 (by simp [SV.into,e]);exact ⟨x,q1,q2⟩) g1) g2
    | ptr p =>
     intro vs ds bo vs' ds' bo' g1 g2
     exact h.good u _ h1 vs ds bo vs' ds' bo' (hback p.root (fun e=>by have:=k2 p rfl e;simp at this) (fun u' e=>by
      obtain ⟨x,q1,q2,_⟩:=h.rooted u _ u' h1 (by simp [SV.into,e]);exact ⟨x,q1,q2⟩) g1) g2
 ·have hpp:(((Fs.set t F).flatten)++(Gs.flatten++hand)).Perm ((F++R)++(Gs.flatten++hand)):=(hR2 F).append_right _
  have hold:(Fs.flatten++(Gs.flatten++(F++hand))).Perm ((Fs.getD t []++R)++(Gs.flatten++(F++hand))):=hR.append_right _
  have hn:=hold.nodup_iff.1 h.nodup
  rw [hpp.nodup_iff]
  have hsub:((F++R)++(Gs.flatten++hand)).Perm (R++(Gs.flatten++(F++hand))):=by
   rw [List.perm_iff_count];intro x;simp [List.count_append];omega
  rw [hsub.nodup_iff]
  rw [List.append_assoc] at hn
  exact (List.nodup_append.1 hn).2.1
 ·intro b hb
  refine h.apart b ?_
  rcases List.mem_append.1 hb with hb|hb
  ·rcases List.mem_append.1 ((hR2 F).mem_iff.1 hb) with hb|hb
   ·exact mAR _ (mAR _ (mAL _ hb))
   ·exact mAL _ (hR.mem_iff.2 (mAR _ hb))
  ·rcases List.mem_append.1 hb with hb|hb
   ·exact mAR _ (mAL _ hb)
   ·exact mAR _ (mAR _ (mAR _ hb))
 ·intro u v' hm
  have hu:u ≠ t:=fun e=>hp v' (e ▸ hm)
  rw [zkJ hu];exact h.pin u v' hm
 ·intro u sv' u' he hinto
  have keep:∀ x:SV,s.sl[u']? = some x->x.isRoot=true->u' ≠ t->((s.sl.map (SV.kill (.slot t) true)).set t sv)[u']? = some x:=by
   intro x h1 h2 hne
   rw [List.getElem?_set_ne (fun e=>hne e.symm),List.getElem?_map,h1,Option.map_some,SV.kill_root h2]
  by_cases hu:u=t
  ·subst hu
   obtain rfl:=hself sv' he
   have hne:u' ≠ u:=by intro e;subst e;rw [hint] at hinto;cases hinto
   obtain ⟨x,h1,h2,h3⟩:=hroot u' hinto
   exact ⟨x,keep x h1 h2 hne,h2,h3⟩
  ·obtain ⟨sv0,h1,rfl⟩:=hslot u sv' he hu
   rcases SV.kill_cases (.slot t) true sv0 with hk|⟨hk,k1,k2⟩
   ·rw [hk] at hinto;cases hinto
   ·rw [hk] at hinto ⊢
    obtain ⟨x,q1,q2,q3⟩:=h.rooted u _ u' h1 hinto
    have hne:u' ≠ t:=by
     intro e
     subst e
     rcases Root.ne_of_into hinto with ⟨p,k,rfl,hp'⟩|⟨p,rfl,hp'⟩
     ·exact k1 p k rfl hp'
     ·have:=k2 p rfl hp';simp at this
    exact ⟨x,keep x q1 q2 hne,q2,q3⟩
theorem Sim.setVal {F:List Nat} (h:Sim E (F++hand) a w s I ι Fs Gs) {t:Nat} {x:D} {s':St} (hs:s.setD t (.d x)=some s') (hp:∀ v,(t,v) ∉ E.pin) {v:Value}
  (hrep:Rep w I ι v x F):∃ Fs2,Sim E hand (a.put (some t) v) w s' I ι Fs2 Gs :=
 h.setD hs hp hrep trivial (fun u hu=>by cases hu)
theorem zou {t:Nat} (h:t<a.tmps.size):a.put (some t) (a.tmps.getD t undef)=a:=by
 have e:(a.put (some t) (a.tmps.getD t undef)).tmps=a.tmps:=by
  apply Array.ext_getElem?
  intro u
  by_cases hu:u=t
  ·subst hu
   have h1:u<(a.put (some u) (a.tmps.getD u undef)).tmps.size:=by rw [zdO];exact h
   have:=zaT (a:=a) (v:=a.tmps.getD u undef) h
   rw [Array.getD_eq_getD_getElem?,Array.getElem?_eq_getElem h1,Option.getD_some] at this
   rw [Array.getElem?_eq_getElem h1,this,Array.getD_eq_getD_getElem?,Array.getElem?_eq_getElem h,Option.getD_some]
  ·exact zkJ hu
 unfold Act.put at e ⊢
 cases a
 simp_all
theorem Sim.unpin (h:Sim E hand a w s I ι Fs Gs):Sim { E with pin:=[] } hand a w s I ι Fs Gs :=
 ⟨h.defers,h.size,h.lenF,h.lenG,h.lenI,h.slot,h.good,h.sto,h.nodup,h.apart,h.imm,h.immUp,h.ext,fun _ _ hm=>(by cases hm),h.rooted,h.stoUp⟩
theorem Sim.repin (h:Sim { E with pin:=[] } hand a w s I ι Fs Gs) (hp:∀ t v,(t,v) ∈ E.pin->a.tmps[t]? = some v):Sim E hand a w s I ι Fs Gs :=
 ⟨h.defers,h.size,h.lenF,h.lenG,h.lenI,h.slot,h.good,h.sto,h.nodup,h.apart,h.imm,h.immUp,h.ext,hp,h.rooted,h.stoUp⟩
theorem Sim.setSame (h:Sim E hand a w s I ι Fs Gs) {t:Nat} {sv:SV} {s':St} (hs:s.setD t sv=some s') (hrep:zdb w I ι (a.tmps.getD t undef) sv []) (hok:zgf w a s ι (a.tmps.getD t undef) sv) (hroot:zgs s sv) :
  ∃ Fs2,Sim E hand a w s' I ι Fs2 Gs:=by
 have hlt:t<a.tmps.size:=by rw [h.size];exact (h.setD_eq hs).1
 obtain ⟨Fs2,h2⟩:=Sim.setD (F:=[]) (hand:=hand) (by simpa using h.unpin) hs (fun _ hm=>by cases hm) hrep hok hroot
 rw [zou hlt] at h2
 exact ⟨Fs2,h2.repin h.pin⟩
end
end Go.Vx
namespace Go.Vx
theorem Rep.cut {w:World} {I:Nat->Prop} {ι:List Nat} {u:Value} {o:Bool} {z:Nat} {xs:List D} {G:List Nat} (h:Rep w I ι u (.sl o z xs) G) {lo hi:Nat} (h1:lo<=hi) (h2:hi<=xs.length) :
  ∃ Fx L,Rep w I ι (zgU u z lo hi) (.sl o z ((xs.drop lo).take (hi - lo))) Fx∧G.Perm (Fx++L):=by
 have hx:xs=xs.take lo++((xs.drop lo).take (hi - lo)++xs.drop hi):=by
  have e1:(xs.drop lo).drop (hi - lo)=xs.drop hi:=by rw [List.drop_drop];congr 1;omega
  rw [<- e1,List.take_append_drop,List.take_append_drop]
 have hlen:((xs.drop lo).take (hi - lo)).length=hi - lo:=by rw [List.length_take,List.length_drop];omega
 cases h with
 | nil =>
  simp at h2;subst h2
  obtain rfl:lo=0:=by omega
  exact ⟨[],[],by simpa [zgU] using .nil ..,by simp⟩
 | emp _ _ _ a =>
  simp at h2;subst h2
  obtain rfl:lo=0:=by omega
  exact ⟨[],[],by simpa [zgU] using .emp ..,by simp⟩
 | empS _ _ a cap =>
  simp at h2;subst h2
  obtain rfl:lo=0:=by omega
  refine ⟨[],[],?_,by simp⟩
  simp only [zgU,Nat.sub_self,List.drop_nil,List.take_nil]
  split <;> exact .empS ..
 | shr _ b off n cap _ _ vs hn hb hc ho hr hz =>
  obtain ⟨hn,hnc⟩:=hn
  by_cases hcap:cap=lo
  ·obtain rfl:hi=lo:=by omega
   refine ⟨[],[],?_,by simp⟩
   simp only [zgU,Nat.sub_self,List.take_zero,hcap,if_true]
   exact .empS ..
  ·rw [hx] at hr
   rw [zav,zav] at hr
   obtain ⟨u1,u23,G1,G23,rfl,e,hl1,hr1,hr23⟩:=hr.split
   obtain ⟨u2,u3,G2,G3,rfl,e2,hl2,hr2,hr3⟩:=hr23.split
   have hz1:u1.length=lo * z:=by
    rw [hl1,zaq (fun y hy=>hz y (List.mem_of_mem_take hy)),List.length_take];congr 1;omega
   obtain rfl:G2=[]:=by
    have:=List.append_eq_nil_iff.1 e.symm
    rw [e2] at this
    exact (List.append_eq_nil_iff.1 this.2).1
   refine ⟨[],[],?_,by simp⟩
   simp only [zgU,if_neg hcap,Addr.add_lit]
   have hc2:=hc.right.left
   rw [hz1] at hc2
   exact .shr _ _ _ _ _ _ _ u2 ⟨hlen.symm,by omega⟩ hb hc2 ho.right.left hr2 (fun y hy=>hz y (List.mem_of_mem_drop (List.mem_of_mem_take hy)))
 | own _ b off n cap _ _ vs T c F hn hh hs hnc hc ho hr hz =>
  by_cases hcap:cap=lo
  ·obtain rfl:hi=lo:=by omega
   refine ⟨[],b::F,?_,by simp⟩
   simp only [zgU,Nat.sub_self,List.take_zero,hcap,if_true]
   exact .emp ..
  ·rw [hx] at hr
   rw [zav,zav] at hr
   obtain ⟨u1,u23,G1,G23,rfl,rfl,hl1,hr1,hr23⟩:=hr.split
   obtain ⟨u2,u3,G2,G3,rfl,rfl,hl2,hr2,hr3⟩:=hr23.split
   have hz1:u1.length=lo * z:=by
    rw [hl1,zaq (fun y hy=>hz y (List.mem_of_mem_take hy)),List.length_take];congr 1;omega
   refine ⟨b::G2,G1++G3,?_,?_⟩
   ·simp only [zgU,if_neg hcap,Addr.add_lit]
    have hc2:=hc.right.left
    rw [hz1] at hc2
    refine .own _ _ _ _ _ _ _ u2 T c _ hlen.symm hh ?_ (by omega) hc2 ho.right.left hr2 (fun y hy=>hz y (List.mem_of_mem_drop (List.mem_of_mem_take hy)))
    have:lo * z + (cap - lo) * z=cap * z:=by rw [<- Nat.add_mul];congr 1;omega
    omega
   ·rw [List.perm_iff_count];intro x;simp [List.count_append,List.count_cons];omega
theorem zmi {w:World} {I:Nat->Prop} {ι:List Nat}:∀ (vs:List Value),RepL w I ι vs (zhD vs.length) []
 | []=>.nil _
 | v::vs=>.cons _ _ _ [] _ _ [] (.dead ..) (zmi vs)
theorem zft {w:World} {I:Nat->Prop} {ι:List Nat} {vs:List Value} {ds:List D} {F:List Nat} {off:Nat} {k:BK} {v:Value} {x:D}
  (h:RepL w I ι vs ds F) (hx:zej ds off k=some x) (hv:zig vs ds off k v) :
  ∃ Fx L R,Rep w I ι v x Fx∧F.Perm (Fx++(L++R))∧∀ ds2,zdA ds off (zhD k.width)=some ds2->RepL w I ι vs ds2 R:=by
 have one:∀ {y:D} {u:Value},ds[off]? = some y->vs[off]? = some u->∃ G R,Rep w I ι u y G∧F.Perm (G++R)∧∀ ds2,zdA ds off (zhD 1)=some ds2->RepL w I ι vs ds2 R:=by
  intro y u hy hu
  obtain ⟨va,u',vb,Fa,G,Fb,rfl,hla,rfl,hva,hru,hvb⟩:=h.at hy
  have:u'=u:=by
   rw [List.getElem?_append_right (by omega)] at hu
   simpa [hla] using hu
  subst this
  refine ⟨G,Fa++Fb,hru,List.perm_append_comm_assoc _ _ _,?_⟩
  intro ds2 h2
  unfold zdA at h2
  split at h2
  ·simp only [Option.some.injEq,zhD,List.replicate_one,List.length_singleton] at h2
   subst h2
   refine hva.append ?_
   exact .cons _ _ _ [] _ _ _ (.dead ..) hvb
  ·cases h2
 cases k with
 | one =>
  obtain ⟨G,R,h1,h2,h3⟩:=one hx hv
  exact ⟨G,[],R,h1,h2,h3⟩
 | many n =>
  simp only [zej] at hx
  obtain ⟨hle,hon,rfl⟩:=hv
  split at hx
  ·rename_i hds
   cases hx
   have e:ds=ds.take off++((ds.drop off).take n++ds.drop (off + n)):=by
    have:(ds.drop off).drop n=ds.drop (off + n):=by rw [List.drop_drop]
    rw [<- this,List.take_append_drop,List.take_append_drop]
   rw [e] at h
   obtain ⟨u1,u23,G1,G23,rfl,rfl,hl1,hr1,hr23⟩:=h.split
   obtain ⟨u2,u3,G2,G3,rfl,rfl,hl2,hr2,hr3⟩:=hr23.split
   have h1:u1.length=off:=by rw [hl1,List.length_take];omega
   have h2:u2.length=n:=by rw [hl2,List.length_take,List.length_drop];omega
   have e2:((u1++(u2++u3)).drop off).take n=u2:=by
    rw [<- h1,List.drop_left,<- h2,List.take_left]
   rw [e2] at hon ⊢
   refine ⟨G2,[],G1++G3,.agg _ _ _ _ hr2 hon,?_,?_⟩
   ·exact List.perm_append_comm_assoc _ _ _
   ·intro ds2 h3
    unfold zdA at h3
    split at h3
    ·simp only [Option.some.injEq,BK.width] at h3
     subst h3
     refine hr1.append ?_
     have hd:=zmi (w:=w) (I:=I) (ι:=ι) u2
     rw [h2] at hd
     have:(zhD n).length=n:=by simp [zhD]
     rw [this]
     exact hd.append hr3
    ·cases h3
  ·cases hx
 | cut lo hi =>
  simp only [zej] at hx
  obtain ⟨u,hu,hv⟩:=hv
  split at hx
  ·rename_i o z xs hy
   split at hx
   ·rename_i hb
    cases hx
    obtain rfl:=hv o z xs hy
    obtain ⟨G,R,h1,h2,h3⟩:=one hy hu
    obtain ⟨Fx,L,g1,g2⟩:=h1.cut hb.1 hb.2
    refine ⟨Fx,L,R,g1,?_,h3⟩
    rw [<- List.append_assoc]
    exact h2.trans (g2.append_right _)
   ·cases hx
  ·cases hx
mutual
theorem Rep.left {w:World} {I:Nat->Prop} {ι:List Nat}:∀ {v:Value} {d:D} {F:List Nat},Rep w I ι v d F->Rep w I ι v d.left []
 | _,_,_,.int ..=>by simp only [D.left];exact .int ..
 | _,_,_,.bool ..=>by simp only [D.left];exact .bool ..
 | _,_,_,.str ..=>by simp only [D.left];exact .str ..
 | _,_,_,.fn _ _ _ _ h=>by simp only [D.left];exact .fn _ _ _ _ h
 | _,_,_,.bf _ _ _ _ h=>by simp only [D.left];exact .bf _ _ _ _ h
 | _,_,_,.nilp ..=>by simp only [D.left];exact .nilp ..
 | _,_,_,.nilf ..=>by simp only [D.left];exact .nilf ..
 | _,_,_,.anyb ..=>by simp only [D.left];exact .anyb ..
 | _,_,_,.nils ..=>by simp only [D.left];exact .nils ..
 | _,_,_,.gho ..=>by simp only [D.left];exact .gho ..
 | _,_,_,.ref _ _ _ _ h=>by simp only [D.left];exact .ref _ _ _ _ h
 | _,_,_,.pim _ _ _ _ _ _ hb hc ho h=>by simp only [D.left];exact .pim _ _ _ _ _ _ hb hc ho h
 | _,_,_,.agg _ _ _ _ h ho=>by simp only [D.left];exact .agg _ _ _ _ (RepL.left h) ho
 | _,_,_,.tup _ _ _ _ h=>by simp only [D.left];exact .dead ..
 | _,_,_,.nil _ own _=>by
  cases own
  ·simp only [D.left];exact .nil ..
  ·simp only [D.left];exact .gho ..
 | _,_,_,.emp _ own _ _=>by
  cases own
  ·simp only [D.left];exact .emp ..
  ·simp only [D.left];exact .gho ..
 | _,_,_,.empS ..=>by simp only [D.left];exact .empS ..
 | _,_,_,.shr _ _ _ _ _ _ _ _ hn hb hc ho h hz=>by simp only [D.left];exact .shr _ _ _ _ _ _ _ _ hn hb hc ho h hz
 | _,_,_,.own _ _ _ _ _ _ _ _ _ _ _ hn hh hs hl hc ho h hz=>by
  simp only [D.left]
  rw [hn]
  exact .gho ..
 | _,_,_,.dead ..=>by simp only [D.left];exact .dead ..
theorem RepL.left {w:World} {I:Nat->Prop} {ι:List Nat}:∀ {v:List Value} {d:List D} {F:List Nat},RepL w I ι v d F->RepL w I ι v (zjr d) []
 | _,_,_,.nil _=>.nil _
 | _,_,_,.cons _ _ _ _ _ _ _ h t=>.cons _ _ _ [] _ _ [] (Rep.left h) (RepL.left t)
end
theorem zmj:∀ (l:List D),(zjr l).length=l.length
 | []=>rfl
 | d::r=>by simp [zjr,zmj r]
theorem znj {w:World} {I:Nat->Prop} {ι:List Nat} {vs:List Value} {ds:List D} {F:List Nat} {off:Nat} {k:BK} {v:Value} {x:D}
  (h:RepL w I ι vs ds F) (hx:zej ds off k=some x) (hv:zig vs ds off k v) :
  ∃ Fx L R,Rep w I ι v x Fx∧F.Perm (Fx++(L++R))∧∀ ds2,zdA ds off (znh k x)=some ds2->RepL w I ι vs ds2 R:=by
 have one:∀ {y:D} {u:Value},ds[off]? = some y->vs[off]? = some u->∃ G R,Rep w I ι u y G∧F.Perm (G++R)∧∀ ds2,zdA ds off [y.left]=some ds2->RepL w I ι vs ds2 R:=by
  intro y u hy hu
  obtain ⟨va,u',vb,Fa,G,Fb,rfl,hla,rfl,hva,hru,hvb⟩:=h.at hy
  have:u'=u:=by
   rw [List.getElem?_append_right (by omega)] at hu
   simpa [hla] using hu
  subst this
  refine ⟨G,Fa++Fb,hru,List.perm_append_comm_assoc _ _ _,?_⟩
  intro ds2 h2
  unfold zdA at h2
  split at h2
  ·simp only [Option.some.injEq,List.length_singleton] at h2
   subst h2
   refine hva.append ?_
   exact .cons _ _ _ [] _ _ _ hru.left hvb
  ·cases h2
 cases k with
 | one =>
  obtain ⟨G,R,h1,h2,h3⟩:=one hx hv
  exact ⟨G,[],R,h1,h2,h3⟩
 | many n =>
  simp only [zej] at hx
  obtain ⟨hle,hon,rfl⟩:=hv
  split at hx
  ·rename_i hds
   cases hx
   have e:ds=ds.take off++((ds.drop off).take n++ds.drop (off + n)):=by
    have:(ds.drop off).drop n=ds.drop (off + n):=by rw [List.drop_drop]
    rw [<- this,List.take_append_drop,List.take_append_drop]
   rw [e] at h
   obtain ⟨u1,u23,G1,G23,rfl,rfl,hl1,hr1,hr23⟩:=h.split
   obtain ⟨u2,u3,G2,G3,rfl,rfl,hl2,hr2,hr3⟩:=hr23.split
   have h1:u1.length=off:=by rw [hl1,List.length_take];omega
   have h2:u2.length=n:=by rw [hl2,List.length_take,List.length_drop];omega
   have e2:((u1++(u2++u3)).drop off).take n=u2:=by
    rw [<- h1,List.drop_left,<- h2,List.take_left]
   rw [e2] at hon ⊢
   refine ⟨G2,[],G1++G3,.agg _ _ _ _ hr2 hon,?_,?_⟩
   ·exact List.perm_append_comm_assoc _ _ _
   ·intro ds2 h3
    unfold zdA at h3
    split at h3
    ·simp only [Option.some.injEq,znh] at h3
     subst h3
     refine hr1.append ?_
     have hd:=hr2.left
     have:(zjr ((ds.drop off).take n)).length=n:=by rw [zmj,List.length_take,List.length_drop];omega
     rw [this]
     exact hd.append hr3
    ·cases h3
  ·cases hx
 | cut lo hi=>exact zft h hx hv
def XV (a:Act):X->Value->Prop
 | .t n,v=>v=a.tmps.getD n undef
 | .c d,v=>∀ w I ι,Rep w I ι v d []
section
variable {E:Env} {hand:List Nat} {a:Act} {w:World} {s:St} {I:Nat->Prop} {ι:List Nat} {Fs Gs:List (List Nat)}
theorem Sim.root_open (h:Sim E hand a w s I ι Fs Gs) {r:Root} {ds:List D} (hr:s.root r=some ds):∃ vs bo,zaC w a s ι r vs ds bo:=by
 cases r with
 | slot t =>
  simp only [St.root] at hr
  split at hr
  ·rename_i cs hs
   cases hr
   obtain ⟨b,hv,c,T,G,hh,_⟩:=h.slot t _ hs
   exact ⟨_,_,.inl ⟨b,c,T,hs,hv,hh,rfl,rfl⟩⟩
  ·rename_i x hs
   cases hr
   exact ⟨_,_,.inr ⟨x,hs,rfl,rfl,rfl⟩⟩
  ·cases hr
 | sto r =>
  simp only [St.root] at hr
  obtain ⟨c,T,G,hh,_⟩:=h.sto r _ hr
  have hlt:r<ι.length:=by rw [h.lenI];exact getElem?_lt hr
  exact ⟨_,_,_,c,T,hr,zaQ 0 hlt,hh,rfl,rfl⟩
theorem Sim.rdP_open (h:Sim E hand a w s I ι Fs Gs) {p:Place} {k:BK} {x:D} (hx:s.rdP p k=some x) :
  ∃ vs ds bo ds',s.root p.root=some ds∧zaC w a s ι p.root vs ds bo∧focus ds p.steps=some ds'∧zej ds' p.off k=some x:=by
 unfold St.rdP at hx
 split at hx
 ·rename_i cs hr
  split at hx
  ·rename_i c hf
   obtain ⟨vs,bo,h1⟩:=h.root_open hr
   exact ⟨vs,cs,bo,c,hr,h1,hf,hx⟩
  ·cases hx
 ·cases hx
theorem zbe (h:Sim E hand a w s I ι Fs Gs) {r:Root} {vs:List Value} {ds:List D} {bo:Option (Nat × Nat)} (hr:zaC w a s ι r vs ds bo) :
  ∃ F,RepL w I ι vs ds F∧F.Nodup∧(FP Fs Gs r=match bo with|some (b,_)=>b::F|none=>F)∧(∀ b o,bo=some (b,o)->o=0∧ones vs∧∃ c T,w.heap[b]? = some (.cells c T (0,0))∧vs=c.toList):=by
 obtain ⟨F,h1,h2,h3⟩:=h.rootFP hr
 refine ⟨F,h1,?_,h2,h3⟩
 have hn:(FP Fs Gs r).Nodup:=by
  obtain ⟨n1,_⟩:=h.nodup2
  obtain ⟨m1,m2,_⟩:=List.nodup_append.1 n1
  have key:∀ {l:List (List Nat)} {t:Nat},l.flatten.Nodup->(l.getD t []).Nodup:=by
   intro l t hl
   by_cases ht:t<l.length
   ·obtain ⟨R,hp,_⟩:=zfx (zaQ [] ht)
    exact (List.nodup_append.1 (hp.nodup_iff.1 hl)).1
   ·simp [List.getD,List.getElem?_eq_none_iff.2 (Nat.le_of_not_lt ht)]
  cases r with
  | slot t=>exact key m1
  | sto t=>exact key m2
 rw [h2] at hn
 cases bo with
 | none=>exact hn
 | some bo=>exact (List.nodup_cons.1 hn).2
theorem Sim.rdP_val (h:Sim E hand a w s I ι Fs Gs) {p:Place} {k:BK} {x:D} (hx:s.rdP p k=some x) {v:Value}
  (hv:∀ vs ds bo vs' ds' bo',zaC w a s ι p.root vs ds bo->Foc w vs ds bo p.steps vs' ds' bo'->zig vs' ds' p.off k v) :
  ∃ Fx,Rep w I ι v x Fx∧∀ b ∈ Fx,b ∈ Fs.flatten++Gs.flatten:=by
 obtain ⟨vs,ds,bo,ds',h0,h1,h2,h3⟩:=h.rdP_open hx
 obtain ⟨F,hr,hn,hF,_⟩:=zbe h h1
 obtain ⟨vs',bo',ι',F',R,hFoc,hrep,_,hperm,hnil,hcons,_⟩:=zcJ p.steps bo hr hn h2
 obtain ⟨Fx,L,R',g1,g2,_⟩:=zft hrep h3 (hv _ _ _ _ _ _ h1 hFoc)
 refine ⟨Fx,?_,?_⟩
 ·by_cases hst:p.steps=[]
  ·rw [(hnil hst).2.2.1] at g1;exact g1
  ·rw [(hcons hst).1] at g1;exact g1.monoSto (fun r b e=>by simp at e)
 ·intro b hb
  have h5:b ∈ F:=hperm.mem_iff.2 (mAL _ (g2.mem_iff.2 (mAL _ hb)))
  refine h.FP_sub (r:=p.root) ?_
  rw [hF]
  cases bo with
  | none=>exact h5
  | some bo=>exact List.mem_cons_of_mem _ h5
theorem Sim.rd (h:Sim E hand a w s I ι Fs Gs) {x:X} {y:D} (hx:s.rd x=some y) {v:Value} (hv:XV a x v) :
  ∃ Fx,Rep w I ι v y Fx∧∀ b ∈ Fx,b ∈ Fs.flatten++Gs.flatten:=by
 cases x with
 | c d=>cases hx;exact ⟨[],hv w I ι,fun b hb=>by cases hb⟩
 | t n =>
  cases hv
  simp only [St.rd] at hx
  split at hx
  ·rename_i z hs
   cases hx
   exact ⟨_,h.slot n _ hs,fun b hb=>mAL _ (h.memF hb)⟩
  ·rename_i p k hs
   exact h.rdP_val hx (h.good n _ hs)
  ·rename_i r off hs
   split at hx
   ·rename_i hlt
    cases hx
    have hroot:s.root (.sto r)=some s.sto[r]:=List.getElem?_eq_getElem hlt
    obtain ⟨vs,bo,h1⟩:=h.root_open hroot
    have h1':=h1
    obtain ⟨b,c,T,_,hi,_,_,rfl⟩:=h1
    obtain ⟨b',o',e,hv⟩:=h.good n _ hs vs _ _ _ _ _ h1' (.nil _ _ _)
    simp only [Option.some.injEq,Prod.mk.injEq] at e
    obtain ⟨rfl,rfl⟩:=e
    rw [hv]
    exact ⟨[],by simpa using .ref _ _ off _ hi,fun b hb=>by cases hb⟩
   ·cases hx
  ·cases hx
theorem zkK {g:List D->Option (List D)}:∀ {st:List (Nat × Nat)} {ds cs:List D},st ≠ []->upd g ds st=some cs->cs.length=ds.length
 | [],_,_,h,_=>absurd rfl h
 | (k,i)::r,ds,cs,_,h=>by
  simp only [upd] at h
  split at h
  ·split at h
   ·split at h
    ·cases h;simp
    ·cases h
   ·cases h
  ·cases h
theorem ziZ {ds news d2:List D} {off:Nat} (h:zdA ds off news=some d2):d2.length=ds.length:=by
 unfold zdA at h
 split at h
 ·cases h;simp;omega
 ·cases h
theorem ziA {r:Root} {ds ds2:List D} {s1:St} (all:Bool) (hr:s.root r=some ds) (hl:ds2.length=ds.length) (hs:s.setRoot r ds2=some s1) :
  NewRoot s all r (s1.kill r all)∧(s1.kill r all).root r=some ds2:=by
 cases r with
 | slot t =>
  simp only [St.setRoot] at hs
  simp only [St.root] at hr
  split at hs
  ·rename_i cs he
   cases hs
   rw [he] at hr;cases hr
   have e:(St.kill ⟨s.sl.set t (.box ds2),s.sto⟩ (.slot t) all)=⟨(s.sl.map (SV.kill (.slot t) all)).set t (.box ds2),s.sto⟩:=by
    simp [St.kill,List.map_set,SV.kill_box]
   rw [e]
   refine ⟨.box t _ _ he,?_⟩
   simp only [St.root]
   rw [List.getElem?_set_self (by simpa using getElem?_lt he)]
  ·rename_i x he
   cases hs
   rw [he] at hr;cases hr
   obtain ⟨y,rfl⟩:∃ y,ds2=[y]:=by
    match ds2,hl with
    | [y],_=>exact ⟨y,rfl⟩
   have e:(St.kill ⟨s.sl.set t (.d ([y].headD .dead)),s.sto⟩ (.slot t) all)=⟨(s.sl.map (SV.kill (.slot t) all)).set t (.d y),s.sto⟩:=by
    simp [St.kill,List.map_set,SV.kill_d]
   rw [e]
   refine ⟨.reg t _ _ he,?_⟩
   simp only [St.root]
   rw [List.getElem?_set_self (by simpa using getElem?_lt he)]
  ·cases hs
 | sto r =>
  simp only [St.setRoot,Option.some.injEq] at hs
  subst hs
  simp only [St.root] at hr
  refine ⟨.sto r _ _ hr,?_⟩
  simp only [St.root,St.kill]
  rw [List.getElem?_set_self (getElem?_lt hr)]
theorem zfL {p:Place} {news:List D} {s1:St} (hw:s.wrP p news=some s1) :
  ∃ ds ds' d2 cs,s.root p.root=some ds∧focus ds p.steps=some ds'∧zdA ds' p.off news=some d2∧upd (fun _=>some d2) ds p.steps=some cs∧s.setRoot p.root cs=some s1∧cs.length=ds.length:=by
 unfold St.wrP at hw
 split at hw
 ·rename_i ds hr
  split at hw
  ·rename_i cs hu
   obtain ⟨d1,d2,h1,h2,h3⟩:=zjK _ hu
   refine ⟨ds,d1,d2,cs,hr,h1,h2,h3,hw,?_⟩
   by_cases hst:p.steps=[]
   ·rw [hst] at h1 h3
    simp only [upd,Option.some.injEq] at h3
    simp only [focus,Option.some.injEq] at h1
    subst h1;subst h3
    exact ziZ h2
   ·exact zkK hst h3
  ·cases hw
 ·cases hw
theorem Sim.recells (h:Sim E hand a w s I ι Fs Gs) {r:Root} {vs:List Value} {ds ds2:List D} {bo:Option (Nat × Nat)} (hr:zaC w a s ι r vs ds bo) (h0:s.root r=some ds) {s1:St}
  (hs:s.setRoot r ds2=some s1) (hl:ds2.length=ds.length) (all:Bool) {F2 hand2:List Nat} {I2:Nat->Prop} (hrep:RepL w I2 ι vs ds2 F2)
  (hI:∀ b,I b->I2 b) (hI2:∀ b,I2 b->I b ∨ b ∈ FP Fs Gs r ∨ b ∈ hand)
  (hsub:∀ b ∈ F2++hand2,¬ I2 b∧(b ∈ FP Fs Gs r ∨ b ∈ hand)) (hn:(F2++hand2).Nodup)
  (hblock:∀ b o,bo=some (b,o)->¬ I2 b∧b ∉ F2++hand2) :
  ∃ Fs2 Gs2,Sim E hand2 a w (s1.kill r all) I2 ι Fs2 Gs2:=by
 obtain ⟨hnew,hroot2⟩:=ziA all h0 hl hs
 obtain ⟨F,hrF,hFP,hb⟩:=h.rootFP hr
 have hlt:∀ b,b ∈ FP Fs Gs r ∨ b ∈ hand->b<w.heap.size:=by
  intro b hb
  rcases hb with hb|hb
  ·refine (h.apart b ?_).2.2
   rw [<- List.append_assoc];exact mAL _ (h.FP_sub hb)
  ·exact (h.apart b (mAR _ (mAR _ hb))).2.2
 let F2':List Nat:=match bo with|some (b,_)=>b::F2|none=>F2
 have hF2':F2'=match bo with|some (b,_)=>b::F2|none=>F2:=rfl
 have hmem:∀ b ∈ F2'++hand2,¬ I2 b∧(b ∈ FP Fs Gs r ∨ b ∈ hand):=by
  intro b hb2
  cases bo with
  | none=>exact hsub b hb2
  | some q =>
   obtain ⟨b0,o0⟩:=q
   simp only [hF2',List.cons_append] at hb2
   rcases List.mem_cons.1 hb2 with rfl|hb2
   ·exact ⟨(hblock b o0 rfl).1,.inl (by rw [hFP];exact List.mem_cons_self ..)⟩
   ·exact hsub b hb2
 obtain ⟨Fs2,Gs2,hsim,_⟩:=h.reroot hnew (w2:=w) (I2:=I2) (hand2:=hand2) (F2:=F2') (Ext.refl _ _) hI
  (fun b hb=>(hI2 b hb).imp id (fun e=>⟨e.elim .inl (fun e=>.inr (.inl e)),hlt b e⟩))
  (by
   cases bo with
   | none=>exact hn
   | some q=>exact List.nodup_cons.2 ⟨(hblock q.1 q.2 rfl).2,hn⟩)
  (fun b hb=>⟨(hmem b hb).1,(hmem b hb).2.elim .inl (fun e=>.inr (.inl e)),hlt b (hmem b hb).2⟩)
  (by
   intro n sv e hsv
   subst e
   simp only [St.root,hsv] at hroot2
   rcases hr with ⟨b,c,T,hs0,hv,hh,rfl,rfl⟩|⟨x,hs0,rfl,rfl,rfl⟩
   ·rcases hnew.self hsv with ⟨_,cs2,_,rfl⟩|⟨_,_,e,_⟩
    ·simp only [Option.some.injEq] at hroot2
     subst hroot2
     exact ⟨b,hv,c,T,F2,hh,hrep,(hb b 0 rfl).2.1,rfl⟩
    ·rw [hs0] at e;cases e
   ·rcases hnew.self hsv with ⟨_,_,e,_⟩|⟨_,y,_,rfl⟩
    ·rw [hs0] at e;cases e
    ·simp only [Option.some.injEq] at hroot2
     subst hroot2
     obtain ⟨v0,e0,hv0⟩:=hrep.of_one
     simp only [List.cons.injEq,and_true] at e0
     rw [e0]
     exact hv0)
  (by
   intro n cs e hcs
   subst e
   simp only [St.root,hcs,Option.some.injEq] at hroot2
   subst hroot2
   obtain ⟨b,c,T,hs0,hi,hh,rfl,rfl⟩:=hr
   rw [zgV hi]
   exact ⟨c,T,F2,hh,hrep,(hb b 0 rfl).2.1,rfl⟩)
 exact ⟨Fs2,Gs2,hsim⟩
theorem Sim.takeP (h:Sim E hand a w s I ι Fs Gs) {p:Place} {k:BK} {x:D} {s1:St} (hx:s.rdP p k=some x) (hw:s.wrP p (zhD k.width)=some s1) {v:Value}
  (hv:∀ vs ds bo vs' ds' bo',zaC w a s ι p.root vs ds bo->Foc w vs ds bo p.steps vs' ds' bo'->zig vs' ds' p.off k v) (all:Bool) :
  ∃ Fx Fs2 Gs2,Rep w I ι v x Fx∧Sim E (Fx++hand) a w (s1.kill p.root all) I ι Fs2 Gs2:=by
 obtain ⟨vs,ds,bo,ds',h0,h1,h2,h3⟩:=h.rdP_open hx
 obtain ⟨ds0,ds0',d2,cs,g0,g1,g2,g3,g4,g5⟩:=zfL hw
 rw [h0] at g0;cases g0
 rw [h2] at g1;cases g1
 obtain ⟨F,hr,hn,hF,hb⟩:=zbe h h1
 obtain ⟨vs',bo',ι',F',R,hFoc,hrep,hones,hperm,hnil,hcons,hre⟩:=zcJ p.steps bo hr hn h2
 obtain ⟨Fx,L,R',q1,q2,q3⟩:=zft hrep h3 (hv _ _ _ _ _ _ h1 hFoc)
 have hrep2:RepL w I ι' vs' d2 R':=q3 _ g2
 obtain ⟨G,hG,hGp⟩:=hre w I vs' d2 R' (fun _ h=>h) (fun _ _=>rfl) (fun _ _ _=>rfl)
  (by
   intro hst b o e
   obtain ⟨_,b',o',c,T,e',_,hh,hle,hc⟩:=hcons hst
   rw [e'] at e
   simp only [Option.some.injEq,Prod.mk.injEq] at e
   obtain ⟨rfl,rfl⟩:=e
   exact ⟨c,T,c,hh,hh,rfl,fun _ _=>rfl,hc⟩) rfl hones hrep2 cs g3
 have hG':RepL w I ι vs cs G:=by
  by_cases hst:p.steps=[]
  ·rw [if_pos hst,(hnil hst).1] at hG;exact hG
  ·rw [if_neg hst] at hG;exact hG
 have hFperm:F.Perm ((Fx++(L++R'))++R):=hperm.trans (q2.append_right _)
 have hsubF:∀ b,b ∈ G ∨ b ∈ Fx->b ∈ F:=by
  intro b hb
  refine hFperm.mem_iff.2 ?_
  rcases hb with hb|hb
  ·rcases List.mem_append.1 (hGp.mem_iff.1 hb) with hb|hb
   ·exact mAL _ (mAR _ (mAR _ hb))
   ·exact mAR _ hb
  ·exact mAL _ (mAL _ hb)
 have hFin:∀ b,b ∈ F->b ∈ FP Fs Gs p.root:=by
  intro b hbF
  rw [hF]
  clear hb
  cases bo with
  | none=>exact hbF
  | some q=>exact List.mem_cons_of_mem _ hbF
 have hnG:(G++Fx).Nodup:=by
  have e1:((Fx++(L++R'))++R).Perm (L++(G++Fx)):=by
   refine List.Perm.trans ?_ ((List.Perm.append_right Fx hGp.symm).append_left L)
   rw [List.perm_iff_count];intro y;simp [List.count_append];omega
  have:=e1.nodup_iff.1 (hFperm.nodup_iff.1 hn)
  exact (List.nodup_append.1 this).2.1
 obtain ⟨n1,n2,n3⟩:=h.nodup2
 obtain ⟨Fs2,Gs2,hsim⟩:=h.recells h1 h0 g4 g5 all (F2:=G) (hand2:=Fx++hand) (I2:=I) hG' (fun _ h=>h) (fun _ h=>.inl h)
  (by
   intro b hb
   rw [<- List.append_assoc] at hb
   rcases List.mem_append.1 hb with hb|hb
   ·have hbF:=hFin b (hsubF b (List.mem_append.1 hb))
    exact ⟨(h.apart b (by rw [<- List.append_assoc];exact mAL _ (h.FP_sub hbF))).1,.inl hbF⟩
   ·exact ⟨(h.apart b (mAR _ (mAR _ hb))).1,.inr hb⟩)
  (by
   rw [<- List.append_assoc]
   refine List.nodup_append.2 ⟨hnG,n2,?_⟩
   intro y hy z hz e
   subst e
   exact n3 y (h.FP_sub (hFin y (hsubF y (List.mem_append.1 hy)))) hz)
  (by
   intro b o e
   subst e
   have hbF:b ∈ FP Fs Gs p.root:=by rw [hF];exact List.mem_cons_self ..
   have hnFP:(b::F).Nodup:=by
    obtain ⟨m1,m2,_⟩:=List.nodup_append.1 n1
    have key:∀ {l:List (List Nat)} {t:Nat},l.flatten.Nodup->(l.getD t []).Nodup:=by
     intro l t hl
     by_cases ht:t<l.length
     ·obtain ⟨R,hp,_⟩:=zfx (zaQ [] ht)
      exact (List.nodup_append.1 (hp.nodup_iff.1 hl)).1
     ·simp [List.getD,List.getElem?_eq_none_iff.2 (Nat.le_of_not_lt ht)]
    have:(FP Fs Gs p.root).Nodup:=by cases p.root with
     | slot t=>exact key m1
     | sto t=>exact key m2
    rw [hF] at this;exact this
   refine ⟨(h.apart b (by rw [<- List.append_assoc];exact mAL _ (h.FP_sub hbF))).1,?_⟩
   intro hb
   rw [<- List.append_assoc] at hb
   rcases List.mem_append.1 hb with hb|hb
   ·exact (List.nodup_cons.1 hnFP).1 (hsubF b (List.mem_append.1 hb))
   ·exact n3 b (h.FP_sub hbF) hb)
 exact ⟨Fx,Fs2,Gs2,by
  by_cases hst:p.steps=[]
  ·rw [(hnil hst).2.2.1] at q1;exact q1
  ·rw [(hcons hst).1] at q1;exact q1.monoSto (fun r b e=>by simp at e),hsim⟩
theorem Sim.takePL (h:Sim E hand a w s I ι Fs Gs) {p:Place} {k:BK} {x:D} {s1:St} (hx:s.rdP p k=some x) (hw:s.wrP p (znh k x)=some s1) {v:Value}
  (hv:∀ vs ds bo vs' ds' bo',zaC w a s ι p.root vs ds bo->Foc w vs ds bo p.steps vs' ds' bo'->zig vs' ds' p.off k v) (all:Bool) :
  ∃ Fx Fs2 Gs2,Rep w I ι v x Fx∧Sim E (Fx++hand) a w (s1.kill p.root all) I ι Fs2 Gs2:=by
 obtain ⟨vs,ds,bo,ds',h0,h1,h2,h3⟩:=h.rdP_open hx
 obtain ⟨ds0,ds0',d2,cs,g0,g1,g2,g3,g4,g5⟩:=zfL hw
 rw [h0] at g0;cases g0
 rw [h2] at g1;cases g1
 obtain ⟨F,hr,hn,hF,hb⟩:=zbe h h1
 obtain ⟨vs',bo',ι',F',R,hFoc,hrep,hones,hperm,hnil,hcons,hre⟩:=zcJ p.steps bo hr hn h2
 obtain ⟨Fx,L,R',q1,q2,q3⟩:=znj hrep h3 (hv _ _ _ _ _ _ h1 hFoc)
 have hrep2:RepL w I ι' vs' d2 R':=q3 _ g2
 obtain ⟨G,hG,hGp⟩:=hre w I vs' d2 R' (fun _ h=>h) (fun _ _=>rfl) (fun _ _ _=>rfl)
  (by
   intro hst b o e
   obtain ⟨_,b',o',c,T,e',_,hh,hle,hc⟩:=hcons hst
   rw [e'] at e
   simp only [Option.some.injEq,Prod.mk.injEq] at e
   obtain ⟨rfl,rfl⟩:=e
   exact ⟨c,T,c,hh,hh,rfl,fun _ _=>rfl,hc⟩) rfl hones hrep2 cs g3
 have hG':RepL w I ι vs cs G:=by
  by_cases hst:p.steps=[]
  ·rw [if_pos hst,(hnil hst).1] at hG;exact hG
  ·rw [if_neg hst] at hG;exact hG
 have hFperm:F.Perm ((Fx++(L++R'))++R):=hperm.trans (q2.append_right _)
 have hsubF:∀ b,b ∈ G ∨ b ∈ Fx->b ∈ F:=by
  intro b hb
  refine hFperm.mem_iff.2 ?_
  rcases hb with hb|hb
  ·rcases List.mem_append.1 (hGp.mem_iff.1 hb) with hb|hb
   ·exact mAL _ (mAR _ (mAR _ hb))
   ·exact mAR _ hb
  ·exact mAL _ (mAL _ hb)
 have hFin:∀ b,b ∈ F->b ∈ FP Fs Gs p.root:=by
  intro b hbF
  rw [hF]
  clear hb
  cases bo with
  | none=>exact hbF
  | some q=>exact List.mem_cons_of_mem _ hbF
 have hnG:(G++Fx).Nodup:=by
  have e1:((Fx++(L++R'))++R).Perm (L++(G++Fx)):=by
   refine List.Perm.trans ?_ ((List.Perm.append_right Fx hGp.symm).append_left L)
   rw [List.perm_iff_count];intro y;simp [List.count_append];omega
  have:=e1.nodup_iff.1 (hFperm.nodup_iff.1 hn)
  exact (List.nodup_append.1 this).2.1
 obtain ⟨n1,n2,n3⟩:=h.nodup2
 obtain ⟨Fs2,Gs2,hsim⟩:=h.recells h1 h0 g4 g5 all (F2:=G) (hand2:=Fx++hand) (I2:=I) hG' (fun _ h=>h) (fun _ h=>.inl h)
  (by
   intro b hb
   rw [<- List.append_assoc] at hb
   rcases List.mem_append.1 hb with hb|hb
   ·have hbF:=hFin b (hsubF b (List.mem_append.1 hb))
    exact ⟨(h.apart b (by rw [<- List.append_assoc];exact mAL _ (h.FP_sub hbF))).1,.inl hbF⟩
   ·exact ⟨(h.apart b (mAR _ (mAR _ hb))).1,.inr hb⟩)
  (by
   rw [<- List.append_assoc]
   refine List.nodup_append.2 ⟨hnG,n2,?_⟩
   intro y hy z hz e
   subst e
   exact n3 y (h.FP_sub (hFin y (hsubF y (List.mem_append.1 hy)))) hz)
  (by
   intro b o e
   subst e
   have hbF:b ∈ FP Fs Gs p.root:=by rw [hF];exact List.mem_cons_self ..
   have hnFP:(b::F).Nodup:=by
    obtain ⟨m1,m2,_⟩:=List.nodup_append.1 n1
    have key:∀ {l:List (List Nat)} {t:Nat},l.flatten.Nodup->(l.getD t []).Nodup:=by
     intro l t hl
     by_cases ht:t<l.length
     ·obtain ⟨R,hp,_⟩:=zfx (zaQ [] ht)
      exact (List.nodup_append.1 (hp.nodup_iff.1 hl)).1
     ·simp [List.getD,List.getElem?_eq_none_iff.2 (Nat.le_of_not_lt ht)]
    have:(FP Fs Gs p.root).Nodup:=by cases p.root with
     | slot t=>exact key m1
     | sto t=>exact key m2
    rw [hF] at this;exact this
   refine ⟨(h.apart b (by rw [<- List.append_assoc];exact mAL _ (h.FP_sub hbF))).1,?_⟩
   intro hb
   rw [<- List.append_assoc] at hb
   rcases List.mem_append.1 hb with hb|hb
   ·exact (List.nodup_cons.1 hnFP).1 (hsubF b (List.mem_append.1 hb))
   ·exact n3 b (h.FP_sub hbF) hb)
 exact ⟨Fx,Fs2,Gs2,by
  by_cases hst:p.steps=[]
  ·rw [(hnil hst).2.2.1] at q1;exact q1
  ·rw [(hcons hst).1] at q1;exact q1.monoSto (fun r b e=>by simp at e),hsim⟩
theorem Sim.take (h:Sim E hand a w s I ι Fs Gs) {x:X} {y:D} {s1:St} (hx:s.take x=some (y,s1)) {v:Value} (hv:XV a x v) :
  ∃ Fx Fs2 Gs2,Rep w I ι v y Fx∧Sim E (Fx++hand) a w s1 I ι Fs2 Gs2:=by
 cases x with
 | c d=>cases hx;exact ⟨[],Fs,Gs,hv w I ι,h⟩
 | t n =>
  cases hv
  simp only [St.take] at hx
  split at hx
  ·rename_i z hs
   split at hx
   ·rename_i hX
    simp only [Option.some.injEq,Prod.mk.injEq] at hx
    obtain ⟨rfl,rfl⟩:=hx
    have hroot:s.root (.slot n)=some [z]:=by simp [St.root,hs]
    have hset:s.setRoot (.slot n) [D.dead]=some { s with sl:=s.sl.set n (.d .dead) }:=by simp [St.setRoot,hs]
    have hri:zaC w a s ι (.slot n) [a.tmps.getD n undef] [z] none:=.inr ⟨z,hs,rfl,rfl,rfl⟩
    obtain ⟨F,hr,hn,hF,_⟩:=zbe h hri
    obtain ⟨n1,n2,n3⟩:=h.nodup2
    obtain ⟨v0,e0,hv0⟩:=hr.of_one
    simp only [List.cons.injEq,and_true] at e0
    have hFr:∀ b ∈ F,b ∈ FP Fs Gs (.slot n):=fun b hb=>by rw [hF];exact hb
    obtain ⟨Fs2,Gs2,hsim⟩:=h.recells hri hroot hset rfl true (F2:=[]) (hand2:=F++hand) (I2:=I) (RepL.one (.dead ..)) (fun _ h=>h) (fun _ h=>.inl h)
     (by
      intro b hb
      simp only [List.nil_append] at hb
      rcases List.mem_append.1 hb with hb|hb
      ·exact ⟨(h.apart b (by rw [<- List.append_assoc];exact mAL _ (h.FP_sub (hFr b hb)))).1,.inl (hFr b hb)⟩
      ·exact ⟨(h.apart b (mAR _ (mAR _ hb))).1,.inr hb⟩)
     (by
      simp only [List.nil_append]
      exact List.nodup_append.2 ⟨hn,n2,fun y hy z hz e=>n3 y (h.FP_sub (hFr y hy)) (e ▸ hz)⟩)
     (fun b o e=>by cases e)
    refine ⟨F,Fs2,Gs2,by rw [e0];exact hv0,?_⟩
    have e:(St.kill { s with sl:=s.sl.set n (.d .dead) } (.slot n) true)={ s with sl:=(s.sl.map (SV.kill (.slot n) true)).set n (.d .dead) }:=by
     simp [St.kill,List.map_set,SV.kill_d]
    rw [<- e]
    exact hsim
   ·rename_i hX
    simp only [Option.some.injEq,Prod.mk.injEq] at hx
    obtain ⟨rfl,rfl⟩:=hx
    have h0:=h.slot n _ hs
    have hF:Fs.getD n []=[]:=Rep.noX h0 (by simpa using hX)
    rw [hF] at h0
    exact ⟨[],Fs,Gs,h0,h⟩
  ·rename_i p k hs
   split at hx
   ·rename_i z hz
    split at hx
    ·rename_i s' hw
     simp only [Option.some.injEq,Prod.mk.injEq] at hx
     obtain ⟨rfl,rfl⟩:=hx
     exact h.takePL hz hw (h.good n _ hs) false
    ·cases hx
   ·cases hx
  ·rename_i r off hs
   split at hx
   ·rename_i hlt
    simp only [Option.some.injEq,Prod.mk.injEq] at hx
    obtain ⟨rfl,rfl⟩:=hx
    obtain ⟨Fx,h1,_⟩:=h.rd (x:=.t n) (y:=.ref r off) (by simp [St.rd,hs,hlt]) rfl
    have:Fx=[]:=Rep.noX h1 rfl
    subst this
    exact ⟨[],Fs,Gs,h1,h⟩
   ·cases hx
  ·cases hx
end
end Go.Vx
namespace Go.Vx
def vz (P:Program):Nat->TypeId->Option (List D)
 | 0,_=>none
 | d + 1,t =>
  match P.underlying t with
  | some (.int k)=>some [.int k 0]
  | some .bool=>some [.bool false]
  | some .string=>some [.str .empty]
  | some (.slice e)=>(P.info? e).map fun i=>[.sl true i.size []]
  | some (.pointer _)=>some [.nilp]
  | some (.func _ _ _)=>some [.nilf]
  | some (.struct fs)=>(fs.toList.mapM fun f=>vz P d f.type).map List.flatten
  | some (.array n e)=>(vz P d e).map fun l=>(List.replicate n l).flatten
  | _=>none
def okZ:Value->D->Bool
 | .int k n,.int k' m=>k == k' && n == m
 | .bool b,.bool c=>b == c
 | .string s,.str t=>s.data.toList == t.data.toList
 | .slice none 0 0,.sl _ _ []=>true
 | .pointer none,.nilp=>true
 | .nilFunc,.nilf=>true
 | _,_=>false
def okZs:List Value->List D->Bool
 | [],[]=>true
 | v::vs,d::ds=>okZ v d && okZs vs ds
 | _,_=>false
def zdc (P:Program) (t:TypeId):Option Bool:=(P.underlying t).map fun|.struct _|.array _ _=>true|_=>false
def zhH (P:Program) (t:TypeId):Option (List D) :=
 match P.info? t with
 | some i =>
  match i.zero,vz P 20 t with
  | some z,some ds=>if okZs z.cells.toList ds && z.cells.size == i.size then some ds else none
  | _,_=>none
 | none=>none
def bkOf (P:Program) (t:TypeId):Option BK :=
 match zdc P t,P.info? t with
 | some true,some i=>some (.many i.size)
 | some false,some i=>if i.size=1 then some .one else none
 | _,_=>none
def zfM (P:Program) (t:TypeId):Option D :=
 match zhH P t,bkOf P t with
 | some ds,some (.many _)=>if zah ds then none else some (.agg ds)
 | some [d],some .one=>if d.hasRef then none else some d
 | _,_=>none
def zcd (P:Program) (t:TypeId):Option Nat:=(P.info? t).map (·.size)
def zmk (P:Program) (ty:TypeId) (v:Value):Option D :=
 match v with
 | .int k n=>some (.int k n)
 | .bool b=>some (.bool b)
 | .string s=>some (.str s)
 | .slice none 0 0 =>
  match P.underlying ty with
  | some (.slice e)=>(zcd P e).map fun n=>.sl true n []
  | _=>none
 | .pointer none=>some .nilp
 | .nilFunc=>some .nilf
 | _=>none
def cX (P:Program) (ty:TypeId):Operand->Option X
 | .tmp t=>some (.t t)
 | .const v=>(zmk P ty v).map .c
 | .func f=>some (.c (.fn f []))
 | .global _=>none
def zpr (P:Program) (t:TypeId):Option TypeId :=
 match P.underlying t with
 | some (.slice e)=>some e
 | _=>none
def cksF (rec:TypeId->Option (List CK)) (P:Program):Nat->List Field->Option (List CK)
 | _,[]=>some []
 | off,f::fs =>
  match rec f.type,P.info? f.type with
  | some ks,some i=>if f.name != "_" && f.offset == off && i.size == ks.length && !ks.isEmpty then (cksF rec P (off + ks.length) fs).map (ks ++ ·) else none
  | _,_=>none
def cks (P:Program):Nat->TypeId->Option (List CK)
 | 0,_=>none
 | d + 1,t =>
  match P.underlying t with
  | some (.int _)=>some [.int]
  | some .bool=>some [.bool]
  | some .string=>some [.str]
  | some (.struct fs)=>if P.stoodInHeld t then none else cksF (cks P d) P 0 fs.toList
  | _=>none
def isEq:BinOp->Option Bool
 | .eql=>some false
 | .neq=>some true
 | _=>none
def zipM:List M->List X->List (M × X)
 | _,[]=>[]
 | [],x::xs=>(.rd,x)::zipM [] xs
 | m::ms,x::xs=>(m,x)::zipM ms xs
def cXs (P:Program):List TypeId->List Operand->Option (List X)
 | _,[]=>some []
 | ts,x::xs =>
  match cX P (ts.headD 0) x,cXs P ts.tail xs with
  | some y,some ys=>some (y::ys)
  | _,_=>none
def nilX:M × X->M × X
 | (.fz,.c (.sl _ z []))=>(.fz,.c (.nils z))
 | p=>p
def zfi (P:Program) (f:Nat):Bool :=
 match P.funcs[f]? with
 | some fn=>fn.body.isSome && fn.name != "runtime.NumGoroutine"
 | none=>false
def zzr (P:Program) (t:Nat):Bool :=
 match P.underlying t with
 | some (.pointer _)=>true
 | _=>false
def I.callG (g:Bool) (d:Option Nat) (f:Nat) (as:List (M × X)):I:=if g=true then .cag d f as else .call d f as
def zhn (P:Program) (mo:Nat->List M) (g:Bool) (dst:Option Nat) (c:Call):Option I :=
 match c.callee with
 | .value (.func f)=>if zfi P f then (if (g || decide (c.args.size<(mo f).length))=true then (cXs P c.argTypes.toList c.args.toList).map fun xs=>.cag dst f ((zipM (mo f) xs).map nilX) else (cXs P c.argTypes.toList c.args.toList).map fun xs=>.call dst f ((zipM (mo f) xs).map nilX)) else none
 | .value g =>
  match cX P 0 g,cXs P c.argTypes.toList c.args.toList with
  | some g,some xs=>some (.cal dst g (xs.map fun x=>(M.fz,x)))
  | _,_=>none
 | .builtin .len =>
  match dst,c.args.toList,c.argTypes.toList with
  | some d,[x],[t] =>
   match cX P t x,P.underlying t with
   | some x,some .string=>some (.les d x)
   | some x,some (.slice _)=>some (.len d x)
   | _,_=>none
  | _,_,_=>none
 | .builtin .cap =>
  match dst,c.args.toList,c.argTypes.toList with
  | some d,[x],[t] =>
   match cX P t x,P.underlying t with
   | some x,some (.slice _)=>some (.cap d x)
   | _,_=>none
  | _,_,_=>none
 | .builtin .append =>
  match dst,c.args.toList,c.argTypes.toList with
  | some d,[x,y],[t,u] =>
   match cX P t x,cX P u y,P.underlying t with
   | some x,some y,some (.slice e) =>
    match P.info? e,zhH P e with
    | some i,some z =>
     if 0<i.size∧i.bytes<=65536 then
      match P.underlying u with
      | some (.slice _)=>some (.app d i.size x y)
      | some .string=>some (.app d i.size x y)
      | some (.int _) =>
       match zfM P e with
       | some z=>if z.cells.length=i.size then some (.apn d i.size z x y) else none
       | none=>none
      | _=>none
     else none
    | _,_=>none
   | _,_,_=>none
  | _,_,_=>none
 | _=>none
def zyA (P:Program) (t n:Nat):Nat :=
 match P.underlying t with
 | some (.struct _)=>n
 | _=>0
def zgM (P:Program) (mo:Nat->List M) (o:Oper):Option I :=
 match o.op,o.dst with
 | .move x,some d=>(cX P o.type x).map fun x=>.mv d x
 | .assign x,some d=>(cX P o.type x).map fun x=>.asg d x
 | .pick c a b,some d =>
  match cX P 0 c,cX P o.type a,cX P o.type b with
  | some c,some a,some b=>some (.pick d c a b)
  | _,_,_=>none
 | .alloc t,some d=>(zhH P t).map fun z=>.alloc d z
 | .box t x,some d =>
  match zcd P t,cX P t x with
  | some n,some x=>some (.box d n x)
  | _,_=>none
 | .build t parts,some d =>
  match zhH P t,P.underlying t with
  | some z,some (.struct fs) =>
   if (fs.all fun f=>(P.info? f.type).isSome)=true then
    (parts.toList.mapM fun (p:Nat × Operand) =>
     match (fs[p.1]? : Option Field) with
     | some f =>
      match zcd P f.type,cX P f.type p.2 with
      | some n,some x=>some (f.offset,n,x)
      | _,_=>none
     | none=>none).map fun ps=>.build d z ps
   else none
  | some z,some (.array _ e) =>
   match zcd P e with
   | some n=>(parts.toList.mapM fun (p:Nat × Operand)=>(cX P e p.2).map fun x=>(p.1 * n,n,x)).map fun ps=>.build d z ps
   | none=>none
  | _,_=>none
 | .buildSlice t len parts,some d =>
  match zpr P t with
  | some e =>
   match zcd P e,zfM P e with
   | some n,some z =>
    if 0<n∧len * n<=16777216∧(z.cells.length=n) then (parts.toList.mapM fun (p:Nat × Operand)=>(cX P e p.2).map fun x=>(p.1,x)).map fun ps=>.bsl d n z len ps else none
   | _,_=>none
  | none=>none
 | .load t x,some d =>
  match bkOf P t,cX P 0 x with
  | some k,some x=>some (.ld d k x)
  | _,_=>none
 | .store t a x,none =>
  match zcd P t,cX P 0 a,cX P t x with
  | some n,some a,some x=>some (.st n a x)
  | _,_,_=>none
 | .fieldAddr t x f,some d =>
  match P.underlying t,cX P 0 x with
  | some (.struct fs),some x =>
   match (fs[f]? : Option Field) with
   | some f =>
    match zcd P f.type with
    | some (n + 1)=>some (.fad d f.offset (zyA P f.type (n + 1)) x)
    | _=>none
   | none=>none
  | _,_=>none
 | .field t x f,some d =>
  match P.underlying t,cX P 0 x with
  | some (.struct fs),some x =>
   match (fs[f]? : Option Field) with
   | some f=>(bkOf P f.type).map fun k=>.fld d k f.offset x
   | none=>none
  | _,_=>none
 | .indexAddr t x i,some d =>
  match P.underlying t,cX P t x,cX P 0 i with
  | some (.slice e),some x,some i =>
   match zcd P e with
   | some n=>if 0<n then some (.iad d n x i) else none
   | none=>none
  | some (.array len e),some x,some i =>
   match zcd P e with
   | some n=>if 0<n then some (.iar d len n x i) else none
   | none=>none
  | _,_,_=>none
 | .index t x i,some d =>
  match P.underlying t,cX P t x,cX P 0 i with
  | some .string,some x,some i=>some (.ixs d x i)
  | _,_,_=>none
 | .binOp op t x y _,some d =>
  match cX P t x,cX P t y with
  | some x,some y =>
   match P.underlying t with
   | some (.int _)|some .string=>some (.bin d op x y)
   | some .bool=>(isEq op).map fun neg=>.eqb d neg x y
   | some (.slice _) =>
    match y with
    | .c (.sl _ _ [])=>(isEq op).map fun neg=>.isn d neg x
    | _=>none
   | some (.struct _) =>
    match isEq op,cks P 10 t with
    | some neg,some ks=>if !P.eqGuardType P.depth t then some (.eqa d neg ks x y) else none
    | _,_=>none
   | _=>none
  | _,_=>none
 | .unOp op _ x,some d=>(cX P 0 x).map fun x=>.un d op x
 | .convert src dst x,some d =>
  match P.underlying src,P.underlying dst,cX P src x with
  | some (.int _),some (.int k),some x=>some (.conv d (.int k) x)
  | some .string,some .string,some x=>some (.conv d .same x)
  | some .string,some (.slice e),some x =>
   match P.underlying e with
   | some (.int .u8)=>some (.conv d .bytes x)
   | _=>none
  | some (.slice e),some .string,some x =>
   match P.underlying e with
   | some (.int .u8)=>some (.conv d .text x)
   | _=>none
  | _,_,_=>none
 | .slice t x lo hi none,some d =>
  match P.underlying t,cX P t x,lo.mapM (cX P 0),hi.mapM (cX P 0) with
  | some .string,some x,some lo,some hi=>some (.sls d x lo hi)
  | some (.slice e),some x,some lo,some hi=>(zcd P e).map fun n=>.slc d n x lo hi
  | _,_,_,_=>none
 | .makeSlice t len cap,some d =>
  match zpr P t,cX P 0 len,cX P 0 cap with
  | some e,some len,some cap =>
   match P.info? e,zfM P e with
   | some i,some z=>if 0<i.size∧i.bytes<=65536∧z.cells.length=i.size then some (.mks d i.size z len cap) else none
   | _,_=>none
  | _,_,_=>none
 | .extract x i,some d=>(cX P 0 x).map fun x=>.ext d x i
 | .nilCheck x,some d=>(cX P 0 x).map fun x=>.nc d x
 | .makeFunc (.func f) first captured,some d =>
  if first.isEmpty then (captured.toList.mapM (cX P 0)).map fun cs=>if (mo f).getLast? = some .fz then .mkz d f cs else .mkf d f cs else if captured.isEmpty then (first.toList.mapM (cX P 0)).map fun cs=>.mkb d f cs else none
 | .call c,dst=>zhn P mo (zzr P o.type) dst c
 | _,_=>none
def zjL (P:Program) (mo:Nat->List M) (ops:Array Oper) (o:Oper):Option I :=
 match o.guard with
 | none=>zgM P mo o
 | some (j,w) =>
  match (ops[j]?).bind (·.dst) with
  | some g=>(zgM P mo o).map fun i=>.gd g w i
  | none=>none
def zle (P:Program) (mo:Nat->List M) (ops:Array Oper) (o:Oper):Option I :=
 match zjL P mo ops o with
 | some i=>some i
 | none=>if o.guard.isNone=true then some .no else none
def zjM (ops:Array Oper):List (Nat × Nat) :=
 let bs:=Region.before ops
 (List.range ops.size).flatMap fun j=>((List.range j).filter fun i=>!((bs.getD j 0).testBit i)).map fun i=>(i,j)
def zho (ops:Array Oper):Bool:=(List.range ops.size).all fun i =>
 match ops[i]? with
 | some o=>o.after.all fun e=>!(Region.binds .any e) || decide (e.on<i)
 | none=>true
def zBt (mus:List Nat) (ops:Array Oper):Bool:=ops.toList.all fun o =>
 match o.dst with
 | some d=>!(mus.contains d)
 | none=>true
def zaS (P:Program) (mo:Nat->List M) (mus:List Nat):Code->Option C
 | .region _ ops draw =>
  if zBt mus ops=true then
   match draw with
   | true =>
    match ops.toList.mapM (zjL P mo ops) with
    | some l=>if zho ops=true then some (.draw l (zqk l (zjM ops))) else none
    | none=>none
   | false=>(ops.toList.mapM (zle P mo ops)).map .ops
  else none
 | .seq a b =>
  match zaS P mo mus a,zaS P mo mus b with
  | some x,some y=>some (.seq x y)
  | _,_=>none
 | .cond c a b =>
  match cX P 0 c,zaS P mo mus a,zaS P mo mus b with
  | some c,some x,some y=>some (.cond c x y)
  | _,_,_=>none
 | .block id a=>(zaS P mo mus a).map fun x=>.block id x
 | .loop a=>(zaS P mo mus a).map fun x=>.loop x
 | .exit id=>some (.exit id)
 | .ret=>some .ret
 | .skip=>some .skip
 | _=>none
def musI:Nat->List M->List Nat
 | _,[]=>[]
 | k,.mu::r=>k::musI (k + 1) r
 | k,_::r=>musI (k + 1) r
def zov (P:Program):ResultVar->Option RV
 | .tmp t=>some (.tmp t)
 | .cell a t=>(bkOf P t).map fun k=>.cell a k
def zqq (P:Program) (mo:Nat->List M) (f:Nat):Option F :=
 match P.funcs[f]? with
 | some fn =>
  match fn.body with
  | some c =>
   match zaS P mo (musI 0 ((mo f).take (fn.params.size + fn.nfree))) c,fn.results.toList.mapM (zov P) with
   | some c',some rs =>
    if zfi P f=true then some ⟨fn.params.size + fn.nfree,fn.ntmps,musI 0 ((mo f).take (fn.params.size + fn.nfree)),rs,c'⟩ else none
   | _,_=>none
  | none=>none
 | none=>none
end Go.Vx
namespace Go.Vx
def Done (P:Program) (o:Oper) (a:Act) (w:World) (E:Env) (s':St):Prop :=
 ∃ n w' v I' ι' Fs' Gs',(execOp a.eval o).run P w=.ok n w'∧(n=.value v ∨ (n=.skip∧v=undef))∧Sim E [] (a.put o.dst v) w' s' I' ι' Fs' Gs'
section
variable {w:World} {I:Nat->Prop} {ι:List Nat} {v:Value} {F:List Nat}
theorem Rep.is_int {k:IntKind} {n:Int} (h:Rep w I ι v (.int k n) F):v=.int k n:=by cases h;rfl
theorem Rep.is_bool {b:Bool} (h:Rep w I ι v (.bool b) F):v=.bool b:=by cases h;rfl
theorem Rep.is_str {s:ByteArray} (h:Rep w I ι v (.str s) F):v=.string s:=by cases h;rfl
theorem Rep.is_tup {ps:List D} (h:Rep w I ι v (.tup ps) F):∃ vs,v=.tuple vs.toArray∧RepL w I ι vs ps F:=by cases h with|tup _ vs _ _ h=>exact ⟨vs,rfl,h⟩
theorem Rep.is_agg {cs:List D} (h:Rep w I ι v (.agg cs) F):∃ vs,v=.agg vs.toArray∧RepL w I ι vs cs F∧ones vs:=by cases h with|agg _ vs _ _ h ho=>exact ⟨vs,rfl,h,ho⟩
theorem Rep.is_gho {n:Nat} (h:Rep w I ι v (.gho n) F):∃ ad cap,v=.slice ad n cap:=by
 cases h
 exact ⟨_,_,rfl⟩
theorem Rep.is_fn {f:Nat} {cs:List D} (h:Rep w I ι v (.fn f cs) F):∃ vs,v=.func (.func f) #[] vs.toArray∧RepL w I ι vs cs []∧F=[]:=by cases h with|fn _ _ vs _ h=>exact ⟨vs,rfl,h,rfl⟩
theorem Rep.is_ref {r off:Nat} (h:Rep w I ι v (.ref r off) F):∃ b,ι[r]? = some b∧v=.pointer (some ⟨b,off,none⟩)∧F=[]:=by cases h with|ref _ _ _ b h=>exact ⟨b,h,rfl,rfl⟩
theorem Rep.is_pim {cs:List D} {off:Nat} (h:Rep w I ι v (.pim cs off) F):∃ b o vs,v=.pointer (some ⟨b,o + off,none⟩)∧I b∧zaA w b o vs∧ones vs∧RepL w I [] vs cs []∧F=[]:=by
 cases h with|pim _ b o _ _ vs h1 h2 h3 h4=>exact ⟨b,o,vs,rfl,h1,h2,h3,h4,rfl⟩
theorem Rep.is_sl {o:Bool} {z:Nat} {xs:List D} (h:Rep w I ι v (.sl o z xs) F):∃ ad cap,v=.slice ad xs.length cap∧xs.length<=cap:=by
 cases h with
 | nil=>exact ⟨_,_,rfl,by simp⟩
 | emp=>exact ⟨_,_,rfl,by simp⟩
 | empS=>exact ⟨_,_,rfl,by simp⟩
 | shr _ b o n cap _ _ vs hn=>obtain ⟨rfl,hc⟩:=hn;exact ⟨_,_,rfl,hc⟩
 | own _ b o n cap _ _ vs T c F hn hh hs hc=>subst hn;exact ⟨_,_,rfl,hc⟩
theorem Rep.is_nils {w:World} {I:Nat->Prop} {ι:List Nat} {v:Value} {z:Nat} {F:List Nat} (h:Rep w I ι v (.nils z) F):v=.slice none 0 0:=by cases h;rfl
theorem Rep.asl {w:World} {I:Nat->Prop} {ι:List Nat} {v:Value} {d:D} {F:List Nat} (h:Rep w I ι v d F):Rep w I ι v d.asl F:=by
 cases d with
 | nils z=>cases h;exact .nil ..
 | _=>exact h
theorem Rep.is_anyb {w:World} {I:Nat->Prop} {ι:List Nat} {v:Value} {F:List Nat} (h:Rep w I ι v .anyb F):∃ b,v=.bool b:=by cases h;exact ⟨_,rfl⟩
theorem zyB {v:Value} {d:D} (h:okZ v d=true) (w:World) (I:Nat->Prop) (ι:List Nat):Rep w I ι v d []∧v.oneCell'=true:=by
 unfold okZ at h
 split at h
 ·simp at h;obtain ⟨rfl,rfl⟩:=h;exact ⟨.int ..,rfl⟩
 ·simp at h;subst h;exact ⟨.bool ..,rfl⟩
 ·rename_i s t
  have:s=t:=by
   have:=eq_of_beq h
   cases s with|mk a=>cases t with|mk b=>simpa using this
  subst this;exact ⟨.str ..,rfl⟩
 ·exact ⟨.nil ..,rfl⟩
 ·exact ⟨.nilp ..,rfl⟩
 ·exact ⟨.nilf ..,rfl⟩
 ·cases h
theorem zjz:∀ {vs:List Value} {ds:List D},okZs vs ds=true->∀ (w:World) (I:Nat->Prop) (ι:List Nat),RepL w I ι vs ds []∧ones vs
 | [],[],_,_,_,_=>⟨.nil _,fun _ h=>by cases h⟩
 | v::vs,d::ds,h,w,I,ι=>by
  simp [okZs] at h
  obtain ⟨h1,h2⟩:=zyB h.1 w I ι
  obtain ⟨g1,g2⟩:=zjz h.2 w I ι
  exact ⟨.cons _ _ _ [] _ _ [] h1 g1,fun x hx=>(List.mem_cons.1 hx).elim (fun e=>e ▸ h2) (g2 x)⟩
 | [],_::_,h,_,_,_=>by simp [okZs] at h
 | _::_,[],h,_,_,_=>by simp [okZs] at h
end
theorem zps {P:Program} {ty:TypeId} {v:Value} {d:D} (h:zmk P ty v=some d) (w:World) (I:Nat->Prop) (ι:List Nat):Rep w I ι v d []:=by
 unfold zmk at h
 split at h
 ·cases h;exact .int ..
 ·cases h;exact .bool ..
 ·cases h;exact .str ..
 ·split at h
  ·simp only [Option.map_eq_some_iff] at h;obtain ⟨n,_,rfl⟩:=h;exact .nil ..
  ·cases h
 ·cases h;exact .nilp ..
 ·cases h;exact .nilf ..
 ·cases h
theorem zal {P:Program} {ty:TypeId} {x:Operand} {y:X} (h:cX P ty x=some y) (a:Act):XV a y (a.eval x):=by
 cases x with
 | tmp t=>cases h;rfl
 | const v =>
  simp only [cX,Option.map_eq_some_iff] at h
  obtain ⟨d,hd,rfl⟩:=h
  exact fun w I ι=>zps hd w I ι
 | global g=>cases h
 | func f=>cases h;exact fun w I ι=>.fn _ _ [] [] (.nil _)
theorem zac {s:Option St} {s':St} (h:okS s=some (.st s')):s=some s':=by
 unfold okS at h
 cases s with
 | none=>cases h
 | some t=>simpa using h
section
variable {P:Program} {E:Env} {hand:List Nat} {a:Act} {w:World} {s:St} {I:Nat->Prop} {ι:List Nat} {Fs Gs:List (List Nat)}
theorem Sim.sv (h:Sim E hand a w s I ι Fs Gs) {x:X} {sv:SV} (hx:s.sv x=some sv) {v:Value} (hv:XV a x v) :
  zdb w I ι v sv []∧zgf w a s ι v sv∧zgs s sv:=by
 cases x with
 | c d=>cases hx;exact ⟨hv w I ι,trivial,fun u hu=>by cases hu⟩
 | t n =>
  cases hv
  simp only [St.sv] at hx
  split at hx
  ·rename_i y hs
   split at hx
   ·rename_i hX
    cases hx
    refine ⟨rfl,?_,?_⟩
    ·intro vs ds bo vs' ds' bo' g1 g2
     cases g2
     rcases g1 with ⟨_,_,_,g,_⟩|⟨_,_,rfl,_,_⟩
     ·rw [hs] at g;cases g
     ·rfl
    ·intro u hu
     simp [SV.into] at hu
     subst hu
     refine ⟨_,hs,?_,fun p e=>by cases e⟩
     cases y <;> simp_all [SV.isRoot,D.hasX]
   ·rename_i hX
    cases hx
    have h0:=h.slot n _ hs
    rw [Rep.noX h0 (by simpa using hX)] at h0
    exact ⟨h0,trivial,fun u hu=>by cases hu⟩
  ·rename_i cs hs
   cases hx
   refine ⟨rfl,?_,?_⟩
   ·intro vs ds bo vs' ds' bo' g1 g2
    cases g2
    rcases g1 with ⟨b,c,T,g,hv,_,_,rfl⟩|⟨_,g,_⟩
    ·exact ⟨b,0,rfl,hv⟩
    ·rw [hs] at g;cases g
   ·intro u hu
    simp [SV.into] at hu
    subst hu
    exact ⟨_,hs,rfl,fun p e _=>⟨cs,rfl⟩⟩
  ·rename_i v' h1 h2 hs
   cases hx
   have h0:=h.slot n _ hs
   have hg:=h.good n _ hs
   have hr:=fun u hu=>h.rooted n _ u hs hu
   cases sv with
   | d y=>exact absurd rfl (h1 y)
   | box cs=>exact absurd rfl (h2 cs)
   | bor p k=>exact ⟨rfl,hg,hr⟩
   | ptr p=>exact ⟨rfl,hg,hr⟩
  ·cases hx
theorem Sim.ptr_open (h:Sim E hand a w s I ι Fs Gs) {p:Place} {k:BK} {z:D} (hz:s.rdP p k=some z) {v:Value} (hok:zgf w a s ι v (.ptr p)):∃ b o,v=.pointer (some ⟨b,o + p.off,none⟩):=by
 obtain ⟨vs,ds,bo,ds',h0,h1,h2,h3⟩:=h.rdP_open hz
 obtain ⟨F,hr,hn,hF,hb⟩:=zbe h h1
 obtain ⟨vs',bo',ι',F',R,hFoc,_⟩:=zcJ p.steps bo hr hn h2
 obtain ⟨b,o,_,e⟩:=hok _ _ _ _ _ _ h1 hFoc
 exact ⟨b,o,e⟩
theorem Sim.done (h:Sim E [] a w s I ι Fs Gs) {o:Oper} {d:Nat} (hd:o.dst=some d) (hp:∀ v,(d,v) ∉ E.pin) {sv:SV} {s':St} (hs:s.setD d sv=some s') {v:Value}
  (hrun:(execOp a.eval o).run P w=.ok (.value v) w) (hrep:zdb w I ι v sv []) (hok:zgf w a s ι v sv) (hroot:zgs s sv):Done P o a w E s':=by
 obtain ⟨Fs2,h2⟩:=Sim.setD (F:=[]) (hand:=[]) h hs hp hrep hok hroot
 exact ⟨_,w,v,I,ι,Fs2,Gs,hrun,.inl rfl,by rw [hd];exact h2⟩
theorem Sim.doneD (h:Sim E [] a w s I ι Fs Gs) {o:Oper} {d:Nat} (hd:o.dst=some d) (hp:∀ v,(d,v) ∉ E.pin) {x:D} {s':St} (hs:s.setD d (.d x)=some s') {v:Value}
  (hrun:(execOp a.eval o).run P w=.ok (.value v) w) (hrep:Rep w I ι v x []):Done P o a w E s' :=
 h.done hd hp hs hrun hrep trivial (fun u hu=>by cases hu)
theorem zkL {y:X} {n:Nat} {ps:List D} (h:s.tupAt y=some (n,ps)):y=.t n∧s.sl[n]? = some (.d (.tup ps)):=by
 cases y with
 | c d=>cases h
 | t m =>
  simp only [St.tupAt] at h
  split at h
  ·rename_i hs;cases h;exact ⟨rfl,hs⟩
  ·cases h
theorem Sim.regD (h:Sim E hand a w s I ι Fs Gs) {n:Nat} {y x:D} (hs:s.sl[n]? = some (.d y)) (hx:∀ v F,Rep w I ι v y F->Rep w I ι v x []) :
  ∃ F Fs2 Gs2,Rep w I ι (a.tmps.getD n undef) y F∧Sim E (F++hand) a w (s.reg n x) I ι Fs2 Gs2:=by
 have hroot:s.root (.slot n)=some [y]:=by simp [St.root,hs]
 have hset:s.setRoot (.slot n) [x]=some { s with sl:=s.sl.set n (.d x) }:=by simp [St.setRoot,hs]
 have hri:zaC w a s ι (.slot n) [a.tmps.getD n undef] [y] none:=.inr ⟨y,hs,rfl,rfl,rfl⟩
 obtain ⟨F,hr,hn,hF,_⟩:=zbe h hri
 obtain ⟨n1,n2,n3⟩:=h.nodup2
 obtain ⟨v0,e0,hv0⟩:=hr.of_one
 simp only [List.cons.injEq,and_true] at e0
 have hFr:∀ b ∈ F,b ∈ FP Fs Gs (.slot n):=fun b hb=>by rw [hF];exact hb
 rw [<- e0] at hv0
 obtain ⟨Fs2,Gs2,hsim⟩:=h.recells hri hroot hset rfl true (F2:=[]) (hand2:=F++hand) (I2:=I) (RepL.one (hx _ _ hv0)) (fun _ h=>h) (fun _ h=>.inl h)
  (by
   intro b hb
   simp only [List.nil_append] at hb
   rcases List.mem_append.1 hb with hb|hb
   ·exact ⟨(h.apart b (by rw [<- List.append_assoc];exact mAL _ (h.FP_sub (hFr b hb)))).1,.inl (hFr b hb)⟩
   ·exact ⟨(h.apart b (mAR _ (mAR _ hb))).1,.inr hb⟩)
  (by
   simp only [List.nil_append]
   exact List.nodup_append.2 ⟨hn,n2,fun y hy z hz e=>n3 y (h.FP_sub (hFr y hy)) (e ▸ hz)⟩)
  (fun b o e=>by cases e)
 refine ⟨F,Fs2,Gs2,hv0,?_⟩
 have e:(St.kill { s with sl:=s.sl.set n (.d x) } (.slot n) true)=s.reg n x:=by
  simp [St.kill,St.reg,List.map_set,SV.kill_d]
 rw [<- e]
 exact hsim
theorem zBu (h:Sim E [] a w s I ι Fs Gs) {o:Oper} {d:Nat} (hd:o.dst=some d) (hp:∀ v,(d,v) ∉ E.pin) {x:Operand} {y:X} {ty:TypeId} (ho:o.op=.move x)
  (hc:cX P ty x=some y) {s':St} (hv:vact (.mv d y) s=some (.st s')):Done P o a w E s':=by
 have hrun:(execOp a.eval o).run P w=.ok (.value (a.eval x)) w:=by simp [execOp,ho,Sem.run,pure]
 simp only [vact] at hv
 split at hv
 ·rename_i n ps ht
  have h2:=zac hv
  obtain ⟨rfl,hs⟩:=zkL ht
  obtain ⟨F,Fs2,Gs2,g1,g2⟩:=h.regD hs (x:=.dead) (fun v F h=>.dead ..)
  obtain ⟨Fs3,g3⟩:=Sim.setVal (hand:=[]) g2 h2 hp g1
  have hx:a.eval x=a.tmps.getD n undef:=zal hc a
  exact ⟨_,w,_,I,ι,Fs3,Gs2,hrun,.inl rfl,by rw [hd,hx];exact g3⟩
 ·have:=zac hv
  rw [Option.bind_eq_some_iff] at this
  obtain ⟨sv,h1,h2⟩:=this
  obtain ⟨g1,g2,g3⟩:=h.sv h1 (zal hc a)
  exact h.done hd hp h2 hrun g1 g2 g3
theorem zzs (h:Sim E [] a w s I ι Fs Gs) {o:Oper} {d:Nat} (hd:o.dst=some d) (hp:∀ v,(d,v) ∉ E.pin) {x:Operand} {y:X} {ty:TypeId} (ho:o.op=.assign x)
  (hc:cX P ty x=some y) {s':St} (hv:vact (.asg d y) s=some (.st s')):Done P o a w E s':=by
 have hrun:(execOp a.eval o).run P w=.ok (.value (a.eval x)) w:=by simp [execOp,ho,Sem.run,pure]
 simp only [vact] at hv
 split at hv
 ·rename_i sv hsv
  have h2:=zac hv
  have:s.sv y=some sv ∨ s.sv y=some sv:=by
   cases y with
   | c d=>cases hsv
   | t n =>
    simp only [St.isPtr] at hsv
    split at hsv <;> rename_i hs
    ·cases hsv;left;simp [St.sv,hs]
    ·cases hsv;left;simp [St.sv,hs]
    ·cases hsv
  have h1:s.sv y=some sv:=this.elim id id
  obtain ⟨g1,g2,g3⟩:=h.sv h1 (zal hc a)
  exact h.done hd hp h2 hrun g1 g2 g3
 ·have h2:=zac hv
  rw [Option.bind_eq_some_iff] at h2
  obtain ⟨⟨z,s1⟩,h2,h3⟩:=h2
  obtain ⟨Fx,Fs2,Gs2,g1,g2⟩:=h.take h2 (zal hc a)
  obtain ⟨Fs3,g3⟩:=Sim.setVal (hand:=[]) g2 h3 hp g1
  exact ⟨_,w,_,I,ι,Fs3,Gs2,hrun,.inl rfl,by rw [hd];exact g3⟩
theorem zBv (h:Sim E [] a w s I ι Fs Gs) {o:Oper} {d:Nat} (hd:o.dst=some d) (hp:∀ v,(d,v) ∉ E.pin) {x:Operand} {y:X} {ty:TypeId} (ho:o.op=.nilCheck x)
  (hc:cX P ty x=some y) {s':St} (hv:vact (.nc d y) s=some (.st s')):Done P o a w E s':=by
 simp only [vact] at hv
 have key:∀ {sv:SV},s.sv y=some sv->s.setD d sv=some s'->(∃ ad,a.eval x=.pointer (some ad)) ∨ (∃ f cs,a.eval x=.func (.func f) #[] cs)->Done P o a w E s':=by
  intro sv h1 h2 h3
  obtain ⟨g1,g2,g3⟩:=h.sv h1 (zal hc a)
  refine h.done hd hp h2 ?_ g1 g2 g3
  rcases h3 with ⟨ad,e⟩|⟨f,cs,e⟩ <;> simp [execOp,ho,e,Sem.run,pure]
 split at hv
 ·rename_i p h1
  split at hv
  ·rename_i hsome
   have h2:=zac hv
   refine key h1 h2 (.inl ?_)
   obtain ⟨g1,g2,g3⟩:=h.sv h1 (zal hc a)
   obtain ⟨z,hz⟩:=Option.isSome_iff_exists.1 hsome
   obtain ⟨b,o',e⟩:=h.ptr_open hz g2
   exact ⟨_,e⟩
  ·cases hv
 ·rename_i r off h1
  obtain ⟨g1,g2,g3⟩:=h.sv h1 (zal hc a)
  obtain ⟨b,_,e,_⟩:=Rep.is_ref g1
  exact key h1 (zac hv) (.inl ⟨_,e⟩)
 ·rename_i cs off h1
  obtain ⟨g1,g2,g3⟩:=h.sv h1 (zal hc a)
  obtain ⟨b,o',vs,e,_⟩:=Rep.is_pim g1
  exact key h1 (zac hv) (.inl ⟨_,e⟩)
 ·rename_i f cs h1
  obtain ⟨g1,g2,g3⟩:=h.sv h1 (zal hc a)
  obtain ⟨vs,e,_⟩:=Rep.is_fn g1
  exact key h1 (zac hv) (.inr ⟨f,_,e⟩)
 ·cases hv
theorem zyD (h:Sim E [] a w s I ι Fs Gs) {o:Oper} {d:Nat} (hd:o.dst=some d) (hp:∀ v,(d,v) ∉ E.pin) {x1 x2 x3:Operand} {y1 y2 y3:X} {t1 t2 t3:TypeId} (ho:o.op=.pick x1 x2 x3)
  (hc1:cX P t1 x1=some y1) (hc2:cX P t2 x2=some y2) (hc3:cX P t3 x3=some y3) {s':St} (hv:vact (.pick d y1 y2 y3) s=some (.st s')):Done P o a w E s':=by
 simp only [vact] at hv
 split at hv
 ·rename_i t ht
  obtain ⟨Fx,hr,_⟩:=h.rd ht (zal hc1 a)
  have e:=hr.is_bool
  split at hv
  ·rename_i htt
   subst htt
   have:=zac hv
   rw [Option.bind_eq_some_iff] at this
   obtain ⟨sv,h1,h2⟩:=this
   obtain ⟨g1,g2,g3⟩:=h.sv h1 (zal hc2 a)
   exact h.done hd hp h2 (by simp [execOp,ho,e,asBool,Sem.run,pure,bind,Sem.bind]) g1 g2 g3
  ·rename_i htt
   obtain rfl:t=false:=by simpa using htt
   have:=zac hv
   rw [Option.bind_eq_some_iff] at this
   obtain ⟨sv,h1,h2⟩:=this
   obtain ⟨g1,g2,g3⟩:=h.sv h1 (zal hc3 a)
   exact h.done hd hp h2 (by simp [execOp,ho,e,asBool,Sem.run,pure,bind,Sem.bind]) g1 g2 g3
 ·cases hv
theorem zaB {α β:Type} {x:Option α} {f:α->Option β} {r:β} (h:x.bind f=some r):∃ y,x=some y∧f y=some r:=Option.bind_eq_some_iff.1 h
theorem zBw (h:Sim E [] a w s I ι Fs Gs) {o:Oper} {d:Nat} (hd:o.dst=some d) (hp:∀ v,(d,v) ∉ E.pin) {op:UnOp} {ty0:TypeId} {x:Operand} {y:X} {ty:TypeId} (ho:o.op=.unOp op ty0 x)
  (hc:cX P ty x=some y) {s':St} (hv:vact (.un d op y) s=some (.st s')):Done P o a w E s':=by
 obtain ⟨z,h1,h2⟩:=zaB (zac hv)
 obtain ⟨r,h3,h4⟩:=zaB h2
 obtain ⟨Fx,hr,_⟩:=h.rd h1 (zal hc a)
 unfold dun at h3
 split at h3
 ·rename_i b
  cases h3
  refine h.doneD hd hp h4 (v:=.bool (!b)) ?_ (.bool ..)
  simp [execOp,ho,hr.is_bool,Op.unary,Sem.run,pure,bind,Sem.bind]
 ·rename_i k n
  cases h3
  refine h.doneD hd hp h4 (v:=.int k (k.wrap (0 - n))) ?_ (.int ..)
  simp [execOp,ho,hr.is_int,Op.unary,Op.intArith,Sem.run,pure,bind,Sem.bind]
 ·cases h3
theorem zzt (h:Sim E [] a w s I ι Fs Gs) {o:Oper} {d:Nat} (hd:o.dst=some d) (hp:∀ v,(d,v) ∉ E.pin) {x:Operand} {y:X} {ty t0:TypeId}
  (ho:o.op=.call { callee:=.builtin .len,args := #[x],argTypes := #[t0] }) (ht:P.underlying t0=some .string)
  (hc:cX P ty x=some y) {s':St} (hv:vact (.les d y) s=some (.st s')):Done P o a w E s':=by
 simp only [vact] at hv
 split at hv
 ·rename_i b hb
  obtain ⟨Fx,hr,_⟩:=h.rd hb (zal hc a)
  refine h.doneD hd hp (zac hv) (v:=.int .i64 b.size) ?_ (.int ..)
  simp [execOp,ho,resolve,invoke,builtin,Builtin.len_,underlying,program,ht,hr.is_str,Sem.run,pure,bind,Sem.bind,goInt]
 ·cases hv
theorem zzu (h:Sim E [] a w s I ι Fs Gs) {o:Oper} {d:Nat} (hd:o.dst=some d) (hp:∀ v,(d,v) ∉ E.pin) {x:Operand} {y:X} {ty t0 e:TypeId}
  (ho:o.op=.call { callee:=.builtin .len,args := #[x],argTypes := #[t0] }) (ht:P.underlying t0=some (.slice e))
  (hc:cX P ty x=some y) {s':St} (hv:vact (.len d y) s=some (.st s')):Done P o a w E s':=by
 simp only [vact] at hv
 split at hv
 ·rename_i o' z xs hb
  obtain ⟨y0,hb1,hb2⟩:=Option.map_eq_some_iff.1 hb
  obtain ⟨Fx,hr,_⟩:=h.rd hb1 (zal hc a)
  replace hr:=hr.asl
  rw [hb2] at hr
  obtain ⟨ad,cap,e,_⟩:=hr.is_sl
  refine h.doneD hd hp (zac hv) (v:=.int .i64 xs.length) ?_ (.int ..)
  simp [execOp,ho,resolve,invoke,builtin,Builtin.len_,underlying,program,ht,e,Sem.run,pure,bind,Sem.bind,goInt]
 ·rename_i n hb
  obtain ⟨y0,hb1,hb2⟩:=Option.map_eq_some_iff.1 hb
  obtain ⟨Fx,hr,_⟩:=h.rd hb1 (zal hc a)
  replace hr:=hr.asl
  rw [hb2] at hr
  obtain ⟨ad,cap,e⟩:=hr.is_gho
  refine h.doneD hd hp (zac hv) (v:=.int .i64 n) ?_ (.int ..)
  simp [execOp,ho,resolve,invoke,builtin,Builtin.len_,underlying,program,ht,e,Sem.run,pure,bind,Sem.bind,goInt]
 ·cases hv
theorem zzv (h:Sim E [] a w s I ι Fs Gs) {o:Oper} {d:Nat} (hd:o.dst=some d) (hp:∀ v,(d,v) ∉ E.pin) {x:Operand} {y:X} {ty t0 e:TypeId}
  (ho:o.op=.call { callee:=.builtin .cap,args := #[x],argTypes := #[t0] }) (ht:P.underlying t0=some (.slice e))
  (hc:cX P ty x=some y) {s':St} (hv:vact (.cap d y) s=some (.st s')):Done P o a w E s':=by
 simp only [vact] at hv
 split at hv
 ·rename_i z hb
  obtain ⟨Fx,hr,_⟩:=h.rd hb (zal hc a)
  refine h.doneD hd hp (zac hv) (v:=.int .i64 0) ?_ (.int ..)
  simp [execOp,ho,resolve,invoke,builtin,Builtin.cap_,underlying,program,ht,hr.is_nils,Sem.run,pure,bind,Sem.bind,goInt]
 ·cases hv
theorem zvb (h:Sim E [] a w s I ι Fs Gs) {o:Oper} {d:Nat} (hd:o.dst=some d) (hp:∀ v,(d,v) ∉ E.pin) {op:BinOp} {x1 x2:Operand} {y1 y2:X} {t t1 t2 t3:TypeId}
  (ho:o.op=.binOp op t x1 x2 t3) (hc1:cX P t1 x1=some y1) (hc2:cX P t2 x2=some y2) {s':St} (hv:vact (.bin d op y1 y2) s=some (.st s')):Done P o a w E s':=by
 obtain ⟨z1,h1,h2⟩:=zaB (zac hv)
 obtain ⟨z2,h3,h4⟩:=zaB h2
 obtain ⟨r,h5,h6⟩:=zaB h4
 obtain ⟨F1,r1,_⟩:=h.rd h1 (zal hc1 a)
 obtain ⟨F2,r2,_⟩:=h.rd h3 (zal hc2 a)
 have fin:∀ v,Rep w I ι v r []->(execOp a.eval o).run P w=.ok (.value v) w->Done P o a w E s':=fun v hr hrun=>h.doneD hd hp h6 hrun hr
 unfold dbin at h5
 split at h5
 ·rename_i k n k' m
  have e1:=r1.is_int
  have e2:=r2.is_int
  split at h5
  all_goals first
   | (
     split at h5
     ·rename_i hk
      cases h5
      first
       | (subst hk;refine fin _ (.int ..) ?_;simp [execOp,ho,e1,e2,eqGuard,binOp,Op.intArith,Sem.run,pure,bind,Sem.bind];done)
       | (subst hk;refine fin _ (.int ..) ?_;simp [execOp,ho,e1,e2,eqGuard,binOp,Op.intBits,dand,Sem.run,pure,bind,Sem.bind];done)
       | (subst hk;refine fin _ (.bool ..) ?_;simp [execOp,ho,e1,e2,eqGuard,binOp,Op.intCmp,Sem.run,pure,bind,Sem.bind];done)
       | (obtain ⟨rfl,hk⟩:=hk;refine fin _ (.int ..) ?_;simp [execOp,ho,e1,e2,eqGuard,binOp,Op.intDiv,hk,Sem.run,pure,bind,Sem.bind];done)
       | (refine fin _ (.int ..) ?_;simp [execOp,ho,e1,e2,eqGuard,binOp,Op.shift,Int.not_lt.2 hk,Sem.run,pure,bind,Sem.bind];done)
     ·cases h5)
   | cases h5
 ·rename_i b c
  have e1:=r1.is_str
  have e2:=r2.is_str
  split at h5
  ·split at h5
   ·rename_i hk
    cases h5
    refine fin _ (.str ..) ?_
    have hk':¬ (((b.size + c.size:Nat):Int) > IntKind.i64.max):=by
     have:IntKind.i64.max=9223372036854775807:=by decide
     rw [this];unfold zgQ at hk;omega
    simp only [execOp,ho,e1,e2,eqGuard,binOp,Op.stringOp,if_neg hk']
    simp [Sem.run,pure,bind,Sem.bind]
   ·cases h5
  all_goals first
   | (cases h5;refine fin _ (.bool ..) ?_;simp [execOp,ho,e1,e2,eqGuard,binOp,Op.stringOp,Sem.run,pure,bind,Sem.bind];done)
   | cases h5
 ·cases h5
end
end Go.Vx
namespace Go.Vx
def zqr (P:Program) (t:TypeId) (v:Value) (vs:List Value):Prop :=
 (zdc P t=some true∧v=.agg vs.toArray) ∨ (zdc P t=some false∧vs=[v])
theorem zfU:∀ {k1 k2:List CK} {as bs:List D} {r:Bool},zcc (k1++k2) as bs=some r ->
  ∃ a1 a2 b1 b2 r1 r2,as=a1++a2∧bs=b1++b2∧a1.length=k1.length∧b1.length=k1.length∧zcc k1 a1 b1=some r1∧zcc k2 a2 b2=some r2∧r=(r1 && r2)
 | [],k2,as,bs,r,h=>⟨[],as,[],bs,true,r,rfl,rfl,rfl,rfl,rfl,h,by simp⟩
 | k::k1,k2,as,bs,r,h=>by
  cases as with
  | nil=>simp [zcc] at h
  | cons a as =>
   cases bs with
   | nil=>simp [zcc] at h
   | cons b bs =>
    simp only [List.cons_append,zcc] at h
    split at h
    ·rename_i x hx
     split at h
     ·rename_i y hy
      obtain ⟨a1,a2,b1,b2,r1,r2,rfl,rfl,l1,l2,e1,e2,rfl⟩:=zfU hy
      cases h
      exact ⟨a::a1,a2,b::b1,b2,x && r1,r2,rfl,rfl,by simp [l1],by simp [l2],by simp [zcc,hx,e1],e2,by simp [Bool.and_assoc]⟩
     ·cases h
    ·cases h
theorem zkx:∀ {ks:List CK} {as bs:List D} {r:Bool},zcc ks as bs=some r->as.length=ks.length∧bs.length=ks.length:=by
 intro ks as bs r h
 obtain ⟨a1,a2,b1,b2,r1,r2,rfl,rfl,l1,l2,_,e2,_⟩:=zfU (k1:=ks) (k2:=[]) (by simpa using h)
 have:a2=[]∧b2=[]:=by
  cases a2 <;> cases b2 <;> simp_all [zcc]
 obtain ⟨rfl,rfl⟩:=this
 simp [l1,l2]
section
variable {P:Program} {w:World} {I:Nat->Prop} {ι:List Nat}
theorem zgW {t:TypeId} {b:Bool} (h:zdc P t=some b):(isAgg t).run P w=.ok b w:=by
 unfold zdc at h
 simp only [Option.map_eq_some_iff] at h
 obtain ⟨d,hd,e⟩:=h
 simp only [isAgg,Sem.run_bind,run_underlying hd,Result.andThen_ok]
 cases d <;> simp_all [Sem.run,pure]
theorem zjA {t:TypeId} {xs:Array Value} {off n:Nat} {i:TypeInfo} {b:Bool} (hi:P.info? t=some i) (hn:i.size=n) (hb:zdc P t=some b) (h1:b=false->n=1) (hle:off + n<=xs.size) :
  ∃ v,(part t xs off).run P w=.ok v w∧zqr P t v ((xs.toList.drop off).take n):=by
 simp only [part,Sem.run_bind,zgW hb,Result.andThen_ok]
 cases b with
 | true =>
  refine ⟨_,by simp [sizeOf,typeInfo,hi,Sem.run,pure,bind,Sem.bind,program];rfl,.inl ⟨hb,?_⟩⟩
  rw [hn]
  congr 1
  apply Array.ext'
  simp [Array.toList_extract,List.extract]
 | false =>
  have hlt:off<xs.size:=by have:=h1 rfl;omega
  refine ⟨xs[off],by simp [hlt,Sem.run,pure],.inr ⟨hb,?_⟩⟩
  rw [h1 rfl]
  have:xs.toList.drop off=xs[off]::xs.toList.drop (off + 1):=by rw [List.drop_eq_getElem_cons (by simpa using hlt)];simp
  rw [this];rfl
theorem zja {d:Nat} {rec:TypeId->Option (List CK)} {xs ys:Array Value}
  (IH:∀ t ks,rec t=some ks->∀ {x y:Value} {vx vy:List Value} {as bs:List D} {F G:List Nat} {r:Bool},zqr P t x vx->zqr P t y vy->RepL w I ι vx as F->RepL w I ι vy bs G->zcc ks as bs=some r ->
   (Op.equalIn d t x y).run P w=.ok r w)
  (hagg:∀ t ks,rec t=some ks->∃ b,zdc P t=some b∧(b=false->ks.length=1)) :
  ∀ (fs:List Field) (off:Nat) (ks:List CK) {as bs:List D} {F G:List Nat} {r:Bool},cksF rec P off fs=some ks->RepL w I ι (xs.toList.drop off) as F->RepL w I ι (ys.toList.drop off) bs G ->
   zcc ks as bs=some r->(Op.eqFields d xs ys fs).run P w=.ok r w
 | [],off,ks,as,bs,F,G,r,hk,hx,hy,he=>by
  cases hk
  have:as=[]∧bs=[]∧r=true:=by
   cases as <;> cases bs <;> simp_all [zcc]
  obtain ⟨rfl,rfl,rfl⟩:=this
  simp [Op.eqFields,Sem.run,pure]
 | f::fs,off,ks,as,bs,F,G,r,hk,hx,hy,he=>by
  simp only [cksF] at hk
  split at hk
  ·rename_i k1 i hr hi
   split at hk
   ·rename_i hcond
    simp only [Bool.and_eq_true,bne_iff_ne,ne_eq,beq_iff_eq,Bool.not_eq_true',List.isEmpty_eq_false_iff] at hcond
    obtain ⟨⟨⟨hname,hoff⟩,hsz⟩,hne⟩:=hcond
    simp only [Option.map_eq_some_iff] at hk
    obtain ⟨k2,hk2,rfl⟩:=hk
    obtain ⟨a1,a2,b1,b2,r1,r2,rfl,rfl,l1,l2,e1,e2,rfl⟩:=zfU he
    obtain ⟨va,va2,F1,F2,eva,rfl,hl1,ra,ra2⟩:=hx.split
    obtain ⟨vb,vb2,G1,G2,evb,rfl,hl2,rb,rb2⟩:=hy.split
    obtain ⟨b,hb,hb1⟩:=hagg f.type k1 hr
    have hpos:0<k1.length:=List.length_pos_iff.2 hne
    have lx:off + k1.length<=xs.size:=by
     have:=congrArg List.length eva
     simp only [List.length_drop,Array.length_toList,List.length_append] at this
     omega
    have ly:off + k1.length<=ys.size:=by
     have:=congrArg List.length evb
     simp only [List.length_drop,Array.length_toList,List.length_append] at this
     omega
    obtain ⟨x,px,qx⟩:=zjA (w:=w) hi hsz hb hb1 lx
    obtain ⟨y,py,qy⟩:=zjA (w:=w) hi hsz hb hb1 ly
    rw [eva,show k1.length=va.length by omega,List.take_left] at qx
    rw [evb,show k1.length=vb.length by omega,List.take_left] at qy
    have hq:=IH f.type k1 hr qx qy ra rb e1
    have hx2:xs.toList.drop (off + k1.length)=va2:=by
     rw [<- List.drop_drop,eva,show k1.length=va.length by omega,List.drop_left]
    have hy2:ys.toList.drop (off + k1.length)=vb2:=by
     rw [<- List.drop_drop,evb,show k1.length=vb.length by omega,List.drop_left]
    have hrest:=zja IH hagg fs (off + k1.length) k2 hk2 (by rw [hx2];exact ra2) (by rw [hy2];exact rb2) e2
    subst hoff
    simp only [Op.eqFields,hname,ne_eq,not_false_eq_true,if_true,Sem.run_bind,px,py,hq,Result.andThen_ok]
    cases r1 with
    | true=>simpa using hrest
    | false=>simp [Sem.run,pure]
   ·cases hk
  ·cases hk
theorem zyE:∀ {m:Nat} {t:TypeId} {ks:List CK},cks P m t=some ks->∃ b,zdc P t=some b∧(b=false->ks.length=1)
 | 0,_,_,h=>by simp [cks] at h
 | m + 1,t,ks,h=>by
  simp only [cks] at h
  split at h
  ·rename_i k hu;cases h;exact ⟨false,by simp [zdc,hu],fun _=>rfl⟩
  ·rename_i hu;cases h;exact ⟨false,by simp [zdc,hu],fun _=>rfl⟩
  ·rename_i hu;cases h;exact ⟨false,by simp [zdc,hu],fun _=>rfl⟩
  ·rename_i fs hu;exact ⟨true,by simp [zdc,hu],fun e=>by cases e⟩
  ·cases h
theorem zlf:∀ {m:Nat} {d:Nat} {t:TypeId} {ks:List CK},cks P m t=some ks->m<=d->∀ {x y:Value} {vx vy:List Value} {as bs:List D} {F G:List Nat} {r:Bool},
  zqr P t x vx->zqr P t y vy->RepL w I ι vx as F->RepL w I ι vy bs G->zcc ks as bs=some r->(Op.equalIn d t x y).run P w=.ok r w
 | 0,_,_,_,h,_=>by simp [cks] at h
 | m + 1,0,_,_,_,h=>by omega
 | m + 1,d + 1,t,ks,hk,hm=>by
  rename_i x y vx vy as bs F G r
  intro px py hx hy he
  have hk0:=hk
  simp only [cks] at hk
  have scalar:zdc P t=some false->vx=[x]∧vy=[y]:=by
   intro hb
   rcases px with ⟨e,_⟩|⟨_,e⟩
   ·rw [hb] at e;cases e
   ·rcases py with ⟨e',_⟩|⟨_,e'⟩
    ·rw [hb] at e';cases e'
    ·exact ⟨e,e'⟩
  have single:∀ {k:CK},ks=[k]->zdc P t=some false->∃ p q r',as=[p]∧bs=[q]∧Rep w I ι x p F∧Rep w I ι y q G∧zgP k p q=some r'∧r=r':=by
   intro k hks hb
   obtain ⟨rfl,rfl⟩:=scalar hb
   subst hks
   obtain ⟨l1,l2⟩:=zkx he
   match as,l1,bs,l2 with
   | [p],_,[q],_ =>
    simp only [zcc] at he
    split at he
    ·rename_i r' hr
     obtain ⟨_,e0,h0⟩:=hx.of_one
     obtain ⟨_,e1,h1⟩:=hy.of_one
     cases e0;cases e1
     exact ⟨p,q,r',rfl,rfl,h0,h1,hr,by simpa using he.symm⟩
    ·cases he
  split at hk
  ·rename_i k hu
   cases hk
   obtain ⟨p,q,r',rfl,rfl,h0,h1,hr,rfl⟩:=single rfl (by simp [zdc,hu])
   unfold zgP at hr
   split at hr <;> try cases hr
   all_goals (try (rename_i c;cases c))
   split at hr
   ·rename_i hkk
    cases hr
    subst hkk
    simp [Op.equalIn,Sem.run_bind,run_underlying hu,h0.is_int,h1.is_int,Sem.run,pure]
   ·cases hr
  ·rename_i hu
   cases hk
   obtain ⟨p,q,r',rfl,rfl,h0,h1,hr,rfl⟩:=single rfl (by simp [zdc,hu])
   unfold zgP at hr
   split at hr <;> try cases hr
   all_goals (try (rename_i c;cases c))
   simp [Op.equalIn,Sem.run_bind,run_underlying hu,h0.is_bool,h1.is_bool,Sem.run,pure]
  ·rename_i hu
   cases hk
   obtain ⟨p,q,r',rfl,rfl,h0,h1,hr,rfl⟩:=single rfl (by simp [zdc,hu])
   unfold zgP at hr
   split at hr <;> try cases hr
   all_goals (try (rename_i c;cases c))
   simp [Op.equalIn,Sem.run_bind,run_underlying hu,h0.is_str,h1.is_str,Sem.run,pure,beq_toListBytes]
  ·rename_i fs hu
   split at hk
   ·cases hk
   ·rename_i hst
    have hb:zdc P t=some true:=by simp [zdc,hu]
    rcases px with ⟨_,rfl⟩|⟨e,_⟩
    ·rcases py with ⟨_,rfl⟩|⟨e,_⟩
     ·have hfs:P.fieldsOf t=fs:=by simp [Program.fieldsOf,hu]
      rw [run_equalIn_struct w d t _ _ (by rw [hfs];exact hu) (by simpa using hst),hfs]
      exact zja (rec:=cks P m) (fun t ks h1=>fun {x y vx vy as bs F G r}=>zlf h1 (by omega)) (fun t ks h1=>zyE h1) fs.toList 0 ks hk (by simpa using hx) (by simpa using hy) he
     ·rw [hb] at e;cases e
    ·rw [hb] at e;cases e
  ·cases hk
end
end Go.Vx

