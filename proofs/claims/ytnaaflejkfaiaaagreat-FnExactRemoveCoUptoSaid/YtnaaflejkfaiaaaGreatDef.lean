/-
  The program's functions as plain functions.
-/
import Derived.Test.YtnaaflejkfaiaaaGreatTypes
import Derived.Test.YtnaaflejkfaiaaaGreatVxD
import Derived.Test.YtnaaflejkfaiaaaGreatVxF
set_option linter.unusedVariables false
set_option linter.unusedSimpArgs false
namespace Go.Vx.RmZ
noncomputable section
set_option maxRecDepth 10000
set_option maxHeartbeats 2000000
def zcg (p0 p1 p2:Int):Option Bool :=
 if p0 ≥ p1 then
  some (decide (p0<=p2))
 else
  some false
def zec (p0:TValue) (p1 p2 p3:Bool):Option Bool :=
 if p1=true then
  if p2=true then
   if p3=true then
    some true
   else
    some (decide (p0.Ref=0))
  else
   if p0.Text=⟨#[]⟩ then
    if p3=true then
     some true
    else
     some (decide (p0.Ref=0))
   else
    some false
 else
  if p0.Num=0 then
   if p2=true then
    if p3=true then
     some true
    else
     some (decide (p0.Ref=0))
   else
    if p0.Text=⟨#[]⟩ then
     if p3=true then
      some true
     else
      some (decide (p0.Ref=0))
    else
     some false
  else
   some false
def zfB (p0:Int):Option Bool :=
 if p0 ≥ 65 then
  if p0<=90 then
   some true
  else
   if p0 ≥ 97 then
    some (decide (p0<=122))
   else
    some false
 else
  if p0 ≥ 97 then
   some (decide (p0<=122))
  else
   some false
def zhw (p0:Int):Option Bool :=
 if p0 ≥ 48 then
  some (decide (p0<=57))
 else
  some false
def zbl (s0:ByteArray) (s1:Int):Option Int :=
 if s1<(s0.size:Int) then
  idxB s0 s1 >>= fun b24 =>
  zfB (b24.toNat:Int) >>= fun r25 =>
  if r25=true then
   zbl s0 (IntKind.wrap .i64 (s1 + 1))
  else
   zhw (b24.toNat:Int) >>= fun r30 =>
   if r30=true then
    zbl s0 (IntKind.wrap .i64 (s1 + 1))
   else
    if (b24.toNat:Int)=95 then
     zbl s0 (IntKind.wrap .i64 (s1 + 1))
    else
     some s1
 else
  some s1
 partial_fixpoint
def zfC (s0:ByteArray) (s1:Int):Option Int :=
 zbl s0 s1 >>= fun t =>
 some t
def zhf (p0:ByteArray) (p1:Int):Option Int :=
 if p1 ≥ (p0.size:Int) then
  some p1
 else
  idxB p0 p1 >>= fun b12 =>
  zfB (b12.toNat:Int) >>= fun r13 =>
  if r13=true then
   zfC p0 p1
  else
   some p1
def zfO (p0:ByteArray):Option Bool :=
 if p0=⟨#[]⟩ then
  some false
 else
  if (p0.size:Int)<=12 then
   zhf p0 0 >>= fun r12 =>
   some (decide (r12=(p0.size:Int)))
  else
   some false
def zem (s1:TValue) (s45:Bool):Option (Bool ⊕ Bool) :=
 if s45=true then
  zec s1 false true false >>= fun r49 =>
  if r49=true then
   zfO s1.Text >>= fun r53 =>
   some (.inr r53)
  else
   some (.inr false)
 else
  some (.inl false)
def zdd (s1:TValue) (s4:Int) (s34:Bool):Option (Unit ⊕ Bool) :=
 if s34=true then
  zec s1 false false true >>= fun r39 =>
  if r39=true then
   zcg s1.Ref 1 1000000 >>= fun r43 =>
   some (.inr r43)
  else
   some (.inr false)
 else
  if s4=7 then
   zem s1 true >>= fun t =>
   match t with
   | .inl t =>
    some (.inl ())
   | .inr t =>
    some (.inr t)
  else
   zem s1 (decide (s4=8)) >>= fun t =>
   match t with
   | .inl t =>
    some (.inl ())
   | .inr t =>
    some (.inr t)
def zbT (p0:TValue):Option Bool :=
 if p0.Kind=1 then
  zec p0 false true false >>= fun r8 =>
  if r8=true then
   some (decide ((p0.Text.size:Int)<=200))
  else
   some false
 else
  if p0.Kind=2 then
   zec p0 true false false >>= fun r18 =>
   if r18=true then
    zcg p0.Num (-1000000000000) 1000000000000 >>= fun r22 =>
    some r22
   else
    some false
  else
   if p0.Kind=3 then
    zec p0 false true false >>= fun r27 =>
    if r27=true then
     zcg (p0.Text.size:Int) 1 1200 >>= fun r32 =>
     some r32
    else
     some false
   else
    if p0.Kind=4 then
     zdd p0 p0.Kind true >>= fun t =>
     match t with
     | .inl t =>
      some false
     | .inr t =>
      some t
    else
     if p0.Kind=5 then
      zdd p0 p0.Kind true >>= fun t =>
      match t with
      | .inl t =>
       some false
      | .inr t =>
       some t
     else
      zdd p0 p0.Kind (decide (p0.Kind=6)) >>= fun t =>
      match t with
      | .inl t =>
       some false
      | .inr t =>
       some t
def zcs (s0:List TValue) (s1 s5:Int):Option (Unit ⊕ Bool) :=
 if s5<(s0.length:Int) then
  idx s0 s5 >>= fun a18 =>
  zbT a18 >>= fun r20 =>
  if r20=true then
   zcs s0 s1 (IntKind.wrap .i64 (s5 + 1))
  else
   some (.inr false)
 else
  some (.inl ())
 partial_fixpoint
def zbO (p0:List TValue) (p1:Int):Option Bool :=
 if (p0.length:Int) > p1 then
  some false
 else
  zcs p0 p1 0 >>= fun t =>
  match t with
  | .inl t =>
   some true
  | .inr t =>
   some t
def zgy (p0 p1:TValue):Option Bool :=
 some ((decide (p0.Kind=p1.Kind)) && ((decide (p0.Num=p1.Num)) && ((decide (p0.Text=p1.Text)) && (decide (p0.Ref=p1.Ref)))))
def zcK (s0:List TValue) (s3 s4:Int):Option (Unit ⊕ Bool) :=
 if s4<s3 then
  idx s0 s3 >>= fun a18 =>
  idx s0 s4 >>= fun a22 =>
  zgy a18 a22 >>= fun r24 =>
  if r24=true then
   some (.inr false)
  else
   zcK s0 s3 (IntKind.wrap .i64 (s4 + 1))
 else
  some (.inl ())
 partial_fixpoint
def zdR (s0:List TValue) (s3:Int):Option (Unit ⊕ Bool) :=
 if s3<(s0.length:Int) then
  zcK s0 s3 0 >>= fun t =>
  match t with
  | .inl t =>
   zdR s0 (IntKind.wrap .i64 (s3 + 1))
  | .inr t =>
   some (.inr t)
 else
  some (.inl ())
 partial_fixpoint
def zen (p0:List TValue):Option Bool :=
 zdR p0 0 >>= fun t =>
 match t with
 | .inl t =>
  some true
 | .inr t =>
  some t
def zcV (s0:List TValue) (s3:Int):Option (Unit ⊕ Bool) :=
 if s3<(s0.length:Int) then
  idx s0 s3 >>= fun a12 =>
  if a12.Kind=1 then
   zfO a12.Text >>= fun r22 =>
   if r22=true then
    zcV s0 (IntKind.wrap .i64 (s3 + 1))
   else
    some (.inr false)
  else
   some (.inr false)
 else
  some (.inl ())
 partial_fixpoint
def zeo (p0:List TValue):Option Bool :=
 zcV p0 0 >>= fun t =>
 match t with
 | .inl t =>
  if (p0.length:Int) ≥ 1 then
   zbO p0 6 >>= fun r30 =>
   if r30=true then
    zen p0 >>= fun r34 =>
    some r34
   else
    some false
  else
   some false
 | .inr t =>
  some t
def zeM (s1:TObject):Option Bool :=
 if s1.Kind=1 then
  if s1.Name=⟨#[]⟩ then
   zcg s1.Low (-1000) 1000 >>= fun r23 =>
   if r23=true then
    if (s1.Keys.length:Int)=0 then
     some ((decide (s1.Default.Kind=0)) && ((decide (s1.Default.Num=0)) && ((decide (s1.Default.Text=ByteArray.empty)) && (decide (s1.Default.Ref=0)))))
    else
     some false
   else
    some false
  else
   some false
 else
  if s1.Kind=2 then
   if s1.Name=⟨#[]⟩ then
    if s1.Low=0 then
     if (s1.Keys.length:Int)=(s1.Vals.length:Int) then
      zbO s1.Keys 30 >>= fun r59 =>
      if r59=true then
       zen s1.Keys >>= fun r64 =>
       if r64=true then
        zbT s1.Default >>= fun r69 =>
        some r69
       else
        some false
      else
       some false
     else
      some false
    else
     some false
   else
    some false
  else
   if s1.Kind=3 then
    zfO s1.Name >>= fun r75 =>
    if r75=true then
     if s1.Low=0 then
      if (s1.Keys.length:Int)=(s1.Vals.length:Int) then
       zeo s1.Keys >>= fun r93 =>
       if r93=true then
        some ((decide (s1.Default.Kind=0)) && ((decide (s1.Default.Num=0)) && ((decide (s1.Default.Text=ByteArray.empty)) && (decide (s1.Default.Ref=0)))))
       else
        some false
      else
       some false
     else
      some false
    else
     some false
   else
    some false
def zgz (p0:TObject):Option Bool :=
 zcg p0.Id 1 1000000 >>= fun r5 =>
 if r5=true then
  zbO p0.Vals 30 >>= fun r10 =>
  if r10=true then
   zeM p0
  else
   some false
 else
  some false
def zeI (p0:TValue):Option Bool :=
 zcg p0.Kind 4 6 >>= fun r5 =>
 some r5
def zeV (s0:THeap) (s1 s5:Int):Option (Unit ⊕ Int) :=
 if s5<(s0.Objects.length:Int) then
  idx s0.Objects s5 >>= fun a20 =>
  if a20.Id=s1 then
   some (.inr s5)
  else
   zeV s0 s1 (IntKind.wrap .i64 (s5 + 1))
 else
  some (.inl ())
 partial_fixpoint
def zim (p0:THeap) (p1:Int):Option Int :=
 zeV p0 p1 0 >>= fun t =>
 match t with
 | .inl t =>
  some (-1)
 | .inr t =>
  some t
def zfD (p0:Int):Option Int :=
 some (IntKind.wrap .i64 (IntKind.wrap .i64 (p0 - 4) + 1))
def zep (p0:THeap) (p1:TValue):Option Bool :=
 zbT p1 >>= fun r7 =>
 if r7=true then
  zeI p1 >>= fun r10 =>
  if r10=true then
   zim p0 p1.Ref >>= fun r15 =>
   if r15 ≥ 0 then
    idx p0.Objects r15 >>= fun a24 =>
    zfD p1.Kind >>= fun r29 =>
    some (decide (a24.Kind=r29))
   else
    some false
  else
   some true
 else
  some false
def zeN (s0:THeap) (s1:List TValue) (s5:Int):Option (Unit ⊕ Bool) :=
 if s5<(s1.length:Int) then
  idx s1 s5 >>= fun a15 =>
  zep s0 a15 >>= fun r17 =>
  if r17=true then
   zeN s0 s1 (IntKind.wrap .i64 (s5 + 1))
  else
   some (.inr false)
 else
  some (.inl ())
 partial_fixpoint
def zeJ (p0:THeap) (p1:List TValue):Option Bool :=
 zeN p0 p1 0 >>= fun t =>
 match t with
 | .inl t =>
  some true
 | .inr t =>
  some t
def zin (p0:THeap) (p1:TObject):Option Bool :=
 zeJ p0 p1.Keys >>= fun r10 =>
 if r10=true then
  zeJ p0 p1.Vals >>= fun r17 =>
  if r17=true then
   if p1.Kind=2 then
    zep p0 p1.Default >>= fun r31 =>
    some r31
   else
    some true
  else
   some false
 else
  some false
def zfw (s0:THeap) (s3:Int):Option (Unit ⊕ Bool) :=
 if s3<(s0.Objects.length:Int) then
  idx s0.Objects s3 >>= fun a34 =>
  zgz a34 >>= fun r37 =>
  if r37=true then
   if a34.Id > s0.Next then
    some (.inr false)
   else
    if s3 > 0 then
     idx s0.Objects (IntKind.wrap .i64 (s3 - 1)) >>= fun a58 =>
     if a58.Id ≥ a34.Id then
      some (.inr false)
     else
      zfw s0 (IntKind.wrap .i64 (s3 + 1))
    else
     zfw s0 (IntKind.wrap .i64 (s3 + 1))
  else
   some (.inr false)
 else
  some (.inl ())
 partial_fixpoint
def zgk (s0:THeap) (s5:Int):Option (Unit ⊕ Bool) :=
 if s5<(s0.Objects.length:Int) then
  idx s0.Objects s5 >>= fun a81 =>
  zin s0 a81 >>= fun r82 =>
  if r82=true then
   zgk s0 (IntKind.wrap .i64 (s5 + 1))
  else
   some (.inr false)
 else
  some (.inl ())
 partial_fixpoint
def ziH (s0:THeap):Option Bool :=
 zfw s0 0 >>= fun t =>
 match t with
 | .inl t =>
  zgk s0 0 >>= fun t_1 =>
  match t_1 with
  | .inl t_1 =>
   some true
  | .inr t_1 =>
   some t_1
 | .inr t =>
  some t
def zlM (p0:THeap):Option Bool :=
 zcg p0.Next 0 1000000 >>= fun r10 =>
 if r10=true then
  if (p0.Objects.length:Int) > 40 then
   some false
  else
   ziH p0
 else
  some false
def zjD (p0:TValue):Option Bool :=
 some ((decide (p0.Kind=1)) && ((decide (p0.Num=0)) && ((decide (p0.Text=ByteArray.empty)) && (decide (p0.Ref=0)))))
def zeW (s0:THeap) (s1:List TBinding) (s5:Int):Option (Unit ⊕ Bool) :=
 if s5<(s1.length:Int) then
  idx s1 s5 >>= fun a17 =>
  zfO a17.Name >>= fun r20 =>
  if r20=true then
   if s5 > 0 then
    idx s1 (IntKind.wrap .i64 (s5 - 1)) >>= fun a29 =>
    if (Op.bytesLess a29.Name.toList a17.Name.toList)=true then
     zep s0 a17.Value >>= fun r47 =>
     if r47=true then
      zjD a17.Value >>= fun r56 =>
      if r56=true then
       some (.inr false)
      else
       zeW s0 s1 (IntKind.wrap .i64 (s5 + 1))
     else
      some (.inr false)
    else
     some (.inr false)
   else
    zep s0 a17.Value >>= fun r47 =>
    if r47=true then
     zjD a17.Value >>= fun r56 =>
     if r56=true then
      some (.inr false)
     else
      zeW s0 s1 (IntKind.wrap .i64 (s5 + 1))
    else
     some (.inr false)
  else
   some (.inr false)
 else
  some (.inl ())
 partial_fixpoint
def zgl (p0:THeap) (p1:List TBinding):Option Bool :=
 if (p1.length:Int) > 40 then
  some false
 else
  zeW p0 p1 0 >>= fun t =>
  match t with
  | .inl t =>
   some true
  | .inr t =>
   some t
def zed (s0 s3:Int) (s12:Bool):Option ((Bool × Bool × Bool × Bool × Bool) ⊕ Int) :=
 if s12=true then
  some (.inr 2)
 else
  if s3=8 then
   some (.inr 3)
  else
   if s3=12 then
    some (.inr 3)
   else
    if s3=15 then
     some (.inr 3)
    else
     some (.inl (false,false,false,false,false))
def zco (s0 s3:Int) (s4:Bool):Option ((Bool × Bool × Bool × Bool × Bool) ⊕ Int) :=
 if s4=true then
  some (.inr 1)
 else
  if s3=4 then
   zed s0 s3 true >>= fun t =>
   match t with
   | .inl t =>
    some (.inl (t.1,t.2.1,t.2.2.1,t.2.2.2.1,t.2.2.2.2))
   | .inr t =>
    some (.inr t)
  else
   if s3=5 then
    zed s0 s3 true >>= fun t =>
    match t with
    | .inl t =>
     some (.inl (t.1,t.2.1,t.2.2.1,t.2.2.2.1,t.2.2.2.2))
    | .inr t =>
     some (.inr t)
   else
    if s3=9 then
     zed s0 s3 true >>= fun t =>
     match t with
     | .inl t =>
      some (.inl (t.1,t.2.1,t.2.2.1,t.2.2.2.1,t.2.2.2.2))
     | .inr t =>
      some (.inr t)
    else
     if s3=11 then
      zed s0 s3 true >>= fun t =>
      match t with
      | .inl t =>
       some (.inl (t.1,t.2.1,t.2.2.1,t.2.2.2.1,t.2.2.2.2))
      | .inr t =>
       some (.inr t)
     else
      zed s0 s3 (decide (s3=14)) >>= fun t =>
      match t with
      | .inl t =>
       some (.inl (t.1,t.2.1,t.2.2.1,t.2.2.2.1,t.2.2.2.2))
      | .inr t =>
       some (.inr t)
def zfE (p0:Int):Option Int :=
 if p0=6 then
  zco p0 p0 true >>= fun t =>
  match t with
  | .inl t =>
   some 0
  | .inr t =>
   some t
 else
  if p0=7 then
   zco p0 p0 true >>= fun t =>
   match t with
   | .inl t =>
    some 0
   | .inr t =>
    some t
  else
   if p0=10 then
    zco p0 p0 true >>= fun t =>
    match t with
    | .inl t =>
     some 0
    | .inr t =>
     some t
   else
    if p0=13 then
     zco p0 p0 true >>= fun t =>
     match t with
     | .inl t =>
      some 0
     | .inr t =>
      some t
    else
     if p0=16 then
      zco p0 p0 true >>= fun t =>
      match t with
      | .inl t =>
       some 0
      | .inr t =>
       some t
     else
      if p0=17 then
       zco p0 p0 true >>= fun t =>
       match t with
       | .inl t =>
        some 0
       | .inr t =>
        some t
      else
       zco p0 p0 (decide (p0=18)) >>= fun t =>
       match t with
       | .inl t =>
        some 0
       | .inr t =>
        some t
def zeO:Option ((List ByteArray)) :=
 some ([⟨#[97,100,100]⟩,⟨#[115,117,98]⟩,⟨#[109,117,108]⟩,⟨#[100,105,118]⟩,⟨#[99,97,116]⟩,⟨#[108,116]⟩,⟨#[108,101]⟩,⟨#[101,113]⟩,⟨#[110,101]⟩,⟨#[103,116]⟩,⟨#[103,101]⟩,⟨#[115,101,113]⟩,⟨#[115,110,101]⟩,⟨#[115,108,116]⟩,⟨#[105,115]⟩])
def zeq (s0:List ByteArray) (s1:ByteArray) (s5:Int):Option (Unit ⊕ Int) :=
 if s5<(s0.length:Int) then
  idx s0 s5 >>= fun a14 =>
  if a14=s1 then
   some (.inr s5)
  else
   zeq s0 s1 (IntKind.wrap .i64 (s5 + 1))
 else
  some (.inl ())
 partial_fixpoint
def zeK (p0:List ByteArray) (p1:ByteArray):Option Int :=
 zeq p0 p1 0 >>= fun t =>
 match t with
 | .inl t =>
  some (-1)
 | .inr t =>
  some t
def zer (s0:TGen) (s53:Int) (s88:Bool):Option (Bool ⊕ Bool) :=
 if s88=true then
  zfO s0.Text >>= fun r96 =>
  some (.inr r96)
 else
  if s53=11 then
   zeO >>= fun r99 =>
   zeK r99 s0.Text >>= fun r104 =>
   some (.inr ((decide (r104 ≥ 0))))
  else
   if s53=6 then
    if s0.Text=⟨#[]⟩ then
     zcg s0.Num 0 60 >>= fun r118 =>
     some (.inr r118)
    else
     some (.inr false)
   else
    some (.inl false)
def zes (s0:TGen):Option Bool :=
 some (decide (s0.Text=⟨#[]⟩))
def zdr (s0:TGen):Option Bool :=
 if s0.Kind=1 then
  if s0.Text=⟨#[]⟩ then
   zbT s0.Value >>= fun r71 =>
   if r71=true then
    if s0.Value.Kind=1 then
     some true
    else
     if s0.Value.Kind=2 then
      some true
     else
      zeI s0.Value >>= fun r85 =>
      some r85
   else
    some false
  else
   some false
 else
  if s0.Kind=2 then
   zer s0 s0.Kind true >>= fun t =>
   match t with
   | .inl t =>
    zes s0 >>= fun t_1 =>
    some t_1
   | .inr t =>
    some t
  else
   if s0.Kind=16 then
    zer s0 s0.Kind true >>= fun t =>
    match t with
    | .inl t =>
     zes s0 >>= fun t_1 =>
     some t_1
    | .inr t =>
     some t
   else
    zer s0 s0.Kind (decide (s0.Kind=17)) >>= fun t =>
    match t with
    | .inl t =>
     zes s0 >>= fun t_1 =>
     some t_1
    | .inr t =>
     some t
def zgA (s0:TGen):Option Bool :=
 if s0.Kind=6 then
  if s0.Kind=1 then
   zdr s0 >>= fun t =>
   some t
  else
   if s0.Value.Kind=0 then
    if s0.Value.Num=0 then
     if s0.Value.Text=ByteArray.empty then
      if s0.Value.Ref=0 then
       zdr s0 >>= fun t =>
       some t
      else
       some false
     else
      some false
    else
     some false
   else
    some false
 else
  if s0.Num=0 then
   if s0.Kind=1 then
    zdr s0 >>= fun t =>
    some t
   else
    if s0.Value.Kind=0 then
     if s0.Value.Num=0 then
      if s0.Value.Text=ByteArray.empty then
       if s0.Value.Ref=0 then
        zdr s0 >>= fun t =>
        some t
       else
        some false
      else
       some false
     else
      some false
    else
     some false
  else
   some false
def zgm (p0:TGen):Option Bool :=
 zcg p0.Kind 1 18 >>= fun r8 =>
 if r8=true then
  zfE p0.Kind >>= fun r20 =>
  if (p0.Kids.length:Int)=r20 then
   zgA p0
  else
   some false
 else
  some false
mutual
def zeX (s0:TGen) (s3 s4:Int):Option (Int × Int × Int × (List TGen) × TGen × Int × Int) :=
 idx s0.Kids s4 >>= fun a27 =>
 zeY a27 >>= fun r28 =>
 some (IntKind.wrap .i64 (s3 + r28),IntKind.wrap .i64 (s4 + 1),IntKind.wrap .i64 (s4 + 1),s0.Kids,a27,r28,IntKind.wrap .i64 (s3 + r28))
 partial_fixpoint
def zeY (p0:TGen):Option Int :=
 zgm p0 >>= fun r6 =>
 if r6=true then
  zbA p0 1 0 >>= fun t =>
  some t
 else
  some 61
 partial_fixpoint
def zbA (s0:TGen) (s3 s4:Int):Option Int :=
 if s4<(s0.Kids.length:Int) then
  if s3<=60 then
   zeX s0 s3 s4 >>= fun t =>
   zbA s0 t.1 t.2.1
  else
   some s3
 else
  some s3
 partial_fixpoint
end
def zlN (p0:TGen):Option Bool :=
 zeY p0 >>= fun r4 =>
 some (decide (r4<=60))
mutual
def zbU (s0:THeap) (s1:TGen) (s5:Int):Option (Unit ⊕ Bool) :=
 if s5<(s1.Kids.length:Int) then
  idx s1.Kids s5 >>= fun a35 =>
  zeZ s0 a35 >>= fun r36 =>
  if r36=true then
   zbU s0 s1 (IntKind.wrap .i64 (s5 + 1))
  else
   some (.inr false)
 else
  some (.inl ())
 partial_fixpoint
def zeZ (p0:THeap) (p1:TGen):Option Bool :=
 if p1.Kind=1 then
  zep p0 p1.Value >>= fun r17 =>
  if r17=true then
   zee p0 p1
  else
   some false
 else
  zee p0 p1
 partial_fixpoint
def zee (s0:THeap) (s1:TGen):Option Bool :=
 zbU s0 s1 0 >>= fun t =>
 match t with
 | .inl t =>
  some true
 | .inr t =>
  some t
 partial_fixpoint
end
def zio (p0:TCursor):Option Bool :=
 if p0.Phase=0 then
  if p0.Count=0 then
   if (p0.Vals.length:Int)=0 then
    some (decide ((p0.Kids.length:Int)=0))
   else
    some false
  else
   some false
 else
  some false
def zbI (p0:TGen) (p1:TCursor):Option Bool :=
 if p0.Kind=6 then
  zcg p1.Count 1 p0.Num >>= fun r19 =>
  some r19
 else
  if p0.Kind=12 then
   zcg p1.Count 1 2000000000001 >>= fun r26 =>
   some r26
  else
   if p0.Kind=13 then
    zcg p1.Count 1 200 >>= fun r33 =>
    some r33
   else
    some (decide (p1.Count=0))
def zde (p0:TGen):Option Int :=
 if p0.Kind=17 then
  some 2
 else
  if p0.Kind ≥ 11 then
   zfE p0.Kind >>= fun r17 =>
   some r17
  else
   some 0
mutual
def zbf (s0:THeap) (s1:TGen) (s2:TCursor) (s34:Int) (s38:Bool):Option (Bool ⊕ Bool) :=
 if s38=true then
  if s2.Phase=1 then
   some (.inr ((decide ((s2.Kids.length:Int)=0))))
  else
   some (.inr false)
 else
  if s34=4 then
   zcg s2.Phase 1 2 >>= fun r61 =>
   if r61=true then
    if (s2.Kids.length:Int)=1 then
     idx s1.Kids (IntKind.wrap .i64 (s2.Phase - 1)) >>= fun a81 =>
     idxN s2.Kids 0 >>= fun a86 =>
     zak s0 a81 a86 >>= fun r87 =>
     some (.inr r87)
    else
     some (.inr false)
   else
    some (.inr false)
  else
   if s34=8 then
    zcg s2.Phase 2 3 >>= fun r95 =>
    if r95=true then
     if (s2.Kids.length:Int)=1 then
      idx s1.Kids (IntKind.wrap .i64 (s2.Phase - 1)) >>= fun a115 =>
      idxN s2.Kids 0 >>= fun a120 =>
      zak s0 a115 a120 >>= fun r121 =>
      some (.inr r121)
     else
      some (.inr false)
    else
     some (.inr false)
   else
    some (.inl false)
 partial_fixpoint
def zak (p0:THeap) (p1:TGen) (p2:TCursor):Option Bool :=
 zbI p1 p2 >>= fun r10 =>
 if r10=true then
  zde p1 >>= fun r19 =>
  if (p2.Vals.length:Int)=r19 then
   zeJ p0 p2.Vals >>= fun r28 =>
   if r28=true then
    zau p0 p1 p2
   else
    some false
  else
   some false
 else
  some false
 partial_fixpoint
def zau (s0:THeap) (s1:TGen) (s2:TCursor):Option Bool :=
 if s1.Kind=3 then
  zbD s0 s1 s2 s1.Kind true >>= fun t =>
  match t with
  | .inl t =>
   zbE s0 s1 s2 >>= fun t_1 =>
   some t_1
  | .inr t =>
   some t
 else
  zbD s0 s1 s2 s1.Kind (decide (s1.Kind=9)) >>= fun t =>
  match t with
  | .inl t =>
   zbE s0 s1 s2 >>= fun t_1 =>
   some t_1
  | .inr t =>
   some t
 partial_fixpoint
def zbE (s0:THeap) (s1:TGen) (s2:TCursor):Option Bool :=
 if s2.Phase=1 then
  if (s2.Kids.length:Int)=(s1.Kids.length:Int) then
   zbF s0 s1 s2 >>= fun t =>
   some t
  else
   some false
 else
  some false
 partial_fixpoint
def zbF (s0:THeap) (s1:TGen) (s2:TCursor):Option Bool :=
 zaH s0 s1 s2 0 >>= fun t =>
 match t with
 | .inl t =>
  some true
 | .inr t =>
  some t
 partial_fixpoint
def zaH (s0:THeap) (s1:TGen) (s2:TCursor) (s7:Int):Option (Unit ⊕ Bool) :=
 if s7<(s2.Kids.length:Int) then
  idx s1.Kids s7 >>= fun a156 =>
  idx s2.Kids s7 >>= fun a162 =>
  zak s0 a156 a162 >>= fun r163 =>
  if r163=true then
   zaH s0 s1 s2 (IntKind.wrap .i64 (s7 + 1))
  else
   some (.inr false)
 else
  some (.inl ())
 partial_fixpoint
def zbD (s0:THeap) (s1:TGen) (s2:TCursor) (s34:Int) (s35:Bool):Option (Unit ⊕ Bool) :=
 if s35=true then
  some (.inr false)
 else
  if s34=1 then
   zbf s0 s1 s2 s34 true >>= fun t =>
   match t with
   | .inl t =>
    some (.inl ())
   | .inr t =>
    some (.inr t)
  else
   if s34=2 then
    zbf s0 s1 s2 s34 true >>= fun t =>
    match t with
    | .inl t =>
     some (.inl ())
    | .inr t =>
     some (.inr t)
   else
    zbf s0 s1 s2 s34 (decide (s34=7)) >>= fun t =>
    match t with
    | .inl t =>
     some (.inl ())
    | .inr t =>
     some (.inr t)
 partial_fixpoint
end
def zhx (s0:THeap) (s1:TCoexpr):Option Bool :=
 zio s1.Cursor >>= fun r66 =>
 some r66
def ziI (s0:THeap) (s1:TCoexpr):Option Bool :=
 zak s0 s1.Body s1.Cursor >>= fun r74 =>
 some r74
def ziJ (s0:THeap) (s1:TCoexpr):Option Bool :=
 if s1.Done=true then
  zhx s0 s1 >>= fun t =>
  some t
 else
  if s1.Count=0 then
   zhx s0 s1 >>= fun t =>
   some t
  else
   ziI s0 s1 >>= fun t =>
   some t
def ziK (p0:THeap) (p1:TCoexpr):Option Bool :=
 zcg p1.Id 1 1000000 >>= fun r9 =>
 if r9=true then
  zlN p1.Body >>= fun r15 =>
  if r15=true then
   zeZ p0 p1.Body >>= fun r23 =>
   if r23=true then
    zgl p0 p1.Start >>= fun r32 =>
    if r32=true then
     zgl p0 p1.Vars >>= fun r41 =>
     if r41=true then
      zcg p1.Count 0 1000000 >>= fun r49 =>
      if r49=true then
       ziJ p0 p1
      else
       some false
     else
      some false
    else
     some false
   else
    some false
  else
   some false
 else
  some false
def zds (s0:TGenScope) (s3:Int):Option (Unit ⊕ Bool) :=
 if s3<(s0.Cos.length:Int) then
  idx s0.Cos s3 >>= fun a53 =>
  ziK s0.Heap a53 >>= fun r54 =>
  if r54=true then
   if s3 > 0 then
    idx s0.Cos (IntKind.wrap .i64 (s3 - 1)) >>= fun a66 =>
    if a66.Id ≥ a53.Id then
     some (.inr false)
    else
     zds s0 (IntKind.wrap .i64 (s3 + 1))
   else
    zds s0 (IntKind.wrap .i64 (s3 + 1))
  else
   some (.inr false)
 else
  some (.inl ())
 partial_fixpoint
def zgB (s0:TGenScope):Option Bool :=
 zds s0 0 >>= fun t =>
 match t with
 | .inl t =>
  some true
 | .inr t =>
  some t
def zhy (p0:TGenScope):Option Bool :=
 zlM p0.Heap >>= fun r7 =>
 if r7=true then
  zgl p0.Heap p0.Vars >>= fun r17 =>
  if r17=true then
   if (p0.Cos.length:Int) > 8 then
    some false
   else
    zcg p0.Steps 0 20000 >>= fun r33 =>
    if r33=true then
     zgB p0
    else
     some false
  else
   some false
 else
  some false
def zhz (s0:TGenScope) (s1 s5:Int):Option (Unit ⊕ Int) :=
 if s5<(s0.Cos.length:Int) then
  idx s0.Cos s5 >>= fun a20 =>
  if a20.Id=s1 then
   some (.inr s5)
  else
   zhz s0 s1 (IntKind.wrap .i64 (s5 + 1))
 else
  some (.inl ())
 partial_fixpoint
def zlO (p0:TGenScope) (p1:Int):Option Int :=
 zhz p0 p1 0 >>= fun t =>
 match t with
 | .inl t =>
  some (-1)
 | .inr t =>
  some t
def zef (p0:List TBinding):Option ((List TBinding)) :=
 chk (p0.length<=most) >>= fun _ =>
 some p0
def zcR (p0:List TValue):Option ((List TValue)) :=
 chk (p0.length<=most) >>= fun _ =>
 some p0
def zdG (p0:TObject):Option TObject :=
 zcR p0.Keys >>= fun r5 =>
 zcR p0.Vals >>= fun r9 =>
 some (TObject.mk p0.Id p0.Kind p0.Name p0.Low r5 r9 p0.Default)
def zgC (s0 s2 s3:THeap) (s4:Int):Option THeap :=
 if s4<(s0.Objects.length:Int) then
  idx s0.Objects s4 >>= fun a26 =>
  zdG a26 >>= fun r28 =>
  app s3.Objects ([r28]) >>= fun c30 =>
  zgC s0 s2 (THeap.mk s3.Next c30) (IntKind.wrap .i64 (s4 + 1))
 else
  some s3
 partial_fixpoint
def zjE (p0:THeap):Option THeap :=
 zgC p0 (THeap.mk 0 ([])) (THeap.mk p0.Next ([])) 0 >>= fun t =>
 some t
mutual
def zbi (s0 s2 s3:TGen) (s4:Int):Option TGen :=
 if s4<(s0.Kids.length:Int) then
  idx s0.Kids s4 >>= fun a38 =>
  zdf a38 >>= fun r39 =>
  app s3.Kids ([r39]) >>= fun c41 =>
  zbi s0 s2 (TGen.mk s3.Kind s3.Num s3.Text s3.Value c41) (IntKind.wrap .i64 (s4 + 1))
 else
  some s3
 partial_fixpoint
def zdf (p0:TGen):Option TGen :=
 zbi p0 (TGen.mk 0 0 ByteArray.empty (TValue.mk 0 0 ByteArray.empty 0) ([])) (TGen.mk p0.Kind p0.Num p0.Text p0.Value ([])) 0 >>= fun t =>
 some t
 partial_fixpoint
end
mutual
def zaN (s0 s2 s3:TCursor) (s4:Int):Option TCursor :=
 if s4<(s0.Kids.length:Int) then
  idx s0.Kids s4 >>= fun a35 =>
  zbB a35 >>= fun r36 =>
  app s3.Kids ([r36]) >>= fun c38 =>
  zaN s0 s2 (TCursor.mk s3.Phase s3.Count s3.Vals c38) (IntKind.wrap .i64 (s4 + 1))
 else
  some s3
 partial_fixpoint
def zbB (p0:TCursor):Option TCursor :=
 zcR p0.Vals >>= fun r17 =>
 zaN p0 (TCursor.mk 0 0 ([]) ([])) (TCursor.mk p0.Phase p0.Count r17 ([])) 0 >>= fun t =>
 some t
 partial_fixpoint
end
def zgn (p0:TCoexpr):Option TCoexpr :=
 zdf p0.Body >>= fun r10 =>
 zef p0.Start >>= fun r15 =>
 zef p0.Vars >>= fun r20 =>
 zbB p0.Cursor >>= fun r24 =>
 some (TCoexpr.mk p0.Id r10 r15 r20 r24 p0.Count p0.Done)
def zgD (s0 s2 s3:TGenScope) (s4:Int):Option TGenScope :=
 if s4<(s0.Cos.length:Int) then
  idx s0.Cos s4 >>= fun a35 =>
  zgn a35 >>= fun r36 =>
  app s3.Cos ([r36]) >>= fun c38 =>
  zgD s0 s2 (TGenScope.mk s3.Vars s3.Heap c38 s3.Steps) (IntKind.wrap .i64 (s4 + 1))
 else
  some s3
 partial_fixpoint
def zjF (p0:TGenScope):Option TGenScope :=
 zef p0.Vars >>= fun r9 =>
 zjE p0.Heap >>= fun r13 =>
 zgD p0 (TGenScope.mk ([]) (THeap.mk 0 ([])) ([]) 0) (TGenScope.mk r9 r13 ([]) p0.Steps) 0 >>= fun t =>
 some t
def ziL (p0:TGenScope) (p1:Int):Option ((TGenScope × Int) ⊕ (TGenScope × Int)) :=
 zhy p0 >>= fun r9 =>
 if r9=true then
  zlO p0 p1 >>= fun r13 =>
  if r13<0 then
   some (.inl (TGenScope.mk ([]) (THeap.mk 0 ([])) ([]) 0,11))
  else
   zjF p0 >>= fun r17 =>
   subH r17.Cos r13 >>= fun c22 =>
   chk (c22.length<=most) >>= fun _ =>
   subL r17.Cos (IntKind.wrap .i64 (r13 + 1)) >>= fun c29 =>
   app c22 c29 >>= fun c30 =>
   some (.inr (TGenScope.mk r17.Vars r17.Heap c30 r17.Steps,0))
 else
  some (.inl (TGenScope.mk ([]) (THeap.mk 0 ([])) ([]) 0,1))
def zdY (p0:TCoexpr) (g0:Int):Option Bool :=
 some (decide (p0.Id=g0))
def zaI (s0:List TCoexpr) (s7 g0 s8:Int):Option (Unit ⊕ Int) :=
 if s8<s7 then
  idx s0 s8 >>= fun a14 =>
  zdY a14 g0 >>= fun r16 =>
  if r16=true then
   some (.inr s8)
  else
   zaI s0 s7 g0 (IntKind.wrap .i64 (s8 + 1))
 else
  some (.inl ())
 partial_fixpoint
def zbm (p0:List TCoexpr) (g0:Int):Option Int :=
 zaI p0 (p0.length:Int) g0 0 >>= fun t =>
 match t with
 | .inl t =>
  some (-1)
 | .inr t =>
  some t
def zdt (p0:TGenScope) (p1:Int):Option Int :=
 zbm p0.Cos p1 >>= fun r8 =>
 some r8
def zbZ (p0 p1 p2:Int):Option Bool :=
 if p0 ≥ p1 then
  some (decide (p0<=p2))
 else
  some false
def zfa (p0:Int):Option Bool :=
 zbZ p0 1 1000000 >>= fun r4 =>
 some r4
def zgo (p0:Int):Option Bool :=
 if p0 ≥ 65 then
  if p0<=90 then
   some true
  else
   if p0 ≥ 97 then
    some (decide (p0<=122))
   else
    some false
 else
  if p0 ≥ 97 then
   some (decide (p0<=122))
  else
   some false
def zip (p0:Int):Option Bool :=
 if p0 ≥ 48 then
  some (decide (p0<=57))
 else
  some false
def zfb (p0:Int):Option Bool :=
 zgo p0 >>= fun r4 =>
 if r4=true then
  some true
 else
  zip p0 >>= fun r7 =>
  if r7=true then
   some true
  else
   some (decide (p0=95))
def zdS (s0 s7:List Int) (s8 s9:Int):Option (Unit ⊕ Bool) :=
 if s9<s8 then
  idx s7 s9 >>= fun a11 =>
  zfb a11 >>= fun r15 =>
  if r15=true then
   zdS s0 s7 s8 (IntKind.wrap .i64 (s9 + 1))
  else
   some (.inr false)
 else
  some (.inl ())
 partial_fixpoint
def zfn (p0:List Int):Option Bool :=
 zdS p0 p0 (p0.length:Int) 0 >>= fun t =>
 match t with
 | .inl t =>
  some true
 | .inr t =>
  some t
def zfP (p0:ByteArray):Option Bool :=
 if (p0.size:Int) ≥ 1 then
  if (p0.size:Int)<=12 then
   idxBN p0 0 >>= fun b13 =>
   zgo (b13.toNat:Int) >>= fun r14 =>
   if r14=true then
    zfn (strI p0) >>= fun r19 =>
    some r19
   else
    some false
  else
   some false
 else
  some false
def zet (s1:TValue) (s65:Bool):Option (Bool ⊕ Bool) :=
 if s65=true then
  if s1.Num=0 then
   if s1.Ref=0 then
    zfP s1.Text >>= fun r78 =>
    some (.inr r78)
   else
    some (.inr false)
  else
   some (.inr false)
 else
  some (.inl false)
def zdg (s1:TValue) (s4:Int) (s49:Bool):Option (Unit ⊕ Bool) :=
 if s49=true then
  if s1.Num=0 then
   if s1.Text=ByteArray.empty then
    zfa s1.Ref >>= fun r63 =>
    some (.inr r63)
   else
    some (.inr false)
  else
   some (.inr false)
 else
  if s4=7 then
   zet s1 true >>= fun t =>
   match t with
   | .inl t =>
    some (.inl ())
   | .inr t =>
    some (.inr t)
  else
   zet s1 (decide (s4=8)) >>= fun t =>
   match t with
   | .inl t =>
    some (.inl ())
   | .inr t =>
    some (.inr t)
def zbn (p0:TValue):Option Bool :=
 if p0.Kind=1 then
  if p0.Num=0 then
   if p0.Ref=0 then
    some (decide ((p0.Text.size:Int)<=200))
   else
    some false
  else
   some false
 else
  if p0.Kind=2 then
   if p0.Text=ByteArray.empty then
    if p0.Ref=0 then
     zbZ p0.Num (-1000000000000) 1000000000000 >>= fun r28 =>
     some r28
    else
     some false
   else
    some false
  else
   if p0.Kind=3 then
    if p0.Num=0 then
     if p0.Ref=0 then
      if (p0.Text.size:Int) ≥ 1 then
       some (decide ((p0.Text.size:Int)<=1200))
      else
       some false
     else
      some false
    else
     some false
   else
    if p0.Kind=4 then
     zdg p0 p0.Kind true >>= fun t =>
     match t with
     | .inl t =>
      some false
     | .inr t =>
      some t
    else
     if p0.Kind=5 then
      zdg p0 p0.Kind true >>= fun t =>
      match t with
      | .inl t =>
       some false
      | .inr t =>
       some t
     else
      zdg p0 p0.Kind (decide (p0.Kind=6)) >>= fun t =>
      match t with
      | .inl t =>
       some false
      | .inr t =>
       some t
def zdu (s0 s7:List TValue) (s8 s9:Int):Option (Unit ⊕ Bool) :=
 if s9<s8 then
  idx s7 s9 >>= fun a11 =>
  zbn a11 >>= fun r15 =>
  if r15=true then
   zdu s0 s7 s8 (IntKind.wrap .i64 (s9 + 1))
  else
   some (.inr false)
 else
  some (.inl ())
 partial_fixpoint
def zdH (p0:List TValue):Option Bool :=
 zdu p0 p0 (p0.length:Int) 0 >>= fun t =>
 match t with
 | .inl t =>
  some true
 | .inr t =>
  some t
def zam (s0:List TValue) (s3:TValue) (s7 s8:Int):Option (Unit ⊕ Int) :=
 if s8<s7 then
  idx s0 s8 >>= fun a14 =>
  if s3.Kind=a14.Kind then
   if s3.Num=a14.Num then
    if s3.Text=a14.Text then
     if s3.Ref=a14.Ref then
      some (.inr s8)
     else
      zam s0 s3 s7 (IntKind.wrap .i64 (s8 + 1))
    else
     zam s0 s3 s7 (IntKind.wrap .i64 (s8 + 1))
   else
    zam s0 s3 s7 (IntKind.wrap .i64 (s8 + 1))
  else
   zam s0 s3 s7 (IntKind.wrap .i64 (s8 + 1))
 else
  some (.inl ())
 partial_fixpoint
def zch (p0:List TValue) (p1:TValue):Option Int :=
 zam p0 p1 (p0.length:Int) 0 >>= fun t =>
 match t with
 | .inl t =>
  some (-1)
 | .inr t =>
  some t
def zaK (p0:List TValue) (p1:TValue):Option Bool :=
 zch p0 p1 >>= fun r7 =>
 some (decide (r7 ≥ 0))
def zdv (s0 s5:List TValue) (s6 s7:Int):Option (Unit ⊕ Bool) :=
 if s7<s6 then
  idx s5 s7 >>= fun a10 =>
  subH s0 s7 >>= fun c14 =>
  zaK c14 a10 >>= fun r16 =>
  if r16=true then
   some (.inr false)
  else
   zdv s0 s5 s6 (IntKind.wrap .i64 (s7 + 1))
 else
  some (.inl ())
 partial_fixpoint
def zdI (p0:List TValue):Option Bool :=
 zdv p0 p0 (p0.length:Int) 0 >>= fun t =>
 match t with
 | .inl t =>
  some true
 | .inr t =>
  some t
def zjG (p0:ByteArray):Option TValue :=
 some (TValue.mk 1 0 p0 0)
def zhg (p0:TValue):Option Bool :=
 zjG p0.Text >>= fun r6 =>
 if p0.Kind=r6.Kind then
  if p0.Num=r6.Num then
   if p0.Text=r6.Text then
    if p0.Ref=r6.Ref then
     zfP p0.Text >>= fun r11 =>
     some r11
    else
     some false
   else
    some false
  else
   some false
 else
  some false
def zct (s0 s7:List TValue) (s8 s9:Int):Option (Unit ⊕ Bool) :=
 if s9<s8 then
  idx s7 s9 >>= fun a11 =>
  zhg a11 >>= fun r15 =>
  if r15=true then
   zct s0 s7 s8 (IntKind.wrap .i64 (s9 + 1))
  else
   some (.inr false)
 else
  some (.inl ())
 partial_fixpoint
def zdT (p0:List TValue):Option Bool :=
 zct p0 p0 (p0.length:Int) 0 >>= fun t =>
 match t with
 | .inl t =>
  some true
 | .inr t =>
  some t
def zcL (s1:TObject) (s3:Bool):Option Bool :=
 if s1.Low=0 then
  if s3=true then
   zbn s1.Default >>= fun r74 =>
   if r74=true then
    some (decide (s1.Name=⟨#[]⟩))
   else
    some false
  else
   some false
 else
  some false
def zbs (s1:TObject) (s5:Bool):Option Bool :=
 if s1.Low=0 then
  if s5=true then
   if s1.Default.Kind=0 then
    if s1.Default.Num=0 then
     if s1.Default.Text=ByteArray.empty then
      if s1.Default.Ref=0 then
       zfP s1.Name >>= fun r124 =>
       some r124
      else
       some false
     else
      some false
    else
     some false
   else
    some false
  else
   some false
 else
  some false
def zdU (s1:TObject):Option Bool :=
 if s1.Kind=1 then
  zbZ s1.Low (-1000) 1000 >>= fun r28 =>
  if r28=true then
   if (s1.Keys.length:Int)=0 then
    if s1.Default.Kind=0 then
     if s1.Default.Num=0 then
      if s1.Default.Text=ByteArray.empty then
       if s1.Default.Ref=0 then
        some (decide (s1.Name=⟨#[]⟩))
       else
        some false
      else
       some false
     else
      some false
    else
     some false
   else
    some false
  else
   some false
 else
  if s1.Kind=2 then
   if (s1.Keys.length:Int)=(s1.Vals.length:Int) then
    zdH s1.Keys >>= fun r58 =>
    if r58=true then
     zdI s1.Keys >>= fun r63 =>
     zcL s1 r63 >>= fun t =>
     some t
    else
     zcL s1 false >>= fun t =>
     some t
   else
    zcL s1 false >>= fun t =>
    some t
  else
   if s1.Kind=3 then
    if (s1.Keys.length:Int) ≥ 1 then
     if (s1.Keys.length:Int)<=6 then
      if (s1.Keys.length:Int)=(s1.Vals.length:Int) then
       zdT s1.Keys >>= fun r102 =>
       if r102=true then
        zdI s1.Keys >>= fun r107 =>
        zbs s1 r107 >>= fun t =>
        some t
       else
        zbs s1 false >>= fun t =>
        some t
      else
       zbs s1 false >>= fun t =>
       some t
     else
      zbs s1 false >>= fun t =>
      some t
    else
     zbs s1 false >>= fun t =>
     some t
   else
    some false
def zeu (p0:TObject):Option Bool :=
 zfa p0.Id >>= fun r8 =>
 if r8=true then
  if (p0.Vals.length:Int) > 30 then
   some false
  else
   zdH p0.Vals >>= fun r19 =>
   if r19=true then
    zdU p0
   else
    some false
 else
  some false
def zcW (s0 s7:List TObject) (s8 s9:Int):Option (Unit ⊕ Bool) :=
 if s9<s8 then
  idx s7 s9 >>= fun a11 =>
  zeu a11 >>= fun r15 =>
  if r15=true then
   zcW s0 s7 s8 (IntKind.wrap .i64 (s9 + 1))
  else
   some (.inr false)
 else
  some (.inl ())
 partial_fixpoint
def zev (p0:List TObject):Option Bool :=
 zcW p0 p0 (p0.length:Int) 0 >>= fun t =>
 match t with
 | .inl t =>
  some true
 | .inr t =>
  some t
def zbj (a b:List TValue):Option (List TValue):=chk (a.length + b.length<=most) >>= fun _=>some (a++b)
def zfF (p0:TObject):Option ((List TValue)) :=
 zbj p0.Keys p0.Vals >>= fun r9 =>
 if p0.Kind=2 then
  app r9 ([p0.Default]) >>= fun c17 =>
  some c17
 else
  some r9
def zhA (p0:Int):Option Bool :=
 zbZ p0 4 6 >>= fun r4 =>
 some r4
def zew (p0:Int):Option Bool :=
 some false
def zeL (p0 p1:Int):Option Int :=
 zew p0 >>= fun r8 =>
 zew p1 >>= fun r10 =>
 if r8=true then
  if r10=true then
   some 0
  else
   some (-1)
 else
  if r10=true then
   some 1
  else
   if p0<p1 then
    some (-1)
   else
    if p0 > p1 then
     some 1
    else
     some 0
def zex (p0:TObject) (p1:Int):Option Int :=
 zeL p0.Id p1 >>= fun r8 =>
 some r8
def zai (s0:List TObject) (s1 s8 s9 s10:Int):Option Int :=
 if s9<s10 then
  idx s0 (IntKind.wrap .i64 ((IntKind.wrap .u64 (IntKind.wrap .i64 (s9 + s10))).fdiv (2 ^ (min 1 (IntKind.bits .u64))))) >>= fun a27 =>
  zex a27 s1 >>= fun r30 =>
  if r30<0 then
   zai s0 s1 s8 (IntKind.wrap .i64 (IntKind.wrap .i64 ((IntKind.wrap .u64 (IntKind.wrap .i64 (s9 + s10))).fdiv (2 ^ (min 1 (IntKind.bits .u64)))) + 1)) s10
  else
   zai s0 s1 s8 s9 (IntKind.wrap .i64 ((IntKind.wrap .u64 (IntKind.wrap .i64 (s9 + s10))).fdiv (2 ^ (min 1 (IntKind.bits .u64)))))
 else
  some s9
 partial_fixpoint
def zaF (p0:List TObject) (p1:Int):Option (Int × Bool) :=
 zai p0 p1 (p0.length:Int) 0 (p0.length:Int) >>= fun t =>
 if t<(p0.length:Int) then
  idx p0 t >>= fun a43 =>
  zex a43 p1 >>= fun r46 =>
  some (t,(decide (r46=0)))
 else
  some (t,false)
def zgE (p0:THeap) (p1:Int):Option Int :=
 zaF p0.Objects p1 >>= fun r11 =>
 if r11.2=true then
  some r11.1
 else
  some (-1)
def zhh (p0:Int):Option Int :=
 some (IntKind.wrap .i64 (IntKind.wrap .i64 (p0 - 4) + 1))
def zfV (s2:THeap) (s3:TValue):Option Bool :=
 zgE s2 s3.Ref >>= fun r20 =>
 if r20 ≥ 0 then
  idx s2.Objects r20 >>= fun a27 =>
  zhh s3.Kind >>= fun r32 =>
  some (decide (a27.Kind=r32))
 else
  some false
def zdZ (p0:THeap) (p1:TValue):Option Bool :=
 zbn p1 >>= fun r7 =>
 if r7=true then
  zhA p1.Kind >>= fun r12 =>
  if r12=true then
   zfV p0 p1
  else
   zbn p1 >>= fun r16 =>
   some r16
 else
  zbn p1 >>= fun r16 =>
  some r16
def zcu (s0:List TValue) (s1:THeap) (s7:List TValue) (s8 s9:Int):Option (Unit ⊕ Bool) :=
 if s9<s8 then
  idx s7 s9 >>= fun a11 =>
  zdZ s1 a11 >>= fun r15 =>
  if r15=true then
   zcu s0 s1 s7 s8 (IntKind.wrap .i64 (s9 + 1))
  else
   some (.inr false)
 else
  some (.inl ())
 partial_fixpoint
def zbP (p0:List TValue) (p1:THeap):Option Bool :=
 zcu p0 p1 p0 (p0.length:Int) 0 >>= fun t =>
 match t with
 | .inl t =>
  some true
 | .inr t =>
  some t
def zey (p0:TObject) (g0:THeap):Option Bool :=
 zfF p0 >>= fun r5 =>
 zbP r5 g0 >>= fun r8 =>
 some r8
def zca (s0 s7:List TObject) (s8:Int) (g0:THeap) (s9:Int):Option (Unit ⊕ Bool) :=
 if s9<s8 then
  idx s7 s9 >>= fun a11 =>
  zey a11 g0 >>= fun r15 =>
  if r15=true then
   zca s0 s7 s8 g0 (IntKind.wrap .i64 (s9 + 1))
  else
   some (.inr false)
 else
  some (.inl ())
 partial_fixpoint
def zdw (p0:List TObject) (g0:THeap):Option Bool :=
 zca p0 p0 (p0.length:Int) g0 0 >>= fun t =>
 match t with
 | .inl t =>
  some true
 | .inr t =>
  some t
def zdJ (s1:THeap) (s23:List TObject) (s24 s3 s25:Int):Option (Unit ⊕ Bool) :=
 if s25<s24 then
  idx s23 s25 >>= fun a27 =>
  if a27.Id<=s3 then
   some (.inr false)
  else
   if a27.Id > s1.Next then
    some (.inr false)
   else
    zdJ s1 s23 s24 a27.Id (IntKind.wrap .i64 (s25 + 1))
 else
  some (.inl ())
 partial_fixpoint
def zfW (s1:THeap):Option Bool :=
 zdJ s1 s1.Objects (s1.Objects.length:Int) 0 0 >>= fun t =>
 match t with
 | .inl t =>
  zdw s1.Objects s1 >>= fun r46 =>
  some r46
 | .inr t =>
  some t
def zgF (p0:THeap):Option Bool :=
 zbZ p0.Next 0 1000000 >>= fun r8 =>
 if r8=true then
  if (p0.Objects.length:Int) > 40 then
   some false
  else
   zev p0.Objects >>= fun r19 =>
   if r19=true then
    zfW p0
   else
    some false
 else
  some false
def zfG (p0:TBinding):Option ByteArray :=
 some p0.Name
def zbV (s0:List TBinding) (s5:Int):Option (Unit ⊕ Bool) :=
 if s5<(s0.length:Int) then
  idx s0 (IntKind.wrap .i64 (s5 - 1)) >>= fun a16 =>
  zfG a16 >>= fun r18 =>
  idx s0 s5 >>= fun a22 =>
  zfG a22 >>= fun r24 =>
  if (Op.bytesLess r18.toList r24.toList)=true then
   zbV s0 (IntKind.wrap .i64 (s5 + 1))
  else
   some (.inr false)
 else
  some (.inl ())
 partial_fixpoint
def zcX (p0:List TBinding):Option Bool :=
 zbV p0 1 >>= fun t =>
 match t with
 | .inl t =>
  some true
 | .inr t =>
  some t
def zyx:Option TValue :=
 zjG (⟨#[]⟩) >>= fun r1 =>
 some r1
def zlP (p0:TValue):Option Bool :=
 zyx >>= fun r4 =>
 some ((decide (p0.Kind=r4.Kind)) && ((decide (p0.Num=r4.Num)) && ((decide (p0.Text=r4.Text)) && (decide (p0.Ref=r4.Ref)))))
def zdx (p0:TBinding):Option Bool :=
 zfP p0.Name >>= fun r5 =>
 if r5=true then
  zbn p0.Value >>= fun r9 =>
  if r9=true then
   zlP p0.Value >>= fun r14 =>
   some (!r14)
  else
   some false
 else
  some false
def zgG (p0:TBinding) (g0:THeap):Option Bool :=
 zdx p0 >>= fun r5 =>
 if r5=true then
  zdZ g0 p0.Value >>= fun r10 =>
  some r10
 else
  some false
def zcv (s0 s7:List TBinding) (s8:Int) (g0:THeap) (s9:Int):Option (Unit ⊕ Bool) :=
 if s9<s8 then
  idx s7 s9 >>= fun a11 =>
  zgG a11 g0 >>= fun r15 =>
  if r15=true then
   zcv s0 s7 s8 g0 (IntKind.wrap .i64 (s9 + 1))
  else
   some (.inr false)
 else
  some (.inl ())
 partial_fixpoint
def zfh (p0:List TBinding) (g0:THeap):Option Bool :=
 zcv p0 p0 (p0.length:Int) g0 0 >>= fun t =>
 match t with
 | .inl t =>
  some true
 | .inr t =>
  some t
def zgp (p0:List TBinding) (p1:THeap):Option Bool :=
 if (p0.length:Int)<=40 then
  zcX p0 >>= fun r10 =>
  if r10=true then
   zfh p0 p1 >>= fun r15 =>
   some r15
  else
   some false
 else
  some false
def zjH (p0:TValue):Option Bool :=
 zbn p0 >>= fun r4 =>
 if r4=true then
  if p0.Kind=1 then
   some true
  else
   if p0.Kind=2 then
    some true
   else
    zhA p0.Kind >>= fun r17 =>
    some r17
 else
  some false
def zfQ (s0 s3:Int) (s10:Bool):Option ((Bool × Bool × Bool × Bool × Bool) ⊕ Int) :=
 if s10=true then
  some (.inr 3)
 else
  if s3=1 then
   some (.inr 0)
  else
   if s3=2 then
    some (.inr 0)
   else
    if s3=3 then
     some (.inr 0)
    else
     some (.inl (false,false,false,false,false))
def zeg (s0 s3:Int) (s4:Bool):Option ((Bool × Bool × Bool × Bool × Bool) ⊕ Int) :=
 if s4=true then
  some (.inr 2)
 else
  if s3=8 then
   zfQ s0 s3 true >>= fun t =>
   match t with
   | .inl t =>
    some (.inl (t.1,t.2.1,t.2.2.1,t.2.2.2.1,t.2.2.2.2))
   | .inr t =>
    some (.inr t)
  else
   if s3=12 then
    zfQ s0 s3 true >>= fun t =>
    match t with
    | .inl t =>
     some (.inl (t.1,t.2.1,t.2.2.1,t.2.2.2.1,t.2.2.2.2))
    | .inr t =>
     some (.inr t)
   else
    zfQ s0 s3 (decide (s3=15)) >>= fun t =>
    match t with
    | .inl t =>
     some (.inl (t.1,t.2.1,t.2.2.1,t.2.2.2.1,t.2.2.2.2))
    | .inr t =>
     some (.inr t)
def zgq (p0:Int):Option Int :=
 if p0=4 then
  zeg p0 p0 true >>= fun t =>
  match t with
  | .inl t =>
   some 1
  | .inr t =>
   some t
 else
  if p0=5 then
   zeg p0 p0 true >>= fun t =>
   match t with
   | .inl t =>
    some 1
   | .inr t =>
    some t
  else
   if p0=9 then
    zeg p0 p0 true >>= fun t =>
    match t with
    | .inl t =>
     some 1
    | .inr t =>
     some t
   else
    if p0=11 then
     zeg p0 p0 true >>= fun t =>
     match t with
     | .inl t =>
      some 1
     | .inr t =>
      some t
    else
     zeg p0 p0 (decide (p0=14)) >>= fun t =>
     match t with
     | .inl t =>
      some 1
     | .inr t =>
      some t
def zcM (p0:ByteArray):Option Bool :=
 if p0=⟨#[97,100,100]⟩ then
  some true
 else
  if p0=⟨#[115,117,98]⟩ then
   some true
  else
   if p0=⟨#[109,117,108]⟩ then
    some true
   else
    if p0=⟨#[100,105,118]⟩ then
     some true
    else
     if p0=⟨#[99,97,116]⟩ then
      some true
     else
      if p0=⟨#[108,116]⟩ then
       some true
      else
       if p0=⟨#[108,101]⟩ then
        some true
       else
        if p0=⟨#[101,113]⟩ then
         some true
        else
         if p0=⟨#[110,101]⟩ then
          some true
         else
          if p0=⟨#[103,116]⟩ then
           some true
          else
           if p0=⟨#[103,101]⟩ then
            some true
           else
            if p0=⟨#[115,101,113]⟩ then
             some true
            else
             if p0=⟨#[115,110,101]⟩ then
              some true
             else
              if p0=⟨#[115,108,116]⟩ then
               some true
              else
               if p0=⟨#[105,115]⟩ then
                some true
               else
                some false
def zbQ (s1:TGen) (s3 s4 s5:Bool):Option Bool :=
 zbZ s1.Kind 1 18 >>= fun r42 =>
 if r42=true then
  if s3=true then
   if s4=true then
    if s5=true then
     zgq s1.Kind >>= fun r58 =>
     some (decide ((s1.Kids.length:Int)=r58))
    else
     some false
   else
    some false
  else
   some false
 else
  some false
def zcN (s1:TGen) (s3 s4 s5:Bool) (s17:Int) (s23:Bool):Option (Bool × Bool × Bool) :=
 if s23=true then
  zfP s1.Text >>= fun r29 =>
  some (s3,r29,true)
 else
  if s17=6 then
   zbZ s1.Num 0 60 >>= fun r34 =>
   some (r34,s4,false)
  else
   if s17=11 then
    zcM s1.Text >>= fun r39 =>
    some (s3,r39,false)
   else
    some (s3,s4,false)
def zfo (p0:TGen):Option Bool :=
 if p0.Kind=1 then
  zjH p0.Value >>= fun r22 =>
  zbQ p0 (decide (p0.Num=0)) (decide (p0.Text=⟨#[]⟩)) r22
 else
  if p0.Kind=2 then
   zcN p0 (decide (p0.Num=0)) (decide (p0.Text=⟨#[]⟩)) ((decide (p0.Value.Kind=0)) && ((decide (p0.Value.Num=0)) && ((decide (p0.Value.Text=ByteArray.empty)) && (decide (p0.Value.Ref=0))))) p0.Kind true >>= fun t =>
   zbQ p0 t.1 t.2.1 ((decide (p0.Value.Kind=0)) && ((decide (p0.Value.Num=0)) && ((decide (p0.Value.Text=ByteArray.empty)) && (decide (p0.Value.Ref=0)))))
  else
   if p0.Kind=16 then
    zcN p0 (decide (p0.Num=0)) (decide (p0.Text=⟨#[]⟩)) ((decide (p0.Value.Kind=0)) && ((decide (p0.Value.Num=0)) && ((decide (p0.Value.Text=ByteArray.empty)) && (decide (p0.Value.Ref=0))))) p0.Kind true >>= fun t =>
    zbQ p0 t.1 t.2.1 ((decide (p0.Value.Kind=0)) && ((decide (p0.Value.Num=0)) && ((decide (p0.Value.Text=ByteArray.empty)) && (decide (p0.Value.Ref=0)))))
   else
    zcN p0 (decide (p0.Num=0)) (decide (p0.Text=⟨#[]⟩)) ((decide (p0.Value.Kind=0)) && ((decide (p0.Value.Num=0)) && ((decide (p0.Value.Text=ByteArray.empty)) && (decide (p0.Value.Ref=0))))) p0.Kind (decide (p0.Kind=17)) >>= fun t =>
    zbQ p0 t.1 t.2.1 ((decide (p0.Value.Kind=0)) && ((decide (p0.Value.Num=0)) && ((decide (p0.Value.Text=ByteArray.empty)) && (decide (p0.Value.Ref=0)))))
mutual
def zbk (s1:Int) (s2:TGen) (s17:List TGen) (s18 s19:Int):Option Int :=
 if s19<s18 then
  idx s17 s19 >>= fun a21 =>
  zeh a21 s1 >>= fun r25 =>
  if r25 > 60 then
   some r25
  else
   zbk r25 s2 s17 s18 (IntKind.wrap .i64 (s19 + 1))
 else
  some s1
 partial_fixpoint
def zeh (p0:TGen) (p1:Int):Option Int :=
 if IntKind.wrap .i64 (p1 + 1) > 60 then
  some 61
 else
  zfo p0 >>= fun r13 =>
  if r13=true then
   zez (IntKind.wrap .i64 (p1 + 1)) p0
  else
   some 61
 partial_fixpoint
def zez (s1:Int) (s2:TGen):Option Int :=
 zbk s1 s2 s2.Kids (s2.Kids.length:Int) 0 >>= fun t =>
 some t
 partial_fixpoint
end
def zhB (p0:TGen):Option Bool :=
 zeh p0 0 >>= fun r4 =>
 some (decide (r4<=60))
mutual
def zaW (s0:List TGen) (s1:THeap) (s7:List TGen) (s8 s9:Int):Option (Unit ⊕ Bool) :=
 if s9<s8 then
  idx s7 s9 >>= fun a11 =>
  zbC s1 a11 >>= fun r15 =>
  if r15=true then
   zaW s0 s1 s7 s8 (IntKind.wrap .i64 (s9 + 1))
  else
   some (.inr false)
 else
  some (.inl ())
 partial_fixpoint
def zbC (p0:THeap) (p1:TGen):Option Bool :=
 if p1.Kind=1 then
  zdZ p0 p1.Value >>= fun r12 =>
  if r12=true then
   zei p1.Kids p0 >>= fun r19 =>
   some r19
  else
   some false
 else
  zei p1.Kids p0 >>= fun r19 =>
  some r19
 partial_fixpoint
def zei (p0:List TGen) (p1:THeap):Option Bool :=
 zaW p0 p1 p0 (p0.length:Int) 0 >>= fun t =>
 match t with
 | .inl t =>
  some true
 | .inr t =>
  some t
 partial_fixpoint
end
def zdh (p0:TCursor):Option Bool :=
 if p0.Phase=0 then
  if p0.Count=0 then
   if (p0.Vals.length:Int)=0 then
    some (decide ((p0.Kids.length:Int)=0))
   else
    some false
  else
   some false
 else
  some false
def zdi (p0:TGen) (p1:Int):Option (((List TGen)) ⊕ Unit) :=
 zbZ p1 1 (p0.Kids.length:Int) >>= fun r9 =>
 if r9=true then
  sub p0.Kids (IntKind.wrap .i64 (p1 - 1)) p1 >>= fun c16 =>
  some (.inl c16)
 else
  some (.inr ())
def zfp (s1:Int) (s2:TGen) (s4:TcursorForm) (s5:List Int) (s8:Int) (s33:Bool):Option ((Bool × Bool × Bool × Bool × Bool × Bool × Bool × Bool × Bool) ⊕ ((TcursorForm ⊕ ((List Int) × Int × Int)))) :=
 if s33=true then
  some (.inr (.inl (TcursorForm.mk s5 0 0 s2.Kids)))
 else
  if s8=6 then
   some (.inr (.inl (TcursorForm.mk s5 s2.Num 0 s2.Kids)))
  else
   if s8=12 then
    some (.inr (.inl (TcursorForm.mk s5 2000000000001 3 s2.Kids)))
   else
    if s8=13 then
     some (.inr (.inl (TcursorForm.mk s5 200 1 s2.Kids)))
    else
     if s8=17 then
      some (.inr (.inl (TcursorForm.mk s5 0 2 s2.Kids)))
     else
      some (.inl (false,false,false,false,false,false,false,false,false))
def zbW (s1:Int) (s2:TGen) (s4:TcursorForm) (s5:List Int) (s8:Int) (s13:Bool):Option ((Bool × Bool × Bool × Bool × Bool × Bool × Bool × Bool × Bool) ⊕ ((TcursorForm ⊕ ((List Int) × Int × Int)))) :=
 if s13=true then
  some (.inr (.inr (s5,0,0)))
 else
  if s8=4 then
   zdi s2 s1 >>= fun r24 =>
   match r24 with
   | .inl r24 =>
    some (.inr (.inl (TcursorForm.mk ([1,2]) 0 0 r24)))
   | .inr r24 =>
    some (.inr (.inr ([1,2],0,0)))
  else
   if s8=8 then
    zdi s2 s1 >>= fun r31 =>
    match r31 with
    | .inl r31 =>
     some (.inr (.inl (TcursorForm.mk ([2,3]) 0 0 r31)))
    | .inr r31 =>
     some (.inr (.inr ([2,3],0,0)))
   else
    if s8=5 then
     zfp s1 s2 s4 s5 s8 true >>= fun t =>
     match t with
     | .inl t =>
      some (.inl (t.1,t.2.1,t.2.2.1,t.2.2.2.1,t.2.2.2.2.1,t.2.2.2.2.2.1,t.2.2.2.2.2.2.1,t.2.2.2.2.2.2.2.1,t.2.2.2.2.2.2.2.2))
     | .inr t =>
      some (.inr t)
    else
     zfp s1 s2 s4 s5 s8 (decide (s8=10)) >>= fun t =>
     match t with
     | .inl t =>
      some (.inl (t.1,t.2.1,t.2.2.1,t.2.2.2.1,t.2.2.2.2.1,t.2.2.2.2.2.1,t.2.2.2.2.2.2.1,t.2.2.2.2.2.2.2.1,t.2.2.2.2.2.2.2.2))
     | .inr t =>
      some (.inr t)
def zbX (s1:Int) (s2:TGen) (s4:TcursorForm) (s5:List Int) (s8:Int) (s9:Bool):Option ((Bool × Bool × Bool × Bool × Bool × Bool × Bool × Bool × Bool) ⊕ ((TcursorForm ⊕ ((List Int) × Int × Int)))) :=
 if s9=true then
  some (.inr (.inr ([],0,0)))
 else
  if s8=1 then
   zbW s1 s2 s4 s5 s8 true >>= fun t =>
   match t with
   | .inl t =>
    some (.inl (t.1,t.2.1,t.2.2.1,t.2.2.2.1,t.2.2.2.2.1,t.2.2.2.2.2.1,t.2.2.2.2.2.2.1,t.2.2.2.2.2.2.2.1,t.2.2.2.2.2.2.2.2))
   | .inr t =>
    some (.inr t)
  else
   if s8=2 then
    zbW s1 s2 s4 s5 s8 true >>= fun t =>
    match t with
    | .inl t =>
     some (.inl (t.1,t.2.1,t.2.2.1,t.2.2.2.1,t.2.2.2.2.1,t.2.2.2.2.2.1,t.2.2.2.2.2.2.1,t.2.2.2.2.2.2.2.1,t.2.2.2.2.2.2.2.2))
    | .inr t =>
     some (.inr t)
   else
    zbW s1 s2 s4 s5 s8 (decide (s8=7)) >>= fun t =>
    match t with
    | .inl t =>
     some (.inl (t.1,t.2.1,t.2.2.1,t.2.2.2.1,t.2.2.2.2.1,t.2.2.2.2.2.1,t.2.2.2.2.2.2.1,t.2.2.2.2.2.2.2.1,t.2.2.2.2.2.2.2.2))
    | .inr t =>
     some (.inr t)
def zfq (s1:Int) (s2:TGen) (s4:TcursorForm) (s5:List Int):Option ((TcursorForm ⊕ ((List Int) × Int × Int))) :=
 some (.inl (TcursorForm.mk s5 0 (s2.Kids.length:Int) s2.Kids))
def zci (p0:TGen) (p1:Int):Option (TcursorForm ⊕ ((List Int) × Int × Int)) :=
 if p0.Kind=3 then
  zbX p1 p0 (TcursorForm.mk ([]) 0 0 ([])) ([1]) p0.Kind true >>= fun t =>
  match t with
  | .inl t =>
   zfq p1 p0 (TcursorForm.mk ([]) 0 0 ([])) ([1])
  | .inr t =>
   some t
 else
  zbX p1 p0 (TcursorForm.mk ([]) 0 0 ([])) ([1]) p0.Kind (decide (p0.Kind=9)) >>= fun t =>
  match t with
  | .inl t =>
   zfq p1 p0 (TcursorForm.mk ([]) 0 0 ([])) ([1])
  | .inr t =>
   some t
def zcS (p0:Int):Option Bool :=
 if p0=6 then
  some true
 else
  if p0=12 then
   some true
  else
   some (decide (p0=13))
def zaX (s0:List Int) (s1 s7 s8:Int):Option (Unit ⊕ Int) :=
 if s8<s7 then
  idx s0 s8 >>= fun a14 =>
  if s1=a14 then
   some (.inr s8)
  else
   zaX s0 s1 s7 (IntKind.wrap .i64 (s8 + 1))
 else
  some (.inl ())
 partial_fixpoint
def zcj (p0:List Int) (p1:Int):Option Int :=
 zaX p0 p1 (p0.length:Int) 0 >>= fun t =>
 match t with
 | .inl t =>
  some (-1)
 | .inr t =>
  some t
def zaL (p0:List Int) (p1:Int):Option Bool :=
 zcj p0 p1 >>= fun r7 =>
 some (decide (r7 ≥ 0))
def zcw (s3:THeap) (s5:TCursor) (s7:List Int) (s7_1 s7_2 s63 s64:Int):Option Unit :=
 if s64<s63 then
  none
 else
  some ()
def zcx (s3:THeap) (s5:TCursor) (s7:List Int) (s7_1 s7_2:Int):Option Bool :=
 zcw s3 s5 s7 s7_1 s7_2 0 0 >>= fun t =>
 some true
def zaY (s3:THeap) (s5:TCursor) (s7:List Int) (s7_1 s7_2:Int) (s8:Bool):Option Bool :=
 zaL s7 s5.Phase >>= fun r30 =>
 if r30=true then
  if s8=true then
   if (s5.Vals.length:Int)=s7_2 then
    zbP s5.Vals s3 >>= fun r49 =>
    if r49=true then
     if (s5.Kids.length:Int)=0 then
      zcx s3 s5 s7 s7_1 s7_2 >>= fun t =>
      some t
     else
      some false
    else
     some false
   else
    some false
  else
   some false
 else
  some false
mutual
def zan (s3:THeap) (s5:TCursor) (s7:TcursorForm) (s62:List TGen) (s63 s64:Int):Option (Unit ⊕ Bool) :=
 if s64<s63 then
  idx s62 s64 >>= fun a67 =>
  idx s5.Kids s64 >>= fun a74 =>
  zag s3 a67 a74 >>= fun r76 =>
  if r76=true then
   zan s3 s5 s7 s62 s63 (IntKind.wrap .i64 (s64 + 1))
  else
   some (.inr false)
 else
  some (.inl ())
 partial_fixpoint
def zag (p0:THeap) (p1:TGen) (p2:TCursor):Option Bool :=
 zci p1 p2.Phase >>= fun r14 =>
 match r14 with
 | .inl r14 =>
  zcS p1.Kind >>= fun r20 =>
  if r20=true then
   zbZ p2.Count 1 r14.counts >>= fun r25 =>
   zaD p0 p2 r14 r25
  else
   zaD p0 p2 r14 (decide (p2.Count=0))
 | .inr r14 =>
  zcS p1.Kind >>= fun r20 =>
  if r20=true then
   zbZ p2.Count 1 r14.2.1 >>= fun r25 =>
   zaY p0 p2 r14.1 r14.2.1 r14.2.2 r25
  else
   zaY p0 p2 r14.1 r14.2.1 r14.2.2 (decide (p2.Count=0))
 partial_fixpoint
def zaD (s3:THeap) (s5:TCursor) (s7:TcursorForm) (s8:Bool):Option Bool :=
 zaL s7.phases s5.Phase >>= fun r30 =>
 if r30=true then
  if s8=true then
   if (s5.Vals.length:Int)=s7.vals then
    zbP s5.Vals s3 >>= fun r49 =>
    if r49=true then
     if (s5.Kids.length:Int)=(s7.kids.length:Int) then
      zaM s3 s5 s7 >>= fun t =>
      some t
     else
      some false
    else
     some false
   else
    some false
  else
   some false
 else
  some false
 partial_fixpoint
def zaM (s3:THeap) (s5:TCursor) (s7:TcursorForm):Option Bool :=
 zan s3 s5 s7 s7.kids (s7.kids.length:Int) 0 >>= fun t =>
 match t with
 | .inl t =>
  some true
 | .inr t =>
  some t
 partial_fixpoint
end
def zfX (s2:THeap) (s3:TCoexpr):Option Bool :=
 zag s2 s3.Body s3.Cursor >>= fun r56 =>
 some r56
def zfY (s2:THeap) (s3:TCoexpr):Option Bool :=
 if s3.Done=true then
  zdh s3.Cursor >>= fun r50 =>
  some r50
 else
  if s3.Count=0 then
   zdh s3.Cursor >>= fun r50 =>
   some r50
  else
   zfX s2 (TCoexpr.mk s3.Id s3.Body s3.Start s3.Vars s3.Cursor s3.Count false) >>= fun t =>
   some t
def zcT (s2:THeap) (s3:TCoexpr) (s5:Bool):Option Bool :=
 if s5=true then
  zgp s3.Start s2 >>= fun r31 =>
  if r31=true then
   zgp s3.Vars s2 >>= fun r38 =>
   if r38=true then
    zfY s2 s3 >>= fun t =>
    some t
   else
    some false
  else
   some false
 else
  some false
def zbJ (p0:THeap) (p1:TCoexpr):Option Bool :=
 zbZ p1.Id 1 1000000 >>= fun r8 =>
 if r8=true then
  zhB p1.Body >>= fun r12 =>
  if r12=true then
   zbC p0 p1.Body >>= fun r18 =>
   if r18=true then
    zbZ p1.Count 0 1000000 >>= fun r23 =>
    zcT p0 p1 r23
   else
    zcT p0 p1 false
  else
   zcT p0 p1 false
 else
  zcT p0 p1 false
def zcY (s0:List TCoexpr) (s1:THeap) (s7:List TCoexpr) (s8 s9:Int):Option (Unit ⊕ Bool) :=
 if s9<s8 then
  idx s7 s9 >>= fun a11 =>
  zbJ s1 a11 >>= fun r15 =>
  if r15=true then
   zcY s0 s1 s7 s8 (IntKind.wrap .i64 (s9 + 1))
  else
   some (.inr false)
 else
  some (.inl ())
 partial_fixpoint
def zeA (p0:List TCoexpr) (p1:THeap):Option Bool :=
 zcY p0 p1 p0 (p0.length:Int) 0 >>= fun t =>
 match t with
 | .inl t =>
  some true
 | .inr t =>
  some t
def zcZ (s1:TGenScope) (s3:Int):Option (Unit ⊕ Bool) :=
 if s3<(s1.Cos.length:Int) then
  idx s1.Cos (IntKind.wrap .i64 (s3 - 1)) >>= fun a42 =>
  idx s1.Cos s3 >>= fun a48 =>
  if a42.Id ≥ a48.Id then
   some (.inr false)
  else
   zcZ s1 (IntKind.wrap .i64 (s3 + 1))
 else
  some (.inl ())
 partial_fixpoint
def zeB (s1:TGenScope):Option Bool :=
 zcZ s1 1 >>= fun t =>
 match t with
 | .inl t =>
  zbZ s1.Steps 0 20000 >>= fun r54 =>
  some r54
 | .inr t =>
  some t
def zeC (p0:TGenScope):Option Bool :=
 zgF p0.Heap >>= fun r6 =>
 if r6=true then
  zgp p0.Vars p0.Heap >>= fun r13 =>
  if r13=true then
   if (p0.Cos.length:Int) > 8 then
    some false
   else
    zeA p0.Cos p0.Heap >>= fun r28 =>
    if r28=true then
     zeB p0
    else
     some false
  else
   some false
 else
  some false
def ziq (p0:Bool) (p1:Int):Option Int :=
 if p0=true then
  some 0
 else
  some p1
def ziM (s0 s5:List Int) (s6 s7:Int):Option (Unit ⊕ Int) :=
 if s7<s6 then
  idx s5 s7 >>= fun a9 =>
  if a9=0 then
   ziM s0 s5 s6 (IntKind.wrap .i64 (s7 + 1))
  else
   some (.inr a9)
 else
  some (.inl ())
 partial_fixpoint
def zlQ (p0:List Int):Option Int :=
 ziM p0 p0 (p0.length:Int) 0 >>= fun t =>
 match t with
 | .inl t =>
  some 0
 | .inr t =>
  some t
def zar (p0:List TBinding):Option (List TBinding):=chk (p0.length<=most) >>= fun _=>some p0
def zaz (p0:List TValue):Option (List TValue):=chk (p0.length<=most) >>= fun _=>some p0
def zdj (p0:TObject):Option TObject :=
 zaz p0.Keys >>= fun r5 =>
 zaz p0.Vals >>= fun r8 =>
 some (TObject.mk p0.Id p0.Kind p0.Name p0.Low r5 r8 p0.Default)
def zdV (s1 s2:THeap) (s10:List TObject) (s11:Int) (s3:THeap) (s12:Int):Option THeap :=
 if s12<s11 then
  idx s10 s12 >>= fun a14 =>
  zdj a14 >>= fun r19 =>
  app s3.Objects ([r19]) >>= fun c21 =>
  zdV s1 s2 s10 s11 (THeap.mk s3.Next c21) (IntKind.wrap .i64 (s12 + 1))
 else
  some s3
 partial_fixpoint
def zfr (p0:THeap):Option THeap :=
 zdV p0 (THeap.mk 0 ([])) p0.Objects (p0.Objects.length:Int) (THeap.mk p0.Next ([])) 0 >>= fun t =>
 some t
mutual
def zaZ (s1 s2:TGen) (s3 s8:List TGen) (s9 s10:Int):Option ((List TGen)) :=
 if s10<s9 then
  idx s8 s10 >>= fun a12 =>
  zcp a12 >>= fun r16 =>
  app s3 ([r16]) >>= fun c18 =>
  zaZ s1 s2 c18 s8 s9 (IntKind.wrap .i64 (s10 + 1))
 else
  some s3
 partial_fixpoint
def zcp (p0:TGen):Option TGen :=
 zaZ p0 (TGen.mk 0 0 ByteArray.empty (TValue.mk 0 0 ByteArray.empty 0) ([])) ([]) p0.Kids (p0.Kids.length:Int) 0 >>= fun t =>
 some (TGen.mk p0.Kind p0.Num p0.Text p0.Value t)
 partial_fixpoint
end
mutual
def zaJ (s1 s2:TCursor) (s3 s8:List TCursor) (s9 s10:Int):Option ((List TCursor)) :=
 if s10<s9 then
  idx s8 s10 >>= fun a12 =>
  zbo a12 >>= fun r16 =>
  app s3 ([r16]) >>= fun c18 =>
  zaJ s1 s2 c18 s8 s9 (IntKind.wrap .i64 (s10 + 1))
 else
  some s3
 partial_fixpoint
def zbo (p0:TCursor):Option TCursor :=
 zaJ p0 (TCursor.mk 0 0 ([]) ([])) ([]) p0.Kids (p0.Kids.length:Int) 0 >>= fun t =>
 zaz p0.Vals >>= fun r22 =>
 some (TCursor.mk p0.Phase p0.Count r22 t)
 partial_fixpoint
end
def zdk (p0:TCoexpr):Option TCoexpr :=
 zcp p0.Body >>= fun r5 =>
 zbo p0.Cursor >>= fun r8 =>
 zar p0.Start >>= fun r13 =>
 zar p0.Vars >>= fun r16 =>
 some (TCoexpr.mk p0.Id r5 r13 r16 r8 p0.Count p0.Done)
def zcb (s1 s2:TGenScope) (s16:List TCoexpr) (s17:Int) (s3:TGenScope) (s18:Int):Option TGenScope :=
 if s18<s17 then
  idx s16 s18 >>= fun a20 =>
  zdk a20 >>= fun r25 =>
  app s3.Cos ([r25]) >>= fun c27 =>
  zcb s1 s2 s16 s17 (TGenScope.mk s3.Vars s3.Heap c27 s3.Steps) (IntKind.wrap .i64 (s18 + 1))
 else
  some s3
 partial_fixpoint
def zdy (p0:TGenScope):Option TGenScope :=
 zar p0.Vars >>= fun r8 =>
 zfr p0.Heap >>= fun r11 =>
 zcb p0 (TGenScope.mk ([]) (THeap.mk 0 ([])) ([]) 0) p0.Cos (p0.Cos.length:Int) (TGenScope.mk r8 r11 ([]) p0.Steps) 0 >>= fun t =>
 some t
def zba (a:List TCoexpr) (i j:Int):Option (List TCoexpr):=chk (0<=i∧j=i + 1∧i<a.length∧a.length<=most) >>= fun _=>some (a.take i.toNat++a.drop (i.toNat + 1))
def ziN (p0:TGenScope) (p1:Int):Option (TGenScope × Int) :=
 zdt p0 p1 >>= fun r11 =>
 zeC p0 >>= fun r13 =>
 ziq r13 1 >>= fun r14 =>
 ziq (decide (r11 ≥ 0)) 11 >>= fun r17 =>
 zlQ ([r14,r17]) >>= fun r19 =>
 if r19=0 then
  zdy p0 >>= fun r25 =>
  zba r25.Cos r11 (IntKind.wrap .i64 (r11 + 1)) >>= fun r31 =>
  some (TGenScope.mk r25.Vars r25.Heap r31 r25.Steps,0)
 else
  some (TGenScope.mk ([]) (THeap.mk 0 ([])) ([]) 0,r19)
end
end Go.Vx.RmZ

