/-
  The program's functions as plain functions.
-/
import Derived.Test.YtnaaflejkfaiaaaGreatTypes
import Derived.Test.YtnaaflejkfaiaaaGreatVxD
set_option linter.unusedVariables false
set_option linter.unusedSimpArgs false
namespace Go.Vx.RfZ
set_option linter.unusedVariables false
set_option linter.unusedSimpArgs false
set_option maxRecDepth 10000
set_option maxHeartbeats 2000000
noncomputable def zci (p0 p1 p2:Int):Option Bool :=
 if p0 ≥ p1 then
  some (decide (p0≤p2))
 else
  some false
noncomputable def zec (p0:TValue) (p1 p2 p3:Bool):Option Bool :=
 if p1=true then
  if p2=true then
   if p3=true then
    some true
   else
    some (decide (p0.Ref=0))
  else
   if p0.Text=⟨#[]⟩ then
    if p3=true then
     some true
    else
     some (decide (p0.Ref=0))
   else
    some false
 else
  if p0.Num=0 then
   if p2=true then
    if p3=true then
     some true
    else
     some (decide (p0.Ref=0))
   else
    if p0.Text=⟨#[]⟩ then
     if p3=true then
      some true
     else
      some (decide (p0.Ref=0))
    else
     some false
  else
   some false
noncomputable def zfy (p0:Int):Option Bool :=
 if p0 ≥ 65 then
  if p0≤90 then
   some true
  else
   if p0 ≥ 97 then
    some (decide (p0≤122))
   else
    some false
 else
  if p0 ≥ 97 then
   some (decide (p0≤122))
  else
   some false
noncomputable def zhr (p0:Int):Option Bool :=
 if p0 ≥ 48 then
  some (decide (p0≤57))
 else
  some false
noncomputable def zbm (s0:ByteArray) (s1:Int):Option Int :=
 if s1<(s0.size:Int) then
  idxB s0 s1 >>= fun b24 =>
  zfy (b24.toNat:Int) >>= fun r25 =>
  if r25=true then
   zbm s0 (IntKind.wrap .i64 (s1 + 1))
  else
   zhr (b24.toNat:Int) >>= fun r30 =>
   if r30=true then
    zbm s0 (IntKind.wrap .i64 (s1 + 1))
   else
    if (b24.toNat:Int)=95 then
     zbm s0 (IntKind.wrap .i64 (s1 + 1))
    else
     some s1
 else
  some s1
 partial_fixpoint
noncomputable def zfz (s0:ByteArray) (s1:Int):Option Int :=
 zbm s0 s1 >>= fun t =>
 some t
noncomputable def zha (p0:ByteArray) (p1:Int):Option Int :=
 if p1 ≥ (p0.size:Int) then
  some p1
 else
  idxB p0 p1 >>= fun b12 =>
  zfy (b12.toNat:Int) >>= fun r13 =>
  if r13=true then
   zfz p0 p1
  else
   some p1
noncomputable def zfK (p0:ByteArray):Option Bool :=
 if p0=⟨#[]⟩ then
  some false
 else
  if (p0.size:Int)≤12 then
   zha p0 0 >>= fun r12 =>
   some (decide (r12=(p0.size:Int)))
  else
   some false
noncomputable def zem (s1:TValue) (s45:Bool):Option (Bool ⊕ Bool) :=
 if s45=true then
  zec s1 false true false >>= fun r49 =>
  if r49=true then
   zfK s1.Text >>= fun r53 =>
   some (.inr r53)
  else
   some (.inr false)
 else
  some (.inl false)
noncomputable def zdf (s1:TValue) (s4:Int) (s34:Bool):Option (Unit ⊕ Bool) :=
 if s34=true then
  zec s1 false false true >>= fun r39 =>
  if r39=true then
   zci s1.Ref 1 1000000 >>= fun r43 =>
   some (.inr r43)
  else
   some (.inr false)
 else
  if s4=7 then
   zem s1 true >>= fun t =>
   match t with
   | .inl t =>
    some (.inl ())
   | .inr t =>
    some (.inr t)
  else
   zem s1 (decide (s4=8)) >>= fun t =>
   match t with
   | .inl t =>
    some (.inl ())
   | .inr t =>
    some (.inr t)
noncomputable def zbU (p0:TValue):Option Bool :=
 if p0.Kind=1 then
  zec p0 false true false >>= fun r8 =>
  if r8=true then
   some (decide ((p0.Text.size:Int)≤200))
  else
   some false
 else
  if p0.Kind=2 then
   zec p0 true false false >>= fun r18 =>
   if r18=true then
    zci p0.Num (-1000000000000) 1000000000000 >>= fun r22 =>
    some r22
   else
    some false
  else
   if p0.Kind=3 then
    zec p0 false true false >>= fun r27 =>
    if r27=true then
     zci (p0.Text.size:Int) 1 1200 >>= fun r32 =>
     some r32
    else
     some false
   else
    if p0.Kind=4 then
     zdf p0 p0.Kind true >>= fun t =>
     match t with
     | .inl t =>
      some false
     | .inr t =>
      some t
    else
     if p0.Kind=5 then
      zdf p0 p0.Kind true >>= fun t =>
      match t with
      | .inl t =>
       some false
      | .inr t =>
       some t
     else
      zdf p0 p0.Kind (decide (p0.Kind=6)) >>= fun t =>
      match t with
      | .inl t =>
       some false
      | .inr t =>
       some t
noncomputable def zct (s0:List TValue) (s1 s5:Int):Option (Unit ⊕ Bool) :=
 if s5<(s0.length:Int) then
  idx s0 s5 >>= fun a18 =>
  zbU a18 >>= fun r20 =>
  if r20=true then
   zct s0 s1 (IntKind.wrap .i64 (s5 + 1))
  else
   some (.inr false)
 else
  some (.inl ())
 partial_fixpoint
noncomputable def zbP (p0:List TValue) (p1:Int):Option Bool :=
 if (p0.length:Int) > p1 then
  some false
 else
  zct p0 p1 0 >>= fun t =>
  match t with
  | .inl t =>
   some true
  | .inr t =>
   some t
noncomputable def zgw (p0 p1:TValue):Option Bool :=
 some ((decide (p0.Kind=p1.Kind)) && ((decide (p0.Num=p1.Num)) && ((decide (p0.Text=p1.Text)) && (decide (p0.Ref=p1.Ref)))))
noncomputable def zcL (s0:List TValue) (s3 s4:Int):Option (Unit ⊕ Bool) :=
 if s4<s3 then
  idx s0 s3 >>= fun a18 =>
  idx s0 s4 >>= fun a22 =>
  zgw a18 a22 >>= fun r24 =>
  if r24=true then
   some (.inr false)
  else
   zcL s0 s3 (IntKind.wrap .i64 (s4 + 1))
 else
  some (.inl ())
 partial_fixpoint
noncomputable def zdP (s0:List TValue) (s3:Int):Option (Unit ⊕ Bool) :=
 if s3<(s0.length:Int) then
  zcL s0 s3 0 >>= fun t =>
  match t with
  | .inl t =>
   zdP s0 (IntKind.wrap .i64 (s3 + 1))
  | .inr t =>
   some (.inr t)
 else
  some (.inl ())
 partial_fixpoint
noncomputable def zen (p0:List TValue):Option Bool :=
 zdP p0 0 >>= fun t =>
 match t with
 | .inl t =>
  some true
 | .inr t =>
  some t
noncomputable def zcX (s0:List TValue) (s3:Int):Option (Unit ⊕ Bool) :=
 if s3<(s0.length:Int) then
  idx s0 s3 >>= fun a12 =>
  if a12.Kind=1 then
   zfK a12.Text >>= fun r22 =>
   if r22=true then
    zcX s0 (IntKind.wrap .i64 (s3 + 1))
   else
    some (.inr false)
  else
   some (.inr false)
 else
  some (.inl ())
 partial_fixpoint
noncomputable def zeo (p0:List TValue):Option Bool :=
 zcX p0 0 >>= fun t =>
 match t with
 | .inl t =>
  if (p0.length:Int) ≥ 1 then
   zbP p0 6 >>= fun r30 =>
   if r30=true then
    zen p0 >>= fun r34 =>
    some r34
   else
    some false
  else
   some false
 | .inr t =>
  some t
noncomputable def zeN (s1:TObject):Option Bool :=
 if s1.Kind=1 then
  if s1.Name=⟨#[]⟩ then
   zci s1.Low (-1000) 1000 >>= fun r23 =>
   if r23=true then
    if (s1.Keys.length:Int)=0 then
     some ((decide (s1.Default.Kind=0)) && ((decide (s1.Default.Num=0)) && ((decide (s1.Default.Text=ByteArray.empty)) && (decide (s1.Default.Ref=0)))))
    else
     some false
   else
    some false
  else
   some false
 else
  if s1.Kind=2 then
   if s1.Name=⟨#[]⟩ then
    if s1.Low=0 then
     if (s1.Keys.length:Int)=(s1.Vals.length:Int) then
      zbP s1.Keys 30 >>= fun r59 =>
      if r59=true then
       zen s1.Keys >>= fun r64 =>
       if r64=true then
        zbU s1.Default >>= fun r69 =>
        some r69
       else
        some false
      else
       some false
     else
      some false
    else
     some false
   else
    some false
  else
   if s1.Kind=3 then
    zfK s1.Name >>= fun r75 =>
    if r75=true then
     if s1.Low=0 then
      if (s1.Keys.length:Int)=(s1.Vals.length:Int) then
       zeo s1.Keys >>= fun r93 =>
       if r93=true then
        some ((decide (s1.Default.Kind=0)) && ((decide (s1.Default.Num=0)) && ((decide (s1.Default.Text=ByteArray.empty)) && (decide (s1.Default.Ref=0)))))
       else
        some false
      else
       some false
     else
      some false
    else
     some false
   else
    some false
noncomputable def zgx (p0:TObject):Option Bool :=
 zci p0.Id 1 1000000 >>= fun r5 =>
 if r5=true then
  zbP p0.Vals 30 >>= fun r10 =>
  if r10=true then
   zeN p0
  else
   some false
 else
  some false
noncomputable def zeJ (p0:TValue):Option Bool :=
 zci p0.Kind 4 6 >>= fun r5 =>
 some r5
noncomputable def zeV (s0:THeap) (s1 s5:Int):Option (Unit ⊕ Int) :=
 if s5<(s0.Objects.length:Int) then
  idx s0.Objects s5 >>= fun a20 =>
  if a20.Id=s1 then
   some (.inr s5)
  else
   zeV s0 s1 (IntKind.wrap .i64 (s5 + 1))
 else
  some (.inl ())
 partial_fixpoint
noncomputable def zig (p0:THeap) (p1:Int):Option Int :=
 zeV p0 p1 0 >>= fun t =>
 match t with
 | .inl t =>
  some (-1)
 | .inr t =>
  some t
noncomputable def zfA (p0:Int):Option Int :=
 some (IntKind.wrap .i64 (IntKind.wrap .i64 (p0 - 4) + 1))
noncomputable def zep (p0:THeap) (p1:TValue):Option Bool :=
 zbU p1 >>= fun r7 =>
 if r7=true then
  zeJ p1 >>= fun r10 =>
  if r10=true then
   zig p0 p1.Ref >>= fun r15 =>
   if r15 ≥ 0 then
    idx p0.Objects r15 >>= fun a24 =>
    zfA p1.Kind >>= fun r29 =>
    some (decide (a24.Kind=r29))
   else
    some false
  else
   some true
 else
  some false
noncomputable def zeO (s0:THeap) (s1:List TValue) (s5:Int):Option (Unit ⊕ Bool) :=
 if s5<(s1.length:Int) then
  idx s1 s5 >>= fun a15 =>
  zep s0 a15 >>= fun r17 =>
  if r17=true then
   zeO s0 s1 (IntKind.wrap .i64 (s5 + 1))
  else
   some (.inr false)
 else
  some (.inl ())
 partial_fixpoint
noncomputable def zeK (p0:THeap) (p1:List TValue):Option Bool :=
 zeO p0 p1 0 >>= fun t =>
 match t with
 | .inl t =>
  some true
 | .inr t =>
  some t
noncomputable def zih (p0:THeap) (p1:TObject):Option Bool :=
 zeK p0 p1.Keys >>= fun r10 =>
 if r10=true then
  zeK p0 p1.Vals >>= fun r17 =>
  if r17=true then
   if p1.Kind=2 then
    zep p0 p1.Default >>= fun r31 =>
    some r31
   else
    some true
  else
   some false
 else
  some false
noncomputable def zfv (s0:THeap) (s3:Int):Option (Unit ⊕ Bool) :=
 if s3<(s0.Objects.length:Int) then
  idx s0.Objects s3 >>= fun a34 =>
  zgx a34 >>= fun r37 =>
  if r37=true then
   if a34.Id > s0.Next then
    some (.inr false)
   else
    if s3 > 0 then
     idx s0.Objects (IntKind.wrap .i64 (s3 - 1)) >>= fun a58 =>
     if a58.Id ≥ a34.Id then
      some (.inr false)
     else
      zfv s0 (IntKind.wrap .i64 (s3 + 1))
    else
     zfv s0 (IntKind.wrap .i64 (s3 + 1))
  else
   some (.inr false)
 else
  some (.inl ())
 partial_fixpoint
noncomputable def zgf (s0:THeap) (s5:Int):Option (Unit ⊕ Bool) :=
 if s5<(s0.Objects.length:Int) then
  idx s0.Objects s5 >>= fun a81 =>
  zih s0 a81 >>= fun r82 =>
  if r82=true then
   zgf s0 (IntKind.wrap .i64 (s5 + 1))
  else
   some (.inr false)
 else
  some (.inl ())
 partial_fixpoint
noncomputable def ziz (s0:THeap):Option Bool :=
 zfv s0 0 >>= fun t =>
 match t with
 | .inl t =>
  zgf s0 0 >>= fun t_1 =>
  match t_1 with
  | .inl t_1 =>
   some true
  | .inr t_1 =>
   some t_1
 | .inr t =>
  some t
noncomputable def zlr (p0:THeap):Option Bool :=
 zci p0.Next 0 1000000 >>= fun r10 =>
 if r10=true then
  if (p0.Objects.length:Int) > 40 then
   some false
  else
   ziz p0
 else
  some false
noncomputable def zjr (p0:TValue):Option Bool :=
 some ((decide (p0.Kind=1)) && ((decide (p0.Num=0)) && ((decide (p0.Text=ByteArray.empty)) && (decide (p0.Ref=0)))))
noncomputable def zeW (s0:THeap) (s1:List TBinding) (s5:Int):Option (Unit ⊕ Bool) :=
 if s5<(s1.length:Int) then
  idx s1 s5 >>= fun a17 =>
  zfK a17.Name >>= fun r20 =>
  if r20=true then
   if s5 > 0 then
    idx s1 (IntKind.wrap .i64 (s5 - 1)) >>= fun a29 =>
    if (Op.bytesLess a29.Name.toList a17.Name.toList)=true then
     zep s0 a17.Value >>= fun r47 =>
     if r47=true then
      zjr a17.Value >>= fun r56 =>
      if r56=true then
       some (.inr false)
      else
       zeW s0 s1 (IntKind.wrap .i64 (s5 + 1))
     else
      some (.inr false)
    else
     some (.inr false)
   else
    zep s0 a17.Value >>= fun r47 =>
    if r47=true then
     zjr a17.Value >>= fun r56 =>
     if r56=true then
      some (.inr false)
     else
      zeW s0 s1 (IntKind.wrap .i64 (s5 + 1))
    else
     some (.inr false)
  else
   some (.inr false)
 else
  some (.inl ())
 partial_fixpoint
noncomputable def zgg (p0:THeap) (p1:List TBinding):Option Bool :=
 if (p1.length:Int) > 40 then
  some false
 else
  zeW p0 p1 0 >>= fun t =>
  match t with
  | .inl t =>
   some true
  | .inr t =>
   some t
noncomputable def zed (s0 s3:Int) (s12:Bool):Option ((Bool × Bool × Bool × Bool × Bool) ⊕ Int) :=
 if s12=true then
  some (.inr 2)
 else
  if s3=8 then
   some (.inr 3)
  else
   if s3=12 then
    some (.inr 3)
   else
    if s3=15 then
     some (.inr 3)
    else
     some (.inl (false,false,false,false,false))
noncomputable def zcq (s0 s3:Int) (s4:Bool):Option ((Bool × Bool × Bool × Bool × Bool) ⊕ Int) :=
 if s4=true then
  some (.inr 1)
 else
  if s3=4 then
   zed s0 s3 true >>= fun t =>
   match t with
   | .inl t =>
    some (.inl (t.1,t.2.1,t.2.2.1,t.2.2.2.1,t.2.2.2.2))
   | .inr t =>
    some (.inr t)
  else
   if s3=5 then
    zed s0 s3 true >>= fun t =>
    match t with
    | .inl t =>
     some (.inl (t.1,t.2.1,t.2.2.1,t.2.2.2.1,t.2.2.2.2))
    | .inr t =>
     some (.inr t)
   else
    if s3=9 then
     zed s0 s3 true >>= fun t =>
     match t with
     | .inl t =>
      some (.inl (t.1,t.2.1,t.2.2.1,t.2.2.2.1,t.2.2.2.2))
     | .inr t =>
      some (.inr t)
    else
     if s3=11 then
      zed s0 s3 true >>= fun t =>
      match t with
      | .inl t =>
       some (.inl (t.1,t.2.1,t.2.2.1,t.2.2.2.1,t.2.2.2.2))
      | .inr t =>
       some (.inr t)
     else
      zed s0 s3 (decide (s3=14)) >>= fun t =>
      match t with
      | .inl t =>
       some (.inl (t.1,t.2.1,t.2.2.1,t.2.2.2.1,t.2.2.2.2))
      | .inr t =>
       some (.inr t)
noncomputable def zfB (p0:Int):Option Int :=
 if p0=6 then
  zcq p0 p0 true >>= fun t =>
  match t with
  | .inl t =>
   some 0
  | .inr t =>
   some t
 else
  if p0=7 then
   zcq p0 p0 true >>= fun t =>
   match t with
   | .inl t =>
    some 0
   | .inr t =>
    some t
  else
   if p0=10 then
    zcq p0 p0 true >>= fun t =>
    match t with
    | .inl t =>
     some 0
    | .inr t =>
     some t
   else
    if p0=13 then
     zcq p0 p0 true >>= fun t =>
     match t with
     | .inl t =>
      some 0
     | .inr t =>
      some t
    else
     if p0=16 then
      zcq p0 p0 true >>= fun t =>
      match t with
      | .inl t =>
       some 0
      | .inr t =>
       some t
     else
      if p0=17 then
       zcq p0 p0 true >>= fun t =>
       match t with
       | .inl t =>
        some 0
       | .inr t =>
        some t
      else
       zcq p0 p0 (decide (p0=18)) >>= fun t =>
       match t with
       | .inl t =>
        some 0
       | .inr t =>
        some t
noncomputable def zeP:Option ((List ByteArray)) :=
 some ([⟨#[97,100,100]⟩,⟨#[115,117,98]⟩,⟨#[109,117,108]⟩,⟨#[100,105,118]⟩,⟨#[99,97,116]⟩,⟨#[108,116]⟩,⟨#[108,101]⟩,⟨#[101,113]⟩,⟨#[110,101]⟩,⟨#[103,116]⟩,⟨#[103,101]⟩,⟨#[115,101,113]⟩,⟨#[115,110,101]⟩,⟨#[115,108,116]⟩,⟨#[105,115]⟩])
noncomputable def zeq (s0:List ByteArray) (s1:ByteArray) (s5:Int):Option (Unit ⊕ Int) :=
 if s5<(s0.length:Int) then
  idx s0 s5 >>= fun a14 =>
  if a14=s1 then
   some (.inr s5)
  else
   zeq s0 s1 (IntKind.wrap .i64 (s5 + 1))
 else
  some (.inl ())
 partial_fixpoint
noncomputable def zeL (p0:List ByteArray) (p1:ByteArray):Option Int :=
 zeq p0 p1 0 >>= fun t =>
 match t with
 | .inl t =>
  some (-1)
 | .inr t =>
  some t
noncomputable def zer (s0:TGen) (s53:Int) (s88:Bool):Option (Bool ⊕ Bool) :=
 if s88=true then
  zfK s0.Text >>= fun r96 =>
  some (.inr r96)
 else
  if s53=11 then
   zeP >>= fun r99 =>
   zeL r99 s0.Text >>= fun r104 =>
   some (.inr ((decide (r104 ≥ 0))))
  else
   if s53=6 then
    if s0.Text=⟨#[]⟩ then
     zci s0.Num 0 60 >>= fun r118 =>
     some (.inr r118)
    else
     some (.inr false)
   else
    some (.inl false)
noncomputable def zes (s0:TGen):Option Bool :=
 some (decide (s0.Text=⟨#[]⟩))
noncomputable def zdq (s0:TGen):Option Bool :=
 if s0.Kind=1 then
  if s0.Text=⟨#[]⟩ then
   zbU s0.Value >>= fun r71 =>
   if r71=true then
    if s0.Value.Kind=1 then
     some true
    else
     if s0.Value.Kind=2 then
      some true
     else
      zeJ s0.Value >>= fun r85 =>
      some r85
   else
    some false
  else
   some false
 else
  if s0.Kind=2 then
   zer s0 s0.Kind true >>= fun t =>
   match t with
   | .inl t =>
    zes s0 >>= fun t_1 =>
    some t_1
   | .inr t =>
    some t
  else
   if s0.Kind=16 then
    zer s0 s0.Kind true >>= fun t =>
    match t with
    | .inl t =>
     zes s0 >>= fun t_1 =>
     some t_1
    | .inr t =>
     some t
   else
    zer s0 s0.Kind (decide (s0.Kind=17)) >>= fun t =>
    match t with
    | .inl t =>
     zes s0 >>= fun t_1 =>
     some t_1
    | .inr t =>
     some t
noncomputable def zgy (s0:TGen):Option Bool :=
 if s0.Kind=6 then
  if s0.Kind=1 then
   zdq s0 >>= fun t =>
   some t
  else
   if s0.Value.Kind=0 then
    if s0.Value.Num=0 then
     if s0.Value.Text=ByteArray.empty then
      if s0.Value.Ref=0 then
       zdq s0 >>= fun t =>
       some t
      else
       some false
     else
      some false
    else
     some false
   else
    some false
 else
  if s0.Num=0 then
   if s0.Kind=1 then
    zdq s0 >>= fun t =>
    some t
   else
    if s0.Value.Kind=0 then
     if s0.Value.Num=0 then
      if s0.Value.Text=ByteArray.empty then
       if s0.Value.Ref=0 then
        zdq s0 >>= fun t =>
        some t
       else
        some false
      else
       some false
     else
      some false
    else
     some false
  else
   some false
noncomputable def zgh (p0:TGen):Option Bool :=
 zci p0.Kind 1 18 >>= fun r8 =>
 if r8=true then
  zfB p0.Kind >>= fun r20 =>
  if (p0.Kids.length:Int)=r20 then
   zgy p0
  else
   some false
 else
  some false
mutual
noncomputable def zeX (s0:TGen) (s3 s4:Int):Option (Int × Int × Int × (List TGen) × TGen × Int × Int) :=
 idx s0.Kids s4 >>= fun a27 =>
 zeY a27 >>= fun r28 =>
 some (IntKind.wrap .i64 (s3 + r28),IntKind.wrap .i64 (s4 + 1),IntKind.wrap .i64 (s4 + 1),s0.Kids,a27,r28,IntKind.wrap .i64 (s3 + r28))
 partial_fixpoint
noncomputable def zeY (p0:TGen):Option Int :=
 zgh p0 >>= fun r6 =>
 if r6=true then
  zbA p0 1 0 >>= fun t =>
  some t
 else
  some 61
 partial_fixpoint
noncomputable def zbA (s0:TGen) (s3 s4:Int):Option Int :=
 if s4<(s0.Kids.length:Int) then
  if s3≤60 then
   zeX s0 s3 s4 >>= fun t =>
   zbA s0 t.1 t.2.1
  else
   some s3
 else
  some s3
 partial_fixpoint
end
noncomputable def zls (p0:TGen):Option Bool :=
 zeY p0 >>= fun r4 =>
 some (decide (r4≤60))
mutual
noncomputable def zbV (s0:THeap) (s1:TGen) (s5:Int):Option (Unit ⊕ Bool) :=
 if s5<(s1.Kids.length:Int) then
  idx s1.Kids s5 >>= fun a35 =>
  zeZ s0 a35 >>= fun r36 =>
  if r36=true then
   zbV s0 s1 (IntKind.wrap .i64 (s5 + 1))
  else
   some (.inr false)
 else
  some (.inl ())
 partial_fixpoint
noncomputable def zeZ (p0:THeap) (p1:TGen):Option Bool :=
 if p1.Kind=1 then
  zep p0 p1.Value >>= fun r17 =>
  if r17=true then
   zee p0 p1
  else
   some false
 else
  zee p0 p1
 partial_fixpoint
noncomputable def zee (s0:THeap) (s1:TGen):Option Bool :=
 zbV s0 s1 0 >>= fun t =>
 match t with
 | .inl t =>
  some true
 | .inr t =>
  some t
 partial_fixpoint
end
noncomputable def zii (p0:TCursor):Option Bool :=
 if p0.Phase=0 then
  if p0.Count=0 then
   if (p0.Vals.length:Int)=0 then
    some (decide ((p0.Kids.length:Int)=0))
   else
    some false
  else
   some false
 else
  some false
noncomputable def zbI (p0:TGen) (p1:TCursor):Option Bool :=
 if p0.Kind=6 then
  zci p1.Count 1 p0.Num >>= fun r19 =>
  some r19
 else
  if p0.Kind=12 then
   zci p1.Count 1 2000000000001 >>= fun r26 =>
   some r26
  else
   if p0.Kind=13 then
    zci p1.Count 1 200 >>= fun r33 =>
    some r33
   else
    some (decide (p1.Count=0))
noncomputable def zdg (p0:TGen):Option Int :=
 if p0.Kind=17 then
  some 2
 else
  if p0.Kind ≥ 11 then
   zfB p0.Kind >>= fun r17 =>
   some r17
  else
   some 0
mutual
noncomputable def zbc (s0:THeap) (s1:TGen) (s2:TCursor) (s34:Int) (s38:Bool):Option (Bool ⊕ Bool) :=
 if s38=true then
  if s2.Phase=1 then
   some (.inr ((decide ((s2.Kids.length:Int)=0))))
  else
   some (.inr false)
 else
  if s34=4 then
   zci s2.Phase 1 2 >>= fun r61 =>
   if r61=true then
    if (s2.Kids.length:Int)=1 then
     idx s1.Kids (IntKind.wrap .i64 (s2.Phase - 1)) >>= fun a81 =>
     idxN s2.Kids 0 >>= fun a86 =>
     zaj s0 a81 a86 >>= fun r87 =>
     some (.inr r87)
    else
     some (.inr false)
   else
    some (.inr false)
  else
   if s34=8 then
    zci s2.Phase 2 3 >>= fun r95 =>
    if r95=true then
     if (s2.Kids.length:Int)=1 then
      idx s1.Kids (IntKind.wrap .i64 (s2.Phase - 1)) >>= fun a115 =>
      idxN s2.Kids 0 >>= fun a120 =>
      zaj s0 a115 a120 >>= fun r121 =>
      some (.inr r121)
     else
      some (.inr false)
    else
     some (.inr false)
   else
    some (.inl false)
 partial_fixpoint
noncomputable def zaj (p0:THeap) (p1:TGen) (p2:TCursor):Option Bool :=
 zbI p1 p2 >>= fun r10 =>
 if r10=true then
  zdg p1 >>= fun r19 =>
  if (p2.Vals.length:Int)=r19 then
   zeK p0 p2.Vals >>= fun r28 =>
   if r28=true then
    zas p0 p1 p2
   else
    some false
  else
   some false
 else
  some false
 partial_fixpoint
noncomputable def zas (s0:THeap) (s1:TGen) (s2:TCursor):Option Bool :=
 if s1.Kind=3 then
  zbD s0 s1 s2 s1.Kind true >>= fun t =>
  match t with
  | .inl t =>
   zbE s0 s1 s2 >>= fun t_1 =>
   some t_1
  | .inr t =>
   some t
 else
  zbD s0 s1 s2 s1.Kind (decide (s1.Kind=9)) >>= fun t =>
  match t with
  | .inl t =>
   zbE s0 s1 s2 >>= fun t_1 =>
   some t_1
  | .inr t =>
   some t
 partial_fixpoint
noncomputable def zbE (s0:THeap) (s1:TGen) (s2:TCursor):Option Bool :=
 if s2.Phase=1 then
  if (s2.Kids.length:Int)=(s1.Kids.length:Int) then
   zbF s0 s1 s2 >>= fun t =>
   some t
  else
   some false
 else
  some false
 partial_fixpoint
noncomputable def zbF (s0:THeap) (s1:TGen) (s2:TCursor):Option Bool :=
 zaC s0 s1 s2 0 >>= fun t =>
 match t with
 | .inl t =>
  some true
 | .inr t =>
  some t
 partial_fixpoint
noncomputable def zaC (s0:THeap) (s1:TGen) (s2:TCursor) (s7:Int):Option (Unit ⊕ Bool) :=
 if s7<(s2.Kids.length:Int) then
  idx s1.Kids s7 >>= fun a156 =>
  idx s2.Kids s7 >>= fun a162 =>
  zaj s0 a156 a162 >>= fun r163 =>
  if r163=true then
   zaC s0 s1 s2 (IntKind.wrap .i64 (s7 + 1))
  else
   some (.inr false)
 else
  some (.inl ())
 partial_fixpoint
noncomputable def zbD (s0:THeap) (s1:TGen) (s2:TCursor) (s34:Int) (s35:Bool):Option (Unit ⊕ Bool) :=
 if s35=true then
  some (.inr false)
 else
  if s34=1 then
   zbc s0 s1 s2 s34 true >>= fun t =>
   match t with
   | .inl t =>
    some (.inl ())
   | .inr t =>
    some (.inr t)
  else
   if s34=2 then
    zbc s0 s1 s2 s34 true >>= fun t =>
    match t with
    | .inl t =>
     some (.inl ())
    | .inr t =>
     some (.inr t)
   else
    zbc s0 s1 s2 s34 (decide (s34=7)) >>= fun t =>
    match t with
    | .inl t =>
     some (.inl ())
    | .inr t =>
     some (.inr t)
 partial_fixpoint
end
noncomputable def zhs (s0:THeap) (s1:TCoexpr):Option Bool :=
 zii s1.Cursor >>= fun r66 =>
 some r66
noncomputable def ziA (s0:THeap) (s1:TCoexpr):Option Bool :=
 zaj s0 s1.Body s1.Cursor >>= fun r74 =>
 some r74
noncomputable def ziB (s0:THeap) (s1:TCoexpr):Option Bool :=
 if s1.Done=true then
  zhs s0 s1 >>= fun t =>
  some t
 else
  if s1.Count=0 then
   zhs s0 s1 >>= fun t =>
   some t
  else
   ziA s0 s1 >>= fun t =>
   some t
noncomputable def ziC (p0:THeap) (p1:TCoexpr):Option Bool :=
 zci p1.Id 1 1000000 >>= fun r9 =>
 if r9=true then
  zls p1.Body >>= fun r15 =>
  if r15=true then
   zeZ p0 p1.Body >>= fun r23 =>
   if r23=true then
    zgg p0 p1.Start >>= fun r32 =>
    if r32=true then
     zgg p0 p1.Vars >>= fun r41 =>
     if r41=true then
      zci p1.Count 0 1000000 >>= fun r49 =>
      if r49=true then
       ziB p0 p1
      else
       some false
     else
      some false
    else
     some false
   else
    some false
  else
   some false
 else
  some false
noncomputable def zdr (s0:TGenScope) (s3:Int):Option (Unit ⊕ Bool) :=
 if s3<(s0.Cos.length:Int) then
  idx s0.Cos s3 >>= fun a53 =>
  ziC s0.Heap a53 >>= fun r54 =>
  if r54=true then
   if s3 > 0 then
    idx s0.Cos (IntKind.wrap .i64 (s3 - 1)) >>= fun a66 =>
    if a66.Id ≥ a53.Id then
     some (.inr false)
    else
     zdr s0 (IntKind.wrap .i64 (s3 + 1))
   else
    zdr s0 (IntKind.wrap .i64 (s3 + 1))
  else
   some (.inr false)
 else
  some (.inl ())
 partial_fixpoint
noncomputable def zgz (s0:TGenScope):Option Bool :=
 zdr s0 0 >>= fun t =>
 match t with
 | .inl t =>
  some true
 | .inr t =>
  some t
noncomputable def zht (p0:TGenScope):Option Bool :=
 zlr p0.Heap >>= fun r7 =>
 if r7=true then
  zgg p0.Heap p0.Vars >>= fun r17 =>
  if r17=true then
   if (p0.Cos.length:Int) > 8 then
    some false
   else
    zci p0.Steps 0 20000 >>= fun r33 =>
    if r33=true then
     zgz p0
    else
     some false
  else
   some false
 else
  some false
noncomputable def zhu (s0:TGenScope) (s1 s5:Int):Option (Unit ⊕ Int) :=
 if s5<(s0.Cos.length:Int) then
  idx s0.Cos s5 >>= fun a20 =>
  if a20.Id=s1 then
   some (.inr s5)
  else
   zhu s0 s1 (IntKind.wrap .i64 (s5 + 1))
 else
  some (.inl ())
 partial_fixpoint
noncomputable def zlt (p0:TGenScope) (p1:Int):Option Int :=
 zhu p0 p1 0 >>= fun t =>
 match t with
 | .inl t =>
  some (-1)
 | .inr t =>
  some t
noncomputable def zbW (p0:List TBinding):Option ((List TBinding)) :=
 chk (p0.length≤most) >>= fun _ =>
 some p0
noncomputable def zcS (p0:List TValue):Option ((List TValue)) :=
 chk (p0.length≤most) >>= fun _ =>
 some p0
noncomputable def zdE (p0:TObject):Option TObject :=
 zcS p0.Keys >>= fun r5 =>
 zcS p0.Vals >>= fun r9 =>
 some (TObject.mk p0.Id p0.Kind p0.Name p0.Low r5 r9 p0.Default)
noncomputable def zgA (s0 s2 s3:THeap) (s4:Int):Option THeap :=
 if s4<(s0.Objects.length:Int) then
  idx s0.Objects s4 >>= fun a26 =>
  zdE a26 >>= fun r28 =>
  app s3.Objects ([r28]) >>= fun c30 =>
  zgA s0 s2 (THeap.mk s3.Next c30) (IntKind.wrap .i64 (s4 + 1))
 else
  some s3
 partial_fixpoint
noncomputable def zjs (p0:THeap):Option THeap :=
 zgA p0 (THeap.mk 0 ([])) (THeap.mk p0.Next ([])) 0 >>= fun t =>
 some t
mutual
noncomputable def zbi (s0 s2 s3:TGen) (s4:Int):Option TGen :=
 if s4<(s0.Kids.length:Int) then
  idx s0.Kids s4 >>= fun a38 =>
  zcu a38 >>= fun r39 =>
  app s3.Kids ([r39]) >>= fun c41 =>
  zbi s0 s2 (TGen.mk s3.Kind s3.Num s3.Text s3.Value c41) (IntKind.wrap .i64 (s4 + 1))
 else
  some s3
 partial_fixpoint
noncomputable def zcu (p0:TGen):Option TGen :=
 zbi p0 (TGen.mk 0 0 ByteArray.empty (TValue.mk 0 0 ByteArray.empty 0) ([])) (TGen.mk p0.Kind p0.Num p0.Text p0.Value ([])) 0 >>= fun t =>
 some t
 partial_fixpoint
end
mutual
noncomputable def zaI (s0 s2 s3:TCursor) (s4:Int):Option TCursor :=
 if s4<(s0.Kids.length:Int) then
  idx s0.Kids s4 >>= fun a35 =>
  zbB a35 >>= fun r36 =>
  app s3.Kids ([r36]) >>= fun c38 =>
  zaI s0 s2 (TCursor.mk s3.Phase s3.Count s3.Vals c38) (IntKind.wrap .i64 (s4 + 1))
 else
  some s3
 partial_fixpoint
noncomputable def zbB (p0:TCursor):Option TCursor :=
 zcS p0.Vals >>= fun r17 =>
 zaI p0 (TCursor.mk 0 0 ([]) ([])) (TCursor.mk p0.Phase p0.Count r17 ([])) 0 >>= fun t =>
 some t
 partial_fixpoint
end
noncomputable def zgi (p0:TCoexpr):Option TCoexpr :=
 zcu p0.Body >>= fun r10 =>
 zbW p0.Start >>= fun r15 =>
 zbW p0.Vars >>= fun r20 =>
 zbB p0.Cursor >>= fun r24 =>
 some (TCoexpr.mk p0.Id r10 r15 r20 r24 p0.Count p0.Done)
noncomputable def zgB (s0 s2 s3:TGenScope) (s4:Int):Option TGenScope :=
 if s4<(s0.Cos.length:Int) then
  idx s0.Cos s4 >>= fun a35 =>
  zgi a35 >>= fun r36 =>
  app s3.Cos ([r36]) >>= fun c38 =>
  zgB s0 s2 (TGenScope.mk s3.Vars s3.Heap c38 s3.Steps) (IntKind.wrap .i64 (s4 + 1))
 else
  some s3
 partial_fixpoint
noncomputable def zjt (p0:TGenScope):Option TGenScope :=
 zbW p0.Vars >>= fun r9 =>
 zjs p0.Heap >>= fun r13 =>
 zgB p0 (TGenScope.mk ([]) (THeap.mk 0 ([])) ([]) 0) (TGenScope.mk r9 r13 ([]) p0.Steps) 0 >>= fun t =>
 some t
noncomputable def zhR (s0:TGenScope) (s1:TGen) (s2:List TBinding) (s6:TGenScope) (s9:Int):Option ((TGenScope × Int × Int)) :=
 zjt s0 >>= fun r41 =>
 zcu s1 >>= fun r46 =>
 zbW s2 >>= fun r48 =>
 zbW s2 >>= fun r50 =>
 app r41.Cos ([TCoexpr.mk s9 r46 r48 r50 (TCursor.mk 0 0 ([]) ([])) 0 false]) >>= fun c53 =>
 some (TGenScope.mk r41.Vars r41.Heap c53 r41.Steps,s9,0)
noncomputable def zfC (s0:TGenScope) (s1:TGen) (s2:List TBinding) (s6:TGenScope) (s9:Int):Option ((TGenScope × Int × Int)) :=
 if (s0.Cos.length:Int) ≥ 8 then
  some (TGenScope.mk ([]) (THeap.mk 0 ([])) ([]) 0,0,6)
 else
  if s9 > 1000000 then
   some (TGenScope.mk ([]) (THeap.mk 0 ([])) ([]) 0,0,6)
  else
   zhR s0 s1 s2 s6 s9 >>= fun t =>
   some t
noncomputable def zju (p0:TGenScope) (p1:TGen) (p2:List TBinding):Option (TGenScope × Int × Int) :=
 if (p0.Cos.length:Int) > 0 then
  idx p0.Cos (IntKind.wrap .i64 ((p0.Cos.length:Int) - 1)) >>= fun a25 =>
  zfC p0 p1 p2 (TGenScope.mk ([]) (THeap.mk 0 ([])) ([]) 0) (IntKind.wrap .i64 (a25.Id + 1))
 else
  zfC p0 p1 p2 (TGenScope.mk ([]) (THeap.mk 0 ([])) ([]) 0) 1
noncomputable def zhS (p0:TGenScope) (p1:Int):Option (TGenScope × Int × Int) :=
 zht p0 >>= fun r8 =>
 if r8=true then
  zlt p0 p1 >>= fun r12 =>
  if r12<0 then
   some (TGenScope.mk ([]) (THeap.mk 0 ([])) ([]) 0,0,11)
  else
   idx p0.Cos r12 >>= fun a19 =>
   zju p0 a19.Body a19.Start >>= fun r27 =>
   some (r27.1,r27.2.1,r27.2.2)
 else
  some (TGenScope.mk ([]) (THeap.mk 0 ([])) ([]) 0,0,1)
noncomputable def zdX (p0:TCoexpr) (g0:Int):Option Bool :=
 some (decide (p0.Id=g0))
noncomputable def zaD (s0:List TCoexpr) (s7 g0 s8:Int):Option (Unit ⊕ Int) :=
 if s8<s7 then
  idx s0 s8 >>= fun a14 =>
  zdX a14 g0 >>= fun r16 =>
  if r16=true then
   some (.inr s8)
  else
   zaD s0 s7 g0 (IntKind.wrap .i64 (s8 + 1))
 else
  some (.inl ())
 partial_fixpoint
noncomputable def zbn (p0:List TCoexpr) (g0:Int):Option Int :=
 zaD p0 (p0.length:Int) g0 0 >>= fun t =>
 match t with
 | .inl t =>
  some (-1)
 | .inr t =>
  some t
noncomputable def zds (p0:TGenScope) (p1:Int):Option Int :=
 zbn p0.Cos p1 >>= fun r8 =>
 some r8
noncomputable def zcb (p0 p1 p2:Int):Option Bool :=
 if p0 ≥ p1 then
  some (decide (p0≤p2))
 else
  some false
noncomputable def zfa (p0:Int):Option Bool :=
 zcb p0 1 1000000 >>= fun r4 =>
 some r4
noncomputable def zgj (p0:Int):Option Bool :=
 if p0 ≥ 65 then
  if p0≤90 then
   some true
  else
   if p0 ≥ 97 then
    some (decide (p0≤122))
   else
    some false
 else
  if p0 ≥ 97 then
   some (decide (p0≤122))
  else
   some false
noncomputable def zij (p0:Int):Option Bool :=
 if p0 ≥ 48 then
  some (decide (p0≤57))
 else
  some false
noncomputable def zfb (p0:Int):Option Bool :=
 zgj p0 >>= fun r4 =>
 if r4=true then
  some true
 else
  zij p0 >>= fun r7 =>
  if r7=true then
   some true
  else
   some (decide (p0=95))
noncomputable def zdQ (s0 s7:List Int) (s8 s9:Int):Option (Unit ⊕ Bool) :=
 if s9<s8 then
  idx s7 s9 >>= fun a11 =>
  zfb a11 >>= fun r15 =>
  if r15=true then
   zdQ s0 s7 s8 (IntKind.wrap .i64 (s9 + 1))
  else
   some (.inr false)
 else
  some (.inl ())
 partial_fixpoint
noncomputable def zfm (p0:List Int):Option Bool :=
 zdQ p0 p0 (p0.length:Int) 0 >>= fun t =>
 match t with
 | .inl t =>
  some true
 | .inr t =>
  some t
noncomputable def zfL (p0:ByteArray):Option Bool :=
 if (p0.size:Int) ≥ 1 then
  if (p0.size:Int)≤12 then
   idxBN p0 0 >>= fun b13 =>
   zgj (b13.toNat:Int) >>= fun r14 =>
   if r14=true then
    zfm (strI p0) >>= fun r19 =>
    some r19
   else
    some false
  else
   some false
 else
  some false
noncomputable def zet (s1:TValue) (s65:Bool):Option (Bool ⊕ Bool) :=
 if s65=true then
  if s1.Num=0 then
   if s1.Ref=0 then
    zfL s1.Text >>= fun r78 =>
    some (.inr r78)
   else
    some (.inr false)
  else
   some (.inr false)
 else
  some (.inl false)
noncomputable def zdh (s1:TValue) (s4:Int) (s49:Bool):Option (Unit ⊕ Bool) :=
 if s49=true then
  if s1.Num=0 then
   if s1.Text=ByteArray.empty then
    zfa s1.Ref >>= fun r63 =>
    some (.inr r63)
   else
    some (.inr false)
  else
   some (.inr false)
 else
  if s4=7 then
   zet s1 true >>= fun t =>
   match t with
   | .inl t =>
    some (.inl ())
   | .inr t =>
    some (.inr t)
  else
   zet s1 (decide (s4=8)) >>= fun t =>
   match t with
   | .inl t =>
    some (.inl ())
   | .inr t =>
    some (.inr t)
noncomputable def zbo (p0:TValue):Option Bool :=
 if p0.Kind=1 then
  if p0.Num=0 then
   if p0.Ref=0 then
    some (decide ((p0.Text.size:Int)≤200))
   else
    some false
  else
   some false
 else
  if p0.Kind=2 then
   if p0.Text=ByteArray.empty then
    if p0.Ref=0 then
     zcb p0.Num (-1000000000000) 1000000000000 >>= fun r28 =>
     some r28
    else
     some false
   else
    some false
  else
   if p0.Kind=3 then
    if p0.Num=0 then
     if p0.Ref=0 then
      if (p0.Text.size:Int) ≥ 1 then
       some (decide ((p0.Text.size:Int)≤1200))
      else
       some false
     else
      some false
    else
     some false
   else
    if p0.Kind=4 then
     zdh p0 p0.Kind true >>= fun t =>
     match t with
     | .inl t =>
      some false
     | .inr t =>
      some t
    else
     if p0.Kind=5 then
      zdh p0 p0.Kind true >>= fun t =>
      match t with
      | .inl t =>
       some false
      | .inr t =>
       some t
     else
      zdh p0 p0.Kind (decide (p0.Kind=6)) >>= fun t =>
      match t with
      | .inl t =>
       some false
      | .inr t =>
       some t
noncomputable def zdt (s0 s7:List TValue) (s8 s9:Int):Option (Unit ⊕ Bool) :=
 if s9<s8 then
  idx s7 s9 >>= fun a11 =>
  zbo a11 >>= fun r15 =>
  if r15=true then
   zdt s0 s7 s8 (IntKind.wrap .i64 (s9 + 1))
  else
   some (.inr false)
 else
  some (.inl ())
 partial_fixpoint
noncomputable def zdF (p0:List TValue):Option Bool :=
 zdt p0 p0 (p0.length:Int) 0 >>= fun t =>
 match t with
 | .inl t =>
  some true
 | .inr t =>
  some t
noncomputable def zam (s0:List TValue) (s3:TValue) (s7 s8:Int):Option (Unit ⊕ Int) :=
 if s8<s7 then
  idx s0 s8 >>= fun a14 =>
  if s3.Kind=a14.Kind then
   if s3.Num=a14.Num then
    if s3.Text=a14.Text then
     if s3.Ref=a14.Ref then
      some (.inr s8)
     else
      zam s0 s3 s7 (IntKind.wrap .i64 (s8 + 1))
    else
     zam s0 s3 s7 (IntKind.wrap .i64 (s8 + 1))
   else
    zam s0 s3 s7 (IntKind.wrap .i64 (s8 + 1))
  else
   zam s0 s3 s7 (IntKind.wrap .i64 (s8 + 1))
 else
  some (.inl ())
 partial_fixpoint
noncomputable def zcj (p0:List TValue) (p1:TValue):Option Int :=
 zam p0 p1 (p0.length:Int) 0 >>= fun t =>
 match t with
 | .inl t =>
  some (-1)
 | .inr t =>
  some t
noncomputable def zaF (p0:List TValue) (p1:TValue):Option Bool :=
 zcj p0 p1 >>= fun r7 =>
 some (decide (r7 ≥ 0))
noncomputable def zdu (s0 s5:List TValue) (s6 s7:Int):Option (Unit ⊕ Bool) :=
 if s7<s6 then
  idx s5 s7 >>= fun a10 =>
  subH s0 s7 >>= fun c14 =>
  zaF c14 a10 >>= fun r16 =>
  if r16=true then
   some (.inr false)
  else
   zdu s0 s5 s6 (IntKind.wrap .i64 (s7 + 1))
 else
  some (.inl ())
 partial_fixpoint
noncomputable def zdG (p0:List TValue):Option Bool :=
 zdu p0 p0 (p0.length:Int) 0 >>= fun t =>
 match t with
 | .inl t =>
  some true
 | .inr t =>
  some t
noncomputable def zjv (p0:ByteArray):Option TValue :=
 some (TValue.mk 1 0 p0 0)
noncomputable def zhb (p0:TValue):Option Bool :=
 zjv p0.Text >>= fun r6 =>
 if p0.Kind=r6.Kind then
  if p0.Num=r6.Num then
   if p0.Text=r6.Text then
    if p0.Ref=r6.Ref then
     zfL p0.Text >>= fun r11 =>
     some r11
    else
     some false
   else
    some false
  else
   some false
 else
  some false
noncomputable def zcv (s0 s7:List TValue) (s8 s9:Int):Option (Unit ⊕ Bool) :=
 if s9<s8 then
  idx s7 s9 >>= fun a11 =>
  zhb a11 >>= fun r15 =>
  if r15=true then
   zcv s0 s7 s8 (IntKind.wrap .i64 (s9 + 1))
  else
   some (.inr false)
 else
  some (.inl ())
 partial_fixpoint
noncomputable def zdR (p0:List TValue):Option Bool :=
 zcv p0 p0 (p0.length:Int) 0 >>= fun t =>
 match t with
 | .inl t =>
  some true
 | .inr t =>
  some t
noncomputable def zcM (s1:TObject) (s3:Bool):Option Bool :=
 if s1.Low=0 then
  if s3=true then
   zbo s1.Default >>= fun r74 =>
   if r74=true then
    some (decide (s1.Name=⟨#[]⟩))
   else
    some false
  else
   some false
 else
  some false
noncomputable def zbr (s1:TObject) (s5:Bool):Option Bool :=
 if s1.Low=0 then
  if s5=true then
   if s1.Default.Kind=0 then
    if s1.Default.Num=0 then
     if s1.Default.Text=ByteArray.empty then
      if s1.Default.Ref=0 then
       zfL s1.Name >>= fun r124 =>
       some r124
      else
       some false
     else
      some false
    else
     some false
   else
    some false
  else
   some false
 else
  some false
noncomputable def zdS (s1:TObject):Option Bool :=
 if s1.Kind=1 then
  zcb s1.Low (-1000) 1000 >>= fun r28 =>
  if r28=true then
   if (s1.Keys.length:Int)=0 then
    if s1.Default.Kind=0 then
     if s1.Default.Num=0 then
      if s1.Default.Text=ByteArray.empty then
       if s1.Default.Ref=0 then
        some (decide (s1.Name=⟨#[]⟩))
       else
        some false
      else
       some false
     else
      some false
    else
     some false
   else
    some false
  else
   some false
 else
  if s1.Kind=2 then
   if (s1.Keys.length:Int)=(s1.Vals.length:Int) then
    zdF s1.Keys >>= fun r58 =>
    if r58=true then
     zdG s1.Keys >>= fun r63 =>
     zcM s1 r63 >>= fun t =>
     some t
    else
     zcM s1 false >>= fun t =>
     some t
   else
    zcM s1 false >>= fun t =>
    some t
  else
   if s1.Kind=3 then
    if (s1.Keys.length:Int) ≥ 1 then
     if (s1.Keys.length:Int)≤6 then
      if (s1.Keys.length:Int)=(s1.Vals.length:Int) then
       zdR s1.Keys >>= fun r102 =>
       if r102=true then
        zdG s1.Keys >>= fun r107 =>
        zbr s1 r107 >>= fun t =>
        some t
       else
        zbr s1 false >>= fun t =>
        some t
      else
       zbr s1 false >>= fun t =>
       some t
     else
      zbr s1 false >>= fun t =>
      some t
    else
     zbr s1 false >>= fun t =>
     some t
   else
    some false
noncomputable def zeu (p0:TObject):Option Bool :=
 zfa p0.Id >>= fun r8 =>
 if r8=true then
  if (p0.Vals.length:Int) > 30 then
   some false
  else
   zdF p0.Vals >>= fun r19 =>
   if r19=true then
    zdS p0
   else
    some false
 else
  some false
noncomputable def zcY (s0 s7:List TObject) (s8 s9:Int):Option (Unit ⊕ Bool) :=
 if s9<s8 then
  idx s7 s9 >>= fun a11 =>
  zeu a11 >>= fun r15 =>
  if r15=true then
   zcY s0 s7 s8 (IntKind.wrap .i64 (s9 + 1))
  else
   some (.inr false)
 else
  some (.inl ())
 partial_fixpoint
noncomputable def zev (p0:List TObject):Option Bool :=
 zcY p0 p0 (p0.length:Int) 0 >>= fun t =>
 match t with
 | .inl t =>
  some true
 | .inr t =>
  some t
noncomputable def zbj (a b:List TValue):Option (List TValue):=chk (a.length + b.length≤most) >>= fun _=>some (a++b)
noncomputable def zfD (p0:TObject):Option ((List TValue)) :=
 zbj p0.Keys p0.Vals >>= fun r9 =>
 if p0.Kind=2 then
  app r9 ([p0.Default]) >>= fun c17 =>
  some c17
 else
  some r9
noncomputable def zhv (p0:Int):Option Bool :=
 zcb p0 4 6 >>= fun r4 =>
 some r4
noncomputable def zew (p0:Int):Option Bool :=
 some false
noncomputable def zeM (p0 p1:Int):Option Int :=
 zew p0 >>= fun r8 =>
 zew p1 >>= fun r10 =>
 if r8=true then
  if r10=true then
   some 0
  else
   some (-1)
 else
  if r10=true then
   some 1
  else
   if p0<p1 then
    some (-1)
   else
    if p0 > p1 then
     some 1
    else
     some 0
noncomputable def zex (p0:TObject) (p1:Int):Option Int :=
 zeM p0.Id p1 >>= fun r8 =>
 some r8
noncomputable def zah (s0:List TObject) (s1 s8 s9 s10:Int):Option Int :=
 if s9<s10 then
  idx s0 (IntKind.wrap .i64 ((IntKind.wrap .u64 (IntKind.wrap .i64 (s9 + s10))).fdiv (2 ^ (min 1 (IntKind.bits .u64))))) >>= fun a27 =>
  zex a27 s1 >>= fun r30 =>
  if r30<0 then
   zah s0 s1 s8 (IntKind.wrap .i64 (IntKind.wrap .i64 ((IntKind.wrap .u64 (IntKind.wrap .i64 (s9 + s10))).fdiv (2 ^ (min 1 (IntKind.bits .u64)))) + 1)) s10
  else
   zah s0 s1 s8 s9 (IntKind.wrap .i64 ((IntKind.wrap .u64 (IntKind.wrap .i64 (s9 + s10))).fdiv (2 ^ (min 1 (IntKind.bits .u64)))))
 else
  some s9
 partial_fixpoint
noncomputable def zaA (p0:List TObject) (p1:Int):Option (Int × Bool) :=
 zah p0 p1 (p0.length:Int) 0 (p0.length:Int) >>= fun t =>
 if t<(p0.length:Int) then
  idx p0 t >>= fun a43 =>
  zex a43 p1 >>= fun r46 =>
  some (t,(decide (r46=0)))
 else
  some (t,false)
noncomputable def zgC (p0:THeap) (p1:Int):Option Int :=
 zaA p0.Objects p1 >>= fun r11 =>
 if r11.2=true then
  some r11.1
 else
  some (-1)
noncomputable def zhc (p0:Int):Option Int :=
 some (IntKind.wrap .i64 (IntKind.wrap .i64 (p0 - 4) + 1))
noncomputable def zfR (s2:THeap) (s3:TValue):Option Bool :=
 zgC s2 s3.Ref >>= fun r20 =>
 if r20 ≥ 0 then
  idx s2.Objects r20 >>= fun a27 =>
  zhc s3.Kind >>= fun r32 =>
  some (decide (a27.Kind=r32))
 else
  some false
noncomputable def zdY (p0:THeap) (p1:TValue):Option Bool :=
 zbo p1 >>= fun r7 =>
 if r7=true then
  zhv p1.Kind >>= fun r12 =>
  if r12=true then
   zfR p0 p1
  else
   zbo p1 >>= fun r16 =>
   some r16
 else
  zbo p1 >>= fun r16 =>
  some r16
noncomputable def zcw (s0:List TValue) (s1:THeap) (s7:List TValue) (s8 s9:Int):Option (Unit ⊕ Bool) :=
 if s9<s8 then
  idx s7 s9 >>= fun a11 =>
  zdY s1 a11 >>= fun r15 =>
  if r15=true then
   zcw s0 s1 s7 s8 (IntKind.wrap .i64 (s9 + 1))
  else
   some (.inr false)
 else
  some (.inl ())
 partial_fixpoint
noncomputable def zbQ (p0:List TValue) (p1:THeap):Option Bool :=
 zcw p0 p1 p0 (p0.length:Int) 0 >>= fun t =>
 match t with
 | .inl t =>
  some true
 | .inr t =>
  some t
noncomputable def zey (p0:TObject) (g0:THeap):Option Bool :=
 zfD p0 >>= fun r5 =>
 zbQ r5 g0 >>= fun r8 =>
 some r8
noncomputable def zcc (s0 s7:List TObject) (s8:Int) (g0:THeap) (s9:Int):Option (Unit ⊕ Bool) :=
 if s9<s8 then
  idx s7 s9 >>= fun a11 =>
  zey a11 g0 >>= fun r15 =>
  if r15=true then
   zcc s0 s7 s8 g0 (IntKind.wrap .i64 (s9 + 1))
  else
   some (.inr false)
 else
  some (.inl ())
 partial_fixpoint
noncomputable def zdv (p0:List TObject) (g0:THeap):Option Bool :=
 zcc p0 p0 (p0.length:Int) g0 0 >>= fun t =>
 match t with
 | .inl t =>
  some true
 | .inr t =>
  some t
noncomputable def zdH (s1:THeap) (s23:List TObject) (s24 s3 s25:Int):Option (Unit ⊕ Bool) :=
 if s25<s24 then
  idx s23 s25 >>= fun a27 =>
  if a27.Id≤s3 then
   some (.inr false)
  else
   if a27.Id > s1.Next then
    some (.inr false)
   else
    zdH s1 s23 s24 a27.Id (IntKind.wrap .i64 (s25 + 1))
 else
  some (.inl ())
 partial_fixpoint
noncomputable def zfS (s1:THeap):Option Bool :=
 zdH s1 s1.Objects (s1.Objects.length:Int) 0 0 >>= fun t =>
 match t with
 | .inl t =>
  zdv s1.Objects s1 >>= fun r46 =>
  some r46
 | .inr t =>
  some t
noncomputable def zgD (p0:THeap):Option Bool :=
 zcb p0.Next 0 1000000 >>= fun r8 =>
 if r8=true then
  if (p0.Objects.length:Int) > 40 then
   some false
  else
   zev p0.Objects >>= fun r19 =>
   if r19=true then
    zfS p0
   else
    some false
 else
  some false
noncomputable def zfE (p0:TBinding):Option ByteArray :=
 some p0.Name
noncomputable def zbX (s0:List TBinding) (s5:Int):Option (Unit ⊕ Bool) :=
 if s5<(s0.length:Int) then
  idx s0 (IntKind.wrap .i64 (s5 - 1)) >>= fun a16 =>
  zfE a16 >>= fun r18 =>
  idx s0 s5 >>= fun a22 =>
  zfE a22 >>= fun r24 =>
  if (Op.bytesLess r18.toList r24.toList)=true then
   zbX s0 (IntKind.wrap .i64 (s5 + 1))
  else
   some (.inr false)
 else
  some (.inl ())
 partial_fixpoint
noncomputable def zcZ (p0:List TBinding):Option Bool :=
 zbX p0 1 >>= fun t =>
 match t with
 | .inl t =>
  some true
 | .inr t =>
  some t
noncomputable def zxK:Option TValue :=
 zjv (⟨#[]⟩) >>= fun r1 =>
 some r1
noncomputable def zlu (p0:TValue):Option Bool :=
 zxK >>= fun r4 =>
 some ((decide (p0.Kind=r4.Kind)) && ((decide (p0.Num=r4.Num)) && ((decide (p0.Text=r4.Text)) && (decide (p0.Ref=r4.Ref)))))
noncomputable def zdw (p0:TBinding):Option Bool :=
 zfL p0.Name >>= fun r5 =>
 if r5=true then
  zbo p0.Value >>= fun r9 =>
  if r9=true then
   zlu p0.Value >>= fun r14 =>
   some (!r14)
  else
   some false
 else
  some false
noncomputable def zgE (p0:TBinding) (g0:THeap):Option Bool :=
 zdw p0 >>= fun r5 =>
 if r5=true then
  zdY g0 p0.Value >>= fun r10 =>
  some r10
 else
  some false
noncomputable def zcx (s0 s7:List TBinding) (s8:Int) (g0:THeap) (s9:Int):Option (Unit ⊕ Bool) :=
 if s9<s8 then
  idx s7 s9 >>= fun a11 =>
  zgE a11 g0 >>= fun r15 =>
  if r15=true then
   zcx s0 s7 s8 g0 (IntKind.wrap .i64 (s9 + 1))
  else
   some (.inr false)
 else
  some (.inl ())
 partial_fixpoint
noncomputable def zfh (p0:List TBinding) (g0:THeap):Option Bool :=
 zcx p0 p0 (p0.length:Int) g0 0 >>= fun t =>
 match t with
 | .inl t =>
  some true
 | .inr t =>
  some t
noncomputable def zgk (p0:List TBinding) (p1:THeap):Option Bool :=
 if (p0.length:Int)≤40 then
  zcZ p0 >>= fun r10 =>
  if r10=true then
   zfh p0 p1 >>= fun r15 =>
   some r15
  else
   some false
 else
  some false
noncomputable def zjw (p0:TValue):Option Bool :=
 zbo p0 >>= fun r4 =>
 if r4=true then
  if p0.Kind=1 then
   some true
  else
   if p0.Kind=2 then
    some true
   else
    zhv p0.Kind >>= fun r17 =>
    some r17
 else
  some false
noncomputable def zfM (s0 s3:Int) (s10:Bool):Option ((Bool × Bool × Bool × Bool × Bool) ⊕ Int) :=
 if s10=true then
  some (.inr 3)
 else
  if s3=1 then
   some (.inr 0)
  else
   if s3=2 then
    some (.inr 0)
   else
    if s3=3 then
     some (.inr 0)
    else
     some (.inl (false,false,false,false,false))
noncomputable def zef (s0 s3:Int) (s4:Bool):Option ((Bool × Bool × Bool × Bool × Bool) ⊕ Int) :=
 if s4=true then
  some (.inr 2)
 else
  if s3=8 then
   zfM s0 s3 true >>= fun t =>
   match t with
   | .inl t =>
    some (.inl (t.1,t.2.1,t.2.2.1,t.2.2.2.1,t.2.2.2.2))
   | .inr t =>
    some (.inr t)
  else
   if s3=12 then
    zfM s0 s3 true >>= fun t =>
    match t with
    | .inl t =>
     some (.inl (t.1,t.2.1,t.2.2.1,t.2.2.2.1,t.2.2.2.2))
    | .inr t =>
     some (.inr t)
   else
    zfM s0 s3 (decide (s3=15)) >>= fun t =>
    match t with
    | .inl t =>
     some (.inl (t.1,t.2.1,t.2.2.1,t.2.2.2.1,t.2.2.2.2))
    | .inr t =>
     some (.inr t)
noncomputable def zgl (p0:Int):Option Int :=
 if p0=4 then
  zef p0 p0 true >>= fun t =>
  match t with
  | .inl t =>
   some 1
  | .inr t =>
   some t
 else
  if p0=5 then
   zef p0 p0 true >>= fun t =>
   match t with
   | .inl t =>
    some 1
   | .inr t =>
    some t
  else
   if p0=9 then
    zef p0 p0 true >>= fun t =>
    match t with
    | .inl t =>
     some 1
    | .inr t =>
     some t
   else
    if p0=11 then
     zef p0 p0 true >>= fun t =>
     match t with
     | .inl t =>
      some 1
     | .inr t =>
      some t
    else
     zef p0 p0 (decide (p0=14)) >>= fun t =>
     match t with
     | .inl t =>
      some 1
     | .inr t =>
      some t
noncomputable def zcN (p0:ByteArray):Option Bool :=
 if p0=⟨#[97,100,100]⟩ then
  some true
 else
  if p0=⟨#[115,117,98]⟩ then
   some true
  else
   if p0=⟨#[109,117,108]⟩ then
    some true
   else
    if p0=⟨#[100,105,118]⟩ then
     some true
    else
     if p0=⟨#[99,97,116]⟩ then
      some true
     else
      if p0=⟨#[108,116]⟩ then
       some true
      else
       if p0=⟨#[108,101]⟩ then
        some true
       else
        if p0=⟨#[101,113]⟩ then
         some true
        else
         if p0=⟨#[110,101]⟩ then
          some true
         else
          if p0=⟨#[103,116]⟩ then
           some true
          else
           if p0=⟨#[103,101]⟩ then
            some true
           else
            if p0=⟨#[115,101,113]⟩ then
             some true
            else
             if p0=⟨#[115,110,101]⟩ then
              some true
             else
              if p0=⟨#[115,108,116]⟩ then
               some true
              else
               if p0=⟨#[105,115]⟩ then
                some true
               else
                some false
noncomputable def zbR (s1:TGen) (s3 s4 s5:Bool):Option Bool :=
 zcb s1.Kind 1 18 >>= fun r42 =>
 if r42=true then
  if s3=true then
   if s4=true then
    if s5=true then
     zgl s1.Kind >>= fun r58 =>
     some (decide ((s1.Kids.length:Int)=r58))
    else
     some false
   else
    some false
  else
   some false
 else
  some false
noncomputable def zcO (s1:TGen) (s3 s4 s5:Bool) (s17:Int) (s23:Bool):Option (Bool × Bool × Bool) :=
 if s23=true then
  zfL s1.Text >>= fun r29 =>
  some (s3,r29,true)
 else
  if s17=6 then
   zcb s1.Num 0 60 >>= fun r34 =>
   some (r34,s4,false)
  else
   if s17=11 then
    zcN s1.Text >>= fun r39 =>
    some (s3,r39,false)
   else
    some (s3,s4,false)
noncomputable def zfn (p0:TGen):Option Bool :=
 if p0.Kind=1 then
  zjw p0.Value >>= fun r22 =>
  zbR p0 (decide (p0.Num=0)) (decide (p0.Text=⟨#[]⟩)) r22
 else
  if p0.Kind=2 then
   zcO p0 (decide (p0.Num=0)) (decide (p0.Text=⟨#[]⟩)) ((decide (p0.Value.Kind=0)) && ((decide (p0.Value.Num=0)) && ((decide (p0.Value.Text=ByteArray.empty)) && (decide (p0.Value.Ref=0))))) p0.Kind true >>= fun t =>
   zbR p0 t.1 t.2.1 ((decide (p0.Value.Kind=0)) && ((decide (p0.Value.Num=0)) && ((decide (p0.Value.Text=ByteArray.empty)) && (decide (p0.Value.Ref=0)))))
  else
   if p0.Kind=16 then
    zcO p0 (decide (p0.Num=0)) (decide (p0.Text=⟨#[]⟩)) ((decide (p0.Value.Kind=0)) && ((decide (p0.Value.Num=0)) && ((decide (p0.Value.Text=ByteArray.empty)) && (decide (p0.Value.Ref=0))))) p0.Kind true >>= fun t =>
    zbR p0 t.1 t.2.1 ((decide (p0.Value.Kind=0)) && ((decide (p0.Value.Num=0)) && ((decide (p0.Value.Text=ByteArray.empty)) && (decide (p0.Value.Ref=0)))))
   else
    zcO p0 (decide (p0.Num=0)) (decide (p0.Text=⟨#[]⟩)) ((decide (p0.Value.Kind=0)) && ((decide (p0.Value.Num=0)) && ((decide (p0.Value.Text=ByteArray.empty)) && (decide (p0.Value.Ref=0))))) p0.Kind (decide (p0.Kind=17)) >>= fun t =>
    zbR p0 t.1 t.2.1 ((decide (p0.Value.Kind=0)) && ((decide (p0.Value.Num=0)) && ((decide (p0.Value.Text=ByteArray.empty)) && (decide (p0.Value.Ref=0)))))
mutual
noncomputable def zbk (s1:Int) (s2:TGen) (s17:List TGen) (s18 s19:Int):Option Int :=
 if s19<s18 then
  idx s17 s19 >>= fun a21 =>
  zeg a21 s1 >>= fun r25 =>
  if r25 > 60 then
   some r25
  else
   zbk r25 s2 s17 s18 (IntKind.wrap .i64 (s19 + 1))
 else
  some s1
 partial_fixpoint
noncomputable def zeg (p0:TGen) (p1:Int):Option Int :=
 if IntKind.wrap .i64 (p1 + 1) > 60 then
  some 61
 else
  zfn p0 >>= fun r13 =>
  if r13=true then
   zez (IntKind.wrap .i64 (p1 + 1)) p0
  else
   some 61
 partial_fixpoint
noncomputable def zez (s1:Int) (s2:TGen):Option Int :=
 zbk s1 s2 s2.Kids (s2.Kids.length:Int) 0 >>= fun t =>
 some t
 partial_fixpoint
end
noncomputable def zhw (p0:TGen):Option Bool :=
 zeg p0 0 >>= fun r4 =>
 some (decide (r4≤60))
mutual
noncomputable def zaU (s0:List TGen) (s1:THeap) (s7:List TGen) (s8 s9:Int):Option (Unit ⊕ Bool) :=
 if s9<s8 then
  idx s7 s9 >>= fun a11 =>
  zbC s1 a11 >>= fun r15 =>
  if r15=true then
   zaU s0 s1 s7 s8 (IntKind.wrap .i64 (s9 + 1))
  else
   some (.inr false)
 else
  some (.inl ())
 partial_fixpoint
noncomputable def zbC (p0:THeap) (p1:TGen):Option Bool :=
 if p1.Kind=1 then
  zdY p0 p1.Value >>= fun r12 =>
  if r12=true then
   zeh p1.Kids p0 >>= fun r19 =>
   some r19
  else
   some false
 else
  zeh p1.Kids p0 >>= fun r19 =>
  some r19
 partial_fixpoint
noncomputable def zeh (p0:List TGen) (p1:THeap):Option Bool :=
 zaU p0 p1 p0 (p0.length:Int) 0 >>= fun t =>
 match t with
 | .inl t =>
  some true
 | .inr t =>
  some t
 partial_fixpoint
end
noncomputable def zdi (p0:TCursor):Option Bool :=
 if p0.Phase=0 then
  if p0.Count=0 then
   if (p0.Vals.length:Int)=0 then
    some (decide ((p0.Kids.length:Int)=0))
   else
    some false
  else
   some false
 else
  some false
noncomputable def zdj (p0:TGen) (p1:Int):Option (((List TGen)) ⊕ Unit) :=
 zcb p1 1 (p0.Kids.length:Int) >>= fun r9 =>
 if r9=true then
  sub p0.Kids (IntKind.wrap .i64 (p1 - 1)) p1 >>= fun c16 =>
  some (.inl c16)
 else
  some (.inr ())
noncomputable def zfo (s1:Int) (s2:TGen) (s4:TcursorForm) (s5:List Int) (s8:Int) (s33:Bool):Option ((Bool × Bool × Bool × Bool × Bool × Bool × Bool × Bool × Bool) ⊕ ((TcursorForm ⊕ ((List Int) × Int × Int)))) :=
 if s33=true then
  some (.inr (.inl (TcursorForm.mk s5 0 0 s2.Kids)))
 else
  if s8=6 then
   some (.inr (.inl (TcursorForm.mk s5 s2.Num 0 s2.Kids)))
  else
   if s8=12 then
    some (.inr (.inl (TcursorForm.mk s5 2000000000001 3 s2.Kids)))
   else
    if s8=13 then
     some (.inr (.inl (TcursorForm.mk s5 200 1 s2.Kids)))
    else
     if s8=17 then
      some (.inr (.inl (TcursorForm.mk s5 0 2 s2.Kids)))
     else
      some (.inl (false,false,false,false,false,false,false,false,false))
noncomputable def zbY (s1:Int) (s2:TGen) (s4:TcursorForm) (s5:List Int) (s8:Int) (s13:Bool):Option ((Bool × Bool × Bool × Bool × Bool × Bool × Bool × Bool × Bool) ⊕ ((TcursorForm ⊕ ((List Int) × Int × Int)))) :=
 if s13=true then
  some (.inr (.inr (s5,0,0)))
 else
  if s8=4 then
   zdj s2 s1 >>= fun r24 =>
   match r24 with
   | .inl r24 =>
    some (.inr (.inl (TcursorForm.mk ([1,2]) 0 0 r24)))
   | .inr r24 =>
    some (.inr (.inr ([1,2],0,0)))
  else
   if s8=8 then
    zdj s2 s1 >>= fun r31 =>
    match r31 with
    | .inl r31 =>
     some (.inr (.inl (TcursorForm.mk ([2,3]) 0 0 r31)))
    | .inr r31 =>
     some (.inr (.inr ([2,3],0,0)))
   else
    if s8=5 then
     zfo s1 s2 s4 s5 s8 true >>= fun t =>
     match t with
     | .inl t =>
      some (.inl (t.1,t.2.1,t.2.2.1,t.2.2.2.1,t.2.2.2.2.1,t.2.2.2.2.2.1,t.2.2.2.2.2.2.1,t.2.2.2.2.2.2.2.1,t.2.2.2.2.2.2.2.2))
     | .inr t =>
      some (.inr t)
    else
     zfo s1 s2 s4 s5 s8 (decide (s8=10)) >>= fun t =>
     match t with
     | .inl t =>
      some (.inl (t.1,t.2.1,t.2.2.1,t.2.2.2.1,t.2.2.2.2.1,t.2.2.2.2.2.1,t.2.2.2.2.2.2.1,t.2.2.2.2.2.2.2.1,t.2.2.2.2.2.2.2.2))
     | .inr t =>
      some (.inr t)
noncomputable def zbZ (s1:Int) (s2:TGen) (s4:TcursorForm) (s5:List Int) (s8:Int) (s9:Bool):Option ((Bool × Bool × Bool × Bool × Bool × Bool × Bool × Bool × Bool) ⊕ ((TcursorForm ⊕ ((List Int) × Int × Int)))) :=
 if s9=true then
  some (.inr (.inr ([],0,0)))
 else
  if s8=1 then
   zbY s1 s2 s4 s5 s8 true >>= fun t =>
   match t with
   | .inl t =>
    some (.inl (t.1,t.2.1,t.2.2.1,t.2.2.2.1,t.2.2.2.2.1,t.2.2.2.2.2.1,t.2.2.2.2.2.2.1,t.2.2.2.2.2.2.2.1,t.2.2.2.2.2.2.2.2))
   | .inr t =>
    some (.inr t)
  else
   if s8=2 then
    zbY s1 s2 s4 s5 s8 true >>= fun t =>
    match t with
    | .inl t =>
     some (.inl (t.1,t.2.1,t.2.2.1,t.2.2.2.1,t.2.2.2.2.1,t.2.2.2.2.2.1,t.2.2.2.2.2.2.1,t.2.2.2.2.2.2.2.1,t.2.2.2.2.2.2.2.2))
    | .inr t =>
     some (.inr t)
   else
    zbY s1 s2 s4 s5 s8 (decide (s8=7)) >>= fun t =>
    match t with
    | .inl t =>
     some (.inl (t.1,t.2.1,t.2.2.1,t.2.2.2.1,t.2.2.2.2.1,t.2.2.2.2.2.1,t.2.2.2.2.2.2.1,t.2.2.2.2.2.2.2.1,t.2.2.2.2.2.2.2.2))
    | .inr t =>
     some (.inr t)
noncomputable def zfp (s1:Int) (s2:TGen) (s4:TcursorForm) (s5:List Int):Option ((TcursorForm ⊕ ((List Int) × Int × Int))) :=
 some (.inl (TcursorForm.mk s5 0 (s2.Kids.length:Int) s2.Kids))
noncomputable def zck (p0:TGen) (p1:Int):Option (TcursorForm ⊕ ((List Int) × Int × Int)) :=
 if p0.Kind=3 then
  zbZ p1 p0 (TcursorForm.mk ([]) 0 0 ([])) ([1]) p0.Kind true >>= fun t =>
  match t with
  | .inl t =>
   zfp p1 p0 (TcursorForm.mk ([]) 0 0 ([])) ([1])
  | .inr t =>
   some t
 else
  zbZ p1 p0 (TcursorForm.mk ([]) 0 0 ([])) ([1]) p0.Kind (decide (p0.Kind=9)) >>= fun t =>
  match t with
  | .inl t =>
   zfp p1 p0 (TcursorForm.mk ([]) 0 0 ([])) ([1])
  | .inr t =>
   some t
noncomputable def zcT (p0:Int):Option Bool :=
 if p0=6 then
  some true
 else
  if p0=12 then
   some true
  else
   some (decide (p0=13))
noncomputable def zaV (s0:List Int) (s1 s7 s8:Int):Option (Unit ⊕ Int) :=
 if s8<s7 then
  idx s0 s8 >>= fun a14 =>
  if s1=a14 then
   some (.inr s8)
  else
   zaV s0 s1 s7 (IntKind.wrap .i64 (s8 + 1))
 else
  some (.inl ())
 partial_fixpoint
noncomputable def zcl (p0:List Int) (p1:Int):Option Int :=
 zaV p0 p1 (p0.length:Int) 0 >>= fun t =>
 match t with
 | .inl t =>
  some (-1)
 | .inr t =>
  some t
noncomputable def zaG (p0:List Int) (p1:Int):Option Bool :=
 zcl p0 p1 >>= fun r7 =>
 some (decide (r7 ≥ 0))
noncomputable def zcy (s3:THeap) (s5:TCursor) (s7:List Int) (s7_1 s7_2 s63 s64:Int):Option Unit :=
 if s64<s63 then
  none
 else
  some ()
noncomputable def zcz (s3:THeap) (s5:TCursor) (s7:List Int) (s7_1 s7_2:Int):Option Bool :=
 zcy s3 s5 s7 s7_1 s7_2 0 0 >>= fun t =>
 some true
noncomputable def zaW (s3:THeap) (s5:TCursor) (s7:List Int) (s7_1 s7_2:Int) (s8:Bool):Option Bool :=
 zaG s7 s5.Phase >>= fun r30 =>
 if r30=true then
  if s8=true then
   if (s5.Vals.length:Int)=s7_2 then
    zbQ s5.Vals s3 >>= fun r49 =>
    if r49=true then
     if (s5.Kids.length:Int)=0 then
      zcz s3 s5 s7 s7_1 s7_2 >>= fun t =>
      some t
     else
      some false
    else
     some false
   else
    some false
  else
   some false
 else
  some false
mutual
noncomputable def zan (s3:THeap) (s5:TCursor) (s7:TcursorForm) (s62:List TGen) (s63 s64:Int):Option (Unit ⊕ Bool) :=
 if s64<s63 then
  idx s62 s64 >>= fun a67 =>
  idx s5.Kids s64 >>= fun a74 =>
  zag s3 a67 a74 >>= fun r76 =>
  if r76=true then
   zan s3 s5 s7 s62 s63 (IntKind.wrap .i64 (s64 + 1))
  else
   some (.inr false)
 else
  some (.inl ())
 partial_fixpoint
noncomputable def zag (p0:THeap) (p1:TGen) (p2:TCursor):Option Bool :=
 zck p1 p2.Phase >>= fun r14 =>
 match r14 with
 | .inl r14 =>
  zcT p1.Kind >>= fun r20 =>
  if r20=true then
   zcb p2.Count 1 r14.counts >>= fun r25 =>
   zax p0 p2 r14 r25
  else
   zax p0 p2 r14 (decide (p2.Count=0))
 | .inr r14 =>
  zcT p1.Kind >>= fun r20 =>
  if r20=true then
   zcb p2.Count 1 r14.2.1 >>= fun r25 =>
   zaW p0 p2 r14.1 r14.2.1 r14.2.2 r25
  else
   zaW p0 p2 r14.1 r14.2.1 r14.2.2 (decide (p2.Count=0))
 partial_fixpoint
noncomputable def zax (s3:THeap) (s5:TCursor) (s7:TcursorForm) (s8:Bool):Option Bool :=
 zaG s7.phases s5.Phase >>= fun r30 =>
 if r30=true then
  if s8=true then
   if (s5.Vals.length:Int)=s7.vals then
    zbQ s5.Vals s3 >>= fun r49 =>
    if r49=true then
     if (s5.Kids.length:Int)=(s7.kids.length:Int) then
      zaH s3 s5 s7 >>= fun t =>
      some t
     else
      some false
    else
     some false
   else
    some false
  else
   some false
 else
  some false
 partial_fixpoint
noncomputable def zaH (s3:THeap) (s5:TCursor) (s7:TcursorForm):Option Bool :=
 zan s3 s5 s7 s7.kids (s7.kids.length:Int) 0 >>= fun t =>
 match t with
 | .inl t =>
  some true
 | .inr t =>
  some t
 partial_fixpoint
end
noncomputable def zfT (s2:THeap) (s3:TCoexpr):Option Bool :=
 zag s2 s3.Body s3.Cursor >>= fun r56 =>
 some r56
noncomputable def zfU (s2:THeap) (s3:TCoexpr):Option Bool :=
 if s3.Done=true then
  zdi s3.Cursor >>= fun r50 =>
  some r50
 else
  if s3.Count=0 then
   zdi s3.Cursor >>= fun r50 =>
   some r50
  else
   zfT s2 (TCoexpr.mk s3.Id s3.Body s3.Start s3.Vars s3.Cursor s3.Count false) >>= fun t =>
   some t
noncomputable def zcU (s2:THeap) (s3:TCoexpr) (s5:Bool):Option Bool :=
 if s5=true then
  zgk s3.Start s2 >>= fun r31 =>
  if r31=true then
   zgk s3.Vars s2 >>= fun r38 =>
   if r38=true then
    zfU s2 s3 >>= fun t =>
    some t
   else
    some false
  else
   some false
 else
  some false
noncomputable def zbJ (p0:THeap) (p1:TCoexpr):Option Bool :=
 zcb p1.Id 1 1000000 >>= fun r8 =>
 if r8=true then
  zhw p1.Body >>= fun r12 =>
  if r12=true then
   zbC p0 p1.Body >>= fun r18 =>
   if r18=true then
    zcb p1.Count 0 1000000 >>= fun r23 =>
    zcU p0 p1 r23
   else
    zcU p0 p1 false
  else
   zcU p0 p1 false
 else
  zcU p0 p1 false
noncomputable def zda (s0:List TCoexpr) (s1:THeap) (s7:List TCoexpr) (s8 s9:Int):Option (Unit ⊕ Bool) :=
 if s9<s8 then
  idx s7 s9 >>= fun a11 =>
  zbJ s1 a11 >>= fun r15 =>
  if r15=true then
   zda s0 s1 s7 s8 (IntKind.wrap .i64 (s9 + 1))
  else
   some (.inr false)
 else
  some (.inl ())
 partial_fixpoint
noncomputable def zeA (p0:List TCoexpr) (p1:THeap):Option Bool :=
 zda p0 p1 p0 (p0.length:Int) 0 >>= fun t =>
 match t with
 | .inl t =>
  some true
 | .inr t =>
  some t
noncomputable def zdb (s1:TGenScope) (s3:Int):Option (Unit ⊕ Bool) :=
 if s3<(s1.Cos.length:Int) then
  idx s1.Cos (IntKind.wrap .i64 (s3 - 1)) >>= fun a42 =>
  idx s1.Cos s3 >>= fun a48 =>
  if a42.Id ≥ a48.Id then
   some (.inr false)
  else
   zdb s1 (IntKind.wrap .i64 (s3 + 1))
 else
  some (.inl ())
 partial_fixpoint
noncomputable def zeB (s1:TGenScope):Option Bool :=
 zdb s1 1 >>= fun t =>
 match t with
 | .inl t =>
  zcb s1.Steps 0 20000 >>= fun r54 =>
  some r54
 | .inr t =>
  some t
noncomputable def zeC (p0:TGenScope):Option Bool :=
 zgD p0.Heap >>= fun r6 =>
 if r6=true then
  zgk p0.Vars p0.Heap >>= fun r13 =>
  if r13=true then
   if (p0.Cos.length:Int) > 8 then
    some false
   else
    zeA p0.Cos p0.Heap >>= fun r28 =>
    if r28=true then
     zeB p0
    else
     some false
  else
   some false
 else
  some false
noncomputable def zik (p0:Bool) (p1:Int):Option Int :=
 if p0=true then
  some 0
 else
  some p1
noncomputable def ziD (s0 s5:List Int) (s6 s7:Int):Option (Unit ⊕ Int) :=
 if s7<s6 then
  idx s5 s7 >>= fun a9 =>
  if a9=0 then
   ziD s0 s5 s6 (IntKind.wrap .i64 (s7 + 1))
  else
   some (.inr a9)
 else
  some (.inl ())
 partial_fixpoint
noncomputable def zlv (p0:List Int):Option Int :=
 ziD p0 p0 (p0.length:Int) 0 >>= fun t =>
 match t with
 | .inl t =>
  some 0
 | .inr t =>
  some t
noncomputable def zak (p0:List TBinding):Option (List TBinding):=chk (p0.length≤most) >>= fun _=>some p0
noncomputable def zaw (p0:List TValue):Option (List TValue):=chk (p0.length≤most) >>= fun _=>some p0
noncomputable def zdk (p0:TObject):Option TObject :=
 zaw p0.Keys >>= fun r5 =>
 zaw p0.Vals >>= fun r8 =>
 some (TObject.mk p0.Id p0.Kind p0.Name p0.Low r5 r8 p0.Default)
noncomputable def zdT (s1 s2:THeap) (s10:List TObject) (s11:Int) (s3:THeap) (s12:Int):Option THeap :=
 if s12<s11 then
  idx s10 s12 >>= fun a14 =>
  zdk a14 >>= fun r19 =>
  app s3.Objects ([r19]) >>= fun c21 =>
  zdT s1 s2 s10 s11 (THeap.mk s3.Next c21) (IntKind.wrap .i64 (s12 + 1))
 else
  some s3
 partial_fixpoint
noncomputable def zfq (p0:THeap):Option THeap :=
 zdT p0 (THeap.mk 0 ([])) p0.Objects (p0.Objects.length:Int) (THeap.mk p0.Next ([])) 0 >>= fun t =>
 some t
mutual
noncomputable def zaX (s1 s2:TGen) (s3 s8:List TGen) (s9 s10:Int):Option ((List TGen)) :=
 if s10<s9 then
  idx s8 s10 >>= fun a12 =>
  zcr a12 >>= fun r16 =>
  app s3 ([r16]) >>= fun c18 =>
  zaX s1 s2 c18 s8 s9 (IntKind.wrap .i64 (s10 + 1))
 else
  some s3
 partial_fixpoint
noncomputable def zcr (p0:TGen):Option TGen :=
 zaX p0 (TGen.mk 0 0 ByteArray.empty (TValue.mk 0 0 ByteArray.empty 0) ([])) ([]) p0.Kids (p0.Kids.length:Int) 0 >>= fun t =>
 some (TGen.mk p0.Kind p0.Num p0.Text p0.Value t)
 partial_fixpoint
end
mutual
noncomputable def zaE (s1 s2:TCursor) (s3 s8:List TCursor) (s9 s10:Int):Option ((List TCursor)) :=
 if s10<s9 then
  idx s8 s10 >>= fun a12 =>
  zbp a12 >>= fun r16 =>
  app s3 ([r16]) >>= fun c18 =>
  zaE s1 s2 c18 s8 s9 (IntKind.wrap .i64 (s10 + 1))
 else
  some s3
 partial_fixpoint
noncomputable def zbp (p0:TCursor):Option TCursor :=
 zaE p0 (TCursor.mk 0 0 ([]) ([])) ([]) p0.Kids (p0.Kids.length:Int) 0 >>= fun t =>
 zaw p0.Vals >>= fun r22 =>
 some (TCursor.mk p0.Phase p0.Count r22 t)
 partial_fixpoint
end
noncomputable def zbq (p0:TCoexpr):Option TCoexpr :=
 zcr p0.Body >>= fun r5 =>
 zbp p0.Cursor >>= fun r8 =>
 zak p0.Start >>= fun r13 =>
 zak p0.Vars >>= fun r16 =>
 some (TCoexpr.mk p0.Id r5 r13 r16 r8 p0.Count p0.Done)
noncomputable def zcd (s1 s2:TGenScope) (s16:List TCoexpr) (s17:Int) (s3:TGenScope) (s18:Int):Option TGenScope :=
 if s18<s17 then
  idx s16 s18 >>= fun a20 =>
  zbq a20 >>= fun r25 =>
  app s3.Cos ([r25]) >>= fun c27 =>
  zcd s1 s2 s16 s17 (TGenScope.mk s3.Vars s3.Heap c27 s3.Steps) (IntKind.wrap .i64 (s18 + 1))
 else
  some s3
 partial_fixpoint
noncomputable def zdx (p0:TGenScope):Option TGenScope :=
 zak p0.Vars >>= fun r8 =>
 zfq p0.Heap >>= fun r11 =>
 zcd p0 (TGenScope.mk ([]) (THeap.mk 0 ([])) ([]) 0) p0.Cos (p0.Cos.length:Int) (TGenScope.mk r8 r11 ([]) p0.Steps) 0 >>= fun t =>
 some t
noncomputable def zdZ (s2:TGenScope) (s3:TCoexpr) (s4:TGenScope) (s7:Int):Option ((TGenScope × Int × Int)) :=
 zdx s2 >>= fun r32 =>
 zbq (TCoexpr.mk (IntKind.wrap .i64 (s7 + 1)) s3.Body s3.Start s3.Vars s3.Cursor s3.Count s3.Done) >>= fun r39 =>
 app r32.Cos ([r39]) >>= fun c41 =>
 some (TGenScope.mk r32.Vars r32.Heap c41 r32.Steps,IntKind.wrap .i64 (s7 + 1),0)
noncomputable def zbK (s2:TGenScope) (s3:TCoexpr) (s4:TGenScope) (s7:Int):Option ((TGenScope × Int × Int)) :=
 if (s2.Cos.length:Int)=8 then
  some (TGenScope.mk ([]) (THeap.mk 0 ([])) ([]) 0,0,6)
 else
  if s7=1000000 then
   some (TGenScope.mk ([]) (THeap.mk 0 ([])) ([]) 0,0,6)
  else
   zdZ s2 s3 s4 s7 >>= fun t =>
   some t
noncomputable def zdU (p0:TGenScope) (p1:TCoexpr):Option (TGenScope × Int × Int) :=
 if (p0.Cos.length:Int) > 0 then
  idx p0.Cos (IntKind.wrap .i64 ((p0.Cos.length:Int) - 1)) >>= fun a19 =>
  zbK p0 p1 (TGenScope.mk ([]) (THeap.mk 0 ([])) ([]) 0) a19.Id
 else
  zbK p0 p1 (TGenScope.mk ([]) (THeap.mk 0 ([])) ([]) 0) 0
noncomputable def zhT (p0:TGenScope) (p1:Int):Option (TGenScope × Int × Int) :=
 zds p0 p1 >>= fun r12 =>
 zeC p0 >>= fun r14 =>
 zik r14 1 >>= fun r15 =>
 zik (decide (r12 ≥ 0)) 11 >>= fun r18 =>
 zlv ([r15,r18]) >>= fun r20 =>
 if r20=0 then
  idx p0.Cos r12 >>= fun a28 =>
  zdU p0 (TCoexpr.mk 0 a28.Body a28.Start a28.Start (TCursor.mk 0 0 ([]) ([])) 0 false) >>= fun r38 =>
  some (r38.1,r38.2.1,r38.2.2)
 else
  some (TGenScope.mk ([]) (THeap.mk 0 ([])) ([]) 0,0,r20)
end Go.Vx.RfZ
