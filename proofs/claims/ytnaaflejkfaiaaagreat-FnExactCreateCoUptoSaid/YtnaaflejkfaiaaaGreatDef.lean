/-
  The program's functions as plain functions.
-/
import Derived.Test.YtnaaflejkfaiaaaGreatTypes
import Derived.Test.YtnaaflejkfaiaaaGreatVxD
set_option linter.unusedVariables false
set_option linter.unusedSimpArgs false
namespace Go.Vx.CrZ
set_option linter.unusedVariables false
set_option linter.unusedSimpArgs false
set_option maxRecDepth 10000
set_option maxHeartbeats 2000000
noncomputable def zch (p0 p1 p2:Int):Option Bool :=
 if p0 ≥ p1 then
  some (decide (p0≤p2))
 else
  some false
noncomputable def zdX (p0:TValue) (p1 p2 p3:Bool):Option Bool :=
 if p1=true then
  if p2=true then
   if p3=true then
    some true
   else
    some (decide (p0.Ref=0))
  else
   if p0.Text=⟨#[]⟩ then
    if p3=true then
     some true
    else
     some (decide (p0.Ref=0))
   else
    some false
 else
  if p0.Num=0 then
   if p2=true then
    if p3=true then
     some true
    else
     some (decide (p0.Ref=0))
   else
    if p0.Text=⟨#[]⟩ then
     if p3=true then
      some true
     else
      some (decide (p0.Ref=0))
    else
     some false
  else
   some false
noncomputable def zfw (p0:Int):Option Bool :=
 if p0 ≥ 65 then
  if p0≤90 then
   some true
  else
   if p0 ≥ 97 then
    some (decide (p0≤122))
   else
    some false
 else
  if p0 ≥ 97 then
   some (decide (p0≤122))
  else
   some false
noncomputable def zhs (p0:Int):Option Bool :=
 if p0 ≥ 48 then
  some (decide (p0≤57))
 else
  some false
noncomputable def zbm (s0:ByteArray) (s1:Int):Option Int :=
 if s1<(s0.size:Int) then
  idxB s0 s1 >>= fun b24 =>
  zfw (b24.toNat:Int) >>= fun r25 =>
  if r25=true then
   zbm s0 (IntKind.wrap .i64 (s1 + 1))
  else
   zhs (b24.toNat:Int) >>= fun r30 =>
   if r30=true then
    zbm s0 (IntKind.wrap .i64 (s1 + 1))
   else
    if (b24.toNat:Int)=95 then
     zbm s0 (IntKind.wrap .i64 (s1 + 1))
    else
     some s1
 else
  some s1
 partial_fixpoint
noncomputable def zfx (s0:ByteArray) (s1:Int):Option Int :=
 zbm s0 s1 >>= fun t =>
 some t
noncomputable def zha (p0:ByteArray) (p1:Int):Option Int :=
 if p1 ≥ (p0.size:Int) then
  some p1
 else
  idxB p0 p1 >>= fun b12 =>
  zfw (b12.toNat:Int) >>= fun r13 =>
  if r13=true then
   zfx p0 p1
  else
   some p1
noncomputable def zfJ (p0:ByteArray):Option Bool :=
 if p0=⟨#[]⟩ then
  some false
 else
  if (p0.size:Int)≤12 then
   zha p0 0 >>= fun r12 =>
   some (decide (r12=(p0.size:Int)))
  else
   some false
noncomputable def zei (s1:TValue) (s45:Bool):Option (Bool ⊕ Bool) :=
 if s45=true then
  zdX s1 false true false >>= fun r49 =>
  if r49=true then
   zfJ s1.Text >>= fun r53 =>
   some (.inr r53)
  else
   some (.inr false)
 else
  some (.inl false)
noncomputable def zde (s1:TValue) (s4:Int) (s34:Bool):Option (Unit ⊕ Bool) :=
 if s34=true then
  zdX s1 false false true >>= fun r39 =>
  if r39=true then
   zch s1.Ref 1 1000000 >>= fun r43 =>
   some (.inr r43)
  else
   some (.inr false)
 else
  if s4=7 then
   zei s1 true >>= fun t =>
   match t with
   | .inl t =>
    some (.inl ())
   | .inr t =>
    some (.inr t)
  else
   zei s1 (decide (s4=8)) >>= fun t =>
   match t with
   | .inl t =>
    some (.inl ())
   | .inr t =>
    some (.inr t)
noncomputable def zbT (p0:TValue):Option Bool :=
 if p0.Kind=1 then
  zdX p0 false true false >>= fun r8 =>
  if r8=true then
   some (decide ((p0.Text.size:Int)≤200))
  else
   some false
 else
  if p0.Kind=2 then
   zdX p0 true false false >>= fun r18 =>
   if r18=true then
    zch p0.Num (-1000000000000) 1000000000000 >>= fun r22 =>
    some r22
   else
    some false
  else
   if p0.Kind=3 then
    zdX p0 false true false >>= fun r27 =>
    if r27=true then
     zch (p0.Text.size:Int) 1 1200 >>= fun r32 =>
     some r32
    else
     some false
   else
    if p0.Kind=4 then
     zde p0 p0.Kind true >>= fun t =>
     match t with
     | .inl t =>
      some false
     | .inr t =>
      some t
    else
     if p0.Kind=5 then
      zde p0 p0.Kind true >>= fun t =>
      match t with
      | .inl t =>
       some false
      | .inr t =>
       some t
     else
      zde p0 p0.Kind (decide (p0.Kind=6)) >>= fun t =>
      match t with
      | .inl t =>
       some false
      | .inr t =>
       some t
noncomputable def zcs (s0:List TValue) (s1 s5:Int):Option (Unit ⊕ Bool) :=
 if s5<(s0.length:Int) then
  idx s0 s5 >>= fun a18 =>
  zbT a18 >>= fun r20 =>
  if r20=true then
   zcs s0 s1 (IntKind.wrap .i64 (s5 + 1))
  else
   some (.inr false)
 else
  some (.inl ())
 partial_fixpoint
noncomputable def zbO (p0:List TValue) (p1:Int):Option Bool :=
 if (p0.length:Int) > p1 then
  some false
 else
  zcs p0 p1 0 >>= fun t =>
  match t with
  | .inl t =>
   some true
  | .inr t =>
   some t
noncomputable def zgv (p0 p1:TValue):Option Bool :=
 some ((decide (p0.Kind=p1.Kind)) && ((decide (p0.Num=p1.Num)) && ((decide (p0.Text=p1.Text)) && (decide (p0.Ref=p1.Ref)))))
noncomputable def zcK (s0:List TValue) (s3 s4:Int):Option (Unit ⊕ Bool) :=
 if s4<s3 then
  idx s0 s3 >>= fun a18 =>
  idx s0 s4 >>= fun a22 =>
  zgv a18 a22 >>= fun r24 =>
  if r24=true then
   some (.inr false)
  else
   zcK s0 s3 (IntKind.wrap .i64 (s4 + 1))
 else
  some (.inl ())
 partial_fixpoint
noncomputable def zdL (s0:List TValue) (s3:Int):Option (Unit ⊕ Bool) :=
 if s3<(s0.length:Int) then
  zcK s0 s3 0 >>= fun t =>
  match t with
  | .inl t =>
   zdL s0 (IntKind.wrap .i64 (s3 + 1))
  | .inr t =>
   some (.inr t)
 else
  some (.inl ())
 partial_fixpoint
noncomputable def zej (p0:List TValue):Option Bool :=
 zdL p0 0 >>= fun t =>
 match t with
 | .inl t =>
  some true
 | .inr t =>
  some t
noncomputable def zcW (s0:List TValue) (s3:Int):Option (Unit ⊕ Bool) :=
 if s3<(s0.length:Int) then
  idx s0 s3 >>= fun a12 =>
  if a12.Kind=1 then
   zfJ a12.Text >>= fun r22 =>
   if r22=true then
    zcW s0 (IntKind.wrap .i64 (s3 + 1))
   else
    some (.inr false)
  else
   some (.inr false)
 else
  some (.inl ())
 partial_fixpoint
noncomputable def zek (p0:List TValue):Option Bool :=
 zcW p0 0 >>= fun t =>
 match t with
 | .inl t =>
  if (p0.length:Int) ≥ 1 then
   zbO p0 6 >>= fun r30 =>
   if r30=true then
    zej p0 >>= fun r34 =>
    some r34
   else
    some false
  else
   some false
 | .inr t =>
  some t
noncomputable def zeK (s1:TObject):Option Bool :=
 if s1.Kind=1 then
  if s1.Name=⟨#[]⟩ then
   zch s1.Low (-1000) 1000 >>= fun r23 =>
   if r23=true then
    if (s1.Keys.length:Int)=0 then
     some ((decide (s1.Default.Kind=0)) && ((decide (s1.Default.Num=0)) && ((decide (s1.Default.Text=ByteArray.empty)) && (decide (s1.Default.Ref=0)))))
    else
     some false
   else
    some false
  else
   some false
 else
  if s1.Kind=2 then
   if s1.Name=⟨#[]⟩ then
    if s1.Low=0 then
     if (s1.Keys.length:Int)=(s1.Vals.length:Int) then
      zbO s1.Keys 30 >>= fun r59 =>
      if r59=true then
       zej s1.Keys >>= fun r64 =>
       if r64=true then
        zbT s1.Default >>= fun r69 =>
        some r69
       else
        some false
      else
       some false
     else
      some false
    else
     some false
   else
    some false
  else
   if s1.Kind=3 then
    zfJ s1.Name >>= fun r75 =>
    if r75=true then
     if s1.Low=0 then
      if (s1.Keys.length:Int)=(s1.Vals.length:Int) then
       zek s1.Keys >>= fun r93 =>
       if r93=true then
        some ((decide (s1.Default.Kind=0)) && ((decide (s1.Default.Num=0)) && ((decide (s1.Default.Text=ByteArray.empty)) && (decide (s1.Default.Ref=0)))))
       else
        some false
      else
       some false
     else
      some false
    else
     some false
   else
    some false
noncomputable def zgw (p0:TObject):Option Bool :=
 zch p0.Id 1 1000000 >>= fun r5 =>
 if r5=true then
  zbO p0.Vals 30 >>= fun r10 =>
  if r10=true then
   zeK p0
  else
   some false
 else
  some false
noncomputable def zeG (p0:TValue):Option Bool :=
 zch p0.Kind 4 6 >>= fun r5 =>
 some r5
noncomputable def zeS (s0:THeap) (s1 s5:Int):Option (Unit ⊕ Int) :=
 if s5<(s0.Objects.length:Int) then
  idx s0.Objects s5 >>= fun a20 =>
  if a20.Id=s1 then
   some (.inr s5)
  else
   zeS s0 s1 (IntKind.wrap .i64 (s5 + 1))
 else
  some (.inl ())
 partial_fixpoint
noncomputable def zic (p0:THeap) (p1:Int):Option Int :=
 zeS p0 p1 0 >>= fun t =>
 match t with
 | .inl t =>
  some (-1)
 | .inr t =>
  some t
noncomputable def zfy (p0:Int):Option Int :=
 some (IntKind.wrap .i64 (IntKind.wrap .i64 (p0 - 4) + 1))
noncomputable def zel (p0:THeap) (p1:TValue):Option Bool :=
 zbT p1 >>= fun r7 =>
 if r7=true then
  zeG p1 >>= fun r10 =>
  if r10=true then
   zic p0 p1.Ref >>= fun r15 =>
   if r15 ≥ 0 then
    idx p0.Objects r15 >>= fun a24 =>
    zfy p1.Kind >>= fun r29 =>
    some (decide (a24.Kind=r29))
   else
    some false
  else
   some true
 else
  some false
noncomputable def zeL (s0:THeap) (s1:List TValue) (s5:Int):Option (Unit ⊕ Bool) :=
 if s5<(s1.length:Int) then
  idx s1 s5 >>= fun a15 =>
  zel s0 a15 >>= fun r17 =>
  if r17=true then
   zeL s0 s1 (IntKind.wrap .i64 (s5 + 1))
  else
   some (.inr false)
 else
  some (.inl ())
 partial_fixpoint
noncomputable def zeH (p0:THeap) (p1:List TValue):Option Bool :=
 zeL p0 p1 0 >>= fun t =>
 match t with
 | .inl t =>
  some true
 | .inr t =>
  some t
noncomputable def zid (p0:THeap) (p1:TObject):Option Bool :=
 zeH p0 p1.Keys >>= fun r10 =>
 if r10=true then
  zeH p0 p1.Vals >>= fun r17 =>
  if r17=true then
   if p1.Kind=2 then
    zel p0 p1.Default >>= fun r31 =>
    some r31
   else
    some true
  else
   some false
 else
  some false
noncomputable def zfr (s0:THeap) (s3:Int):Option (Unit ⊕ Bool) :=
 if s3<(s0.Objects.length:Int) then
  idx s0.Objects s3 >>= fun a34 =>
  zgw a34 >>= fun r37 =>
  if r37=true then
   if a34.Id > s0.Next then
    some (.inr false)
   else
    if s3 > 0 then
     idx s0.Objects (IntKind.wrap .i64 (s3 - 1)) >>= fun a58 =>
     if a58.Id ≥ a34.Id then
      some (.inr false)
     else
      zfr s0 (IntKind.wrap .i64 (s3 + 1))
    else
     zfr s0 (IntKind.wrap .i64 (s3 + 1))
  else
   some (.inr false)
 else
  some (.inl ())
 partial_fixpoint
noncomputable def zgd (s0:THeap) (s5:Int):Option (Unit ⊕ Bool) :=
 if s5<(s0.Objects.length:Int) then
  idx s0.Objects s5 >>= fun a81 =>
  zid s0 a81 >>= fun r82 =>
  if r82=true then
   zgd s0 (IntKind.wrap .i64 (s5 + 1))
  else
   some (.inr false)
 else
  some (.inl ())
 partial_fixpoint
noncomputable def ziv (s0:THeap):Option Bool :=
 zfr s0 0 >>= fun t =>
 match t with
 | .inl t =>
  zgd s0 0 >>= fun t_1 =>
  match t_1 with
  | .inl t_1 =>
   some true
  | .inr t_1 =>
   some t_1
 | .inr t =>
  some t
noncomputable def zlo (p0:THeap):Option Bool :=
 zch p0.Next 0 1000000 >>= fun r10 =>
 if r10=true then
  if (p0.Objects.length:Int) > 40 then
   some false
  else
   ziv p0
 else
  some false
noncomputable def zjo (p0:TValue):Option Bool :=
 some ((decide (p0.Kind=1)) && ((decide (p0.Num=0)) && ((decide (p0.Text=ByteArray.empty)) && (decide (p0.Ref=0)))))
noncomputable def zeT (s0:THeap) (s1:List TBinding) (s5:Int):Option (Unit ⊕ Bool) :=
 if s5<(s1.length:Int) then
  idx s1 s5 >>= fun a17 =>
  zfJ a17.Name >>= fun r20 =>
  if r20=true then
   if s5 > 0 then
    idx s1 (IntKind.wrap .i64 (s5 - 1)) >>= fun a29 =>
    if (Op.bytesLess a29.Name.toList a17.Name.toList)=true then
     zel s0 a17.Value >>= fun r47 =>
     if r47=true then
      zjo a17.Value >>= fun r56 =>
      if r56=true then
       some (.inr false)
      else
       zeT s0 s1 (IntKind.wrap .i64 (s5 + 1))
     else
      some (.inr false)
    else
     some (.inr false)
   else
    zel s0 a17.Value >>= fun r47 =>
    if r47=true then
     zjo a17.Value >>= fun r56 =>
     if r56=true then
      some (.inr false)
     else
      zeT s0 s1 (IntKind.wrap .i64 (s5 + 1))
    else
     some (.inr false)
  else
   some (.inr false)
 else
  some (.inl ())
 partial_fixpoint
noncomputable def zge (p0:THeap) (p1:List TBinding):Option Bool :=
 if (p1.length:Int) > 40 then
  some false
 else
  zeT p0 p1 0 >>= fun t =>
  match t with
  | .inl t =>
   some true
  | .inr t =>
   some t
noncomputable def zdY (s0 s3:Int) (s12:Bool):Option ((Bool × Bool × Bool × Bool × Bool) ⊕ Int) :=
 if s12=true then
  some (.inr 2)
 else
  if s3=8 then
   some (.inr 3)
  else
   if s3=12 then
    some (.inr 3)
   else
    if s3=15 then
     some (.inr 3)
    else
     some (.inl (false,false,false,false,false))
noncomputable def zcp (s0 s3:Int) (s4:Bool):Option ((Bool × Bool × Bool × Bool × Bool) ⊕ Int) :=
 if s4=true then
  some (.inr 1)
 else
  if s3=4 then
   zdY s0 s3 true >>= fun t =>
   match t with
   | .inl t =>
    some (.inl (t.1,t.2.1,t.2.2.1,t.2.2.2.1,t.2.2.2.2))
   | .inr t =>
    some (.inr t)
  else
   if s3=5 then
    zdY s0 s3 true >>= fun t =>
    match t with
    | .inl t =>
     some (.inl (t.1,t.2.1,t.2.2.1,t.2.2.2.1,t.2.2.2.2))
    | .inr t =>
     some (.inr t)
   else
    if s3=9 then
     zdY s0 s3 true >>= fun t =>
     match t with
     | .inl t =>
      some (.inl (t.1,t.2.1,t.2.2.1,t.2.2.2.1,t.2.2.2.2))
     | .inr t =>
      some (.inr t)
    else
     if s3=11 then
      zdY s0 s3 true >>= fun t =>
      match t with
      | .inl t =>
       some (.inl (t.1,t.2.1,t.2.2.1,t.2.2.2.1,t.2.2.2.2))
      | .inr t =>
       some (.inr t)
     else
      zdY s0 s3 (decide (s3=14)) >>= fun t =>
      match t with
      | .inl t =>
       some (.inl (t.1,t.2.1,t.2.2.1,t.2.2.2.1,t.2.2.2.2))
      | .inr t =>
       some (.inr t)
noncomputable def zfz (p0:Int):Option Int :=
 if p0=6 then
  zcp p0 p0 true >>= fun t =>
  match t with
  | .inl t =>
   some 0
  | .inr t =>
   some t
 else
  if p0=7 then
   zcp p0 p0 true >>= fun t =>
   match t with
   | .inl t =>
    some 0
   | .inr t =>
    some t
  else
   if p0=10 then
    zcp p0 p0 true >>= fun t =>
    match t with
    | .inl t =>
     some 0
    | .inr t =>
     some t
   else
    if p0=13 then
     zcp p0 p0 true >>= fun t =>
     match t with
     | .inl t =>
      some 0
     | .inr t =>
      some t
    else
     if p0=16 then
      zcp p0 p0 true >>= fun t =>
      match t with
      | .inl t =>
       some 0
      | .inr t =>
       some t
     else
      if p0=17 then
       zcp p0 p0 true >>= fun t =>
       match t with
       | .inl t =>
        some 0
       | .inr t =>
        some t
      else
       zcp p0 p0 (decide (p0=18)) >>= fun t =>
       match t with
       | .inl t =>
        some 0
       | .inr t =>
        some t
noncomputable def zeM:Option ((List ByteArray)) :=
 some ([⟨#[97,100,100]⟩,⟨#[115,117,98]⟩,⟨#[109,117,108]⟩,⟨#[100,105,118]⟩,⟨#[99,97,116]⟩,⟨#[108,116]⟩,⟨#[108,101]⟩,⟨#[101,113]⟩,⟨#[110,101]⟩,⟨#[103,116]⟩,⟨#[103,101]⟩,⟨#[115,101,113]⟩,⟨#[115,110,101]⟩,⟨#[115,108,116]⟩,⟨#[105,115]⟩])
noncomputable def zem (s0:List ByteArray) (s1:ByteArray) (s5:Int):Option (Unit ⊕ Int) :=
 if s5<(s0.length:Int) then
  idx s0 s5 >>= fun a14 =>
  if a14=s1 then
   some (.inr s5)
  else
   zem s0 s1 (IntKind.wrap .i64 (s5 + 1))
 else
  some (.inl ())
 partial_fixpoint
noncomputable def zeI (p0:List ByteArray) (p1:ByteArray):Option Int :=
 zem p0 p1 0 >>= fun t =>
 match t with
 | .inl t =>
  some (-1)
 | .inr t =>
  some t
noncomputable def zen (s0:TGen) (s53:Int) (s88:Bool):Option (Bool ⊕ Bool) :=
 if s88=true then
  zfJ s0.Text >>= fun r96 =>
  some (.inr r96)
 else
  if s53=11 then
   zeM >>= fun r99 =>
   zeI r99 s0.Text >>= fun r104 =>
   some (.inr ((decide (r104 ≥ 0))))
  else
   if s53=6 then
    if s0.Text=⟨#[]⟩ then
     zch s0.Num 0 60 >>= fun r118 =>
     some (.inr r118)
    else
     some (.inr false)
   else
    some (.inl false)
noncomputable def zeo (s0:TGen):Option Bool :=
 some (decide (s0.Text=⟨#[]⟩))
noncomputable def zdo (s0:TGen):Option Bool :=
 if s0.Kind=1 then
  if s0.Text=⟨#[]⟩ then
   zbT s0.Value >>= fun r71 =>
   if r71=true then
    if s0.Value.Kind=1 then
     some true
    else
     if s0.Value.Kind=2 then
      some true
     else
      zeG s0.Value >>= fun r85 =>
      some r85
   else
    some false
  else
   some false
 else
  if s0.Kind=2 then
   zen s0 s0.Kind true >>= fun t =>
   match t with
   | .inl t =>
    zeo s0 >>= fun t_1 =>
    some t_1
   | .inr t =>
    some t
  else
   if s0.Kind=16 then
    zen s0 s0.Kind true >>= fun t =>
    match t with
    | .inl t =>
     zeo s0 >>= fun t_1 =>
     some t_1
    | .inr t =>
     some t
   else
    zen s0 s0.Kind (decide (s0.Kind=17)) >>= fun t =>
    match t with
    | .inl t =>
     zeo s0 >>= fun t_1 =>
     some t_1
    | .inr t =>
     some t
noncomputable def zgx (s0:TGen):Option Bool :=
 if s0.Kind=6 then
  if s0.Kind=1 then
   zdo s0 >>= fun t =>
   some t
  else
   if s0.Value.Kind=0 then
    if s0.Value.Num=0 then
     if s0.Value.Text=ByteArray.empty then
      if s0.Value.Ref=0 then
       zdo s0 >>= fun t =>
       some t
      else
       some false
     else
      some false
    else
     some false
   else
    some false
 else
  if s0.Num=0 then
   if s0.Kind=1 then
    zdo s0 >>= fun t =>
    some t
   else
    if s0.Value.Kind=0 then
     if s0.Value.Num=0 then
      if s0.Value.Text=ByteArray.empty then
       if s0.Value.Ref=0 then
        zdo s0 >>= fun t =>
        some t
       else
        some false
      else
       some false
     else
      some false
    else
     some false
  else
   some false
noncomputable def zgf (p0:TGen):Option Bool :=
 zch p0.Kind 1 18 >>= fun r8 =>
 if r8=true then
  zfz p0.Kind >>= fun r20 =>
  if (p0.Kids.length:Int)=r20 then
   zgx p0
  else
   some false
 else
  some false
mutual
noncomputable def zeU (s0:TGen) (s3 s4:Int):Option (Int × Int × Int × (List TGen) × TGen × Int × Int) :=
 idx s0.Kids s4 >>= fun a27 =>
 zeV a27 >>= fun r28 =>
 some (IntKind.wrap .i64 (s3 + r28),IntKind.wrap .i64 (s4 + 1),IntKind.wrap .i64 (s4 + 1),s0.Kids,a27,r28,IntKind.wrap .i64 (s3 + r28))
 partial_fixpoint
noncomputable def zeV (p0:TGen):Option Int :=
 zgf p0 >>= fun r6 =>
 if r6=true then
  zbz p0 1 0 >>= fun t =>
  some t
 else
  some 61
 partial_fixpoint
noncomputable def zbz (s0:TGen) (s3 s4:Int):Option Int :=
 if s4<(s0.Kids.length:Int) then
  if s3≤60 then
   zeU s0 s3 s4 >>= fun t =>
   zbz s0 t.1 t.2.1
  else
   some s3
 else
  some s3
 partial_fixpoint
end
noncomputable def zjR (p0:TGen):Option Bool :=
 zeV p0 >>= fun r4 =>
 some (decide (r4≤60))
mutual
noncomputable def zbU (s0:THeap) (s1:TGen) (s5:Int):Option (Unit ⊕ Bool) :=
 if s5<(s1.Kids.length:Int) then
  idx s1.Kids s5 >>= fun a35 =>
  zep s0 a35 >>= fun r36 =>
  if r36=true then
   zbU s0 s1 (IntKind.wrap .i64 (s5 + 1))
  else
   some (.inr false)
 else
  some (.inl ())
 partial_fixpoint
noncomputable def zep (p0:THeap) (p1:TGen):Option Bool :=
 if p1.Kind=1 then
  zel p0 p1.Value >>= fun r17 =>
  if r17=true then
   zdZ p0 p1
  else
   some false
 else
  zdZ p0 p1
 partial_fixpoint
noncomputable def zdZ (s0:THeap) (s1:TGen):Option Bool :=
 zbU s0 s1 0 >>= fun t =>
 match t with
 | .inl t =>
  some true
 | .inr t =>
  some t
 partial_fixpoint
end
noncomputable def zgg (p0:TCursor):Option Bool :=
 if p0.Phase=0 then
  if p0.Count=0 then
   if (p0.Vals.length:Int)=0 then
    some (decide ((p0.Kids.length:Int)=0))
   else
    some false
  else
   some false
 else
  some false
noncomputable def zbG (p0:TGen) (p1:TCursor):Option Bool :=
 if p0.Kind=6 then
  zch p1.Count 1 p0.Num >>= fun r19 =>
  some r19
 else
  if p0.Kind=12 then
   zch p1.Count 1 2000000000001 >>= fun r26 =>
   some r26
  else
   if p0.Kind=13 then
    zch p1.Count 1 200 >>= fun r33 =>
    some r33
   else
    some (decide (p1.Count=0))
noncomputable def zdf (p0:TGen):Option Int :=
 if p0.Kind=17 then
  some 2
 else
  if p0.Kind ≥ 11 then
   zfz p0.Kind >>= fun r17 =>
   some r17
  else
   some 0
mutual
noncomputable def zbb (s0:THeap) (s1:TGen) (s2:TCursor) (s34:Int) (s38:Bool):Option (Bool ⊕ Bool) :=
 if s38=true then
  if s2.Phase=1 then
   some (.inr ((decide ((s2.Kids.length:Int)=0))))
  else
   some (.inr false)
 else
  if s34=4 then
   zch s2.Phase 1 2 >>= fun r61 =>
   if r61=true then
    if (s2.Kids.length:Int)=1 then
     idx s1.Kids (IntKind.wrap .i64 (s2.Phase - 1)) >>= fun a81 =>
     idxN s2.Kids 0 >>= fun a86 =>
     zaj s0 a81 a86 >>= fun r87 =>
     some (.inr r87)
    else
     some (.inr false)
   else
    some (.inr false)
  else
   if s34=8 then
    zch s2.Phase 2 3 >>= fun r95 =>
    if r95=true then
     if (s2.Kids.length:Int)=1 then
      idx s1.Kids (IntKind.wrap .i64 (s2.Phase - 1)) >>= fun a115 =>
      idxN s2.Kids 0 >>= fun a120 =>
      zaj s0 a115 a120 >>= fun r121 =>
      some (.inr r121)
     else
      some (.inr false)
    else
     some (.inr false)
   else
    some (.inl false)
 partial_fixpoint
noncomputable def zaj (p0:THeap) (p1:TGen) (p2:TCursor):Option Bool :=
 zbG p1 p2 >>= fun r10 =>
 if r10=true then
  zdf p1 >>= fun r19 =>
  if (p2.Vals.length:Int)=r19 then
   zeH p0 p2.Vals >>= fun r28 =>
   if r28=true then
    zas p0 p1 p2
   else
    some false
  else
   some false
 else
  some false
 partial_fixpoint
noncomputable def zas (s0:THeap) (s1:TGen) (s2:TCursor):Option Bool :=
 if s1.Kind=3 then
  zbB s0 s1 s2 s1.Kind true >>= fun t =>
  match t with
  | .inl t =>
   zbC s0 s1 s2 >>= fun t_1 =>
   some t_1
  | .inr t =>
   some t
 else
  zbB s0 s1 s2 s1.Kind (decide (s1.Kind=9)) >>= fun t =>
  match t with
  | .inl t =>
   zbC s0 s1 s2 >>= fun t_1 =>
   some t_1
  | .inr t =>
   some t
 partial_fixpoint
noncomputable def zbC (s0:THeap) (s1:TGen) (s2:TCursor):Option Bool :=
 if s2.Phase=1 then
  if (s2.Kids.length:Int)=(s1.Kids.length:Int) then
   zbD s0 s1 s2 >>= fun t =>
   some t
  else
   some false
 else
  some false
 partial_fixpoint
noncomputable def zbD (s0:THeap) (s1:TGen) (s2:TCursor):Option Bool :=
 zaC s0 s1 s2 0 >>= fun t =>
 match t with
 | .inl t =>
  some true
 | .inr t =>
  some t
 partial_fixpoint
noncomputable def zaC (s0:THeap) (s1:TGen) (s2:TCursor) (s7:Int):Option (Unit ⊕ Bool) :=
 if s7<(s2.Kids.length:Int) then
  idx s1.Kids s7 >>= fun a156 =>
  idx s2.Kids s7 >>= fun a162 =>
  zaj s0 a156 a162 >>= fun r163 =>
  if r163=true then
   zaC s0 s1 s2 (IntKind.wrap .i64 (s7 + 1))
  else
   some (.inr false)
 else
  some (.inl ())
 partial_fixpoint
noncomputable def zbB (s0:THeap) (s1:TGen) (s2:TCursor) (s34:Int) (s35:Bool):Option (Unit ⊕ Bool) :=
 if s35=true then
  some (.inr false)
 else
  if s34=1 then
   zbb s0 s1 s2 s34 true >>= fun t =>
   match t with
   | .inl t =>
    some (.inl ())
   | .inr t =>
    some (.inr t)
  else
   if s34=2 then
    zbb s0 s1 s2 s34 true >>= fun t =>
    match t with
    | .inl t =>
     some (.inl ())
    | .inr t =>
     some (.inr t)
   else
    zbb s0 s1 s2 s34 (decide (s34=7)) >>= fun t =>
    match t with
    | .inl t =>
     some (.inl ())
    | .inr t =>
     some (.inr t)
 partial_fixpoint
end
noncomputable def zht (s0:THeap) (s1:TCoexpr):Option Bool :=
 zgg s1.Cursor >>= fun r66 =>
 some r66
noncomputable def ziw (s0:THeap) (s1:TCoexpr):Option Bool :=
 zaj s0 s1.Body s1.Cursor >>= fun r74 =>
 some r74
noncomputable def zix (s0:THeap) (s1:TCoexpr):Option Bool :=
 if s1.Done=true then
  zht s0 s1 >>= fun t =>
  some t
 else
  if s1.Count=0 then
   zht s0 s1 >>= fun t =>
   some t
  else
   ziw s0 s1 >>= fun t =>
   some t
noncomputable def ziy (p0:THeap) (p1:TCoexpr):Option Bool :=
 zch p1.Id 1 1000000 >>= fun r9 =>
 if r9=true then
  zjR p1.Body >>= fun r15 =>
  if r15=true then
   zep p0 p1.Body >>= fun r23 =>
   if r23=true then
    zge p0 p1.Start >>= fun r32 =>
    if r32=true then
     zge p0 p1.Vars >>= fun r41 =>
     if r41=true then
      zch p1.Count 0 1000000 >>= fun r49 =>
      if r49=true then
       zix p0 p1
      else
       some false
     else
      some false
    else
     some false
   else
    some false
  else
   some false
 else
  some false
noncomputable def zdp (s0:TGenScope) (s3:Int):Option (Unit ⊕ Bool) :=
 if s3<(s0.Cos.length:Int) then
  idx s0.Cos s3 >>= fun a53 =>
  ziy s0.Heap a53 >>= fun r54 =>
  if r54=true then
   if s3 > 0 then
    idx s0.Cos (IntKind.wrap .i64 (s3 - 1)) >>= fun a66 =>
    if a66.Id ≥ a53.Id then
     some (.inr false)
    else
     zdp s0 (IntKind.wrap .i64 (s3 + 1))
   else
    zdp s0 (IntKind.wrap .i64 (s3 + 1))
  else
   some (.inr false)
 else
  some (.inl ())
 partial_fixpoint
noncomputable def zgy (s0:TGenScope):Option Bool :=
 zdp s0 0 >>= fun t =>
 match t with
 | .inl t =>
  some true
 | .inr t =>
  some t
noncomputable def zfs (p0:TGenScope):Option Bool :=
 zlo p0.Heap >>= fun r7 =>
 if r7=true then
  zge p0.Heap p0.Vars >>= fun r17 =>
  if r17=true then
   if (p0.Cos.length:Int) > 8 then
    some false
   else
    zch p0.Steps 0 20000 >>= fun r33 =>
    if r33=true then
     zgy p0
    else
     some false
  else
   some false
 else
  some false
noncomputable def ziz (p0:TGenScope) (p1:TGen) (p2:TCursor):Option Bool :=
 zfs p0 >>= fun r8 =>
 if r8=true then
  zjR p1 >>= fun r11 =>
  if r11=true then
   zep p0.Heap p1 >>= fun r18 =>
   if r18=true then
    zgg p2 >>= fun r22 =>
    if r22=true then
     some true
    else
     zaj p0.Heap p1 p2 >>= fun r29 =>
     some r29
   else
    some false
  else
   some false
 else
  some false
noncomputable def zbV (p0:List TBinding):Option ((List TBinding)) :=
 chk (p0.length≤most) >>= fun _ =>
 some p0
noncomputable def zcR (p0:List TValue):Option ((List TValue)) :=
 chk (p0.length≤most) >>= fun _ =>
 some p0
noncomputable def zdB (p0:TObject):Option TObject :=
 zcR p0.Keys >>= fun r5 =>
 zcR p0.Vals >>= fun r9 =>
 some (TObject.mk p0.Id p0.Kind p0.Name p0.Low r5 r9 p0.Default)
noncomputable def zgz (s0 s2 s3:THeap) (s4:Int):Option THeap :=
 if s4<(s0.Objects.length:Int) then
  idx s0.Objects s4 >>= fun a26 =>
  zdB a26 >>= fun r28 =>
  app s3.Objects ([r28]) >>= fun c30 =>
  zgz s0 s2 (THeap.mk s3.Next c30) (IntKind.wrap .i64 (s4 + 1))
 else
  some s3
 partial_fixpoint
noncomputable def zjp (p0:THeap):Option THeap :=
 zgz p0 (THeap.mk 0 ([])) (THeap.mk p0.Next ([])) 0 >>= fun t =>
 some t
mutual
noncomputable def zbh (s0 s2 s3:TGen) (s4:Int):Option TGen :=
 if s4<(s0.Kids.length:Int) then
  idx s0.Kids s4 >>= fun a38 =>
  zct a38 >>= fun r39 =>
  app s3.Kids ([r39]) >>= fun c41 =>
  zbh s0 s2 (TGen.mk s3.Kind s3.Num s3.Text s3.Value c41) (IntKind.wrap .i64 (s4 + 1))
 else
  some s3
 partial_fixpoint
noncomputable def zct (p0:TGen):Option TGen :=
 zbh p0 (TGen.mk 0 0 ByteArray.empty (TValue.mk 0 0 ByteArray.empty 0) ([])) (TGen.mk p0.Kind p0.Num p0.Text p0.Value ([])) 0 >>= fun t =>
 some t
 partial_fixpoint
end
mutual
noncomputable def zaH (s0 s2 s3:TCursor) (s4:Int):Option TCursor :=
 if s4<(s0.Kids.length:Int) then
  idx s0.Kids s4 >>= fun a35 =>
  zbA a35 >>= fun r36 =>
  app s3.Kids ([r36]) >>= fun c38 =>
  zaH s0 s2 (TCursor.mk s3.Phase s3.Count s3.Vals c38) (IntKind.wrap .i64 (s4 + 1))
 else
  some s3
 partial_fixpoint
noncomputable def zbA (p0:TCursor):Option TCursor :=
 zcR p0.Vals >>= fun r17 =>
 zaH p0 (TCursor.mk 0 0 ([]) ([])) (TCursor.mk p0.Phase p0.Count r17 ([])) 0 >>= fun t =>
 some t
 partial_fixpoint
end
noncomputable def zgh (p0:TCoexpr):Option TCoexpr :=
 zct p0.Body >>= fun r10 =>
 zbV p0.Start >>= fun r15 =>
 zbV p0.Vars >>= fun r20 =>
 zbA p0.Cursor >>= fun r24 =>
 some (TCoexpr.mk p0.Id r10 r15 r20 r24 p0.Count p0.Done)
noncomputable def zgA (s0 s2 s3:TGenScope) (s4:Int):Option TGenScope :=
 if s4<(s0.Cos.length:Int) then
  idx s0.Cos s4 >>= fun a35 =>
  zgh a35 >>= fun r36 =>
  app s3.Cos ([r36]) >>= fun c38 =>
  zgA s0 s2 (TGenScope.mk s3.Vars s3.Heap c38 s3.Steps) (IntKind.wrap .i64 (s4 + 1))
 else
  some s3
 partial_fixpoint
noncomputable def zjq (p0:TGenScope):Option TGenScope :=
 zbV p0.Vars >>= fun r9 =>
 zjp p0.Heap >>= fun r13 =>
 zgA p0 (TGenScope.mk ([]) (THeap.mk 0 ([])) ([]) 0) (TGenScope.mk r9 r13 ([]) p0.Steps) 0 >>= fun t =>
 some t
noncomputable def zhP (s0:TGenScope) (s1:TGen) (s2:List TBinding) (s6:TGenScope) (s9:Int):Option ((TGenScope × Int × Int)) :=
 zjq s0 >>= fun r41 =>
 zct s1 >>= fun r46 =>
 zbV s2 >>= fun r48 =>
 zbV s2 >>= fun r50 =>
 app r41.Cos ([TCoexpr.mk s9 r46 r48 r50 (TCursor.mk 0 0 ([]) ([])) 0 false]) >>= fun c53 =>
 some (TGenScope.mk r41.Vars r41.Heap c53 r41.Steps,s9,0)
noncomputable def zfA (s0:TGenScope) (s1:TGen) (s2:List TBinding) (s6:TGenScope) (s9:Int):Option ((TGenScope × Int × Int)) :=
 if (s0.Cos.length:Int) ≥ 8 then
  some (TGenScope.mk ([]) (THeap.mk 0 ([])) ([]) 0,0,6)
 else
  if s9 > 1000000 then
   some (TGenScope.mk ([]) (THeap.mk 0 ([])) ([]) 0,0,6)
  else
   zhP s0 s1 s2 s6 s9 >>= fun t =>
   some t
noncomputable def zjr (p0:TGenScope) (p1:TGen) (p2:List TBinding):Option (TGenScope × Int × Int) :=
 if (p0.Cos.length:Int) > 0 then
  idx p0.Cos (IntKind.wrap .i64 ((p0.Cos.length:Int) - 1)) >>= fun a25 =>
  zfA p0 p1 p2 (TGenScope.mk ([]) (THeap.mk 0 ([])) ([]) 0) (IntKind.wrap .i64 (a25.Id + 1))
 else
  zfA p0 p1 p2 (TGenScope.mk ([]) (THeap.mk 0 ([])) ([]) 0) 1
noncomputable def ziA (p0:TGenScope) (p1:TGen):Option (TGenScope × Int × Int) :=
 ziz p0 p1 (TCursor.mk 0 0 ([]) ([])) >>= fun r9 =>
 if r9=true then
  zjr p0 p1 p0.Vars >>= fun r14 =>
  some (r14.1,r14.2.1,r14.2.2)
 else
  some (TGenScope.mk ([]) (THeap.mk 0 ([])) ([]) 0,0,1)
noncomputable def zcb (p0 p1 p2:Int):Option Bool :=
 if p0 ≥ p1 then
  some (decide (p0≤p2))
 else
  some false
noncomputable def zeW (p0:Int):Option Bool :=
 zcb p0 1 1000000 >>= fun r4 =>
 some r4
noncomputable def zgi (p0:Int):Option Bool :=
 if p0 ≥ 65 then
  if p0≤90 then
   some true
  else
   if p0 ≥ 97 then
    some (decide (p0≤122))
   else
    some false
 else
  if p0 ≥ 97 then
   some (decide (p0≤122))
  else
   some false
noncomputable def zie (p0:Int):Option Bool :=
 if p0 ≥ 48 then
  some (decide (p0≤57))
 else
  some false
noncomputable def zeX (p0:Int):Option Bool :=
 zgi p0 >>= fun r4 =>
 if r4=true then
  some true
 else
  zie p0 >>= fun r7 =>
  if r7=true then
   some true
  else
   some (decide (p0=95))
noncomputable def zdM (s0 s7:List Int) (s8 s9:Int):Option (Unit ⊕ Bool) :=
 if s9<s8 then
  idx s7 s9 >>= fun a11 =>
  zeX a11 >>= fun r15 =>
  if r15=true then
   zdM s0 s7 s8 (IntKind.wrap .i64 (s9 + 1))
  else
   some (.inr false)
 else
  some (.inl ())
 partial_fixpoint
noncomputable def zfi (p0:List Int):Option Bool :=
 zdM p0 p0 (p0.length:Int) 0 >>= fun t =>
 match t with
 | .inl t =>
  some true
 | .inr t =>
  some t
noncomputable def zfK (p0:ByteArray):Option Bool :=
 if (p0.size:Int) ≥ 1 then
  if (p0.size:Int)≤12 then
   idxBN p0 0 >>= fun b13 =>
   zgi (b13.toNat:Int) >>= fun r14 =>
   if r14=true then
    zfi (strI p0) >>= fun r19 =>
    some r19
   else
    some false
  else
   some false
 else
  some false
noncomputable def zeq (s1:TValue) (s65:Bool):Option (Bool ⊕ Bool) :=
 if s65=true then
  if s1.Num=0 then
   if s1.Ref=0 then
    zfK s1.Text >>= fun r78 =>
    some (.inr r78)
   else
    some (.inr false)
  else
   some (.inr false)
 else
  some (.inl false)
noncomputable def zdg (s1:TValue) (s4:Int) (s49:Bool):Option (Unit ⊕ Bool) :=
 if s49=true then
  if s1.Num=0 then
   if s1.Text=ByteArray.empty then
    zeW s1.Ref >>= fun r63 =>
    some (.inr r63)
   else
    some (.inr false)
  else
   some (.inr false)
 else
  if s4=7 then
   zeq s1 true >>= fun t =>
   match t with
   | .inl t =>
    some (.inl ())
   | .inr t =>
    some (.inr t)
  else
   zeq s1 (decide (s4=8)) >>= fun t =>
   match t with
   | .inl t =>
    some (.inl ())
   | .inr t =>
    some (.inr t)
noncomputable def zbn (p0:TValue):Option Bool :=
 if p0.Kind=1 then
  if p0.Num=0 then
   if p0.Ref=0 then
    some (decide ((p0.Text.size:Int)≤200))
   else
    some false
  else
   some false
 else
  if p0.Kind=2 then
   if p0.Text=ByteArray.empty then
    if p0.Ref=0 then
     zcb p0.Num (-1000000000000) 1000000000000 >>= fun r28 =>
     some r28
    else
     some false
   else
    some false
  else
   if p0.Kind=3 then
    if p0.Num=0 then
     if p0.Ref=0 then
      if (p0.Text.size:Int) ≥ 1 then
       some (decide ((p0.Text.size:Int)≤1200))
      else
       some false
     else
      some false
    else
     some false
   else
    if p0.Kind=4 then
     zdg p0 p0.Kind true >>= fun t =>
     match t with
     | .inl t =>
      some false
     | .inr t =>
      some t
    else
     if p0.Kind=5 then
      zdg p0 p0.Kind true >>= fun t =>
      match t with
      | .inl t =>
       some false
      | .inr t =>
       some t
     else
      zdg p0 p0.Kind (decide (p0.Kind=6)) >>= fun t =>
      match t with
      | .inl t =>
       some false
      | .inr t =>
       some t
noncomputable def zdq (s0 s7:List TValue) (s8 s9:Int):Option (Unit ⊕ Bool) :=
 if s9<s8 then
  idx s7 s9 >>= fun a11 =>
  zbn a11 >>= fun r15 =>
  if r15=true then
   zdq s0 s7 s8 (IntKind.wrap .i64 (s9 + 1))
  else
   some (.inr false)
 else
  some (.inl ())
 partial_fixpoint
noncomputable def zdC (p0:List TValue):Option Bool :=
 zdq p0 p0 (p0.length:Int) 0 >>= fun t =>
 match t with
 | .inl t =>
  some true
 | .inr t =>
  some t
noncomputable def zam (s0:List TValue) (s3:TValue) (s7 s8:Int):Option (Unit ⊕ Int) :=
 if s8<s7 then
  idx s0 s8 >>= fun a14 =>
  if s3.Kind=a14.Kind then
   if s3.Num=a14.Num then
    if s3.Text=a14.Text then
     if s3.Ref=a14.Ref then
      some (.inr s8)
     else
      zam s0 s3 s7 (IntKind.wrap .i64 (s8 + 1))
    else
     zam s0 s3 s7 (IntKind.wrap .i64 (s8 + 1))
   else
    zam s0 s3 s7 (IntKind.wrap .i64 (s8 + 1))
  else
   zam s0 s3 s7 (IntKind.wrap .i64 (s8 + 1))
 else
  some (.inl ())
 partial_fixpoint
noncomputable def zci (p0:List TValue) (p1:TValue):Option Int :=
 zam p0 p1 (p0.length:Int) 0 >>= fun t =>
 match t with
 | .inl t =>
  some (-1)
 | .inr t =>
  some t
noncomputable def zaE (p0:List TValue) (p1:TValue):Option Bool :=
 zci p0 p1 >>= fun r7 =>
 some (decide (r7 ≥ 0))
noncomputable def zdr (s0 s5:List TValue) (s6 s7:Int):Option (Unit ⊕ Bool) :=
 if s7<s6 then
  idx s5 s7 >>= fun a10 =>
  subH s0 s7 >>= fun c14 =>
  zaE c14 a10 >>= fun r16 =>
  if r16=true then
   some (.inr false)
  else
   zdr s0 s5 s6 (IntKind.wrap .i64 (s7 + 1))
 else
  some (.inl ())
 partial_fixpoint
noncomputable def zdD (p0:List TValue):Option Bool :=
 zdr p0 p0 (p0.length:Int) 0 >>= fun t =>
 match t with
 | .inl t =>
  some true
 | .inr t =>
  some t
noncomputable def zjs (p0:ByteArray):Option TValue :=
 some (TValue.mk 1 0 p0 0)
noncomputable def zhb (p0:TValue):Option Bool :=
 zjs p0.Text >>= fun r6 =>
 if p0.Kind=r6.Kind then
  if p0.Num=r6.Num then
   if p0.Text=r6.Text then
    if p0.Ref=r6.Ref then
     zfK p0.Text >>= fun r11 =>
     some r11
    else
     some false
   else
    some false
  else
   some false
 else
  some false
noncomputable def zcu (s0 s7:List TValue) (s8 s9:Int):Option (Unit ⊕ Bool) :=
 if s9<s8 then
  idx s7 s9 >>= fun a11 =>
  zhb a11 >>= fun r15 =>
  if r15=true then
   zcu s0 s7 s8 (IntKind.wrap .i64 (s9 + 1))
  else
   some (.inr false)
 else
  some (.inl ())
 partial_fixpoint
noncomputable def zdN (p0:List TValue):Option Bool :=
 zcu p0 p0 (p0.length:Int) 0 >>= fun t =>
 match t with
 | .inl t =>
  some true
 | .inr t =>
  some t
noncomputable def zcL (s1:TObject) (s3:Bool):Option Bool :=
 if s1.Low=0 then
  if s3=true then
   zbn s1.Default >>= fun r74 =>
   if r74=true then
    some (decide (s1.Name=⟨#[]⟩))
   else
    some false
  else
   some false
 else
  some false
noncomputable def zbq (s1:TObject) (s5:Bool):Option Bool :=
 if s1.Low=0 then
  if s5=true then
   if s1.Default.Kind=0 then
    if s1.Default.Num=0 then
     if s1.Default.Text=ByteArray.empty then
      if s1.Default.Ref=0 then
       zfK s1.Name >>= fun r124 =>
       some r124
      else
       some false
     else
      some false
    else
     some false
   else
    some false
  else
   some false
 else
  some false
noncomputable def zdO (s1:TObject):Option Bool :=
 if s1.Kind=1 then
  zcb s1.Low (-1000) 1000 >>= fun r28 =>
  if r28=true then
   if (s1.Keys.length:Int)=0 then
    if s1.Default.Kind=0 then
     if s1.Default.Num=0 then
      if s1.Default.Text=ByteArray.empty then
       if s1.Default.Ref=0 then
        some (decide (s1.Name=⟨#[]⟩))
       else
        some false
      else
       some false
     else
      some false
    else
     some false
   else
    some false
  else
   some false
 else
  if s1.Kind=2 then
   if (s1.Keys.length:Int)=(s1.Vals.length:Int) then
    zdC s1.Keys >>= fun r58 =>
    if r58=true then
     zdD s1.Keys >>= fun r63 =>
     zcL s1 r63 >>= fun t =>
     some t
    else
     zcL s1 false >>= fun t =>
     some t
   else
    zcL s1 false >>= fun t =>
    some t
  else
   if s1.Kind=3 then
    if (s1.Keys.length:Int) ≥ 1 then
     if (s1.Keys.length:Int)≤6 then
      if (s1.Keys.length:Int)=(s1.Vals.length:Int) then
       zdN s1.Keys >>= fun r102 =>
       if r102=true then
        zdD s1.Keys >>= fun r107 =>
        zbq s1 r107 >>= fun t =>
        some t
       else
        zbq s1 false >>= fun t =>
        some t
      else
       zbq s1 false >>= fun t =>
       some t
     else
      zbq s1 false >>= fun t =>
      some t
    else
     zbq s1 false >>= fun t =>
     some t
   else
    some false
noncomputable def zer (p0:TObject):Option Bool :=
 zeW p0.Id >>= fun r8 =>
 if r8=true then
  if (p0.Vals.length:Int) > 30 then
   some false
  else
   zdC p0.Vals >>= fun r19 =>
   if r19=true then
    zdO p0
   else
    some false
 else
  some false
noncomputable def zcX (s0 s7:List TObject) (s8 s9:Int):Option (Unit ⊕ Bool) :=
 if s9<s8 then
  idx s7 s9 >>= fun a11 =>
  zer a11 >>= fun r15 =>
  if r15=true then
   zcX s0 s7 s8 (IntKind.wrap .i64 (s9 + 1))
  else
   some (.inr false)
 else
  some (.inl ())
 partial_fixpoint
noncomputable def zes (p0:List TObject):Option Bool :=
 zcX p0 p0 (p0.length:Int) 0 >>= fun t =>
 match t with
 | .inl t =>
  some true
 | .inr t =>
  some t
noncomputable def zbi (a b:List TValue):Option (List TValue):=chk (a.length + b.length≤most) >>= fun _=>some (a++b)
noncomputable def zfB (p0:TObject):Option ((List TValue)) :=
 zbi p0.Keys p0.Vals >>= fun r9 =>
 if p0.Kind=2 then
  app r9 ([p0.Default]) >>= fun c17 =>
  some c17
 else
  some r9
noncomputable def zhu (p0:Int):Option Bool :=
 zcb p0 4 6 >>= fun r4 =>
 some r4
noncomputable def zet (p0:Int):Option Bool :=
 some false
noncomputable def zeJ (p0 p1:Int):Option Int :=
 zet p0 >>= fun r8 =>
 zet p1 >>= fun r10 =>
 if r8=true then
  if r10=true then
   some 0
  else
   some (-1)
 else
  if r10=true then
   some 1
  else
   if p0<p1 then
    some (-1)
   else
    if p0 > p1 then
     some 1
    else
     some 0
noncomputable def zeu (p0:TObject) (p1:Int):Option Int :=
 zeJ p0.Id p1 >>= fun r8 =>
 some r8
noncomputable def zah (s0:List TObject) (s1 s8 s9 s10:Int):Option Int :=
 if s9<s10 then
  idx s0 (IntKind.wrap .i64 ((IntKind.wrap .u64 (IntKind.wrap .i64 (s9 + s10))).fdiv (2 ^ (min 1 (IntKind.bits .u64))))) >>= fun a27 =>
  zeu a27 s1 >>= fun r30 =>
  if r30<0 then
   zah s0 s1 s8 (IntKind.wrap .i64 (IntKind.wrap .i64 ((IntKind.wrap .u64 (IntKind.wrap .i64 (s9 + s10))).fdiv (2 ^ (min 1 (IntKind.bits .u64)))) + 1)) s10
  else
   zah s0 s1 s8 s9 (IntKind.wrap .i64 ((IntKind.wrap .u64 (IntKind.wrap .i64 (s9 + s10))).fdiv (2 ^ (min 1 (IntKind.bits .u64)))))
 else
  some s9
 partial_fixpoint
noncomputable def zaA (p0:List TObject) (p1:Int):Option (Int × Bool) :=
 zah p0 p1 (p0.length:Int) 0 (p0.length:Int) >>= fun t =>
 if t<(p0.length:Int) then
  idx p0 t >>= fun a43 =>
  zeu a43 p1 >>= fun r46 =>
  some (t,(decide (r46=0)))
 else
  some (t,false)
noncomputable def zgB (p0:THeap) (p1:Int):Option Int :=
 zaA p0.Objects p1 >>= fun r11 =>
 if r11.2=true then
  some r11.1
 else
  some (-1)
noncomputable def zhc (p0:Int):Option Int :=
 some (IntKind.wrap .i64 (IntKind.wrap .i64 (p0 - 4) + 1))
noncomputable def zfQ (s2:THeap) (s3:TValue):Option Bool :=
 zgB s2 s3.Ref >>= fun r20 =>
 if r20 ≥ 0 then
  idx s2.Objects r20 >>= fun a27 =>
  zhc s3.Kind >>= fun r32 =>
  some (decide (a27.Kind=r32))
 else
  some false
noncomputable def zdT (p0:THeap) (p1:TValue):Option Bool :=
 zbn p1 >>= fun r7 =>
 if r7=true then
  zhu p1.Kind >>= fun r12 =>
  if r12=true then
   zfQ p0 p1
  else
   zbn p1 >>= fun r16 =>
   some r16
 else
  zbn p1 >>= fun r16 =>
  some r16
noncomputable def zcv (s0:List TValue) (s1:THeap) (s7:List TValue) (s8 s9:Int):Option (Unit ⊕ Bool) :=
 if s9<s8 then
  idx s7 s9 >>= fun a11 =>
  zdT s1 a11 >>= fun r15 =>
  if r15=true then
   zcv s0 s1 s7 s8 (IntKind.wrap .i64 (s9 + 1))
  else
   some (.inr false)
 else
  some (.inl ())
 partial_fixpoint
noncomputable def zbP (p0:List TValue) (p1:THeap):Option Bool :=
 zcv p0 p1 p0 (p0.length:Int) 0 >>= fun t =>
 match t with
 | .inl t =>
  some true
 | .inr t =>
  some t
noncomputable def zev (p0:TObject) (g0:THeap):Option Bool :=
 zfB p0 >>= fun r5 =>
 zbP r5 g0 >>= fun r8 =>
 some r8
noncomputable def zcc (s0 s7:List TObject) (s8:Int) (g0:THeap) (s9:Int):Option (Unit ⊕ Bool) :=
 if s9<s8 then
  idx s7 s9 >>= fun a11 =>
  zev a11 g0 >>= fun r15 =>
  if r15=true then
   zcc s0 s7 s8 g0 (IntKind.wrap .i64 (s9 + 1))
  else
   some (.inr false)
 else
  some (.inl ())
 partial_fixpoint
noncomputable def zds (p0:List TObject) (g0:THeap):Option Bool :=
 zcc p0 p0 (p0.length:Int) g0 0 >>= fun t =>
 match t with
 | .inl t =>
  some true
 | .inr t =>
  some t
noncomputable def zdE (s1:THeap) (s23:List TObject) (s24 s3 s25:Int):Option (Unit ⊕ Bool) :=
 if s25<s24 then
  idx s23 s25 >>= fun a27 =>
  if a27.Id≤s3 then
   some (.inr false)
  else
   if a27.Id > s1.Next then
    some (.inr false)
   else
    zdE s1 s23 s24 a27.Id (IntKind.wrap .i64 (s25 + 1))
 else
  some (.inl ())
 partial_fixpoint
noncomputable def zfR (s1:THeap):Option Bool :=
 zdE s1 s1.Objects (s1.Objects.length:Int) 0 0 >>= fun t =>
 match t with
 | .inl t =>
  zds s1.Objects s1 >>= fun r46 =>
  some r46
 | .inr t =>
  some t
noncomputable def zgC (p0:THeap):Option Bool :=
 zcb p0.Next 0 1000000 >>= fun r8 =>
 if r8=true then
  if (p0.Objects.length:Int) > 40 then
   some false
  else
   zes p0.Objects >>= fun r19 =>
   if r19=true then
    zfR p0
   else
    some false
 else
  some false
noncomputable def zfC (p0:TBinding):Option ByteArray :=
 some p0.Name
noncomputable def zbW (s0:List TBinding) (s5:Int):Option (Unit ⊕ Bool) :=
 if s5<(s0.length:Int) then
  idx s0 (IntKind.wrap .i64 (s5 - 1)) >>= fun a16 =>
  zfC a16 >>= fun r18 =>
  idx s0 s5 >>= fun a22 =>
  zfC a22 >>= fun r24 =>
  if (Op.bytesLess r18.toList r24.toList)=true then
   zbW s0 (IntKind.wrap .i64 (s5 + 1))
  else
   some (.inr false)
 else
  some (.inl ())
 partial_fixpoint
noncomputable def zcY (p0:List TBinding):Option Bool :=
 zbW p0 1 >>= fun t =>
 match t with
 | .inl t =>
  some true
 | .inr t =>
  some t
noncomputable def zxx:Option TValue :=
 zjs (⟨#[]⟩) >>= fun r1 =>
 some r1
noncomputable def zlp (p0:TValue):Option Bool :=
 zxx >>= fun r4 =>
 some ((decide (p0.Kind=r4.Kind)) && ((decide (p0.Num=r4.Num)) && ((decide (p0.Text=r4.Text)) && (decide (p0.Ref=r4.Ref)))))
noncomputable def zdt (p0:TBinding):Option Bool :=
 zfK p0.Name >>= fun r5 =>
 if r5=true then
  zbn p0.Value >>= fun r9 =>
  if r9=true then
   zlp p0.Value >>= fun r14 =>
   some (!r14)
  else
   some false
 else
  some false
noncomputable def zgD (p0:TBinding) (g0:THeap):Option Bool :=
 zdt p0 >>= fun r5 =>
 if r5=true then
  zdT g0 p0.Value >>= fun r10 =>
  some r10
 else
  some false
noncomputable def zcw (s0 s7:List TBinding) (s8:Int) (g0:THeap) (s9:Int):Option (Unit ⊕ Bool) :=
 if s9<s8 then
  idx s7 s9 >>= fun a11 =>
  zgD a11 g0 >>= fun r15 =>
  if r15=true then
   zcw s0 s7 s8 g0 (IntKind.wrap .i64 (s9 + 1))
  else
   some (.inr false)
 else
  some (.inl ())
 partial_fixpoint
noncomputable def zfd (p0:List TBinding) (g0:THeap):Option Bool :=
 zcw p0 p0 (p0.length:Int) g0 0 >>= fun t =>
 match t with
 | .inl t =>
  some true
 | .inr t =>
  some t
noncomputable def zgj (p0:List TBinding) (p1:THeap):Option Bool :=
 if (p0.length:Int)≤40 then
  zcY p0 >>= fun r10 =>
  if r10=true then
   zfd p0 p1 >>= fun r15 =>
   some r15
  else
   some false
 else
  some false
noncomputable def zjt (p0:TValue):Option Bool :=
 zbn p0 >>= fun r4 =>
 if r4=true then
  if p0.Kind=1 then
   some true
  else
   if p0.Kind=2 then
    some true
   else
    zhu p0.Kind >>= fun r17 =>
    some r17
 else
  some false
noncomputable def zfL (s0 s3:Int) (s10:Bool):Option ((Bool × Bool × Bool × Bool × Bool) ⊕ Int) :=
 if s10=true then
  some (.inr 3)
 else
  if s3=1 then
   some (.inr 0)
  else
   if s3=2 then
    some (.inr 0)
   else
    if s3=3 then
     some (.inr 0)
    else
     some (.inl (false,false,false,false,false))
noncomputable def zea (s0 s3:Int) (s4:Bool):Option ((Bool × Bool × Bool × Bool × Bool) ⊕ Int) :=
 if s4=true then
  some (.inr 2)
 else
  if s3=8 then
   zfL s0 s3 true >>= fun t =>
   match t with
   | .inl t =>
    some (.inl (t.1,t.2.1,t.2.2.1,t.2.2.2.1,t.2.2.2.2))
   | .inr t =>
    some (.inr t)
  else
   if s3=12 then
    zfL s0 s3 true >>= fun t =>
    match t with
    | .inl t =>
     some (.inl (t.1,t.2.1,t.2.2.1,t.2.2.2.1,t.2.2.2.2))
    | .inr t =>
     some (.inr t)
   else
    zfL s0 s3 (decide (s3=15)) >>= fun t =>
    match t with
    | .inl t =>
     some (.inl (t.1,t.2.1,t.2.2.1,t.2.2.2.1,t.2.2.2.2))
    | .inr t =>
     some (.inr t)
noncomputable def zgk (p0:Int):Option Int :=
 if p0=4 then
  zea p0 p0 true >>= fun t =>
  match t with
  | .inl t =>
   some 1
  | .inr t =>
   some t
 else
  if p0=5 then
   zea p0 p0 true >>= fun t =>
   match t with
   | .inl t =>
    some 1
   | .inr t =>
    some t
  else
   if p0=9 then
    zea p0 p0 true >>= fun t =>
    match t with
    | .inl t =>
     some 1
    | .inr t =>
     some t
   else
    if p0=11 then
     zea p0 p0 true >>= fun t =>
     match t with
     | .inl t =>
      some 1
     | .inr t =>
      some t
    else
     zea p0 p0 (decide (p0=14)) >>= fun t =>
     match t with
     | .inl t =>
      some 1
     | .inr t =>
      some t
noncomputable def zcM (p0:ByteArray):Option Bool :=
 if p0=⟨#[97,100,100]⟩ then
  some true
 else
  if p0=⟨#[115,117,98]⟩ then
   some true
  else
   if p0=⟨#[109,117,108]⟩ then
    some true
   else
    if p0=⟨#[100,105,118]⟩ then
     some true
    else
     if p0=⟨#[99,97,116]⟩ then
      some true
     else
      if p0=⟨#[108,116]⟩ then
       some true
      else
       if p0=⟨#[108,101]⟩ then
        some true
       else
        if p0=⟨#[101,113]⟩ then
         some true
        else
         if p0=⟨#[110,101]⟩ then
          some true
         else
          if p0=⟨#[103,116]⟩ then
           some true
          else
           if p0=⟨#[103,101]⟩ then
            some true
           else
            if p0=⟨#[115,101,113]⟩ then
             some true
            else
             if p0=⟨#[115,110,101]⟩ then
              some true
             else
              if p0=⟨#[115,108,116]⟩ then
               some true
              else
               if p0=⟨#[105,115]⟩ then
                some true
               else
                some false
noncomputable def zbQ (s1:TGen) (s3 s4 s5:Bool):Option Bool :=
 zcb s1.Kind 1 18 >>= fun r42 =>
 if r42=true then
  if s3=true then
   if s4=true then
    if s5=true then
     zgk s1.Kind >>= fun r58 =>
     some (decide ((s1.Kids.length:Int)=r58))
    else
     some false
   else
    some false
  else
   some false
 else
  some false
noncomputable def zcN (s1:TGen) (s3 s4 s5:Bool) (s17:Int) (s23:Bool):Option (Bool × Bool × Bool) :=
 if s23=true then
  zfK s1.Text >>= fun r29 =>
  some (s3,r29,true)
 else
  if s17=6 then
   zcb s1.Num 0 60 >>= fun r34 =>
   some (r34,s4,false)
  else
   if s17=11 then
    zcM s1.Text >>= fun r39 =>
    some (s3,r39,false)
   else
    some (s3,s4,false)
noncomputable def zfj (p0:TGen):Option Bool :=
 if p0.Kind=1 then
  zjt p0.Value >>= fun r22 =>
  zbQ p0 (decide (p0.Num=0)) (decide (p0.Text=⟨#[]⟩)) r22
 else
  if p0.Kind=2 then
   zcN p0 (decide (p0.Num=0)) (decide (p0.Text=⟨#[]⟩)) ((decide (p0.Value.Kind=0)) && ((decide (p0.Value.Num=0)) && ((decide (p0.Value.Text=ByteArray.empty)) && (decide (p0.Value.Ref=0))))) p0.Kind true >>= fun t =>
   zbQ p0 t.1 t.2.1 ((decide (p0.Value.Kind=0)) && ((decide (p0.Value.Num=0)) && ((decide (p0.Value.Text=ByteArray.empty)) && (decide (p0.Value.Ref=0)))))
  else
   if p0.Kind=16 then
    zcN p0 (decide (p0.Num=0)) (decide (p0.Text=⟨#[]⟩)) ((decide (p0.Value.Kind=0)) && ((decide (p0.Value.Num=0)) && ((decide (p0.Value.Text=ByteArray.empty)) && (decide (p0.Value.Ref=0))))) p0.Kind true >>= fun t =>
    zbQ p0 t.1 t.2.1 ((decide (p0.Value.Kind=0)) && ((decide (p0.Value.Num=0)) && ((decide (p0.Value.Text=ByteArray.empty)) && (decide (p0.Value.Ref=0)))))
   else
    zcN p0 (decide (p0.Num=0)) (decide (p0.Text=⟨#[]⟩)) ((decide (p0.Value.Kind=0)) && ((decide (p0.Value.Num=0)) && ((decide (p0.Value.Text=ByteArray.empty)) && (decide (p0.Value.Ref=0))))) p0.Kind (decide (p0.Kind=17)) >>= fun t =>
    zbQ p0 t.1 t.2.1 ((decide (p0.Value.Kind=0)) && ((decide (p0.Value.Num=0)) && ((decide (p0.Value.Text=ByteArray.empty)) && (decide (p0.Value.Ref=0)))))
mutual
noncomputable def zbj (s1:Int) (s2:TGen) (s17:List TGen) (s18 s19:Int):Option Int :=
 if s19<s18 then
  idx s17 s19 >>= fun a21 =>
  zeb a21 s1 >>= fun r25 =>
  if r25 > 60 then
   some r25
  else
   zbj r25 s2 s17 s18 (IntKind.wrap .i64 (s19 + 1))
 else
  some s1
 partial_fixpoint
noncomputable def zeb (p0:TGen) (p1:Int):Option Int :=
 if IntKind.wrap .i64 (p1 + 1) > 60 then
  some 61
 else
  zfj p0 >>= fun r13 =>
  if r13=true then
   zew (IntKind.wrap .i64 (p1 + 1)) p0
  else
   some 61
 partial_fixpoint
noncomputable def zew (s1:Int) (s2:TGen):Option Int :=
 zbj s1 s2 s2.Kids (s2.Kids.length:Int) 0 >>= fun t =>
 some t
 partial_fixpoint
end
noncomputable def zgl (p0:TGen):Option Bool :=
 zeb p0 0 >>= fun r4 =>
 some (decide (r4≤60))
mutual
noncomputable def zaT (s0:List TGen) (s1:THeap) (s7:List TGen) (s8 s9:Int):Option (Unit ⊕ Bool) :=
 if s9<s8 then
  idx s7 s9 >>= fun a11 =>
  zbk s1 a11 >>= fun r15 =>
  if r15=true then
   zaT s0 s1 s7 s8 (IntKind.wrap .i64 (s9 + 1))
  else
   some (.inr false)
 else
  some (.inl ())
 partial_fixpoint
noncomputable def zbk (p0:THeap) (p1:TGen):Option Bool :=
 if p1.Kind=1 then
  zdT p0 p1.Value >>= fun r12 =>
  if r12=true then
   zec p1.Kids p0 >>= fun r19 =>
   some r19
  else
   some false
 else
  zec p1.Kids p0 >>= fun r19 =>
  some r19
 partial_fixpoint
noncomputable def zec (p0:List TGen) (p1:THeap):Option Bool :=
 zaT p0 p1 p0 (p0.length:Int) 0 >>= fun t =>
 match t with
 | .inl t =>
  some true
 | .inr t =>
  some t
 partial_fixpoint
end
noncomputable def zbH (p0:TCursor):Option Bool :=
 if p0.Phase=0 then
  if p0.Count=0 then
   if (p0.Vals.length:Int)=0 then
    some (decide ((p0.Kids.length:Int)=0))
   else
    some false
  else
   some false
 else
  some false
noncomputable def zdh (p0:TGen) (p1:Int):Option (((List TGen)) ⊕ Unit) :=
 zcb p1 1 (p0.Kids.length:Int) >>= fun r9 =>
 if r9=true then
  sub p0.Kids (IntKind.wrap .i64 (p1 - 1)) p1 >>= fun c16 =>
  some (.inl c16)
 else
  some (.inr ())
noncomputable def zfk (s1:Int) (s2:TGen) (s4:TcursorForm) (s5:List Int) (s8:Int) (s33:Bool):Option ((Bool × Bool × Bool × Bool × Bool × Bool × Bool × Bool × Bool) ⊕ ((TcursorForm ⊕ ((List Int) × Int × Int)))) :=
 if s33=true then
  some (.inr (.inl (TcursorForm.mk s5 0 0 s2.Kids)))
 else
  if s8=6 then
   some (.inr (.inl (TcursorForm.mk s5 s2.Num 0 s2.Kids)))
  else
   if s8=12 then
    some (.inr (.inl (TcursorForm.mk s5 2000000000001 3 s2.Kids)))
   else
    if s8=13 then
     some (.inr (.inl (TcursorForm.mk s5 200 1 s2.Kids)))
    else
     if s8=17 then
      some (.inr (.inl (TcursorForm.mk s5 0 2 s2.Kids)))
     else
      some (.inl (false,false,false,false,false,false,false,false,false))
noncomputable def zbX (s1:Int) (s2:TGen) (s4:TcursorForm) (s5:List Int) (s8:Int) (s13:Bool):Option ((Bool × Bool × Bool × Bool × Bool × Bool × Bool × Bool × Bool) ⊕ ((TcursorForm ⊕ ((List Int) × Int × Int)))) :=
 if s13=true then
  some (.inr (.inr (s5,0,0)))
 else
  if s8=4 then
   zdh s2 s1 >>= fun r24 =>
   match r24 with
   | .inl r24 =>
    some (.inr (.inl (TcursorForm.mk ([1,2]) 0 0 r24)))
   | .inr r24 =>
    some (.inr (.inr ([1,2],0,0)))
  else
   if s8=8 then
    zdh s2 s1 >>= fun r31 =>
    match r31 with
    | .inl r31 =>
     some (.inr (.inl (TcursorForm.mk ([2,3]) 0 0 r31)))
    | .inr r31 =>
     some (.inr (.inr ([2,3],0,0)))
   else
    if s8=5 then
     zfk s1 s2 s4 s5 s8 true >>= fun t =>
     match t with
     | .inl t =>
      some (.inl (t.1,t.2.1,t.2.2.1,t.2.2.2.1,t.2.2.2.2.1,t.2.2.2.2.2.1,t.2.2.2.2.2.2.1,t.2.2.2.2.2.2.2.1,t.2.2.2.2.2.2.2.2))
     | .inr t =>
      some (.inr t)
    else
     zfk s1 s2 s4 s5 s8 (decide (s8=10)) >>= fun t =>
     match t with
     | .inl t =>
      some (.inl (t.1,t.2.1,t.2.2.1,t.2.2.2.1,t.2.2.2.2.1,t.2.2.2.2.2.1,t.2.2.2.2.2.2.1,t.2.2.2.2.2.2.2.1,t.2.2.2.2.2.2.2.2))
     | .inr t =>
      some (.inr t)
noncomputable def zbY (s1:Int) (s2:TGen) (s4:TcursorForm) (s5:List Int) (s8:Int) (s9:Bool):Option ((Bool × Bool × Bool × Bool × Bool × Bool × Bool × Bool × Bool) ⊕ ((TcursorForm ⊕ ((List Int) × Int × Int)))) :=
 if s9=true then
  some (.inr (.inr ([],0,0)))
 else
  if s8=1 then
   zbX s1 s2 s4 s5 s8 true >>= fun t =>
   match t with
   | .inl t =>
    some (.inl (t.1,t.2.1,t.2.2.1,t.2.2.2.1,t.2.2.2.2.1,t.2.2.2.2.2.1,t.2.2.2.2.2.2.1,t.2.2.2.2.2.2.2.1,t.2.2.2.2.2.2.2.2))
   | .inr t =>
    some (.inr t)
  else
   if s8=2 then
    zbX s1 s2 s4 s5 s8 true >>= fun t =>
    match t with
    | .inl t =>
     some (.inl (t.1,t.2.1,t.2.2.1,t.2.2.2.1,t.2.2.2.2.1,t.2.2.2.2.2.1,t.2.2.2.2.2.2.1,t.2.2.2.2.2.2.2.1,t.2.2.2.2.2.2.2.2))
    | .inr t =>
     some (.inr t)
   else
    zbX s1 s2 s4 s5 s8 (decide (s8=7)) >>= fun t =>
    match t with
    | .inl t =>
     some (.inl (t.1,t.2.1,t.2.2.1,t.2.2.2.1,t.2.2.2.2.1,t.2.2.2.2.2.1,t.2.2.2.2.2.2.1,t.2.2.2.2.2.2.2.1,t.2.2.2.2.2.2.2.2))
    | .inr t =>
     some (.inr t)
noncomputable def zfl (s1:Int) (s2:TGen) (s4:TcursorForm) (s5:List Int):Option ((TcursorForm ⊕ ((List Int) × Int × Int))) :=
 some (.inl (TcursorForm.mk s5 0 (s2.Kids.length:Int) s2.Kids))
noncomputable def zcj (p0:TGen) (p1:Int):Option (TcursorForm ⊕ ((List Int) × Int × Int)) :=
 if p0.Kind=3 then
  zbY p1 p0 (TcursorForm.mk ([]) 0 0 ([])) ([1]) p0.Kind true >>= fun t =>
  match t with
  | .inl t =>
   zfl p1 p0 (TcursorForm.mk ([]) 0 0 ([])) ([1])
  | .inr t =>
   some t
 else
  zbY p1 p0 (TcursorForm.mk ([]) 0 0 ([])) ([1]) p0.Kind (decide (p0.Kind=9)) >>= fun t =>
  match t with
  | .inl t =>
   zfl p1 p0 (TcursorForm.mk ([]) 0 0 ([])) ([1])
  | .inr t =>
   some t
noncomputable def zcS (p0:Int):Option Bool :=
 if p0=6 then
  some true
 else
  if p0=12 then
   some true
  else
   some (decide (p0=13))
noncomputable def zaU (s0:List Int) (s1 s7 s8:Int):Option (Unit ⊕ Int) :=
 if s8<s7 then
  idx s0 s8 >>= fun a14 =>
  if s1=a14 then
   some (.inr s8)
  else
   zaU s0 s1 s7 (IntKind.wrap .i64 (s8 + 1))
 else
  some (.inl ())
 partial_fixpoint
noncomputable def zck (p0:List Int) (p1:Int):Option Int :=
 zaU p0 p1 (p0.length:Int) 0 >>= fun t =>
 match t with
 | .inl t =>
  some (-1)
 | .inr t =>
  some t
noncomputable def zaF (p0:List Int) (p1:Int):Option Bool :=
 zck p0 p1 >>= fun r7 =>
 some (decide (r7 ≥ 0))
noncomputable def zcx (s3:THeap) (s5:TCursor) (s7:List Int) (s7_1 s7_2 s63 s64:Int):Option Unit :=
 if s64<s63 then
  none
 else
  some ()
noncomputable def zcy (s3:THeap) (s5:TCursor) (s7:List Int) (s7_1 s7_2:Int):Option Bool :=
 zcx s3 s5 s7 s7_1 s7_2 0 0 >>= fun t =>
 some true
noncomputable def zaV (s3:THeap) (s5:TCursor) (s7:List Int) (s7_1 s7_2:Int) (s8:Bool):Option Bool :=
 zaF s7 s5.Phase >>= fun r30 =>
 if r30=true then
  if s8=true then
   if (s5.Vals.length:Int)=s7_2 then
    zbP s5.Vals s3 >>= fun r49 =>
    if r49=true then
     if (s5.Kids.length:Int)=0 then
      zcy s3 s5 s7 s7_1 s7_2 >>= fun t =>
      some t
     else
      some false
    else
     some false
   else
    some false
  else
   some false
 else
  some false
mutual
noncomputable def zan (s3:THeap) (s5:TCursor) (s7:TcursorForm) (s62:List TGen) (s63 s64:Int):Option (Unit ⊕ Bool) :=
 if s64<s63 then
  idx s62 s64 >>= fun a67 =>
  idx s5.Kids s64 >>= fun a74 =>
  zag s3 a67 a74 >>= fun r76 =>
  if r76=true then
   zan s3 s5 s7 s62 s63 (IntKind.wrap .i64 (s64 + 1))
  else
   some (.inr false)
 else
  some (.inl ())
 partial_fixpoint
noncomputable def zag (p0:THeap) (p1:TGen) (p2:TCursor):Option Bool :=
 zcj p1 p2.Phase >>= fun r14 =>
 match r14 with
 | .inl r14 =>
  zcS p1.Kind >>= fun r20 =>
  if r20=true then
   zcb p2.Count 1 r14.counts >>= fun r25 =>
   zax p0 p2 r14 r25
  else
   zax p0 p2 r14 (decide (p2.Count=0))
 | .inr r14 =>
  zcS p1.Kind >>= fun r20 =>
  if r20=true then
   zcb p2.Count 1 r14.2.1 >>= fun r25 =>
   zaV p0 p2 r14.1 r14.2.1 r14.2.2 r25
  else
   zaV p0 p2 r14.1 r14.2.1 r14.2.2 (decide (p2.Count=0))
 partial_fixpoint
noncomputable def zax (s3:THeap) (s5:TCursor) (s7:TcursorForm) (s8:Bool):Option Bool :=
 zaF s7.phases s5.Phase >>= fun r30 =>
 if r30=true then
  if s8=true then
   if (s5.Vals.length:Int)=s7.vals then
    zbP s5.Vals s3 >>= fun r49 =>
    if r49=true then
     if (s5.Kids.length:Int)=(s7.kids.length:Int) then
      zaG s3 s5 s7 >>= fun t =>
      some t
     else
      some false
    else
     some false
   else
    some false
  else
   some false
 else
  some false
 partial_fixpoint
noncomputable def zaG (s3:THeap) (s5:TCursor) (s7:TcursorForm):Option Bool :=
 zan s3 s5 s7 s7.kids (s7.kids.length:Int) 0 >>= fun t =>
 match t with
 | .inl t =>
  some true
 | .inr t =>
  some t
 partial_fixpoint
end
noncomputable def zfS (s2:THeap) (s3:TCoexpr):Option Bool :=
 zag s2 s3.Body s3.Cursor >>= fun r56 =>
 some r56
noncomputable def zfT (s2:THeap) (s3:TCoexpr):Option Bool :=
 if s3.Done=true then
  zbH s3.Cursor >>= fun r50 =>
  some r50
 else
  if s3.Count=0 then
   zbH s3.Cursor >>= fun r50 =>
   some r50
  else
   zfS s2 (TCoexpr.mk s3.Id s3.Body s3.Start s3.Vars s3.Cursor s3.Count false) >>= fun t =>
   some t
noncomputable def zcT (s2:THeap) (s3:TCoexpr) (s5:Bool):Option Bool :=
 if s5=true then
  zgj s3.Start s2 >>= fun r31 =>
  if r31=true then
   zgj s3.Vars s2 >>= fun r38 =>
   if r38=true then
    zfT s2 s3 >>= fun t =>
    some t
   else
    some false
  else
   some false
 else
  some false
noncomputable def zbI (p0:THeap) (p1:TCoexpr):Option Bool :=
 zcb p1.Id 1 1000000 >>= fun r8 =>
 if r8=true then
  zgl p1.Body >>= fun r12 =>
  if r12=true then
   zbk p0 p1.Body >>= fun r18 =>
   if r18=true then
    zcb p1.Count 0 1000000 >>= fun r23 =>
    zcT p0 p1 r23
   else
    zcT p0 p1 false
  else
   zcT p0 p1 false
 else
  zcT p0 p1 false
noncomputable def zcZ (s0:List TCoexpr) (s1:THeap) (s7:List TCoexpr) (s8 s9:Int):Option (Unit ⊕ Bool) :=
 if s9<s8 then
  idx s7 s9 >>= fun a11 =>
  zbI s1 a11 >>= fun r15 =>
  if r15=true then
   zcZ s0 s1 s7 s8 (IntKind.wrap .i64 (s9 + 1))
  else
   some (.inr false)
 else
  some (.inl ())
 partial_fixpoint
noncomputable def zex (p0:List TCoexpr) (p1:THeap):Option Bool :=
 zcZ p0 p1 p0 (p0.length:Int) 0 >>= fun t =>
 match t with
 | .inl t =>
  some true
 | .inr t =>
  some t
noncomputable def zda (s1:TGenScope) (s3:Int):Option (Unit ⊕ Bool) :=
 if s3<(s1.Cos.length:Int) then
  idx s1.Cos (IntKind.wrap .i64 (s3 - 1)) >>= fun a42 =>
  idx s1.Cos s3 >>= fun a48 =>
  if a42.Id ≥ a48.Id then
   some (.inr false)
  else
   zda s1 (IntKind.wrap .i64 (s3 + 1))
 else
  some (.inl ())
 partial_fixpoint
noncomputable def zey (s1:TGenScope):Option Bool :=
 zda s1 1 >>= fun t =>
 match t with
 | .inl t =>
  zcb s1.Steps 0 20000 >>= fun r54 =>
  some r54
 | .inr t =>
  some t
noncomputable def zez (p0:TGenScope):Option Bool :=
 zgC p0.Heap >>= fun r6 =>
 if r6=true then
  zgj p0.Vars p0.Heap >>= fun r13 =>
  if r13=true then
   if (p0.Cos.length:Int) > 8 then
    some false
   else
    zex p0.Cos p0.Heap >>= fun r28 =>
    if r28=true then
     zey p0
    else
     some false
  else
   some false
 else
  some false
noncomputable def zhd (p0:TGenScope) (p1:TGen) (p2:TCursor):Option Bool :=
 zez p0 >>= fun r8 =>
 if r8=true then
  zgl p1 >>= fun r11 =>
  if r11=true then
   zbk p0.Heap p1 >>= fun r17 =>
   if r17=true then
    zbH p2 >>= fun r21 =>
    if r21=true then
     some true
    else
     zag p0.Heap p1 p2 >>= fun r27 =>
     some r27
   else
    some false
  else
   some false
 else
  some false
noncomputable def zak (p0:List TBinding):Option (List TBinding):=chk (p0.length≤most) >>= fun _=>some p0
noncomputable def zaw (p0:List TValue):Option (List TValue):=chk (p0.length≤most) >>= fun _=>some p0
noncomputable def zdi (p0:TObject):Option TObject :=
 zaw p0.Keys >>= fun r5 =>
 zaw p0.Vals >>= fun r8 =>
 some (TObject.mk p0.Id p0.Kind p0.Name p0.Low r5 r8 p0.Default)
noncomputable def zdP (s1 s2:THeap) (s10:List TObject) (s11:Int) (s3:THeap) (s12:Int):Option THeap :=
 if s12<s11 then
  idx s10 s12 >>= fun a14 =>
  zdi a14 >>= fun r19 =>
  app s3.Objects ([r19]) >>= fun c21 =>
  zdP s1 s2 s10 s11 (THeap.mk s3.Next c21) (IntKind.wrap .i64 (s12 + 1))
 else
  some s3
 partial_fixpoint
noncomputable def zfm (p0:THeap):Option THeap :=
 zdP p0 (THeap.mk 0 ([])) p0.Objects (p0.Objects.length:Int) (THeap.mk p0.Next ([])) 0 >>= fun t =>
 some t
mutual
noncomputable def zaW (s1 s2:TGen) (s3 s8:List TGen) (s9 s10:Int):Option ((List TGen)) :=
 if s10<s9 then
  idx s8 s10 >>= fun a12 =>
  zcq a12 >>= fun r16 =>
  app s3 ([r16]) >>= fun c18 =>
  zaW s1 s2 c18 s8 s9 (IntKind.wrap .i64 (s10 + 1))
 else
  some s3
 partial_fixpoint
noncomputable def zcq (p0:TGen):Option TGen :=
 zaW p0 (TGen.mk 0 0 ByteArray.empty (TValue.mk 0 0 ByteArray.empty 0) ([])) ([]) p0.Kids (p0.Kids.length:Int) 0 >>= fun t =>
 some (TGen.mk p0.Kind p0.Num p0.Text p0.Value t)
 partial_fixpoint
end
mutual
noncomputable def zaD (s1 s2:TCursor) (s3 s8:List TCursor) (s9 s10:Int):Option ((List TCursor)) :=
 if s10<s9 then
  idx s8 s10 >>= fun a12 =>
  zbo a12 >>= fun r16 =>
  app s3 ([r16]) >>= fun c18 =>
  zaD s1 s2 c18 s8 s9 (IntKind.wrap .i64 (s10 + 1))
 else
  some s3
 partial_fixpoint
noncomputable def zbo (p0:TCursor):Option TCursor :=
 zaD p0 (TCursor.mk 0 0 ([]) ([])) ([]) p0.Kids (p0.Kids.length:Int) 0 >>= fun t =>
 zaw p0.Vals >>= fun r22 =>
 some (TCursor.mk p0.Phase p0.Count r22 t)
 partial_fixpoint
end
noncomputable def zbp (p0:TCoexpr):Option TCoexpr :=
 zcq p0.Body >>= fun r5 =>
 zbo p0.Cursor >>= fun r8 =>
 zak p0.Start >>= fun r13 =>
 zak p0.Vars >>= fun r16 =>
 some (TCoexpr.mk p0.Id r5 r13 r16 r8 p0.Count p0.Done)
noncomputable def zcd (s1 s2:TGenScope) (s16:List TCoexpr) (s17:Int) (s3:TGenScope) (s18:Int):Option TGenScope :=
 if s18<s17 then
  idx s16 s18 >>= fun a20 =>
  zbp a20 >>= fun r25 =>
  app s3.Cos ([r25]) >>= fun c27 =>
  zcd s1 s2 s16 s17 (TGenScope.mk s3.Vars s3.Heap c27 s3.Steps) (IntKind.wrap .i64 (s18 + 1))
 else
  some s3
 partial_fixpoint
noncomputable def zdu (p0:TGenScope):Option TGenScope :=
 zak p0.Vars >>= fun r8 =>
 zfm p0.Heap >>= fun r11 =>
 zcd p0 (TGenScope.mk ([]) (THeap.mk 0 ([])) ([]) 0) p0.Cos (p0.Cos.length:Int) (TGenScope.mk r8 r11 ([]) p0.Steps) 0 >>= fun t =>
 some t
noncomputable def zdU (s2:TGenScope) (s3:TCoexpr) (s4:TGenScope) (s7:Int):Option ((TGenScope × Int × Int)) :=
 zdu s2 >>= fun r32 =>
 zbp (TCoexpr.mk (IntKind.wrap .i64 (s7 + 1)) s3.Body s3.Start s3.Vars s3.Cursor s3.Count s3.Done) >>= fun r39 =>
 app r32.Cos ([r39]) >>= fun c41 =>
 some (TGenScope.mk r32.Vars r32.Heap c41 r32.Steps,IntKind.wrap .i64 (s7 + 1),0)
noncomputable def zbJ (s2:TGenScope) (s3:TCoexpr) (s4:TGenScope) (s7:Int):Option ((TGenScope × Int × Int)) :=
 if (s2.Cos.length:Int)=8 then
  some (TGenScope.mk ([]) (THeap.mk 0 ([])) ([]) 0,0,6)
 else
  if s7=1000000 then
   some (TGenScope.mk ([]) (THeap.mk 0 ([])) ([]) 0,0,6)
  else
   zdU s2 s3 s4 s7 >>= fun t =>
   some t
noncomputable def zdQ (p0:TGenScope) (p1:TCoexpr):Option (TGenScope × Int × Int) :=
 if (p0.Cos.length:Int) > 0 then
  idx p0.Cos (IntKind.wrap .i64 ((p0.Cos.length:Int) - 1)) >>= fun a19 =>
  zbJ p0 p1 (TGenScope.mk ([]) (THeap.mk 0 ([])) ([]) 0) a19.Id
 else
  zbJ p0 p1 (TGenScope.mk ([]) (THeap.mk 0 ([])) ([]) 0) 0
noncomputable def ziB (p0:TGenScope) (p1:TGen):Option (TGenScope × Int × Int) :=
 zhd p0 p1 (TCursor.mk 0 0 ([]) ([])) >>= fun r10 =>
 if r10=true then
  zdQ p0 (TCoexpr.mk 0 p1 p0.Vars p0.Vars (TCursor.mk 0 0 ([]) ([])) 0 false) >>= fun r20 =>
  some (r20.1,r20.2.1,r20.2.2)
 else
  some (TGenScope.mk ([]) (THeap.mk 0 ([])) ([]) 0,0,1)
end Go.Vx.CrZ
