/-
  The program's functions as plain functions.
-/
import Derived.Test.YtnaaflejkfaiaaaGreatTypes
import Derived.Test.YtnaaflejkfaiaaaGreatVxD
set_option linter.unusedVariables false
set_option linter.unusedSimpArgs false
namespace Go.Vx.CpZ
set_option linter.unusedVariables false
set_option linter.unusedSimpArgs false
set_option maxRecDepth 10000
set_option maxHeartbeats 2000000
noncomputable def zce (p0 p1 p2:Int):Option Bool :=
 if p0 ≥ p1 then
  some (decide (p0≤p2))
 else
  some false
noncomputable def zdP (p0:TValue) (p1 p2 p3:Bool):Option Bool :=
 if p1=true then
  if p2=true then
   if p3=true then
    some true
   else
    some (decide (p0.Ref=0))
  else
   if p0.Text=⟨#[]⟩ then
    if p3=true then
     some true
    else
     some (decide (p0.Ref=0))
   else
    some false
 else
  if p0.Num=0 then
   if p2=true then
    if p3=true then
     some true
    else
     some (decide (p0.Ref=0))
   else
    if p0.Text=⟨#[]⟩ then
     if p3=true then
      some true
     else
      some (decide (p0.Ref=0))
    else
     some false
  else
   some false
noncomputable def zfn (p0:Int):Option Bool :=
 if p0 ≥ 65 then
  if p0≤90 then
   some true
  else
   if p0 ≥ 97 then
    some (decide (p0≤122))
   else
    some false
 else
  if p0 ≥ 97 then
   some (decide (p0≤122))
  else
   some false
noncomputable def zhb (p0:Int):Option Bool :=
 if p0 ≥ 48 then
  some (decide (p0≤57))
 else
  some false
noncomputable def zbl (s0:ByteArray) (s1:Int):Option Int :=
 if s1<(s0.size:Int) then
  idxB s0 s1 >>= fun b24 =>
  zfn (b24.toNat:Int) >>= fun r25 =>
  if r25=true then
   zbl s0 (IntKind.wrap .i64 (s1 + 1))
  else
   zhb (b24.toNat:Int) >>= fun r30 =>
   if r30=true then
    zbl s0 (IntKind.wrap .i64 (s1 + 1))
   else
    if (b24.toNat:Int)=95 then
     zbl s0 (IntKind.wrap .i64 (s1 + 1))
    else
     some s1
 else
  some s1
 partial_fixpoint
noncomputable def zfo (s0:ByteArray) (s1:Int):Option Int :=
 zbl s0 s1 >>= fun t =>
 some t
noncomputable def zgN (p0:ByteArray) (p1:Int):Option Int :=
 if p1 ≥ (p0.size:Int) then
  some p1
 else
  idxB p0 p1 >>= fun b12 =>
  zfn (b12.toNat:Int) >>= fun r13 =>
  if r13=true then
   zfo p0 p1
  else
   some p1
noncomputable def zfy (p0:ByteArray):Option Bool :=
 if p0=⟨#[]⟩ then
  some false
 else
  if (p0.size:Int)≤12 then
   zgN p0 0 >>= fun r12 =>
   some (decide (r12=(p0.size:Int)))
  else
   some false
noncomputable def zea (s1:TValue) (s45:Bool):Option (Bool ⊕ Bool) :=
 if s45=true then
  zdP s1 false true false >>= fun r49 =>
  if r49=true then
   zfy s1.Text >>= fun r53 =>
   some (.inr r53)
  else
   some (.inr false)
 else
  some (.inl false)
noncomputable def zcY (s1:TValue) (s4:Int) (s34:Bool):Option (Unit ⊕ Bool) :=
 if s34=true then
  zdP s1 false false true >>= fun r39 =>
  if r39=true then
   zce s1.Ref 1 1000000 >>= fun r43 =>
   some (.inr r43)
  else
   some (.inr false)
 else
  if s4=7 then
   zea s1 true >>= fun t =>
   match t with
   | .inl t =>
    some (.inl ())
   | .inr t =>
    some (.inr t)
  else
   zea s1 (decide (s4=8)) >>= fun t =>
   match t with
   | .inl t =>
    some (.inl ())
   | .inr t =>
    some (.inr t)
noncomputable def zbS (p0:TValue):Option Bool :=
 if p0.Kind=1 then
  zdP p0 false true false >>= fun r8 =>
  if r8=true then
   some (decide ((p0.Text.size:Int)≤200))
  else
   some false
 else
  if p0.Kind=2 then
   zdP p0 true false false >>= fun r18 =>
   if r18=true then
    zce p0.Num (-1000000000000) 1000000000000 >>= fun r22 =>
    some r22
   else
    some false
  else
   if p0.Kind=3 then
    zdP p0 false true false >>= fun r27 =>
    if r27=true then
     zce (p0.Text.size:Int) 1 1200 >>= fun r32 =>
     some r32
    else
     some false
   else
    if p0.Kind=4 then
     zcY p0 p0.Kind true >>= fun t =>
     match t with
     | .inl t =>
      some false
     | .inr t =>
      some t
    else
     if p0.Kind=5 then
      zcY p0 p0.Kind true >>= fun t =>
      match t with
      | .inl t =>
       some false
      | .inr t =>
       some t
     else
      zcY p0 p0.Kind (decide (p0.Kind=6)) >>= fun t =>
      match t with
      | .inl t =>
       some false
      | .inr t =>
       some t
noncomputable def zcp (s0:List TValue) (s1 s5:Int):Option (Unit ⊕ Bool) :=
 if s5<(s0.length:Int) then
  idx s0 s5 >>= fun a18 =>
  zbS a18 >>= fun r20 =>
  if r20=true then
   zcp s0 s1 (IntKind.wrap .i64 (s5 + 1))
  else
   some (.inr false)
 else
  some (.inl ())
 partial_fixpoint
noncomputable def zbN (p0:List TValue) (p1:Int):Option Bool :=
 if (p0.length:Int) > p1 then
  some false
 else
  zcp p0 p1 0 >>= fun t =>
  match t with
  | .inl t =>
   some true
  | .inr t =>
   some t
noncomputable def zgn (p0 p1:TValue):Option Bool :=
 some ((decide (p0.Kind=p1.Kind)) && ((decide (p0.Num=p1.Num)) && ((decide (p0.Text=p1.Text)) && (decide (p0.Ref=p1.Ref)))))
noncomputable def zcF (s0:List TValue) (s3 s4:Int):Option (Unit ⊕ Bool) :=
 if s4<s3 then
  idx s0 s3 >>= fun a18 =>
  idx s0 s4 >>= fun a22 =>
  zgn a18 a22 >>= fun r24 =>
  if r24=true then
   some (.inr false)
  else
   zcF s0 s3 (IntKind.wrap .i64 (s4 + 1))
 else
  some (.inl ())
 partial_fixpoint
noncomputable def zdG (s0:List TValue) (s3:Int):Option (Unit ⊕ Bool) :=
 if s3<(s0.length:Int) then
  zcF s0 s3 0 >>= fun t =>
  match t with
  | .inl t =>
   zdG s0 (IntKind.wrap .i64 (s3 + 1))
  | .inr t =>
   some (.inr t)
 else
  some (.inl ())
 partial_fixpoint
noncomputable def zeb (p0:List TValue):Option Bool :=
 zdG p0 0 >>= fun t =>
 match t with
 | .inl t =>
  some true
 | .inr t =>
  some t
noncomputable def zcP (s0:List TValue) (s3:Int):Option (Unit ⊕ Bool) :=
 if s3<(s0.length:Int) then
  idx s0 s3 >>= fun a12 =>
  if a12.Kind=1 then
   zfy a12.Text >>= fun r22 =>
   if r22=true then
    zcP s0 (IntKind.wrap .i64 (s3 + 1))
   else
    some (.inr false)
  else
   some (.inr false)
 else
  some (.inl ())
 partial_fixpoint
noncomputable def zec (p0:List TValue):Option Bool :=
 zcP p0 0 >>= fun t =>
 match t with
 | .inl t =>
  if (p0.length:Int) ≥ 1 then
   zbN p0 6 >>= fun r30 =>
   if r30=true then
    zeb p0 >>= fun r34 =>
    some r34
   else
    some false
  else
   some false
 | .inr t =>
  some t
noncomputable def zeB (s1:TObject):Option Bool :=
 if s1.Kind=1 then
  if s1.Name=⟨#[]⟩ then
   zce s1.Low (-1000) 1000 >>= fun r23 =>
   if r23=true then
    if (s1.Keys.length:Int)=0 then
     some ((decide (s1.Default.Kind=0)) && ((decide (s1.Default.Num=0)) && ((decide (s1.Default.Text=ByteArray.empty)) && (decide (s1.Default.Ref=0)))))
    else
     some false
   else
    some false
  else
   some false
 else
  if s1.Kind=2 then
   if s1.Name=⟨#[]⟩ then
    if s1.Low=0 then
     if (s1.Keys.length:Int)=(s1.Vals.length:Int) then
      zbN s1.Keys 30 >>= fun r59 =>
      if r59=true then
       zeb s1.Keys >>= fun r64 =>
       if r64=true then
        zbS s1.Default >>= fun r69 =>
        some r69
       else
        some false
      else
       some false
     else
      some false
    else
     some false
   else
    some false
  else
   if s1.Kind=3 then
    zfy s1.Name >>= fun r75 =>
    if r75=true then
     if s1.Low=0 then
      if (s1.Keys.length:Int)=(s1.Vals.length:Int) then
       zec s1.Keys >>= fun r93 =>
       if r93=true then
        some ((decide (s1.Default.Kind=0)) && ((decide (s1.Default.Num=0)) && ((decide (s1.Default.Text=ByteArray.empty)) && (decide (s1.Default.Ref=0)))))
       else
        some false
      else
       some false
     else
      some false
    else
     some false
   else
    some false
noncomputable def zgo (p0:TObject):Option Bool :=
 zce p0.Id 1 1000000 >>= fun r5 =>
 if r5=true then
  zbN p0.Vals 30 >>= fun r10 =>
  if r10=true then
   zeB p0
  else
   some false
 else
  some false
noncomputable def zex (p0:TValue):Option Bool :=
 zce p0.Kind 4 6 >>= fun r5 =>
 some r5
noncomputable def zeJ (s1:Int) (g0:List TBinding) (g0_1:Int) (g0_2:List TObject) (g0_3:List TCoexpr) (g0_4 s5:Int):Option (Unit ⊕ Int) :=
 if s5<(g0_2.length:Int) then
  idx g0_2 s5 >>= fun a20 =>
  if a20.Id=s1 then
   some (.inr s5)
  else
   zeJ s1 g0 g0_1 g0_2 g0_3 g0_4 (IntKind.wrap .i64 (s5 + 1))
 else
  some (.inl ())
 partial_fixpoint
noncomputable def zhN (p1:Int) (g0:List TBinding) (g0_1:Int) (g0_2:List TObject) (g0_3:List TCoexpr) (g0_4:Int):Option Int :=
 zeJ p1 g0 g0_1 g0_2 g0_3 g0_4 0 >>= fun t =>
 match t with
 | .inl t =>
  some (-1)
 | .inr t =>
  some t
noncomputable def zfp (p0:Int):Option Int :=
 some (IntKind.wrap .i64 (IntKind.wrap .i64 (p0 - 4) + 1))
noncomputable def zed (p1:TValue) (g0:List TBinding) (g0_1:Int) (g0_2:List TObject) (g0_3:List TCoexpr) (g0_4:Int):Option Bool :=
 zbS p1 >>= fun r7 =>
 if r7=true then
  zex p1 >>= fun r10 =>
  if r10=true then
   zhN p1.Ref g0 g0_1 g0_2 g0_3 g0_4 >>= fun r15 =>
   if r15 ≥ 0 then
    idx g0_2 r15 >>= fun a24 =>
    zfp p1.Kind >>= fun r29 =>
    some (decide (a24.Kind=r29))
   else
    some false
  else
   some true
 else
  some false
noncomputable def zeC (s1:List TValue) (g0:List TBinding) (g0_1:Int) (g0_2:List TObject) (g0_3:List TCoexpr) (g0_4 s5:Int):Option (Unit ⊕ Bool) :=
 if s5<(s1.length:Int) then
  idx s1 s5 >>= fun a15 =>
  zed a15 g0 g0_1 g0_2 g0_3 g0_4 >>= fun r17 =>
  if r17=true then
   zeC s1 g0 g0_1 g0_2 g0_3 g0_4 (IntKind.wrap .i64 (s5 + 1))
  else
   some (.inr false)
 else
  some (.inl ())
 partial_fixpoint
noncomputable def zey (p1:List TValue) (g0:List TBinding) (g0_1:Int) (g0_2:List TObject) (g0_3:List TCoexpr) (g0_4:Int):Option Bool :=
 zeC p1 g0 g0_1 g0_2 g0_3 g0_4 0 >>= fun t =>
 match t with
 | .inl t =>
  some true
 | .inr t =>
  some t
noncomputable def zhO (p1:TObject) (g0:List TBinding) (g0_1:Int) (g0_2:List TObject) (g0_3:List TCoexpr) (g0_4:Int):Option Bool :=
 zey p1.Keys g0 g0_1 g0_2 g0_3 g0_4 >>= fun r10 =>
 if r10=true then
  zey p1.Vals g0 g0_1 g0_2 g0_3 g0_4 >>= fun r17 =>
  if r17=true then
   if p1.Kind=2 then
    zed p1.Default g0 g0_1 g0_2 g0_3 g0_4 >>= fun r31 =>
    some r31
   else
    some true
  else
   some false
 else
  some false
noncomputable def zfk (g0:List TBinding) (g0_1:Int) (g0_2:List TObject) (g0_3:List TCoexpr) (g0_4 s3:Int):Option (Unit ⊕ Bool) :=
 if s3<(g0_2.length:Int) then
  idx g0_2 s3 >>= fun a34 =>
  zgo a34 >>= fun r37 =>
  if r37=true then
   if a34.Id > g0_1 then
    some (.inr false)
   else
    if s3 > 0 then
     idx g0_2 (IntKind.wrap .i64 (s3 - 1)) >>= fun a58 =>
     if a58.Id ≥ a34.Id then
      some (.inr false)
     else
      zfk g0 g0_1 g0_2 g0_3 g0_4 (IntKind.wrap .i64 (s3 + 1))
    else
     zfk g0 g0_1 g0_2 g0_3 g0_4 (IntKind.wrap .i64 (s3 + 1))
  else
   some (.inr false)
 else
  some (.inl ())
 partial_fixpoint
noncomputable def zfX (g0:List TBinding) (g0_1:Int) (g0_2:List TObject) (g0_3:List TCoexpr) (g0_4 s5:Int):Option (Unit ⊕ Bool) :=
 if s5<(g0_2.length:Int) then
  idx g0_2 s5 >>= fun a81 =>
  zhO a81 g0 g0_1 g0_2 g0_3 g0_4 >>= fun r82 =>
  if r82=true then
   zfX g0 g0_1 g0_2 g0_3 g0_4 (IntKind.wrap .i64 (s5 + 1))
  else
   some (.inr false)
 else
  some (.inl ())
 partial_fixpoint
noncomputable def zif (g0:List TBinding) (g0_1:Int) (g0_2:List TObject) (g0_3:List TCoexpr) (g0_4:Int):Option Bool :=
 zfk g0 g0_1 g0_2 g0_3 g0_4 0 >>= fun t =>
 match t with
 | .inl t =>
  zfX g0 g0_1 g0_2 g0_3 g0_4 0 >>= fun t_1 =>
  match t_1 with
  | .inl t_1 =>
   some true
  | .inr t_1 =>
   some t_1
 | .inr t =>
  some t
noncomputable def zkW (g0:List TBinding) (g0_1:Int) (g0_2:List TObject) (g0_3:List TCoexpr) (g0_4:Int):Option Bool :=
 zce g0_1 0 1000000 >>= fun r10 =>
 if r10=true then
  if (g0_2.length:Int) > 40 then
   some false
  else
   zif g0 g0_1 g0_2 g0_3 g0_4
 else
  some false
noncomputable def ziV (p0:TValue):Option Bool :=
 some ((decide (p0.Kind=1)) && ((decide (p0.Num=0)) && ((decide (p0.Text=ByteArray.empty)) && (decide (p0.Ref=0)))))
noncomputable def zeK (s1 g0:List TBinding) (g0_1:Int) (g0_2:List TObject) (g0_3:List TCoexpr) (g0_4 s5:Int):Option (Unit ⊕ Bool) :=
 if s5<(s1.length:Int) then
  idx s1 s5 >>= fun a17 =>
  zfy a17.Name >>= fun r20 =>
  if r20=true then
   if s5 > 0 then
    idx s1 (IntKind.wrap .i64 (s5 - 1)) >>= fun a29 =>
    if (Op.bytesLess a29.Name.toList a17.Name.toList)=true then
     zed a17.Value g0 g0_1 g0_2 g0_3 g0_4 >>= fun r47 =>
     if r47=true then
      ziV a17.Value >>= fun r56 =>
      if r56=true then
       some (.inr false)
      else
       zeK s1 g0 g0_1 g0_2 g0_3 g0_4 (IntKind.wrap .i64 (s5 + 1))
     else
      some (.inr false)
    else
     some (.inr false)
   else
    zed a17.Value g0 g0_1 g0_2 g0_3 g0_4 >>= fun r47 =>
    if r47=true then
     ziV a17.Value >>= fun r56 =>
     if r56=true then
      some (.inr false)
     else
      zeK s1 g0 g0_1 g0_2 g0_3 g0_4 (IntKind.wrap .i64 (s5 + 1))
    else
     some (.inr false)
  else
   some (.inr false)
 else
  some (.inl ())
 partial_fixpoint
noncomputable def zfY (p1 g0:List TBinding) (g0_1:Int) (g0_2:List TObject) (g0_3:List TCoexpr) (g0_4:Int):Option Bool :=
 if (p1.length:Int) > 40 then
  some false
 else
  zeK p1 g0 g0_1 g0_2 g0_3 g0_4 0 >>= fun t =>
  match t with
  | .inl t =>
   some true
  | .inr t =>
   some t
noncomputable def zdQ (s0 s3:Int) (s12:Bool):Option ((Bool × Bool × Bool × Bool × Bool) ⊕ Int) :=
 if s12=true then
  some (.inr 2)
 else
  if s3=8 then
   some (.inr 3)
  else
   if s3=12 then
    some (.inr 3)
   else
    if s3=15 then
     some (.inr 3)
    else
     some (.inl (false,false,false,false,false))
noncomputable def zcm (s0 s3:Int) (s4:Bool):Option ((Bool × Bool × Bool × Bool × Bool) ⊕ Int) :=
 if s4=true then
  some (.inr 1)
 else
  if s3=4 then
   zdQ s0 s3 true >>= fun t =>
   match t with
   | .inl t =>
    some (.inl (t.1,t.2.1,t.2.2.1,t.2.2.2.1,t.2.2.2.2))
   | .inr t =>
    some (.inr t)
  else
   if s3=5 then
    zdQ s0 s3 true >>= fun t =>
    match t with
    | .inl t =>
     some (.inl (t.1,t.2.1,t.2.2.1,t.2.2.2.1,t.2.2.2.2))
    | .inr t =>
     some (.inr t)
   else
    if s3=9 then
     zdQ s0 s3 true >>= fun t =>
     match t with
     | .inl t =>
      some (.inl (t.1,t.2.1,t.2.2.1,t.2.2.2.1,t.2.2.2.2))
     | .inr t =>
      some (.inr t)
    else
     if s3=11 then
      zdQ s0 s3 true >>= fun t =>
      match t with
      | .inl t =>
       some (.inl (t.1,t.2.1,t.2.2.1,t.2.2.2.1,t.2.2.2.2))
      | .inr t =>
       some (.inr t)
     else
      zdQ s0 s3 (decide (s3=14)) >>= fun t =>
      match t with
      | .inl t =>
       some (.inl (t.1,t.2.1,t.2.2.1,t.2.2.2.1,t.2.2.2.2))
      | .inr t =>
       some (.inr t)
noncomputable def zfq (p0:Int):Option Int :=
 if p0=6 then
  zcm p0 p0 true >>= fun t =>
  match t with
  | .inl t =>
   some 0
  | .inr t =>
   some t
 else
  if p0=7 then
   zcm p0 p0 true >>= fun t =>
   match t with
   | .inl t =>
    some 0
   | .inr t =>
    some t
  else
   if p0=10 then
    zcm p0 p0 true >>= fun t =>
    match t with
    | .inl t =>
     some 0
    | .inr t =>
     some t
   else
    if p0=13 then
     zcm p0 p0 true >>= fun t =>
     match t with
     | .inl t =>
      some 0
     | .inr t =>
      some t
    else
     if p0=16 then
      zcm p0 p0 true >>= fun t =>
      match t with
      | .inl t =>
       some 0
      | .inr t =>
       some t
     else
      if p0=17 then
       zcm p0 p0 true >>= fun t =>
       match t with
       | .inl t =>
        some 0
       | .inr t =>
        some t
      else
       zcm p0 p0 (decide (p0=18)) >>= fun t =>
       match t with
       | .inl t =>
        some 0
       | .inr t =>
        some t
noncomputable def zeD:Option ((List ByteArray)) :=
 some ([⟨#[97,100,100]⟩,⟨#[115,117,98]⟩,⟨#[109,117,108]⟩,⟨#[100,105,118]⟩,⟨#[99,97,116]⟩,⟨#[108,116]⟩,⟨#[108,101]⟩,⟨#[101,113]⟩,⟨#[110,101]⟩,⟨#[103,116]⟩,⟨#[103,101]⟩,⟨#[115,101,113]⟩,⟨#[115,110,101]⟩,⟨#[115,108,116]⟩,⟨#[105,115]⟩])
noncomputable def zee (s0:List ByteArray) (s1:ByteArray) (s5:Int):Option (Unit ⊕ Int) :=
 if s5<(s0.length:Int) then
  idx s0 s5 >>= fun a14 =>
  if a14=s1 then
   some (.inr s5)
  else
   zee s0 s1 (IntKind.wrap .i64 (s5 + 1))
 else
  some (.inl ())
 partial_fixpoint
noncomputable def zez (p0:List ByteArray) (p1:ByteArray):Option Int :=
 zee p0 p1 0 >>= fun t =>
 match t with
 | .inl t =>
  some (-1)
 | .inr t =>
  some t
noncomputable def zef (s0:TGen) (s53:Int) (s88:Bool):Option (Bool ⊕ Bool) :=
 if s88=true then
  zfy s0.Text >>= fun r96 =>
  some (.inr r96)
 else
  if s53=11 then
   zeD >>= fun r99 =>
   zez r99 s0.Text >>= fun r104 =>
   some (.inr ((decide (r104 ≥ 0))))
  else
   if s53=6 then
    if s0.Text=⟨#[]⟩ then
     zce s0.Num 0 60 >>= fun r118 =>
     some (.inr r118)
    else
     some (.inr false)
   else
    some (.inl false)
noncomputable def zeg (s0:TGen):Option Bool :=
 some (decide (s0.Text=⟨#[]⟩))
noncomputable def zdk (s0:TGen):Option Bool :=
 if s0.Kind=1 then
  if s0.Text=⟨#[]⟩ then
   zbS s0.Value >>= fun r71 =>
   if r71=true then
    if s0.Value.Kind=1 then
     some true
    else
     if s0.Value.Kind=2 then
      some true
     else
      zex s0.Value >>= fun r85 =>
      some r85
   else
    some false
  else
   some false
 else
  if s0.Kind=2 then
   zef s0 s0.Kind true >>= fun t =>
   match t with
   | .inl t =>
    zeg s0 >>= fun t_1 =>
    some t_1
   | .inr t =>
    some t
  else
   if s0.Kind=16 then
    zef s0 s0.Kind true >>= fun t =>
    match t with
    | .inl t =>
     zeg s0 >>= fun t_1 =>
     some t_1
    | .inr t =>
     some t
   else
    zef s0 s0.Kind (decide (s0.Kind=17)) >>= fun t =>
    match t with
    | .inl t =>
     zeg s0 >>= fun t_1 =>
     some t_1
    | .inr t =>
     some t
noncomputable def zgp (s0:TGen):Option Bool :=
 if s0.Kind=6 then
  if s0.Kind=1 then
   zdk s0 >>= fun t =>
   some t
  else
   if s0.Value.Kind=0 then
    if s0.Value.Num=0 then
     if s0.Value.Text=ByteArray.empty then
      if s0.Value.Ref=0 then
       zdk s0 >>= fun t =>
       some t
      else
       some false
     else
      some false
    else
     some false
   else
    some false
 else
  if s0.Num=0 then
   if s0.Kind=1 then
    zdk s0 >>= fun t =>
    some t
   else
    if s0.Value.Kind=0 then
     if s0.Value.Num=0 then
      if s0.Value.Text=ByteArray.empty then
       if s0.Value.Ref=0 then
        zdk s0 >>= fun t =>
        some t
       else
        some false
      else
       some false
     else
      some false
    else
     some false
  else
   some false
noncomputable def zfZ (p0:TGen):Option Bool :=
 zce p0.Kind 1 18 >>= fun r8 =>
 if r8=true then
  zfq p0.Kind >>= fun r20 =>
  if (p0.Kids.length:Int)=r20 then
   zgp p0
  else
   some false
 else
  some false
mutual
noncomputable def zeL (s0:TGen) (s3 s4:Int):Option (Int × Int × Int × (List TGen) × TGen × Int × Int) :=
 idx s0.Kids s4 >>= fun a27 =>
 zeM a27 >>= fun r28 =>
 some (IntKind.wrap .i64 (s3 + r28),IntKind.wrap .i64 (s4 + 1),IntKind.wrap .i64 (s4 + 1),s0.Kids,a27,r28,IntKind.wrap .i64 (s3 + r28))
 partial_fixpoint
noncomputable def zeM (p0:TGen):Option Int :=
 zfZ p0 >>= fun r6 =>
 if r6=true then
  zbz p0 1 0 >>= fun t =>
  some t
 else
  some 61
 partial_fixpoint
noncomputable def zbz (s0:TGen) (s3 s4:Int):Option Int :=
 if s4<(s0.Kids.length:Int) then
  if s3≤60 then
   zeL s0 s3 s4 >>= fun t =>
   zbz s0 t.1 t.2.1
  else
   some s3
 else
  some s3
 partial_fixpoint
end
noncomputable def zkX (p0:TGen):Option Bool :=
 zeM p0 >>= fun r4 =>
 some (decide (r4≤60))
mutual
noncomputable def zbT (s1:TGen) (s5:Int) (g0:List TBinding) (g0_1:Int) (g0_2:List TObject) (g0_3:List TCoexpr) (g0_4:Int):Option (Unit ⊕ Bool) :=
 if s5<(s1.Kids.length:Int) then
  idx s1.Kids s5 >>= fun a35 =>
  zeN a35 g0 g0_1 g0_2 g0_3 g0_4 >>= fun r36 =>
  if r36=true then
   zbT s1 (IntKind.wrap .i64 (s5 + 1)) g0 g0_1 g0_2 g0_3 g0_4
  else
   some (.inr false)
 else
  some (.inl ())
 partial_fixpoint
noncomputable def zeN (p1:TGen) (g0:List TBinding) (g0_1:Int) (g0_2:List TObject) (g0_3:List TCoexpr) (g0_4:Int):Option Bool :=
 if p1.Kind=1 then
  zed p1.Value g0 g0_1 g0_2 g0_3 g0_4 >>= fun r17 =>
  if r17=true then
   zdR p1 g0 g0_1 g0_2 g0_3 g0_4
  else
   some false
 else
  zdR p1 g0 g0_1 g0_2 g0_3 g0_4
 partial_fixpoint
noncomputable def zdR (s1:TGen) (g0:List TBinding) (g0_1:Int) (g0_2:List TObject) (g0_3:List TCoexpr) (g0_4:Int):Option Bool :=
 zbT s1 0 g0 g0_1 g0_2 g0_3 g0_4 >>= fun t =>
 match t with
 | .inl t =>
  some true
 | .inr t =>
  some t
 partial_fixpoint
end
noncomputable def zhP (p0:TCursor):Option Bool :=
 if p0.Phase=0 then
  if p0.Count=0 then
   if (p0.Vals.length:Int)=0 then
    some (decide ((p0.Kids.length:Int)=0))
   else
    some false
  else
   some false
 else
  some false
noncomputable def zbH (p0:TGen) (p1:TCursor):Option Bool :=
 if p0.Kind=6 then
  zce p1.Count 1 p0.Num >>= fun r19 =>
  some r19
 else
  if p0.Kind=12 then
   zce p1.Count 1 2000000000001 >>= fun r26 =>
   some r26
  else
   if p0.Kind=13 then
    zce p1.Count 1 200 >>= fun r33 =>
    some r33
   else
    some (decide (p1.Count=0))
noncomputable def zcZ (p0:TGen):Option Int :=
 if p0.Kind=17 then
  some 2
 else
  if p0.Kind ≥ 11 then
   zfq p0.Kind >>= fun r17 =>
   some r17
  else
   some 0
mutual
noncomputable def zba (s1:TGen) (s2:TCursor) (s34:Int) (s38:Bool) (g0:List TBinding) (g0_1:Int) (g0_2:List TObject) (g0_3:List TCoexpr) (g0_4:Int):Option (Bool ⊕ Bool) :=
 if s38=true then
  if s2.Phase=1 then
   some (.inr ((decide ((s2.Kids.length:Int)=0))))
  else
   some (.inr false)
 else
  if s34=4 then
   zce s2.Phase 1 2 >>= fun r61 =>
   if r61=true then
    if (s2.Kids.length:Int)=1 then
     idx s1.Kids (IntKind.wrap .i64 (s2.Phase - 1)) >>= fun a81 =>
     idxN s2.Kids 0 >>= fun a86 =>
     zaj a81 a86 g0 g0_1 g0_2 g0_3 g0_4 >>= fun r87 =>
     some (.inr r87)
    else
     some (.inr false)
   else
    some (.inr false)
  else
   if s34=8 then
    zce s2.Phase 2 3 >>= fun r95 =>
    if r95=true then
     if (s2.Kids.length:Int)=1 then
      idx s1.Kids (IntKind.wrap .i64 (s2.Phase - 1)) >>= fun a115 =>
      idxN s2.Kids 0 >>= fun a120 =>
      zaj a115 a120 g0 g0_1 g0_2 g0_3 g0_4 >>= fun r121 =>
      some (.inr r121)
     else
      some (.inr false)
    else
     some (.inr false)
   else
    some (.inl false)
 partial_fixpoint
noncomputable def zaj (p1:TGen) (p2:TCursor) (g0:List TBinding) (g0_1:Int) (g0_2:List TObject) (g0_3:List TCoexpr) (g0_4:Int):Option Bool :=
 zbH p1 p2 >>= fun r10 =>
 if r10=true then
  zcZ p1 >>= fun r19 =>
  if (p2.Vals.length:Int)=r19 then
   zey p2.Vals g0 g0_1 g0_2 g0_3 g0_4 >>= fun r28 =>
   if r28=true then
    zar p1 p2 g0 g0_1 g0_2 g0_3 g0_4
   else
    some false
  else
   some false
 else
  some false
 partial_fixpoint
noncomputable def zar (s1:TGen) (s2:TCursor) (g0:List TBinding) (g0_1:Int) (g0_2:List TObject) (g0_3:List TCoexpr) (g0_4:Int):Option Bool :=
 if s1.Kind=3 then
  zbC s1 s2 s1.Kind true g0 g0_1 g0_2 g0_3 g0_4 >>= fun t =>
  match t with
  | .inl t =>
   zbD s1 s2 g0 g0_1 g0_2 g0_3 g0_4 >>= fun t_1 =>
   some t_1
  | .inr t =>
   some t
 else
  zbC s1 s2 s1.Kind (decide (s1.Kind=9)) g0 g0_1 g0_2 g0_3 g0_4 >>= fun t =>
  match t with
  | .inl t =>
   zbD s1 s2 g0 g0_1 g0_2 g0_3 g0_4 >>= fun t_1 =>
   some t_1
  | .inr t =>
   some t
 partial_fixpoint
noncomputable def zbD (s1:TGen) (s2:TCursor) (g0:List TBinding) (g0_1:Int) (g0_2:List TObject) (g0_3:List TCoexpr) (g0_4:Int):Option Bool :=
 if s2.Phase=1 then
  if (s2.Kids.length:Int)=(s1.Kids.length:Int) then
   zbE s1 s2 g0 g0_1 g0_2 g0_3 g0_4 >>= fun t =>
   some t
  else
   some false
 else
  some false
 partial_fixpoint
noncomputable def zbE (s1:TGen) (s2:TCursor) (g0:List TBinding) (g0_1:Int) (g0_2:List TObject) (g0_3:List TCoexpr) (g0_4:Int):Option Bool :=
 zaz s1 s2 0 g0 g0_1 g0_2 g0_3 g0_4 >>= fun t =>
 match t with
 | .inl t =>
  some true
 | .inr t =>
  some t
 partial_fixpoint
noncomputable def zaz (s1:TGen) (s2:TCursor) (s7:Int) (g0:List TBinding) (g0_1:Int) (g0_2:List TObject) (g0_3:List TCoexpr) (g0_4:Int):Option (Unit ⊕ Bool) :=
 if s7<(s2.Kids.length:Int) then
  idx s1.Kids s7 >>= fun a156 =>
  idx s2.Kids s7 >>= fun a162 =>
  zaj a156 a162 g0 g0_1 g0_2 g0_3 g0_4 >>= fun r163 =>
  if r163=true then
   zaz s1 s2 (IntKind.wrap .i64 (s7 + 1)) g0 g0_1 g0_2 g0_3 g0_4
  else
   some (.inr false)
 else
  some (.inl ())
 partial_fixpoint
noncomputable def zbC (s1:TGen) (s2:TCursor) (s34:Int) (s35:Bool) (g0:List TBinding) (g0_1:Int) (g0_2:List TObject) (g0_3:List TCoexpr) (g0_4:Int):Option (Unit ⊕ Bool) :=
 if s35=true then
  some (.inr false)
 else
  if s34=1 then
   zba s1 s2 s34 true g0 g0_1 g0_2 g0_3 g0_4 >>= fun t =>
   match t with
   | .inl t =>
    some (.inl ())
   | .inr t =>
    some (.inr t)
  else
   if s34=2 then
    zba s1 s2 s34 true g0 g0_1 g0_2 g0_3 g0_4 >>= fun t =>
    match t with
    | .inl t =>
     some (.inl ())
    | .inr t =>
     some (.inr t)
   else
    zba s1 s2 s34 (decide (s34=7)) g0 g0_1 g0_2 g0_3 g0_4 >>= fun t =>
    match t with
    | .inl t =>
     some (.inl ())
    | .inr t =>
     some (.inr t)
 partial_fixpoint
end
noncomputable def zhc (s1:TCoexpr) (g0:List TBinding) (g0_1:Int) (g0_2:List TObject) (g0_3:List TCoexpr) (g0_4:Int):Option Bool :=
 zhP s1.Cursor >>= fun r66 =>
 some r66
noncomputable def zig (s1:TCoexpr) (g0:List TBinding) (g0_1:Int) (g0_2:List TObject) (g0_3:List TCoexpr) (g0_4:Int):Option Bool :=
 zaj s1.Body s1.Cursor g0 g0_1 g0_2 g0_3 g0_4 >>= fun r74 =>
 some r74
noncomputable def zih (s1:TCoexpr) (g0:List TBinding) (g0_1:Int) (g0_2:List TObject) (g0_3:List TCoexpr) (g0_4:Int):Option Bool :=
 if s1.Done=true then
  zhc s1 g0 g0_1 g0_2 g0_3 g0_4 >>= fun t =>
  some t
 else
  if s1.Count=0 then
   zhc s1 g0 g0_1 g0_2 g0_3 g0_4 >>= fun t =>
   some t
  else
   zig s1 g0 g0_1 g0_2 g0_3 g0_4 >>= fun t =>
   some t
noncomputable def zii (p1:TCoexpr) (g0:List TBinding) (g0_1:Int) (g0_2:List TObject) (g0_3:List TCoexpr) (g0_4:Int):Option Bool :=
 zce p1.Id 1 1000000 >>= fun r9 =>
 if r9=true then
  zkX p1.Body >>= fun r15 =>
  if r15=true then
   zeN p1.Body g0 g0_1 g0_2 g0_3 g0_4 >>= fun r23 =>
   if r23=true then
    zfY p1.Start g0 g0_1 g0_2 g0_3 g0_4 >>= fun r32 =>
    if r32=true then
     zfY p1.Vars g0 g0_1 g0_2 g0_3 g0_4 >>= fun r41 =>
     if r41=true then
      zce p1.Count 0 1000000 >>= fun r49 =>
      if r49=true then
       zih p1 g0 g0_1 g0_2 g0_3 g0_4
      else
       some false
     else
      some false
    else
     some false
   else
    some false
  else
   some false
 else
  some false
noncomputable def zdl (g0:List TBinding) (g0_1:Int) (g0_2:List TObject) (g0_3:List TCoexpr) (g0_4 s3:Int):Option (Unit ⊕ Bool) :=
 if s3<(g0_3.length:Int) then
  idx g0_3 s3 >>= fun a53 =>
  zii a53 g0 g0_1 g0_2 g0_3 g0_4 >>= fun r54 =>
  if r54=true then
   if s3 > 0 then
    idx g0_3 (IntKind.wrap .i64 (s3 - 1)) >>= fun a66 =>
    if a66.Id ≥ a53.Id then
     some (.inr false)
    else
     zdl g0 g0_1 g0_2 g0_3 g0_4 (IntKind.wrap .i64 (s3 + 1))
   else
    zdl g0 g0_1 g0_2 g0_3 g0_4 (IntKind.wrap .i64 (s3 + 1))
  else
   some (.inr false)
 else
  some (.inl ())
 partial_fixpoint
noncomputable def zgq (g0:List TBinding) (g0_1:Int) (g0_2:List TObject) (g0_3:List TCoexpr) (g0_4:Int):Option Bool :=
 zdl g0 g0_1 g0_2 g0_3 g0_4 0 >>= fun t =>
 match t with
 | .inl t =>
  some true
 | .inr t =>
  some t
noncomputable def zhd (g0:List TBinding) (g0_1:Int) (g0_2:List TObject) (g0_3:List TCoexpr) (g0_4:Int):Option Bool :=
 zkW g0 g0_1 g0_2 g0_3 g0_4 >>= fun r7 =>
 if r7=true then
  zfY g0 g0 g0_1 g0_2 g0_3 g0_4 >>= fun r17 =>
  if r17=true then
   if (g0_3.length:Int) > 8 then
    some false
   else
    zce g0_4 0 20000 >>= fun r33 =>
    if r33=true then
     zgq g0 g0_1 g0_2 g0_3 g0_4
    else
     some false
  else
   some false
 else
  some false
noncomputable def zhe (s1:Int) (g0:List TBinding) (g0_1:Int) (g0_2:List TObject) (g0_3:List TCoexpr) (g0_4 s5:Int):Option (Unit ⊕ Int) :=
 if s5<(g0_3.length:Int) then
  idx g0_3 s5 >>= fun a20 =>
  if a20.Id=s1 then
   some (.inr s5)
  else
   zhe s1 g0 g0_1 g0_2 g0_3 g0_4 (IntKind.wrap .i64 (s5 + 1))
 else
  some (.inl ())
 partial_fixpoint
noncomputable def zkY (p1:Int) (g0:List TBinding) (g0_1:Int) (g0_2:List TObject) (g0_3:List TCoexpr) (g0_4:Int):Option Int :=
 zhe p1 g0 g0_1 g0_2 g0_3 g0_4 0 >>= fun t =>
 match t with
 | .inl t =>
  some (-1)
 | .inr t =>
  some t
mutual
noncomputable def zbh (s0 s2 s3:TGen) (s4:Int):Option TGen :=
 if s4<(s0.Kids.length:Int) then
  idx s0.Kids s4 >>= fun a38 =>
  zda a38 >>= fun r39 =>
  app s3.Kids ([r39]) >>= fun c41 =>
  zbh s0 s2 (TGen.mk s3.Kind s3.Num s3.Text s3.Value c41) (IntKind.wrap .i64 (s4 + 1))
 else
  some s3
 partial_fixpoint
noncomputable def zda (p0:TGen):Option TGen :=
 zbh p0 (TGen.mk 0 0 ByteArray.empty (TValue.mk 0 0 ByteArray.empty 0) ([])) (TGen.mk p0.Kind p0.Num p0.Text p0.Value ([])) 0 >>= fun t =>
 some t
 partial_fixpoint
end
noncomputable def zfz (p0:List TBinding):Option ((List TBinding)) :=
 chk (p0.length≤most) >>= fun _ =>
 some p0
noncomputable def zfH (p0:List TValue):Option ((List TValue)) :=
 chk (p0.length≤most) >>= fun _ =>
 some p0
mutual
noncomputable def zaH (s0 s2 s3:TCursor) (s4:Int):Option TCursor :=
 if s4<(s0.Kids.length:Int) then
  idx s0.Kids s4 >>= fun a35 =>
  zbA a35 >>= fun r36 =>
  app s3.Kids ([r36]) >>= fun c38 =>
  zaH s0 s2 (TCursor.mk s3.Phase s3.Count s3.Vals c38) (IntKind.wrap .i64 (s4 + 1))
 else
  some s3
 partial_fixpoint
noncomputable def zbA (p0:TCursor):Option TCursor :=
 zfH p0.Vals >>= fun r17 =>
 zaH p0 (TCursor.mk 0 0 ([]) ([])) (TCursor.mk p0.Phase p0.Count r17 ([])) 0 >>= fun t =>
 some t
 partial_fixpoint
end
noncomputable def zhf (p0:TCoexpr):Option TCoexpr :=
 zda p0.Body >>= fun r10 =>
 zfz p0.Start >>= fun r15 =>
 zfz p0.Vars >>= fun r20 =>
 zbA p0.Cursor >>= fun r24 =>
 some (TCoexpr.mk p0.Id r10 r15 r20 r24 p0.Count p0.Done)
noncomputable def zsf (p0:TGenScope) (p1:Int):Option (TCoexpr × Bool) :=
 zhd p0.Vars p0.Heap.Next p0.Heap.Objects p0.Cos p0.Steps >>= fun r7 =>
 if r7=true then
  zkY p1 p0.Vars p0.Heap.Next p0.Heap.Objects p0.Cos p0.Steps >>= fun r11 =>
  if r11<0 then
   some (TCoexpr.mk 0 (TGen.mk 0 0 ByteArray.empty (TValue.mk 0 0 ByteArray.empty 0) ([])) ([]) ([]) (TCursor.mk 0 0 ([]) ([])) 0 false,false)
  else
   idx p0.Cos r11 >>= fun a18 =>
   zhf a18 >>= fun r19 =>
   some (r19,true)
 else
  some (TCoexpr.mk 0 (TGen.mk 0 0 ByteArray.empty (TValue.mk 0 0 ByteArray.empty 0) ([])) ([]) ([]) (TCursor.mk 0 0 ([]) ([])) 0 false,false)
noncomputable def zdL (p0:TCoexpr) (g0:Int):Option Bool :=
 some (decide (p0.Id=g0))
noncomputable def zaA (s0:List TCoexpr) (s7 g0 s8:Int):Option (Unit ⊕ Int) :=
 if s8<s7 then
  idx s0 s8 >>= fun a14 =>
  zdL a14 g0 >>= fun r16 =>
  if r16=true then
   some (.inr s8)
  else
   zaA s0 s7 g0 (IntKind.wrap .i64 (s8 + 1))
 else
  some (.inl ())
 partial_fixpoint
noncomputable def zbm (p0:List TCoexpr) (g0:Int):Option Int :=
 zaA p0 (p0.length:Int) g0 0 >>= fun t =>
 match t with
 | .inl t =>
  some (-1)
 | .inr t =>
  some t
noncomputable def zdm (p0:TGenScope) (p1:Int):Option Int :=
 zbm p0.Cos p1 >>= fun r8 =>
 some r8
noncomputable def zbY (p0 p1 p2:Int):Option Bool :=
 if p0 ≥ p1 then
  some (decide (p0≤p2))
 else
  some false
noncomputable def zeO (p0:Int):Option Bool :=
 zbY p0 1 1000000 >>= fun r4 =>
 some r4
noncomputable def zga (p0:Int):Option Bool :=
 if p0 ≥ 65 then
  if p0≤90 then
   some true
  else
   if p0 ≥ 97 then
    some (decide (p0≤122))
   else
    some false
 else
  if p0 ≥ 97 then
   some (decide (p0≤122))
  else
   some false
noncomputable def zhQ (p0:Int):Option Bool :=
 if p0 ≥ 48 then
  some (decide (p0≤57))
 else
  some false
noncomputable def zeP (p0:Int):Option Bool :=
 zga p0 >>= fun r4 =>
 if r4=true then
  some true
 else
  zhQ p0 >>= fun r7 =>
  if r7=true then
   some true
  else
   some (decide (p0=95))
noncomputable def zdH (s0 s7:List Int) (s8 s9:Int):Option (Unit ⊕ Bool) :=
 if s9<s8 then
  idx s7 s9 >>= fun a11 =>
  zeP a11 >>= fun r15 =>
  if r15=true then
   zdH s0 s7 s8 (IntKind.wrap .i64 (s9 + 1))
  else
   some (.inr false)
 else
  some (.inl ())
 partial_fixpoint
noncomputable def zfa (p0:List Int):Option Bool :=
 zdH p0 p0 (p0.length:Int) 0 >>= fun t =>
 match t with
 | .inl t =>
  some true
 | .inr t =>
  some t
noncomputable def zfA (p0:ByteArray):Option Bool :=
 if (p0.size:Int) ≥ 1 then
  if (p0.size:Int)≤12 then
   idxBN p0 0 >>= fun b13 =>
   zga (b13.toNat:Int) >>= fun r14 =>
   if r14=true then
    zfa (strI p0) >>= fun r19 =>
    some r19
   else
    some false
  else
   some false
 else
  some false
noncomputable def zeh (s1:TValue) (s65:Bool):Option (Bool ⊕ Bool) :=
 if s65=true then
  if s1.Num=0 then
   if s1.Ref=0 then
    zfA s1.Text >>= fun r78 =>
    some (.inr r78)
   else
    some (.inr false)
  else
   some (.inr false)
 else
  some (.inl false)
noncomputable def zdb (s1:TValue) (s4:Int) (s49:Bool):Option (Unit ⊕ Bool) :=
 if s49=true then
  if s1.Num=0 then
   if s1.Text=ByteArray.empty then
    zeO s1.Ref >>= fun r63 =>
    some (.inr r63)
   else
    some (.inr false)
  else
   some (.inr false)
 else
  if s4=7 then
   zeh s1 true >>= fun t =>
   match t with
   | .inl t =>
    some (.inl ())
   | .inr t =>
    some (.inr t)
  else
   zeh s1 (decide (s4=8)) >>= fun t =>
   match t with
   | .inl t =>
    some (.inl ())
   | .inr t =>
    some (.inr t)
noncomputable def zbn (p0:TValue):Option Bool :=
 if p0.Kind=1 then
  if p0.Num=0 then
   if p0.Ref=0 then
    some (decide ((p0.Text.size:Int)≤200))
   else
    some false
  else
   some false
 else
  if p0.Kind=2 then
   if p0.Text=ByteArray.empty then
    if p0.Ref=0 then
     zbY p0.Num (-1000000000000) 1000000000000 >>= fun r28 =>
     some r28
    else
     some false
   else
    some false
  else
   if p0.Kind=3 then
    if p0.Num=0 then
     if p0.Ref=0 then
      if (p0.Text.size:Int) ≥ 1 then
       some (decide ((p0.Text.size:Int)≤1200))
      else
       some false
     else
      some false
    else
     some false
   else
    if p0.Kind=4 then
     zdb p0 p0.Kind true >>= fun t =>
     match t with
     | .inl t =>
      some false
     | .inr t =>
      some t
    else
     if p0.Kind=5 then
      zdb p0 p0.Kind true >>= fun t =>
      match t with
      | .inl t =>
       some false
      | .inr t =>
       some t
     else
      zdb p0 p0.Kind (decide (p0.Kind=6)) >>= fun t =>
      match t with
      | .inl t =>
       some false
      | .inr t =>
       some t
noncomputable def zdn (s0 s7:List TValue) (s8 s9:Int):Option (Unit ⊕ Bool) :=
 if s9<s8 then
  idx s7 s9 >>= fun a11 =>
  zbn a11 >>= fun r15 =>
  if r15=true then
   zdn s0 s7 s8 (IntKind.wrap .i64 (s9 + 1))
  else
   some (.inr false)
 else
  some (.inl ())
 partial_fixpoint
noncomputable def zdw (p0:List TValue):Option Bool :=
 zdn p0 p0 (p0.length:Int) 0 >>= fun t =>
 match t with
 | .inl t =>
  some true
 | .inr t =>
  some t
noncomputable def zam (s0:List TValue) (s3:TValue) (s7 s8:Int):Option (Unit ⊕ Int) :=
 if s8<s7 then
  idx s0 s8 >>= fun a14 =>
  if s3.Kind=a14.Kind then
   if s3.Num=a14.Num then
    if s3.Text=a14.Text then
     if s3.Ref=a14.Ref then
      some (.inr s8)
     else
      zam s0 s3 s7 (IntKind.wrap .i64 (s8 + 1))
    else
     zam s0 s3 s7 (IntKind.wrap .i64 (s8 + 1))
   else
    zam s0 s3 s7 (IntKind.wrap .i64 (s8 + 1))
  else
   zam s0 s3 s7 (IntKind.wrap .i64 (s8 + 1))
 else
  some (.inl ())
 partial_fixpoint
noncomputable def zcf (p0:List TValue) (p1:TValue):Option Int :=
 zam p0 p1 (p0.length:Int) 0 >>= fun t =>
 match t with
 | .inl t =>
  some (-1)
 | .inr t =>
  some t
noncomputable def zaE (p0:List TValue) (p1:TValue):Option Bool :=
 zcf p0 p1 >>= fun r7 =>
 some (decide (r7 ≥ 0))
noncomputable def zdo (s0 s5:List TValue) (s6 s7:Int):Option (Unit ⊕ Bool) :=
 if s7<s6 then
  idx s5 s7 >>= fun a10 =>
  subH s0 s7 >>= fun c14 =>
  zaE c14 a10 >>= fun r16 =>
  if r16=true then
   some (.inr false)
  else
   zdo s0 s5 s6 (IntKind.wrap .i64 (s7 + 1))
 else
  some (.inl ())
 partial_fixpoint
noncomputable def zdx (p0:List TValue):Option Bool :=
 zdo p0 p0 (p0.length:Int) 0 >>= fun t =>
 match t with
 | .inl t =>
  some true
 | .inr t =>
  some t
noncomputable def ziW (p0:ByteArray):Option TValue :=
 some (TValue.mk 1 0 p0 0)
noncomputable def zgO (p0:TValue):Option Bool :=
 ziW p0.Text >>= fun r6 =>
 if p0.Kind=r6.Kind then
  if p0.Num=r6.Num then
   if p0.Text=r6.Text then
    if p0.Ref=r6.Ref then
     zfA p0.Text >>= fun r11 =>
     some r11
    else
     some false
   else
    some false
  else
   some false
 else
  some false
noncomputable def zcq (s0 s7:List TValue) (s8 s9:Int):Option (Unit ⊕ Bool) :=
 if s9<s8 then
  idx s7 s9 >>= fun a11 =>
  zgO a11 >>= fun r15 =>
  if r15=true then
   zcq s0 s7 s8 (IntKind.wrap .i64 (s9 + 1))
  else
   some (.inr false)
 else
  some (.inl ())
 partial_fixpoint
noncomputable def zdI (p0:List TValue):Option Bool :=
 zcq p0 p0 (p0.length:Int) 0 >>= fun t =>
 match t with
 | .inl t =>
  some true
 | .inr t =>
  some t
noncomputable def zcG (s1:TObject) (s3:Bool):Option Bool :=
 if s1.Low=0 then
  if s3=true then
   zbn s1.Default >>= fun r74 =>
   if r74=true then
    some (decide (s1.Name=⟨#[]⟩))
   else
    some false
  else
   some false
 else
  some false
noncomputable def zbq (s1:TObject) (s5:Bool):Option Bool :=
 if s1.Low=0 then
  if s5=true then
   if s1.Default.Kind=0 then
    if s1.Default.Num=0 then
     if s1.Default.Text=ByteArray.empty then
      if s1.Default.Ref=0 then
       zfA s1.Name >>= fun r124 =>
       some r124
      else
       some false
     else
      some false
    else
     some false
   else
    some false
  else
   some false
 else
  some false
noncomputable def zdJ (s1:TObject):Option Bool :=
 if s1.Kind=1 then
  zbY s1.Low (-1000) 1000 >>= fun r28 =>
  if r28=true then
   if (s1.Keys.length:Int)=0 then
    if s1.Default.Kind=0 then
     if s1.Default.Num=0 then
      if s1.Default.Text=ByteArray.empty then
       if s1.Default.Ref=0 then
        some (decide (s1.Name=⟨#[]⟩))
       else
        some false
      else
       some false
     else
      some false
    else
     some false
   else
    some false
  else
   some false
 else
  if s1.Kind=2 then
   if (s1.Keys.length:Int)=(s1.Vals.length:Int) then
    zdw s1.Keys >>= fun r58 =>
    if r58=true then
     zdx s1.Keys >>= fun r63 =>
     zcG s1 r63 >>= fun t =>
     some t
    else
     zcG s1 false >>= fun t =>
     some t
   else
    zcG s1 false >>= fun t =>
    some t
  else
   if s1.Kind=3 then
    if (s1.Keys.length:Int) ≥ 1 then
     if (s1.Keys.length:Int)≤6 then
      if (s1.Keys.length:Int)=(s1.Vals.length:Int) then
       zdI s1.Keys >>= fun r102 =>
       if r102=true then
        zdx s1.Keys >>= fun r107 =>
        zbq s1 r107 >>= fun t =>
        some t
       else
        zbq s1 false >>= fun t =>
        some t
      else
       zbq s1 false >>= fun t =>
       some t
     else
      zbq s1 false >>= fun t =>
      some t
    else
     zbq s1 false >>= fun t =>
     some t
   else
    some false
noncomputable def zei (p0:TObject):Option Bool :=
 zeO p0.Id >>= fun r8 =>
 if r8=true then
  if (p0.Vals.length:Int) > 30 then
   some false
  else
   zdw p0.Vals >>= fun r19 =>
   if r19=true then
    zdJ p0
   else
    some false
 else
  some false
noncomputable def zcQ (s0 s7:List TObject) (s8 s9:Int):Option (Unit ⊕ Bool) :=
 if s9<s8 then
  idx s7 s9 >>= fun a11 =>
  zei a11 >>= fun r15 =>
  if r15=true then
   zcQ s0 s7 s8 (IntKind.wrap .i64 (s9 + 1))
  else
   some (.inr false)
 else
  some (.inl ())
 partial_fixpoint
noncomputable def zej (p0:List TObject):Option Bool :=
 zcQ p0 p0 (p0.length:Int) 0 >>= fun t =>
 match t with
 | .inl t =>
  some true
 | .inr t =>
  some t
noncomputable def zbi (a b:List TValue):Option (List TValue):=chk (a.length + b.length≤most) >>= fun _=>some (a++b)
noncomputable def zfr (p0:TObject):Option ((List TValue)) :=
 zbi p0.Keys p0.Vals >>= fun r9 =>
 if p0.Kind=2 then
  app r9 ([p0.Default]) >>= fun c17 =>
  some c17
 else
  some r9
noncomputable def zhg (p0:Int):Option Bool :=
 zbY p0 4 6 >>= fun r4 =>
 some r4
noncomputable def zek (p0:Int):Option Bool :=
 some false
noncomputable def zeA (p0 p1:Int):Option Int :=
 zek p0 >>= fun r8 =>
 zek p1 >>= fun r10 =>
 if r8=true then
  if r10=true then
   some 0
  else
   some (-1)
 else
  if r10=true then
   some 1
  else
   if p0<p1 then
    some (-1)
   else
    if p0 > p1 then
     some 1
    else
     some 0
noncomputable def zel (p0:TObject) (p1:Int):Option Int :=
 zeA p0.Id p1 >>= fun r8 =>
 some r8
noncomputable def zah (s0:List TObject) (s1 s8 s9 s10:Int):Option Int :=
 if s9<s10 then
  idx s0 (IntKind.wrap .i64 ((IntKind.wrap .u64 (IntKind.wrap .i64 (s9 + s10))).fdiv (2 ^ (min 1 (IntKind.bits .u64))))) >>= fun a27 =>
  zel a27 s1 >>= fun r30 =>
  if r30<0 then
   zah s0 s1 s8 (IntKind.wrap .i64 (IntKind.wrap .i64 ((IntKind.wrap .u64 (IntKind.wrap .i64 (s9 + s10))).fdiv (2 ^ (min 1 (IntKind.bits .u64)))) + 1)) s10
  else
   zah s0 s1 s8 s9 (IntKind.wrap .i64 ((IntKind.wrap .u64 (IntKind.wrap .i64 (s9 + s10))).fdiv (2 ^ (min 1 (IntKind.bits .u64)))))
 else
  some s9
 partial_fixpoint
noncomputable def zay (p0:List TObject) (p1:Int):Option (Int × Bool) :=
 zah p0 p1 (p0.length:Int) 0 (p0.length:Int) >>= fun t =>
 if t<(p0.length:Int) then
  idx p0 t >>= fun a43 =>
  zel a43 p1 >>= fun r46 =>
  some (t,(decide (r46=0)))
 else
  some (t,false)
noncomputable def zgr (p0:THeap) (p1:Int):Option Int :=
 zay p0.Objects p1 >>= fun r11 =>
 if r11.2=true then
  some r11.1
 else
  some (-1)
noncomputable def zgP (p0:Int):Option Int :=
 some (IntKind.wrap .i64 (IntKind.wrap .i64 (p0 - 4) + 1))
noncomputable def zfI (s2:THeap) (s3:TValue):Option Bool :=
 zgr s2 s3.Ref >>= fun r20 =>
 if r20 ≥ 0 then
  idx s2.Objects r20 >>= fun a27 =>
  zgP s3.Kind >>= fun r32 =>
  some (decide (a27.Kind=r32))
 else
  some false
noncomputable def zdM (p0:THeap) (p1:TValue):Option Bool :=
 zbn p1 >>= fun r7 =>
 if r7=true then
  zhg p1.Kind >>= fun r12 =>
  if r12=true then
   zfI p0 p1
  else
   zbn p1 >>= fun r16 =>
   some r16
 else
  zbn p1 >>= fun r16 =>
  some r16
noncomputable def zcr (s0:List TValue) (s1:THeap) (s7:List TValue) (s8 s9:Int):Option (Unit ⊕ Bool) :=
 if s9<s8 then
  idx s7 s9 >>= fun a11 =>
  zdM s1 a11 >>= fun r15 =>
  if r15=true then
   zcr s0 s1 s7 s8 (IntKind.wrap .i64 (s9 + 1))
  else
   some (.inr false)
 else
  some (.inl ())
 partial_fixpoint
noncomputable def zbO (p0:List TValue) (p1:THeap):Option Bool :=
 zcr p0 p1 p0 (p0.length:Int) 0 >>= fun t =>
 match t with
 | .inl t =>
  some true
 | .inr t =>
  some t
noncomputable def zem (p0:TObject) (g0:Int) (g0_1:List TObject):Option Bool :=
 zfr p0 >>= fun r5 =>
 zbO r5 (THeap.mk g0 g0_1) >>= fun r8 =>
 some r8
noncomputable def zbZ (s0 s7:List TObject) (s8 g0:Int) (g0_1:List TObject) (s9:Int):Option (Unit ⊕ Bool) :=
 if s9<s8 then
  idx s7 s9 >>= fun a11 =>
  zem a11 g0 g0_1 >>= fun r15 =>
  if r15=true then
   zbZ s0 s7 s8 g0 g0_1 (IntKind.wrap .i64 (s9 + 1))
  else
   some (.inr false)
 else
  some (.inl ())
 partial_fixpoint
noncomputable def zdp (p0:List TObject) (g0:Int) (g0_1:List TObject):Option Bool :=
 zbZ p0 p0 (p0.length:Int) g0 g0_1 0 >>= fun t =>
 match t with
 | .inl t =>
  some true
 | .inr t =>
  some t
noncomputable def zdy (s1:THeap) (s23:List TObject) (s24 s3 s25:Int):Option (Unit ⊕ Bool) :=
 if s25<s24 then
  idx s23 s25 >>= fun a27 =>
  if a27.Id≤s3 then
   some (.inr false)
  else
   if a27.Id > s1.Next then
    some (.inr false)
   else
    zdy s1 s23 s24 a27.Id (IntKind.wrap .i64 (s25 + 1))
 else
  some (.inl ())
 partial_fixpoint
noncomputable def zfJ (s1:THeap):Option Bool :=
 zdy s1 s1.Objects (s1.Objects.length:Int) 0 0 >>= fun t =>
 match t with
 | .inl t =>
  zdp s1.Objects s1.Next s1.Objects >>= fun r46 =>
  some r46
 | .inr t =>
  some t
noncomputable def zgs (p0:THeap):Option Bool :=
 zbY p0.Next 0 1000000 >>= fun r8 =>
 if r8=true then
  if (p0.Objects.length:Int) > 40 then
   some false
  else
   zej p0.Objects >>= fun r19 =>
   if r19=true then
    zfJ p0
   else
    some false
 else
  some false
noncomputable def zfs (p0:TBinding):Option ByteArray :=
 some p0.Name
noncomputable def zbU (s0:List TBinding) (s5:Int):Option (Unit ⊕ Bool) :=
 if s5<(s0.length:Int) then
  idx s0 (IntKind.wrap .i64 (s5 - 1)) >>= fun a16 =>
  zfs a16 >>= fun r18 =>
  idx s0 s5 >>= fun a22 =>
  zfs a22 >>= fun r24 =>
  if (Op.bytesLess r18.toList r24.toList)=true then
   zbU s0 (IntKind.wrap .i64 (s5 + 1))
  else
   some (.inr false)
 else
  some (.inl ())
 partial_fixpoint
noncomputable def zcR (p0:List TBinding):Option Bool :=
 zbU p0 1 >>= fun t =>
 match t with
 | .inl t =>
  some true
 | .inr t =>
  some t
noncomputable def zwN:Option TValue :=
 ziW (⟨#[]⟩) >>= fun r1 =>
 some r1
noncomputable def zkZ (p0:TValue):Option Bool :=
 zwN >>= fun r4 =>
 some ((decide (p0.Kind=r4.Kind)) && ((decide (p0.Num=r4.Num)) && ((decide (p0.Text=r4.Text)) && (decide (p0.Ref=r4.Ref)))))
noncomputable def zdq (p0:TBinding):Option Bool :=
 zfA p0.Name >>= fun r5 =>
 if r5=true then
  zbn p0.Value >>= fun r9 =>
  if r9=true then
   zkZ p0.Value >>= fun r14 =>
   some (!r14)
  else
   some false
 else
  some false
noncomputable def zgt (p0:TBinding) (g0:Int) (g0_1:List TObject):Option Bool :=
 zdq p0 >>= fun r5 =>
 if r5=true then
  zdM (THeap.mk g0 g0_1) p0.Value >>= fun r10 =>
  some r10
 else
  some false
noncomputable def zcs (s0 s7:List TBinding) (s8 g0:Int) (g0_1:List TObject) (s9:Int):Option (Unit ⊕ Bool) :=
 if s9<s8 then
  idx s7 s9 >>= fun a11 =>
  zgt a11 g0 g0_1 >>= fun r15 =>
  if r15=true then
   zcs s0 s7 s8 g0 g0_1 (IntKind.wrap .i64 (s9 + 1))
  else
   some (.inr false)
 else
  some (.inl ())
 partial_fixpoint
noncomputable def zeU (p0:List TBinding) (g0:Int) (g0_1:List TObject):Option Bool :=
 zcs p0 p0 (p0.length:Int) g0 g0_1 0 >>= fun t =>
 match t with
 | .inl t =>
  some true
 | .inr t =>
  some t
noncomputable def zgb (p0:List TBinding) (p1:THeap):Option Bool :=
 if (p0.length:Int)≤40 then
  zcR p0 >>= fun r10 =>
  if r10=true then
   zeU p0 p1.Next p1.Objects >>= fun r15 =>
   some r15
  else
   some false
 else
  some false
noncomputable def ziX (p0:TValue):Option Bool :=
 zbn p0 >>= fun r4 =>
 if r4=true then
  if p0.Kind=1 then
   some true
  else
   if p0.Kind=2 then
    some true
   else
    zhg p0.Kind >>= fun r17 =>
    some r17
 else
  some false
noncomputable def zfB (s0 s3:Int) (s10:Bool):Option ((Bool × Bool × Bool × Bool × Bool) ⊕ Int) :=
 if s10=true then
  some (.inr 3)
 else
  if s3=1 then
   some (.inr 0)
  else
   if s3=2 then
    some (.inr 0)
   else
    if s3=3 then
     some (.inr 0)
    else
     some (.inl (false,false,false,false,false))
noncomputable def zdS (s0 s3:Int) (s4:Bool):Option ((Bool × Bool × Bool × Bool × Bool) ⊕ Int) :=
 if s4=true then
  some (.inr 2)
 else
  if s3=8 then
   zfB s0 s3 true >>= fun t =>
   match t with
   | .inl t =>
    some (.inl (t.1,t.2.1,t.2.2.1,t.2.2.2.1,t.2.2.2.2))
   | .inr t =>
    some (.inr t)
  else
   if s3=12 then
    zfB s0 s3 true >>= fun t =>
    match t with
    | .inl t =>
     some (.inl (t.1,t.2.1,t.2.2.1,t.2.2.2.1,t.2.2.2.2))
    | .inr t =>
     some (.inr t)
   else
    zfB s0 s3 (decide (s3=15)) >>= fun t =>
    match t with
    | .inl t =>
     some (.inl (t.1,t.2.1,t.2.2.1,t.2.2.2.1,t.2.2.2.2))
    | .inr t =>
     some (.inr t)
noncomputable def zgc (p0:Int):Option Int :=
 if p0=4 then
  zdS p0 p0 true >>= fun t =>
  match t with
  | .inl t =>
   some 1
  | .inr t =>
   some t
 else
  if p0=5 then
   zdS p0 p0 true >>= fun t =>
   match t with
   | .inl t =>
    some 1
   | .inr t =>
    some t
  else
   if p0=9 then
    zdS p0 p0 true >>= fun t =>
    match t with
    | .inl t =>
     some 1
    | .inr t =>
     some t
   else
    if p0=11 then
     zdS p0 p0 true >>= fun t =>
     match t with
     | .inl t =>
      some 1
     | .inr t =>
      some t
    else
     zdS p0 p0 (decide (p0=14)) >>= fun t =>
     match t with
     | .inl t =>
      some 1
     | .inr t =>
      some t
noncomputable def zcH (p0:ByteArray):Option Bool :=
 if p0=⟨#[97,100,100]⟩ then
  some true
 else
  if p0=⟨#[115,117,98]⟩ then
   some true
  else
   if p0=⟨#[109,117,108]⟩ then
    some true
   else
    if p0=⟨#[100,105,118]⟩ then
     some true
    else
     if p0=⟨#[99,97,116]⟩ then
      some true
     else
      if p0=⟨#[108,116]⟩ then
       some true
      else
       if p0=⟨#[108,101]⟩ then
        some true
       else
        if p0=⟨#[101,113]⟩ then
         some true
        else
         if p0=⟨#[110,101]⟩ then
          some true
         else
          if p0=⟨#[103,116]⟩ then
           some true
          else
           if p0=⟨#[103,101]⟩ then
            some true
           else
            if p0=⟨#[115,101,113]⟩ then
             some true
            else
             if p0=⟨#[115,110,101]⟩ then
              some true
             else
              if p0=⟨#[115,108,116]⟩ then
               some true
              else
               if p0=⟨#[105,115]⟩ then
                some true
               else
                some false
noncomputable def zbP (s1:TGen) (s3 s4 s5:Bool):Option Bool :=
 zbY s1.Kind 1 18 >>= fun r42 =>
 if r42=true then
  if s3=true then
   if s4=true then
    if s5=true then
     zgc s1.Kind >>= fun r58 =>
     some (decide ((s1.Kids.length:Int)=r58))
    else
     some false
   else
    some false
  else
   some false
 else
  some false
noncomputable def zcI (s1:TGen) (s3 s4 s5:Bool) (s17:Int) (s23:Bool):Option (Bool × Bool × Bool) :=
 if s23=true then
  zfA s1.Text >>= fun r29 =>
  some (s3,r29,true)
 else
  if s17=6 then
   zbY s1.Num 0 60 >>= fun r34 =>
   some (r34,s4,false)
  else
   if s17=11 then
    zcH s1.Text >>= fun r39 =>
    some (s3,r39,false)
   else
    some (s3,s4,false)
noncomputable def zfb (p0:TGen):Option Bool :=
 if p0.Kind=1 then
  ziX p0.Value >>= fun r22 =>
  zbP p0 (decide (p0.Num=0)) (decide (p0.Text=⟨#[]⟩)) r22
 else
  if p0.Kind=2 then
   zcI p0 (decide (p0.Num=0)) (decide (p0.Text=⟨#[]⟩)) ((decide (p0.Value.Kind=0)) && ((decide (p0.Value.Num=0)) && ((decide (p0.Value.Text=ByteArray.empty)) && (decide (p0.Value.Ref=0))))) p0.Kind true >>= fun t =>
   zbP p0 t.1 t.2.1 ((decide (p0.Value.Kind=0)) && ((decide (p0.Value.Num=0)) && ((decide (p0.Value.Text=ByteArray.empty)) && (decide (p0.Value.Ref=0)))))
  else
   if p0.Kind=16 then
    zcI p0 (decide (p0.Num=0)) (decide (p0.Text=⟨#[]⟩)) ((decide (p0.Value.Kind=0)) && ((decide (p0.Value.Num=0)) && ((decide (p0.Value.Text=ByteArray.empty)) && (decide (p0.Value.Ref=0))))) p0.Kind true >>= fun t =>
    zbP p0 t.1 t.2.1 ((decide (p0.Value.Kind=0)) && ((decide (p0.Value.Num=0)) && ((decide (p0.Value.Text=ByteArray.empty)) && (decide (p0.Value.Ref=0)))))
   else
    zcI p0 (decide (p0.Num=0)) (decide (p0.Text=⟨#[]⟩)) ((decide (p0.Value.Kind=0)) && ((decide (p0.Value.Num=0)) && ((decide (p0.Value.Text=ByteArray.empty)) && (decide (p0.Value.Ref=0))))) p0.Kind (decide (p0.Kind=17)) >>= fun t =>
    zbP p0 t.1 t.2.1 ((decide (p0.Value.Kind=0)) && ((decide (p0.Value.Num=0)) && ((decide (p0.Value.Text=ByteArray.empty)) && (decide (p0.Value.Ref=0)))))
mutual
noncomputable def zbj (s1:Int) (s2:TGen) (s17:List TGen) (s18 s19:Int):Option Int :=
 if s19<s18 then
  idx s17 s19 >>= fun a21 =>
  zdT a21 s1 >>= fun r25 =>
  if r25 > 60 then
   some r25
  else
   zbj r25 s2 s17 s18 (IntKind.wrap .i64 (s19 + 1))
 else
  some s1
 partial_fixpoint
noncomputable def zdT (p0:TGen) (p1:Int):Option Int :=
 if IntKind.wrap .i64 (p1 + 1) > 60 then
  some 61
 else
  zfb p0 >>= fun r13 =>
  if r13=true then
   zen (IntKind.wrap .i64 (p1 + 1)) p0
  else
   some 61
 partial_fixpoint
noncomputable def zen (s1:Int) (s2:TGen):Option Int :=
 zbj s1 s2 s2.Kids (s2.Kids.length:Int) 0 >>= fun t =>
 some t
 partial_fixpoint
end
noncomputable def zhh (p0:TGen):Option Bool :=
 zdT p0 0 >>= fun r4 =>
 some (decide (r4≤60))
mutual
noncomputable def zaS (s0:List TGen) (s1:THeap) (s7:List TGen) (s8 s9:Int):Option (Unit ⊕ Bool) :=
 if s9<s8 then
  idx s7 s9 >>= fun a11 =>
  zbB s1 a11 >>= fun r15 =>
  if r15=true then
   zaS s0 s1 s7 s8 (IntKind.wrap .i64 (s9 + 1))
  else
   some (.inr false)
 else
  some (.inl ())
 partial_fixpoint
noncomputable def zbB (p0:THeap) (p1:TGen):Option Bool :=
 if p1.Kind=1 then
  zdM p0 p1.Value >>= fun r12 =>
  if r12=true then
   zdU p1.Kids p0 >>= fun r19 =>
   some r19
  else
   some false
 else
  zdU p1.Kids p0 >>= fun r19 =>
  some r19
 partial_fixpoint
noncomputable def zdU (p0:List TGen) (p1:THeap):Option Bool :=
 zaS p0 p1 p0 (p0.length:Int) 0 >>= fun t =>
 match t with
 | .inl t =>
  some true
 | .inr t =>
  some t
 partial_fixpoint
end
noncomputable def zdc (p0:TCursor):Option Bool :=
 if p0.Phase=0 then
  if p0.Count=0 then
   if (p0.Vals.length:Int)=0 then
    some (decide ((p0.Kids.length:Int)=0))
   else
    some false
  else
   some false
 else
  some false
noncomputable def zdd (p0:TGen) (p1:Int):Option (((List TGen)) ⊕ Unit) :=
 zbY p1 1 (p0.Kids.length:Int) >>= fun r9 =>
 if r9=true then
  sub p0.Kids (IntKind.wrap .i64 (p1 - 1)) p1 >>= fun c16 =>
  some (.inl c16)
 else
  some (.inr ())
noncomputable def zfc (s1:Int) (s2:TGen) (s4:TcursorForm) (s5:List Int) (s8:Int) (s33:Bool):Option ((Bool × Bool × Bool × Bool × Bool × Bool × Bool × Bool × Bool) ⊕ ((TcursorForm ⊕ ((List Int) × Int × Int)))) :=
 if s33=true then
  some (.inr (.inl (TcursorForm.mk s5 0 0 s2.Kids)))
 else
  if s8=6 then
   some (.inr (.inl (TcursorForm.mk s5 s2.Num 0 s2.Kids)))
  else
   if s8=12 then
    some (.inr (.inl (TcursorForm.mk s5 2000000000001 3 s2.Kids)))
   else
    if s8=13 then
     some (.inr (.inl (TcursorForm.mk s5 200 1 s2.Kids)))
    else
     if s8=17 then
      some (.inr (.inl (TcursorForm.mk s5 0 2 s2.Kids)))
     else
      some (.inl (false,false,false,false,false,false,false,false,false))
noncomputable def zbV (s1:Int) (s2:TGen) (s4:TcursorForm) (s5:List Int) (s8:Int) (s13:Bool):Option ((Bool × Bool × Bool × Bool × Bool × Bool × Bool × Bool × Bool) ⊕ ((TcursorForm ⊕ ((List Int) × Int × Int)))) :=
 if s13=true then
  some (.inr (.inr (s5,0,0)))
 else
  if s8=4 then
   zdd s2 s1 >>= fun r24 =>
   match r24 with
   | .inl r24 =>
    some (.inr (.inl (TcursorForm.mk ([1,2]) 0 0 r24)))
   | .inr r24 =>
    some (.inr (.inr ([1,2],0,0)))
  else
   if s8=8 then
    zdd s2 s1 >>= fun r31 =>
    match r31 with
    | .inl r31 =>
     some (.inr (.inl (TcursorForm.mk ([2,3]) 0 0 r31)))
    | .inr r31 =>
     some (.inr (.inr ([2,3],0,0)))
   else
    if s8=5 then
     zfc s1 s2 s4 s5 s8 true >>= fun t =>
     match t with
     | .inl t =>
      some (.inl (t.1,t.2.1,t.2.2.1,t.2.2.2.1,t.2.2.2.2.1,t.2.2.2.2.2.1,t.2.2.2.2.2.2.1,t.2.2.2.2.2.2.2.1,t.2.2.2.2.2.2.2.2))
     | .inr t =>
      some (.inr t)
    else
     zfc s1 s2 s4 s5 s8 (decide (s8=10)) >>= fun t =>
     match t with
     | .inl t =>
      some (.inl (t.1,t.2.1,t.2.2.1,t.2.2.2.1,t.2.2.2.2.1,t.2.2.2.2.2.1,t.2.2.2.2.2.2.1,t.2.2.2.2.2.2.2.1,t.2.2.2.2.2.2.2.2))
     | .inr t =>
      some (.inr t)
noncomputable def zbW (s1:Int) (s2:TGen) (s4:TcursorForm) (s5:List Int) (s8:Int) (s9:Bool):Option ((Bool × Bool × Bool × Bool × Bool × Bool × Bool × Bool × Bool) ⊕ ((TcursorForm ⊕ ((List Int) × Int × Int)))) :=
 if s9=true then
  some (.inr (.inr ([],0,0)))
 else
  if s8=1 then
   zbV s1 s2 s4 s5 s8 true >>= fun t =>
   match t with
   | .inl t =>
    some (.inl (t.1,t.2.1,t.2.2.1,t.2.2.2.1,t.2.2.2.2.1,t.2.2.2.2.2.1,t.2.2.2.2.2.2.1,t.2.2.2.2.2.2.2.1,t.2.2.2.2.2.2.2.2))
   | .inr t =>
    some (.inr t)
  else
   if s8=2 then
    zbV s1 s2 s4 s5 s8 true >>= fun t =>
    match t with
    | .inl t =>
     some (.inl (t.1,t.2.1,t.2.2.1,t.2.2.2.1,t.2.2.2.2.1,t.2.2.2.2.2.1,t.2.2.2.2.2.2.1,t.2.2.2.2.2.2.2.1,t.2.2.2.2.2.2.2.2))
    | .inr t =>
     some (.inr t)
   else
    zbV s1 s2 s4 s5 s8 (decide (s8=7)) >>= fun t =>
    match t with
    | .inl t =>
     some (.inl (t.1,t.2.1,t.2.2.1,t.2.2.2.1,t.2.2.2.2.1,t.2.2.2.2.2.1,t.2.2.2.2.2.2.1,t.2.2.2.2.2.2.2.1,t.2.2.2.2.2.2.2.2))
    | .inr t =>
     some (.inr t)
noncomputable def zfd (s1:Int) (s2:TGen) (s4:TcursorForm) (s5:List Int):Option ((TcursorForm ⊕ ((List Int) × Int × Int))) :=
 some (.inl (TcursorForm.mk s5 0 (s2.Kids.length:Int) s2.Kids))
noncomputable def zcg (p0:TGen) (p1:Int):Option (TcursorForm ⊕ ((List Int) × Int × Int)) :=
 if p0.Kind=3 then
  zbW p1 p0 (TcursorForm.mk ([]) 0 0 ([])) ([1]) p0.Kind true >>= fun t =>
  match t with
  | .inl t =>
   zfd p1 p0 (TcursorForm.mk ([]) 0 0 ([])) ([1])
  | .inr t =>
   some t
 else
  zbW p1 p0 (TcursorForm.mk ([]) 0 0 ([])) ([1]) p0.Kind (decide (p0.Kind=9)) >>= fun t =>
  match t with
  | .inl t =>
   zfd p1 p0 (TcursorForm.mk ([]) 0 0 ([])) ([1])
  | .inr t =>
   some t
noncomputable def zcM (p0:Int):Option Bool :=
 if p0=6 then
  some true
 else
  if p0=12 then
   some true
  else
   some (decide (p0=13))
noncomputable def zaT (s0:List Int) (s1 s7 s8:Int):Option (Unit ⊕ Int) :=
 if s8<s7 then
  idx s0 s8 >>= fun a14 =>
  if s1=a14 then
   some (.inr s8)
  else
   zaT s0 s1 s7 (IntKind.wrap .i64 (s8 + 1))
 else
  some (.inl ())
 partial_fixpoint
noncomputable def zch (p0:List Int) (p1:Int):Option Int :=
 zaT p0 p1 (p0.length:Int) 0 >>= fun t =>
 match t with
 | .inl t =>
  some (-1)
 | .inr t =>
  some t
noncomputable def zaF (p0:List Int) (p1:Int):Option Bool :=
 zch p0 p1 >>= fun r7 =>
 some (decide (r7 ≥ 0))
noncomputable def zct (s3:THeap) (s5:TCursor) (s7:List Int) (s7_1 s7_2 s63 s64:Int):Option Unit :=
 if s64<s63 then
  none
 else
  some ()
noncomputable def zcu (s3:THeap) (s5:TCursor) (s7:List Int) (s7_1 s7_2:Int):Option Bool :=
 zct s3 s5 s7 s7_1 s7_2 0 0 >>= fun t =>
 some true
noncomputable def zaU (s3:THeap) (s5:TCursor) (s7:List Int) (s7_1 s7_2:Int) (s8:Bool):Option Bool :=
 zaF s7 s5.Phase >>= fun r30 =>
 if r30=true then
  if s8=true then
   if (s5.Vals.length:Int)=s7_2 then
    zbO s5.Vals s3 >>= fun r49 =>
    if r49=true then
     if (s5.Kids.length:Int)=0 then
      zcu s3 s5 s7 s7_1 s7_2 >>= fun t =>
      some t
     else
      some false
    else
     some false
   else
    some false
  else
   some false
 else
  some false
mutual
noncomputable def zan (s3:THeap) (s5:TCursor) (s7:TcursorForm) (s62:List TGen) (s63 s64:Int):Option (Unit ⊕ Bool) :=
 if s64<s63 then
  idx s62 s64 >>= fun a67 =>
  idx s5.Kids s64 >>= fun a74 =>
  zag s3 a67 a74 >>= fun r76 =>
  if r76=true then
   zan s3 s5 s7 s62 s63 (IntKind.wrap .i64 (s64 + 1))
  else
   some (.inr false)
 else
  some (.inl ())
 partial_fixpoint
noncomputable def zag (p0:THeap) (p1:TGen) (p2:TCursor):Option Bool :=
 zcg p1 p2.Phase >>= fun r14 =>
 match r14 with
 | .inl r14 =>
  zcM p1.Kind >>= fun r20 =>
  if r20=true then
   zbY p2.Count 1 r14.counts >>= fun r25 =>
   zav p0 p2 r14 r25
  else
   zav p0 p2 r14 (decide (p2.Count=0))
 | .inr r14 =>
  zcM p1.Kind >>= fun r20 =>
  if r20=true then
   zbY p2.Count 1 r14.2.1 >>= fun r25 =>
   zaU p0 p2 r14.1 r14.2.1 r14.2.2 r25
  else
   zaU p0 p2 r14.1 r14.2.1 r14.2.2 (decide (p2.Count=0))
 partial_fixpoint
noncomputable def zav (s3:THeap) (s5:TCursor) (s7:TcursorForm) (s8:Bool):Option Bool :=
 zaF s7.phases s5.Phase >>= fun r30 =>
 if r30=true then
  if s8=true then
   if (s5.Vals.length:Int)=s7.vals then
    zbO s5.Vals s3 >>= fun r49 =>
    if r49=true then
     if (s5.Kids.length:Int)=(s7.kids.length:Int) then
      zaG s3 s5 s7 >>= fun t =>
      some t
     else
      some false
    else
     some false
   else
    some false
  else
   some false
 else
  some false
 partial_fixpoint
noncomputable def zaG (s3:THeap) (s5:TCursor) (s7:TcursorForm):Option Bool :=
 zan s3 s5 s7 s7.kids (s7.kids.length:Int) 0 >>= fun t =>
 match t with
 | .inl t =>
  some true
 | .inr t =>
  some t
 partial_fixpoint
end
noncomputable def zfK (s2:THeap) (s3:TCoexpr):Option Bool :=
 zag s2 s3.Body s3.Cursor >>= fun r56 =>
 some r56
noncomputable def zfL (s2:THeap) (s3:TCoexpr):Option Bool :=
 if s3.Done=true then
  zdc s3.Cursor >>= fun r50 =>
  some r50
 else
  if s3.Count=0 then
   zdc s3.Cursor >>= fun r50 =>
   some r50
  else
   zfK s2 (TCoexpr.mk s3.Id s3.Body s3.Start s3.Vars s3.Cursor s3.Count false) >>= fun t =>
   some t
noncomputable def zcN (s2:THeap) (s3:TCoexpr) (s5:Bool):Option Bool :=
 if s5=true then
  zgb s3.Start s2 >>= fun r31 =>
  if r31=true then
   zgb s3.Vars s2 >>= fun r38 =>
   if r38=true then
    zfL s2 s3 >>= fun t =>
    some t
   else
    some false
  else
   some false
 else
  some false
noncomputable def zbX (p0:THeap) (p1:TCoexpr):Option Bool :=
 zbY p1.Id 1 1000000 >>= fun r8 =>
 if r8=true then
  zhh p1.Body >>= fun r12 =>
  if r12=true then
   zbB p0 p1.Body >>= fun r18 =>
   if r18=true then
    zbY p1.Count 0 1000000 >>= fun r23 =>
    zcN p0 p1 r23
   else
    zcN p0 p1 false
  else
   zcN p0 p1 false
 else
  zcN p0 p1 false
noncomputable def zcS (s0:List TCoexpr) (s1:THeap) (s7:List TCoexpr) (s8 s9:Int):Option (Unit ⊕ Bool) :=
 if s9<s8 then
  idx s7 s9 >>= fun a11 =>
  zbX s1 a11 >>= fun r15 =>
  if r15=true then
   zcS s0 s1 s7 s8 (IntKind.wrap .i64 (s9 + 1))
  else
   some (.inr false)
 else
  some (.inl ())
 partial_fixpoint
noncomputable def zeo (p0:List TCoexpr) (p1:THeap):Option Bool :=
 zcS p0 p1 p0 (p0.length:Int) 0 >>= fun t =>
 match t with
 | .inl t =>
  some true
 | .inr t =>
  some t
noncomputable def zcT (s1:TGenScope) (s3:Int):Option (Unit ⊕ Bool) :=
 if s3<(s1.Cos.length:Int) then
  idx s1.Cos (IntKind.wrap .i64 (s3 - 1)) >>= fun a42 =>
  idx s1.Cos s3 >>= fun a48 =>
  if a42.Id ≥ a48.Id then
   some (.inr false)
  else
   zcT s1 (IntKind.wrap .i64 (s3 + 1))
 else
  some (.inl ())
 partial_fixpoint
noncomputable def zep (s1:TGenScope):Option Bool :=
 zcT s1 1 >>= fun t =>
 match t with
 | .inl t =>
  zbY s1.Steps 0 20000 >>= fun r54 =>
  some r54
 | .inr t =>
  some t
noncomputable def zeq (p0:TGenScope):Option Bool :=
 zgs p0.Heap >>= fun r6 =>
 if r6=true then
  zgb p0.Vars p0.Heap >>= fun r13 =>
  if r13=true then
   if (p0.Cos.length:Int) > 8 then
    some false
   else
    zeo p0.Cos p0.Heap >>= fun r28 =>
    if r28=true then
     zep p0
    else
     some false
  else
   some false
 else
  some false
mutual
noncomputable def zaV (s1 s2:TGen) (s3 s8:List TGen) (s9 s10:Int):Option ((List TGen)) :=
 if s10<s9 then
  idx s8 s10 >>= fun a12 =>
  zcn a12 >>= fun r16 =>
  app s3 ([r16]) >>= fun c18 =>
  zaV s1 s2 c18 s8 s9 (IntKind.wrap .i64 (s10 + 1))
 else
  some s3
 partial_fixpoint
noncomputable def zcn (p0:TGen):Option TGen :=
 zaV p0 (TGen.mk 0 0 ByteArray.empty (TValue.mk 0 0 ByteArray.empty 0) ([])) ([]) p0.Kids (p0.Kids.length:Int) 0 >>= fun t =>
 some (TGen.mk p0.Kind p0.Num p0.Text p0.Value t)
 partial_fixpoint
end
noncomputable def zbp (p0:List TValue):Option (List TValue):=chk (p0.length≤most) >>= fun _=>some p0
mutual
noncomputable def zaB (s1 s2:TCursor) (s3 s8:List TCursor) (s9 s10:Int):Option ((List TCursor)) :=
 if s10<s9 then
  idx s8 s10 >>= fun a12 =>
  zbo a12 >>= fun r16 =>
  app s3 ([r16]) >>= fun c18 =>
  zaB s1 s2 c18 s8 s9 (IntKind.wrap .i64 (s10 + 1))
 else
  some s3
 partial_fixpoint
noncomputable def zbo (p0:TCursor):Option TCursor :=
 zaB p0 (TCursor.mk 0 0 ([]) ([])) ([]) p0.Kids (p0.Kids.length:Int) 0 >>= fun t =>
 zbp p0.Vals >>= fun r22 =>
 some (TCursor.mk p0.Phase p0.Count r22 t)
 partial_fixpoint
end
noncomputable def zaC (p0:List TBinding):Option (List TBinding):=chk (p0.length≤most) >>= fun _=>some p0
noncomputable def zer (p0:TCoexpr):Option TCoexpr :=
 zcn p0.Body >>= fun r5 =>
 zbo p0.Cursor >>= fun r8 =>
 zaC p0.Start >>= fun r13 =>
 zaC p0.Vars >>= fun r16 =>
 some (TCoexpr.mk p0.Id r5 r13 r16 r8 p0.Count p0.Done)
noncomputable def zjx (s1:Int) (s2:TGenScope) (s4:TCoexpr) (s6:Int):Option ((TCoexpr × Bool)) :=
 idx s2.Cos s6 >>= fun a21 =>
 zer a21 >>= fun r23 =>
 some (r23,true)
noncomputable def zsg (p0:TGenScope) (p1:Int):Option (TCoexpr × Bool) :=
 zdm p0 p1 >>= fun r9 =>
 zeq p0 >>= fun r11 =>
 if r11=true then
  if r9<0 then
   some (TCoexpr.mk 0 (TGen.mk 0 0 ByteArray.empty (TValue.mk 0 0 ByteArray.empty 0) ([])) ([]) ([]) (TCursor.mk 0 0 ([]) ([])) 0 false,false)
  else
   zjx p1 p0 (TCoexpr.mk 0 (TGen.mk 0 0 ByteArray.empty (TValue.mk 0 0 ByteArray.empty 0) ([])) ([]) ([]) (TCursor.mk 0 0 ([]) ([])) 0 false) r9
 else
  some (TCoexpr.mk 0 (TGen.mk 0 0 ByteArray.empty (TValue.mk 0 0 ByteArray.empty 0) ([])) ([]) ([]) (TCursor.mk 0 0 ([]) ([])) 0 false,false)
end Go.Vx.CpZ
