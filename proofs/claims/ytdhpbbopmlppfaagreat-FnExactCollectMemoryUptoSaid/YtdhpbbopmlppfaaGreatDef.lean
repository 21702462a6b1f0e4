/-
  The program's functions as plain functions.
-/
import Derived.Test.YtdhpbbopmlppfaaGreatTypes
import Derived.Test.YtdhpbbopmlppfaaGreatVxD
import Derived.Test.YtdhpbbopmlppfaaGreatVxE
set_option linter.unusedVariables false
set_option linter.unusedSimpArgs false
namespace Go.Vx.CmZ
set_option linter.unusedVariables false
set_option linter.unusedSimpArgs false
set_option maxRecDepth 10000
set_option maxHeartbeats 2000000
noncomputable def zdA (p0 p1 p2:Int):Option Bool :=
 if p0 ≥ p1 then
  some (decide (p0≤p2))
 else
  some false
noncomputable def zdu (p0:TValue) (p1 p2 p3:Bool):Option Bool :=
 if p1=true then
  if p2=true then
   if p3=true then
    some true
   else
    some (decide (p0.Ref=0))
  else
   if p0.Text=⟨#[]⟩ then
    if p3=true then
     some true
    else
     some (decide (p0.Ref=0))
   else
    some false
 else
  if p0.Num=0 then
   if p2=true then
    if p3=true then
     some true
    else
     some (decide (p0.Ref=0))
   else
    if p0.Text=⟨#[]⟩ then
     if p3=true then
      some true
     else
      some (decide (p0.Ref=0))
    else
     some false
  else
   some false
noncomputable def zeU (p0:Int):Option Bool :=
 if p0 ≥ 65 then
  if p0≤90 then
   some true
  else
   if p0 ≥ 97 then
    some (decide (p0≤122))
   else
    some false
 else
  if p0 ≥ 97 then
   some (decide (p0≤122))
  else
   some false
noncomputable def zhd (p0:Int):Option Bool :=
 if p0 ≥ 48 then
  some (decide (p0≤57))
 else
  some false
noncomputable def zbc (s0:ByteArray) (s1:Int):Option Int :=
 if s1<(s0.size:Int) then
  idxB s0 s1 >>= fun b24 =>
  zeU (b24.toNat:Int) >>= fun r25 =>
  if r25=true then
   zbc s0 (IntKind.wrap .i64 (s1 + 1))
  else
   zhd (b24.toNat:Int) >>= fun r30 =>
   if r30=true then
    zbc s0 (IntKind.wrap .i64 (s1 + 1))
   else
    if (b24.toNat:Int)=95 then
     zbc s0 (IntKind.wrap .i64 (s1 + 1))
    else
     some s1
 else
  some s1
 partial_fixpoint
noncomputable def zeV (s0:ByteArray) (s1:Int):Option Int :=
 zbc s0 s1 >>= fun t =>
 some t
noncomputable def zgF (p0:ByteArray) (p1:Int):Option Int :=
 if p1 ≥ (p0.size:Int) then
  some p1
 else
  idxB p0 p1 >>= fun b12 =>
  zeU (b12.toNat:Int) >>= fun r13 =>
  if r13=true then
   zeV p0 p1
  else
   some p1
noncomputable def zde (p0:ByteArray):Option Bool :=
 if p0=⟨#[]⟩ then
  some false
 else
  if (p0.size:Int)≤12 then
   zgF p0 0 >>= fun r12 =>
   some (decide (r12=(p0.size:Int)))
  else
   some false
noncomputable def zdB (s1:TValue) (s45:Bool):Option (Bool ⊕ Bool) :=
 if s45=true then
  zdu s1 false true false >>= fun r49 =>
  if r49=true then
   zde s1.Text >>= fun r53 =>
   some (.inr r53)
  else
   some (.inr false)
 else
  some (.inl false)
noncomputable def zcu (s1:TValue) (s4:Int) (s34:Bool):Option (Unit ⊕ Bool) :=
 if s34=true then
  zdu s1 false false true >>= fun r39 =>
  if r39=true then
   zdA s1.Ref 1 1000000 >>= fun r43 =>
   some (.inr r43)
  else
   some (.inr false)
 else
  if s4=7 then
   zdB s1 true >>= fun t =>
   match t with
   | .inl t =>
    some (.inl ())
   | .inr t =>
    some (.inr t)
  else
   zdB s1 (decide (s4=8)) >>= fun t =>
   match t with
   | .inl t =>
    some (.inl ())
   | .inr t =>
    some (.inr t)
noncomputable def zbV (p0:TValue):Option Bool :=
 if p0.Kind=1 then
  zdu p0 false true false >>= fun r8 =>
  if r8=true then
   some (decide ((p0.Text.size:Int)≤200))
  else
   some false
 else
  if p0.Kind=2 then
   zdu p0 true false false >>= fun r18 =>
   if r18=true then
    zdA p0.Num (-1000000000000) 1000000000000 >>= fun r22 =>
    some r22
   else
    some false
  else
   if p0.Kind=3 then
    zdu p0 false true false >>= fun r27 =>
    if r27=true then
     zdA (p0.Text.size:Int) 1 1200 >>= fun r32 =>
     some r32
    else
     some false
   else
    if p0.Kind=4 then
     zcu p0 p0.Kind true >>= fun t =>
     match t with
     | .inl t =>
      some false
     | .inr t =>
      some t
    else
     if p0.Kind=5 then
      zcu p0 p0.Kind true >>= fun t =>
      match t with
      | .inl t =>
       some false
      | .inr t =>
       some t
     else
      zcu p0 p0.Kind (decide (p0.Kind=6)) >>= fun t =>
      match t with
      | .inl t =>
       some false
      | .inr t =>
       some t
noncomputable def zbX (s0:List TValue) (s1 s5:Int):Option (Unit ⊕ Bool) :=
 if s5<(s0.length:Int) then
  idx s0 s5 >>= fun a18 =>
  zbV a18 >>= fun r20 =>
  if r20=true then
   zbX s0 s1 (IntKind.wrap .i64 (s5 + 1))
  else
   some (.inr false)
 else
  some (.inl ())
 partial_fixpoint
noncomputable def zbt (p0:List TValue) (p1:Int):Option Bool :=
 if (p0.length:Int) > p1 then
  some false
 else
  zbX p0 p1 0 >>= fun t =>
  match t with
  | .inl t =>
   some true
  | .inr t =>
   some t
noncomputable def zga (p0 p1:TValue):Option Bool :=
 some ((decide (p0.Kind=p1.Kind)) && ((decide (p0.Num=p1.Num)) && ((decide (p0.Text=p1.Text)) && (decide (p0.Ref=p1.Ref)))))
noncomputable def zcg (s0:List TValue) (s3 s4:Int):Option (Unit ⊕ Bool) :=
 if s4<s3 then
  idx s0 s3 >>= fun a18 =>
  idx s0 s4 >>= fun a22 =>
  zga a18 a22 >>= fun r24 =>
  if r24=true then
   some (.inr false)
  else
   zcg s0 s3 (IntKind.wrap .i64 (s4 + 1))
 else
  some (.inl ())
 partial_fixpoint
noncomputable def zdf (s0:List TValue) (s3:Int):Option (Unit ⊕ Bool) :=
 if s3<(s0.length:Int) then
  zcg s0 s3 0 >>= fun t =>
  match t with
  | .inl t =>
   zdf s0 (IntKind.wrap .i64 (s3 + 1))
  | .inr t =>
   some (.inr t)
 else
  some (.inl ())
 partial_fixpoint
noncomputable def zdC (p0:List TValue):Option Bool :=
 zdf p0 0 >>= fun t =>
 match t with
 | .inl t =>
  some true
 | .inr t =>
  some t
noncomputable def zcm (s0:List TValue) (s3:Int):Option (Unit ⊕ Bool) :=
 if s3<(s0.length:Int) then
  idx s0 s3 >>= fun a12 =>
  if a12.Kind=1 then
   zde a12.Text >>= fun r22 =>
   if r22=true then
    zcm s0 (IntKind.wrap .i64 (s3 + 1))
   else
    some (.inr false)
  else
   some (.inr false)
 else
  some (.inl ())
 partial_fixpoint
noncomputable def zdD (p0:List TValue):Option Bool :=
 zcm p0 0 >>= fun t =>
 match t with
 | .inl t =>
  if (p0.length:Int) ≥ 1 then
   zbt p0 6 >>= fun r30 =>
   if r30=true then
    zdC p0 >>= fun r34 =>
    some r34
   else
    some false
  else
   some false
 | .inr t =>
  some t
noncomputable def zed (s1:TObject):Option Bool :=
 if s1.Kind=1 then
  if s1.Name=⟨#[]⟩ then
   zdA s1.Low (-1000) 1000 >>= fun r23 =>
   if r23=true then
    if (s1.Keys.length:Int)=0 then
     some ((decide (s1.Default.Kind=0)) && ((decide (s1.Default.Num=0)) && ((decide (s1.Default.Text=ByteArray.empty)) && (decide (s1.Default.Ref=0)))))
    else
     some false
   else
    some false
  else
   some false
 else
  if s1.Kind=2 then
   if s1.Name=⟨#[]⟩ then
    if s1.Low=0 then
     if (s1.Keys.length:Int)=(s1.Vals.length:Int) then
      zbt s1.Keys 30 >>= fun r59 =>
      if r59=true then
       zdC s1.Keys >>= fun r64 =>
       if r64=true then
        zbV s1.Default >>= fun r69 =>
        some r69
       else
        some false
      else
       some false
     else
      some false
    else
     some false
   else
    some false
  else
   if s1.Kind=3 then
    zde s1.Name >>= fun r75 =>
    if r75=true then
     if s1.Low=0 then
      if (s1.Keys.length:Int)=(s1.Vals.length:Int) then
       zdD s1.Keys >>= fun r93 =>
       if r93=true then
        some ((decide (s1.Default.Kind=0)) && ((decide (s1.Default.Num=0)) && ((decide (s1.Default.Text=ByteArray.empty)) && (decide (s1.Default.Ref=0)))))
       else
        some false
      else
       some false
     else
      some false
    else
     some false
   else
    some false
noncomputable def zgb (p0:TObject):Option Bool :=
 zdA p0.Id 1 1000000 >>= fun r5 =>
 if r5=true then
  zbt p0.Vals 30 >>= fun r10 =>
  if r10=true then
   zed p0
  else
   some false
 else
  some false
noncomputable def zdZ (p0:TValue):Option Bool :=
 zdA p0.Kind 4 6 >>= fun r5 =>
 some r5
noncomputable def zej (s0:THeap) (s1 s5:Int):Option (Unit ⊕ Int) :=
 if s5<(s0.Objects.length:Int) then
  idx s0.Objects s5 >>= fun a20 =>
  if a20.Id=s1 then
   some (.inr s5)
  else
   zej s0 s1 (IntKind.wrap .i64 (s5 + 1))
 else
  some (.inl ())
 partial_fixpoint
noncomputable def zeW (p0:THeap) (p1:Int):Option Int :=
 zej p0 p1 0 >>= fun t =>
 match t with
 | .inl t =>
  some (-1)
 | .inr t =>
  some t
noncomputable def zeX (p0:Int):Option Int :=
 some (IntKind.wrap .i64 (IntKind.wrap .i64 (p0 - 4) + 1))
noncomputable def zeY (p0:THeap) (p1:TValue):Option Bool :=
 zbV p1 >>= fun r7 =>
 if r7=true then
  zdZ p1 >>= fun r10 =>
  if r10=true then
   zeW p0 p1.Ref >>= fun r15 =>
   if r15 ≥ 0 then
    idx p0.Objects r15 >>= fun a24 =>
    zeX p1.Kind >>= fun r29 =>
    some (decide (a24.Kind=r29))
   else
    some false
  else
   some true
 else
  some false
noncomputable def zee (s0:THeap) (s1:List TValue) (s5:Int):Option (Unit ⊕ Bool) :=
 if s5<(s1.length:Int) then
  idx s1 s5 >>= fun a15 =>
  zeY s0 a15 >>= fun r17 =>
  if r17=true then
   zee s0 s1 (IntKind.wrap .i64 (s5 + 1))
  else
   some (.inr false)
 else
  some (.inl ())
 partial_fixpoint
noncomputable def zea (p0:THeap) (p1:List TValue):Option Bool :=
 zee p0 p1 0 >>= fun t =>
 match t with
 | .inl t =>
  some true
 | .inr t =>
  some t
noncomputable def zhL (p0:THeap) (p1:TObject):Option Bool :=
 zea p0 p1.Keys >>= fun r10 =>
 if r10=true then
  zea p0 p1.Vals >>= fun r17 =>
  if r17=true then
   if p1.Kind=2 then
    zeY p0 p1.Default >>= fun r31 =>
    some r31
   else
    some true
  else
   some false
 else
  some false
noncomputable def zeP (s0:THeap) (s3:Int):Option (Unit ⊕ Bool) :=
 if s3<(s0.Objects.length:Int) then
  idx s0.Objects s3 >>= fun a34 =>
  zgb a34 >>= fun r37 =>
  if r37=true then
   if a34.Id > s0.Next then
    some (.inr false)
   else
    if s3 > 0 then
     idx s0.Objects (IntKind.wrap .i64 (s3 - 1)) >>= fun a58 =>
     if a58.Id ≥ a34.Id then
      some (.inr false)
     else
      zeP s0 (IntKind.wrap .i64 (s3 + 1))
    else
     zeP s0 (IntKind.wrap .i64 (s3 + 1))
  else
   some (.inr false)
 else
  some (.inl ())
 partial_fixpoint
noncomputable def zfL (s0:THeap) (s5:Int):Option (Unit ⊕ Bool) :=
 if s5<(s0.Objects.length:Int) then
  idx s0.Objects s5 >>= fun a81 =>
  zhL s0 a81 >>= fun r82 =>
  if r82=true then
   zfL s0 (IntKind.wrap .i64 (s5 + 1))
  else
   some (.inr false)
 else
  some (.inl ())
 partial_fixpoint
noncomputable def zii (s0:THeap):Option Bool :=
 zeP s0 0 >>= fun t =>
 match t with
 | .inl t =>
  zfL s0 0 >>= fun t_1 =>
  match t_1 with
  | .inl t_1 =>
   some true
  | .inr t_1 =>
   some t_1
 | .inr t =>
  some t
noncomputable def zij (p0:THeap):Option Bool :=
 zdA p0.Next 0 1000000 >>= fun r10 =>
 if r10=true then
  if (p0.Objects.length:Int) > 40 then
   some false
  else
   zii p0
 else
  some false
noncomputable def zeZ (p0:THeap):Option Bool :=
 zij p0 >>= fun r3 =>
 some r3
noncomputable def zkX (p0:TValue):Option Bool :=
 some ((decide (p0.Kind=1)) && ((decide (p0.Num=0)) && ((decide (p0.Text=ByteArray.empty)) && (decide (p0.Ref=0)))))
noncomputable def zfM (s0:List ByteArray) (s1:ByteArray) (s5:Int):Option (Unit ⊕ Int) :=
 if s5<(s0.length:Int) then
  idx s0 s5 >>= fun a14 =>
  if a14=s1 then
   some (.inr s5)
  else
   zfM s0 s1 (IntKind.wrap .i64 (s5 + 1))
 else
  some (.inl ())
 partial_fixpoint
noncomputable def zkY (p0:List ByteArray) (p1:ByteArray):Option Int :=
 zfM p0 p1 0 >>= fun t =>
 match t with
 | .inl t =>
  some (-1)
 | .inr t =>
  some t
noncomputable def zeA (s0:List ByteArray) (s3:Int):Option (Unit ⊕ Bool) :=
 if s3<(s0.length:Int) then
  idx s0 s3 >>= fun a12 =>
  zde a12 >>= fun r14 =>
  if r14=true then
   zkY s0 a12 >>= fun r22 =>
   if r22=s3 then
    zeA s0 (IntKind.wrap .i64 (s3 + 1))
   else
    some (.inr false)
  else
   some (.inr false)
 else
  some (.inl ())
 partial_fixpoint
noncomputable def zfN (p0:List ByteArray):Option Bool :=
 zeA p0 0 >>= fun t =>
 match t with
 | .inl t =>
  some true
 | .inr t =>
  some t
noncomputable def zer (s1:TFunction):Option Bool :=
 chk (s1.Params.length≤most) >>= fun _ =>
 app s1.Params s1.Locals >>= fun c31 =>
 zfN c31 >>= fun r32 =>
 some r32
noncomputable def zeB (p0:TFunction):Option Bool :=
 zde p0.Name >>= fun r5 =>
 if r5=true then
  zde p0.Label >>= fun r10 =>
  if r10=true then
   if (p0.Params.length:Int) > 6 then
    some false
   else
    if (p0.Locals.length:Int) > 6 then
     some false
    else
     zer p0
  else
   some false
 else
  some false
noncomputable def zhM (p0:TRecordType):Option Bool :=
 zde p0.Name >>= fun r5 =>
 if r5=true then
  zdA (p0.Fields.length:Int) 1 6 >>= fun r10 =>
  if r10=true then
   zfN p0.Fields >>= fun r15 =>
   some r15
  else
   some false
 else
  some false
noncomputable def zbL (s1:TScope) (s3:Int):Option (Unit ⊕ Bool) :=
 if s3<(s1.Vars.length:Int) then
  idx s1.Vars s3 >>= fun a33 =>
  zde a33.Name >>= fun r37 =>
  if r37=true then
   zbV a33.Value >>= fun r42 =>
   if r42=true then
    zkX a33.Value >>= fun r48 =>
    if r48=true then
     some (.inr false)
    else
     if s3 > 0 then
      idx s1.Vars (IntKind.wrap .i64 (s3 - 1)) >>= fun a58 =>
      if (Op.bytesLess a58.Name.toList a33.Name.toList)=true then
       zbL s1 (IntKind.wrap .i64 (s3 + 1))
      else
       some (.inr false)
     else
      zbL s1 (IntKind.wrap .i64 (s3 + 1))
   else
    some (.inr false)
  else
   some (.inr false)
 else
  some (.inl ())
 partial_fixpoint
noncomputable def zbM (s1:TScope) (s5:Int):Option (Unit ⊕ Bool) :=
 if s5<(s1.Functions.length:Int) then
  idx s1.Functions s5 >>= fun a76 =>
  zeB a76 >>= fun r78 =>
  if r78=true then
   if s5 > 0 then
    idx s1.Functions (IntKind.wrap .i64 (s5 - 1)) >>= fun a88 =>
    if (Op.bytesLess a88.Name.toList a76.Name.toList)=true then
     zbM s1 (IntKind.wrap .i64 (s5 + 1))
    else
     some (.inr false)
   else
    zbM s1 (IntKind.wrap .i64 (s5 + 1))
  else
   some (.inr false)
 else
  some (.inl ())
 partial_fixpoint
noncomputable def zbN (s1:TScope) (s6:Int):Option (Unit ⊕ Bool) :=
 if s6<(s1.Types.length:Int) then
  idx s1.Types s6 >>= fun a110 =>
  zhM a110 >>= fun r112 =>
  if r112=true then
   if s6 > 0 then
    idx s1.Types (IntKind.wrap .i64 (s6 - 1)) >>= fun a122 =>
    if (Op.bytesLess a122.Name.toList a110.Name.toList)=true then
     zbN s1 (IntKind.wrap .i64 (s6 + 1))
    else
     some (.inr false)
   else
    zbN s1 (IntKind.wrap .i64 (s6 + 1))
  else
   some (.inr false)
 else
  some (.inl ())
 partial_fixpoint
noncomputable def zfa (s1:TScope):Option Bool :=
 zbL s1 0 >>= fun t =>
 match t with
 | .inl t =>
  zbM s1 0 >>= fun t_1 =>
  match t_1 with
  | .inl t_1 =>
   zbN s1 0 >>= fun t_2 =>
   match t_2 with
   | .inl t_2 =>
    some true
   | .inr t_2 =>
    some t_2
  | .inr t_1 =>
   some t_1
 | .inr t =>
  some t
noncomputable def zcv (p0:TScope):Option Bool :=
 if (p0.Vars.length:Int) > 40 then
  some false
 else
  if (p0.Functions.length:Int) > 12 then
   some false
  else
   if (p0.Types.length:Int) > 8 then
    some false
   else
    zfa p0
noncomputable def zdE (s0:List ByteArray) (s1 s2 s7:Int):Option (Unit ⊕ Bool) :=
 if s7<(s0.length:Int) then
  idx s0 s7 >>= fun a20 =>
  if (a20.size:Int) > s2 then
   some (.inr false)
  else
   zdE s0 s1 s2 (IntKind.wrap .i64 (s7 + 1))
 else
  some (.inl ())
 partial_fixpoint
noncomputable def zeb (p0:List ByteArray) (p1 p2:Int):Option Bool :=
 if (p0.length:Int) > p1 then
  some false
 else
  zdE p0 p1 p2 0 >>= fun t =>
  match t with
  | .inl t =>
   some true
  | .inr t =>
   some t
noncomputable def zgG (s1:TFile):Option Bool :=
 zdA s1.At 0 (s1.Lines.length:Int) >>= fun r24 =>
 if r24=true then
  if s1.Mode=1 then
   some true
  else
   some (decide (s1.At=0))
 else
  some false
noncomputable def zhN (p0:TFile):Option Bool :=
 zde p0.Name >>= fun r5 =>
 if r5=true then
  zeb p0.Lines 40 200 >>= fun r10 =>
  if r10=true then
   zdA p0.Mode 0 3 >>= fun r16 =>
   if r16=true then
    zgG p0
   else
    some false
  else
   some false
 else
  some false
noncomputable def zeQ (s0:TConsole) (s3:Int):Option (Unit ⊕ Bool) :=
 if s3<(s0.Files.length:Int) then
  idx s0.Files s3 >>= fun a61 =>
  zhN a61 >>= fun r63 =>
  if r63=true then
   if s3 > 0 then
    idx s0.Files (IntKind.wrap .i64 (s3 - 1)) >>= fun a75 =>
    if (Op.bytesLess a75.Name.toList a61.Name.toList)=true then
     zeQ s0 (IntKind.wrap .i64 (s3 + 1))
    else
     some (.inr false)
   else
    zeQ s0 (IntKind.wrap .i64 (s3 + 1))
  else
   some (.inr false)
 else
  some (.inl ())
 partial_fixpoint
noncomputable def zik (s0:TConsole):Option Bool :=
 zeQ s0 0 >>= fun t =>
 match t with
 | .inl t =>
  some true
 | .inr t =>
  some t
noncomputable def zng (p0:TConsole):Option Bool :=
 zeb p0.Input 100 200 >>= fun r8 =>
 if r8=true then
  zdA p0.At 0 (p0.Input.length:Int) >>= fun r20 =>
  if r20=true then
   zeb p0.Output 100 200 >>= fun r28 =>
   if r28=true then
    if (p0.Files.length:Int) > 6 then
     some false
    else
     zeb p0.Trace 200 1300 >>= fun r44 =>
     if r44=true then
      zik p0
     else
      some false
   else
    some false
  else
   some false
 else
  some false
noncomputable def zef (p0:TConsole):Option Bool :=
 zng p0 >>= fun r3 =>
 some r3
noncomputable def zdF (s1:TScope) (s3:List TValue) (s4:Int):Option ((List TValue)) :=
 if s4<(s1.Vars.length:Int) then
  idx s1.Vars s4 >>= fun a20 =>
  app s3 ([a20.Value]) >>= fun c24 =>
  zdF s1 c24 (IntKind.wrap .i64 (s4 + 1))
 else
  some s3
 partial_fixpoint
noncomputable def zek (p0:TScope):Option ((List TValue)) :=
 zcv p0 >>= fun r6 =>
 if r6=true then
  zdF p0 ([]) 0 >>= fun t =>
  some t
 else
  some ([])
noncomputable def zhe (p0:THeap) (p1:TValue):Option Bool :=
 zij p0 >>= fun r5 =>
 if r5=true then
  zeY p0 p1 >>= fun r8 =>
  some r8
 else
  some false
noncomputable def zel (s1:List TValue) (s2:THeap) (s5:Int):Option (Unit ⊕ Bool) :=
 if s5<(s1.length:Int) then
  idx s1 s5 >>= fun a15 =>
  zhe s2 a15 >>= fun r17 =>
  if r17=true then
   zel s1 s2 (IntKind.wrap .i64 (s5 + 1))
  else
   some (.inr false)
 else
  some (.inl ())
 partial_fixpoint
noncomputable def zhO (p0:THeap) (p1:List TValue):Option Bool :=
 zel p1 p0 0 >>= fun t =>
 match t with
 | .inl t =>
  zeZ p0 >>= fun r20 =>
  some r20
 | .inr t =>
  some t
noncomputable def zeC (p0:TMemory):Option Bool :=
 zeZ p0.Heap >>= fun r5 =>
 if r5=true then
  zcv p0.Scope >>= fun r9 =>
  if r9=true then
   zef p0.Console >>= fun r14 =>
   if r14=true then
    zek p0.Scope >>= fun r21 =>
    zhO p0.Heap r21 >>= fun r22 =>
    some r22
   else
    some false
  else
   some false
 else
  some false
noncomputable def zil (p0:THeap) (p1:List TValue):Option Bool :=
 zij p0 >>= fun r6 =>
 if r6=true then
  zea p0 p1 >>= fun r10 =>
  some r10
 else
  some false
noncomputable def zgc (s0:List Int) (s1 s5:Int):Option (Unit ⊕ Bool) :=
 if s5<(s0.length:Int) then
  idx s0 s5 >>= fun a14 =>
  if a14=s1 then
   some (.inr true)
  else
   zgc s0 s1 (IntKind.wrap .i64 (s5 + 1))
 else
  some (.inl ())
 partial_fixpoint
noncomputable def ziK (p0:List Int) (p1:Int):Option Bool :=
 zgc p0 p1 0 >>= fun t =>
 match t with
 | .inl t =>
  some false
 | .inr t =>
  some t
noncomputable def zgd (s0:List Int) (s1:List TValue) (s5:Int):Option ((List Int) × TValue × TValue × Int × (List Int)) :=
 idx s1 s5 >>= fun a30 =>
 app s0 ([a30.Ref]) >>= fun c34 =>
 some (c34,a30,a30,a30.Ref,[a30.Ref])
noncomputable def zcI (s1:List TValue) (s0:List Int) (s5:Int):Option ((List Int)) :=
 if s5<(s1.length:Int) then
  idx s1 s5 >>= fun a14 =>
  zdZ a14 >>= fun r16 =>
  if r16=true then
   ziK s0 a14.Ref >>= fun r24 =>
   if r24=true then
    zcI s1 s0 (IntKind.wrap .i64 (s5 + 1))
   else
    zgd s0 s1 s5 >>= fun t =>
    zcI s1 t.1 (IntKind.wrap .i64 (s5 + 1))
  else
   zcI s1 s0 (IntKind.wrap .i64 (s5 + 1))
 else
  some s0
 partial_fixpoint
noncomputable def zeR (p0:List Int) (p1:List TValue):Option ((List Int)) :=
 zcI p1 p0 0 >>= fun t =>
 some t
noncomputable def zdg (s0:TObject) (s3:List TValue) (s4:Int):Option ((List TValue)) :=
 if s4<(s0.Keys.length:Int) then
  idx s0.Keys s4 >>= fun a30 =>
  idx s0.Vals s4 >>= fun a37 =>
  app s3 ([a30,a37]) >>= fun c40 =>
  zdg s0 c40 (IntKind.wrap .i64 (s4 + 1))
 else
  some s3
 partial_fixpoint
noncomputable def zeD (p0:TObject):Option (((List TValue)) ⊕ ((List TValue))) :=
 if p0.Kind=2 then
  zdg p0 ([]) 0 >>= fun t =>
  app t ([p0.Default]) >>= fun c47 =>
  some (.inl c47)
 else
  some (.inr p0.Vals)
noncomputable def zcJ (s0:THeap) (s1:List TValue) (s5:List Int) (s6:Int):Option ((List Int)) :=
 if s6<(s5.length:Int) then
  idx s5 s6 >>= fun a24 =>
  zeW s0 a24 >>= fun r26 =>
  idx s0.Objects r26 >>= fun a27 =>
  zeD a27 >>= fun r28 =>
  match r28 with
  | .inl r28 =>
   zeR s5 r28 >>= fun r29 =>
   zcJ s0 s1 r29 (IntKind.wrap .i64 (s6 + 1))
  | .inr r28 =>
   zeR s5 r28 >>= fun r29 =>
   zcJ s0 s1 r29 (IntKind.wrap .i64 (s6 + 1))
 else
  some s5
 partial_fixpoint
noncomputable def zhf (p0:THeap) (p1:List TValue):Option ((List Int)) :=
 zeR ([]) p1 >>= fun r9 =>
 zcJ p0 p1 r9 0 >>= fun t =>
 some t
noncomputable def zge (s0:List Int) (s1 s5:Int):Option (Unit ⊕ Int) :=
 if s5<(s0.length:Int) then
  idx s0 s5 >>= fun a14 =>
  if a14=s1 then
   some (.inr (IntKind.wrap .i64 (s5 + 1)))
  else
   zge s0 s1 (IntKind.wrap .i64 (s5 + 1))
 else
  some (.inl ())
 partial_fixpoint
noncomputable def ziL (p0:List Int) (p1:Int):Option Int :=
 zge p0 p1 0 >>= fun t =>
 match t with
 | .inl t =>
  some 0
 | .inr t =>
  some t
noncomputable def zgH (p0:List Int) (p1:TValue):Option TValue :=
 zdZ p1 >>= fun r6 =>
 if r6=true then
  ziL p0 p1.Ref >>= fun r10 =>
  some (TValue.mk p1.Kind p1.Num p1.Text r10)
 else
  some p1
noncomputable def zdG (s0:List Int) (s1 s5:List TValue) (s6:Int):Option ((List TValue)) :=
 if s6<(s1.length:Int) then
  idx s1 s6 >>= fun a18 =>
  zgH s0 a18 >>= fun r20 =>
  app s5 ([r20]) >>= fun c22 =>
  zdG s0 s1 c22 (IntKind.wrap .i64 (s6 + 1))
 else
  some s5
 partial_fixpoint
noncomputable def zdv (p0:List Int) (p1:List TValue):Option ((List TValue)) :=
 zdG p0 p1 ([]) 0 >>= fun t =>
 some t
noncomputable def zcw (s0:THeap) (s1:List TValue) (s4:THeap) (s6:List Int) (s7:THeap) (s8:Int):Option THeap :=
 if s8<(s6.length:Int) then
  idx s6 s8 >>= fun a29 =>
  zeW s0 a29 >>= fun r31 =>
  idx s0.Objects r31 >>= fun a32 =>
  zdv s6 a32.Keys >>= fun r40 =>
  zdv s6 a32.Vals >>= fun r45 =>
  zgH s6 a32.Default >>= fun r50 =>
  app s7.Objects ([TObject.mk (IntKind.wrap .i64 (s8 + 1)) a32.Kind a32.Name a32.Low r40 r45 r50]) >>= fun c56 =>
  zcw s0 s1 s4 s6 (THeap.mk s7.Next c56) (IntKind.wrap .i64 (s8 + 1))
 else
  some s7
 partial_fixpoint
noncomputable def zgI (p0:THeap) (p1:List TValue):Option (THeap × (List TValue)) :=
 zhf p0 p1 >>= fun r12 =>
 zcw p0 p1 (THeap.mk 0 ([])) r12 (THeap.mk (r12.length:Int) ([])) 0 >>= fun t =>
 zdv r12 p1 >>= fun r61 =>
 some (t,r61)
noncomputable def zhP (p0:THeap) (p1:List TValue):Option (THeap × (List TValue) × Int) :=
 zil p0 p1 >>= fun r10 =>
 if r10=true then
  zgI p0 p1 >>= fun r16 =>
  some (r16.1,r16.2,0)
 else
  some (THeap.mk 0 ([]),[],1)
noncomputable def zfp (s1 s2 s3:THeap) (s4:Int):Option THeap :=
 if s4<(s1.Objects.length:Int) then
  idx s1.Objects s4 >>= fun a19 =>
  chk (a19.Keys.length≤most) >>= fun _ =>
  chk (a19.Vals.length≤most) >>= fun _ =>
  app s3.Objects ([a19]) >>= fun c35 =>
  zfp s1 s2 (THeap.mk s3.Next c35) (IntKind.wrap .i64 (s4 + 1))
 else
  some s3
 partial_fixpoint
noncomputable def zhQ (p0:THeap):Option THeap :=
 zfp p0 (THeap.mk 0 ([])) (THeap.mk p0.Next ([])) 0 >>= fun t =>
 some t
noncomputable def zdh (p0:TFunction):Option TFunction :=
 chk (p0.Params.length≤most) >>= fun _ =>
 chk (p0.Locals.length≤most) >>= fun _ =>
 some p0
noncomputable def zfq (p0:TRecordType):Option TRecordType :=
 chk (p0.Fields.length≤most) >>= fun _ =>
 some p0
noncomputable def zfb (s1 s2 s3:TScope) (s4:Int):Option TScope :=
 if s4<(s1.Functions.length:Int) then
  idx s1.Functions s4 >>= fun a23 =>
  zdh a23 >>= fun r25 =>
  app s3.Functions ([r25]) >>= fun c27 =>
  zfb s1 s2 (TScope.mk s3.Vars c27 s3.Types) (IntKind.wrap .i64 (s4 + 1))
 else
  some s3
 partial_fixpoint
noncomputable def zfc (s1 s2 s3:TScope) (s5:Int):Option TScope :=
 if s5<(s1.Types.length:Int) then
  idx s1.Types s5 >>= fun a41 =>
  zfq a41 >>= fun r43 =>
  app s3.Types ([r43]) >>= fun c45 =>
  zfc s1 s2 (TScope.mk s3.Vars s3.Functions c45) (IntKind.wrap .i64 (s5 + 1))
 else
  some s3
 partial_fixpoint
noncomputable def zhR (p0:TScope):Option TScope :=
 chk (p0.Vars.length≤most) >>= fun _ =>
 zfb p0 (TScope.mk ([]) ([]) ([])) (TScope.mk p0.Vars ([]) ([])) 0 >>= fun t =>
 zfc p0 (TScope.mk ([]) ([]) ([])) t 0 >>= fun t_1 =>
 some t_1
noncomputable def zdH (s1 s2 s3:TConsole) (s4:Int):Option TConsole :=
 if s4<(s1.Files.length:Int) then
  idx s1.Files s4 >>= fun a31 =>
  chk (a31.Lines.length≤most) >>= fun _ =>
  app s3.Files ([a31]) >>= fun c42 =>
  zdH s1 s2 (TConsole.mk s3.Input s3.At s3.Output c42 s3.Trace) (IntKind.wrap .i64 (s4 + 1))
 else
  some s3
 partial_fixpoint
noncomputable def zfr (p0:TConsole):Option TConsole :=
 chk (p0.Input.length≤most) >>= fun _ =>
 chk (p0.Output.length≤most) >>= fun _ =>
 chk (p0.Trace.length≤most) >>= fun _ =>
 zdH p0 (TConsole.mk ([]) 0 ([]) ([]) ([])) (TConsole.mk p0.Input p0.At p0.Output ([]) p0.Trace) 0 >>= fun t =>
 some t
noncomputable def zkZ (p0:TMemory):Option TMemory :=
 zhQ p0.Heap >>= fun r5 =>
 zhR p0.Scope >>= fun r8 =>
 zfr p0.Console >>= fun r11 =>
 some (TMemory.mk r5 r8 r11)
noncomputable def zcY (s1:List TValue) (s4 s6:TScope) (s7:Int):Option TScope :=
 if s7<(s1.length:Int) then
  idx s1 s7 >>= fun a33 =>
  idx s6.Vars s7 >>= fun a35 =>
  zcY s1 s4 (TScope.mk (setN s6.Vars s7.toNat (TBinding.mk a35.Name a33)) s6.Functions s6.Types) (IntKind.wrap .i64 (s7 + 1))
 else
  some s6
 partial_fixpoint
noncomputable def zfz (s1:List TValue) (s2 s4:TScope):Option ((TScope × Bool)) :=
 zhR s2 >>= fun r21 =>
 zcY s1 s4 r21 0 >>= fun t =>
 zcv t >>= fun r38 =>
 if r38=true then
  some (t,true)
 else
  some (TScope.mk ([]) ([]) ([]),false)
noncomputable def zht (p0:TScope) (p1:List TValue):Option (TScope × Bool) :=
 zcv p0 >>= fun r9 =>
 if r9=true then
  if (p1.length:Int)=(p0.Vars.length:Int) then
   zfz p1 p0 (TScope.mk ([]) ([]) ([]))
  else
   some (TScope.mk ([]) ([]) ([]),false)
 else
  some (TScope.mk ([]) ([]) ([]),false)
noncomputable def zgJ (p0:TMemory):Option TMemory :=
 zek p0.Scope >>= fun r14 =>
 zhP p0.Heap r14 >>= fun r15 =>
 zkZ p0 >>= fun r20 =>
 zht p0.Scope r15.2.1 >>= fun r27 =>
 if r27.2=true then
  some (TMemory.mk r15.1 r27.1 r20.Console)
 else
  some (TMemory.mk r15.1 r20.Scope r20.Console)
noncomputable def zfd (p0:TMemory):Option (TMemory × Int) :=
 zeC p0 >>= fun r5 =>
 if r5=true then
  zgJ p0 >>= fun r9 =>
  some (r9,0)
 else
  some (TMemory.mk (THeap.mk 0 ([])) (TScope.mk ([]) ([]) ([])) (TConsole.mk ([]) 0 ([]) ([]) ([])),1)
noncomputable def zdI (p0 p1 p2:Int):Option Bool :=
 if p0 ≥ p1 then
  some (decide (p0≤p2))
 else
  some false
noncomputable def zem (p0:Int):Option Bool :=
 zdI p0 1 1000000 >>= fun r4 =>
 some r4
noncomputable def zfO (p0:Int):Option Bool :=
 if p0 ≥ 65 then
  if p0≤90 then
   some true
  else
   if p0 ≥ 97 then
    some (decide (p0≤122))
   else
    some false
 else
  if p0 ≥ 97 then
   some (decide (p0≤122))
  else
   some false
noncomputable def zhS (p0:Int):Option Bool :=
 if p0 ≥ 48 then
  some (decide (p0≤57))
 else
  some false
noncomputable def zen (p0:Int):Option Bool :=
 zfO p0 >>= fun r4 =>
 if r4=true then
  some true
 else
  zhS p0 >>= fun r7 =>
  if r7=true then
   some true
  else
   some (decide (p0=95))
noncomputable def zdi (s0 s7:List Int) (s8 s9:Int):Option (Unit ⊕ Bool) :=
 if s9<s8 then
  idx s7 s9 >>= fun a11 =>
  zen a11 >>= fun r15 =>
  if r15=true then
   zdi s0 s7 s8 (IntKind.wrap .i64 (s9 + 1))
  else
   some (.inr false)
 else
  some (.inl ())
 partial_fixpoint
noncomputable def zeE (p0:List Int):Option Bool :=
 zdi p0 p0 (p0.length:Int) 0 >>= fun t =>
 match t with
 | .inl t =>
  some true
 | .inr t =>
  some t
noncomputable def zcK (p0:ByteArray):Option Bool :=
 if (p0.size:Int) ≥ 1 then
  if (p0.size:Int)≤12 then
   idxBN p0 0 >>= fun b13 =>
   zfO (b13.toNat:Int) >>= fun r14 =>
   if r14=true then
    zeE (strI p0) >>= fun r19 =>
    some r19
   else
    some false
  else
   some false
 else
  some false
noncomputable def zdJ (s1:TValue) (s65:Bool):Option (Bool ⊕ Bool) :=
 if s65=true then
  if s1.Num=0 then
   if s1.Ref=0 then
    zcK s1.Text >>= fun r78 =>
    some (.inr r78)
   else
    some (.inr false)
  else
   some (.inr false)
 else
  some (.inl false)
noncomputable def zcx (s1:TValue) (s4:Int) (s49:Bool):Option (Unit ⊕ Bool) :=
 if s49=true then
  if s1.Num=0 then
   if s1.Text=ByteArray.empty then
    zem s1.Ref >>= fun r63 =>
    some (.inr r63)
   else
    some (.inr false)
  else
   some (.inr false)
 else
  if s4=7 then
   zdJ s1 true >>= fun t =>
   match t with
   | .inl t =>
    some (.inl ())
   | .inr t =>
    some (.inr t)
  else
   zdJ s1 (decide (s4=8)) >>= fun t =>
   match t with
   | .inl t =>
    some (.inl ())
   | .inr t =>
    some (.inr t)
noncomputable def zbl (p0:TValue):Option Bool :=
 if p0.Kind=1 then
  if p0.Num=0 then
   if p0.Ref=0 then
    some (decide ((p0.Text.size:Int)≤200))
   else
    some false
  else
   some false
 else
  if p0.Kind=2 then
   if p0.Text=ByteArray.empty then
    if p0.Ref=0 then
     zdI p0.Num (-1000000000000) 1000000000000 >>= fun r28 =>
     some r28
    else
     some false
   else
    some false
  else
   if p0.Kind=3 then
    if p0.Num=0 then
     if p0.Ref=0 then
      if (p0.Text.size:Int) ≥ 1 then
       some (decide ((p0.Text.size:Int)≤1200))
      else
       some false
     else
      some false
    else
     some false
   else
    if p0.Kind=4 then
     zcx p0 p0.Kind true >>= fun t =>
     match t with
     | .inl t =>
      some false
     | .inr t =>
      some t
    else
     if p0.Kind=5 then
      zcx p0 p0.Kind true >>= fun t =>
      match t with
      | .inl t =>
       some false
      | .inr t =>
       some t
     else
      zcx p0 p0.Kind (decide (p0.Kind=6)) >>= fun t =>
      match t with
      | .inl t =>
       some false
      | .inr t =>
       some t
noncomputable def zcL (s0 s7:List TValue) (s8 s9:Int):Option (Unit ⊕ Bool) :=
 if s9<s8 then
  idx s7 s9 >>= fun a11 =>
  zbl a11 >>= fun r15 =>
  if r15=true then
   zcL s0 s7 s8 (IntKind.wrap .i64 (s9 + 1))
  else
   some (.inr false)
 else
  some (.inl ())
 partial_fixpoint
noncomputable def zcZ (p0:List TValue):Option Bool :=
 zcL p0 p0 (p0.length:Int) 0 >>= fun t =>
 match t with
 | .inl t =>
  some true
 | .inr t =>
  some t
noncomputable def zal (s0:List TValue) (s3:TValue) (s7 s8:Int):Option (Unit ⊕ Int) :=
 if s8<s7 then
  idx s0 s8 >>= fun a14 =>
  if s3.Kind=a14.Kind then
   if s3.Num=a14.Num then
    if s3.Text=a14.Text then
     if s3.Ref=a14.Ref then
      some (.inr s8)
     else
      zal s0 s3 s7 (IntKind.wrap .i64 (s8 + 1))
    else
     zal s0 s3 s7 (IntKind.wrap .i64 (s8 + 1))
   else
    zal s0 s3 s7 (IntKind.wrap .i64 (s8 + 1))
  else
   zal s0 s3 s7 (IntKind.wrap .i64 (s8 + 1))
 else
  some (.inl ())
 partial_fixpoint
noncomputable def zbO (p0:List TValue) (p1:TValue):Option Int :=
 zal p0 p1 (p0.length:Int) 0 >>= fun t =>
 match t with
 | .inl t =>
  some (-1)
 | .inr t =>
  some t
noncomputable def zay (p0:List TValue) (p1:TValue):Option Bool :=
 zbO p0 p1 >>= fun r7 =>
 some (decide (r7 ≥ 0))
noncomputable def zcM (s0 s5:List TValue) (s6 s7:Int):Option (Unit ⊕ Bool) :=
 if s7<s6 then
  idx s5 s7 >>= fun a10 =>
  subH s0 s7 >>= fun c14 =>
  zay c14 a10 >>= fun r16 =>
  if r16=true then
   some (.inr false)
  else
   zcM s0 s5 s6 (IntKind.wrap .i64 (s7 + 1))
 else
  some (.inl ())
 partial_fixpoint
noncomputable def zda (p0:List TValue):Option Bool :=
 zcM p0 p0 (p0.length:Int) 0 >>= fun t =>
 match t with
 | .inl t =>
  some true
 | .inr t =>
  some t
noncomputable def ziM (p0:ByteArray):Option TValue :=
 some (TValue.mk 1 0 p0 0)
noncomputable def zgK (p0:TValue):Option Bool :=
 ziM p0.Text >>= fun r6 =>
 if p0.Kind=r6.Kind then
  if p0.Num=r6.Num then
   if p0.Text=r6.Text then
    if p0.Ref=r6.Ref then
     zcK p0.Text >>= fun r11 =>
     some r11
    else
     some false
   else
    some false
  else
   some false
 else
  some false
noncomputable def zbY (s0 s7:List TValue) (s8 s9:Int):Option (Unit ⊕ Bool) :=
 if s9<s8 then
  idx s7 s9 >>= fun a11 =>
  zgK a11 >>= fun r15 =>
  if r15=true then
   zbY s0 s7 s8 (IntKind.wrap .i64 (s9 + 1))
  else
   some (.inr false)
 else
  some (.inl ())
 partial_fixpoint
noncomputable def zdj (p0:List TValue):Option Bool :=
 zbY p0 p0 (p0.length:Int) 0 >>= fun t =>
 match t with
 | .inl t =>
  some true
 | .inr t =>
  some t
noncomputable def zch (s1:TObject) (s3:Bool):Option Bool :=
 if s1.Low=0 then
  if s3=true then
   zbl s1.Default >>= fun r74 =>
   if r74=true then
    some (decide (s1.Name=⟨#[]⟩))
   else
    some false
  else
   some false
 else
  some false
noncomputable def zbj (s1:TObject) (s5:Bool):Option Bool :=
 if s1.Low=0 then
  if s5=true then
   if s1.Default.Kind=0 then
    if s1.Default.Num=0 then
     if s1.Default.Text=ByteArray.empty then
      if s1.Default.Ref=0 then
       zcK s1.Name >>= fun r124 =>
       some r124
      else
       some false
     else
      some false
    else
     some false
   else
    some false
  else
   some false
 else
  some false
noncomputable def zdk (s1:TObject):Option Bool :=
 if s1.Kind=1 then
  zdI s1.Low (-1000) 1000 >>= fun r28 =>
  if r28=true then
   if (s1.Keys.length:Int)=0 then
    if s1.Default.Kind=0 then
     if s1.Default.Num=0 then
      if s1.Default.Text=ByteArray.empty then
       if s1.Default.Ref=0 then
        some (decide (s1.Name=⟨#[]⟩))
       else
        some false
      else
       some false
     else
      some false
    else
     some false
   else
    some false
  else
   some false
 else
  if s1.Kind=2 then
   if (s1.Keys.length:Int)=(s1.Vals.length:Int) then
    zcZ s1.Keys >>= fun r58 =>
    if r58=true then
     zda s1.Keys >>= fun r63 =>
     zch s1 r63 >>= fun t =>
     some t
    else
     zch s1 false >>= fun t =>
     some t
   else
    zch s1 false >>= fun t =>
    some t
  else
   if s1.Kind=3 then
    if (s1.Keys.length:Int) ≥ 1 then
     if (s1.Keys.length:Int)≤6 then
      if (s1.Keys.length:Int)=(s1.Vals.length:Int) then
       zdj s1.Keys >>= fun r102 =>
       if r102=true then
        zda s1.Keys >>= fun r107 =>
        zbj s1 r107 >>= fun t =>
        some t
       else
        zbj s1 false >>= fun t =>
        some t
      else
       zbj s1 false >>= fun t =>
       some t
     else
      zbj s1 false >>= fun t =>
      some t
    else
     zbj s1 false >>= fun t =>
     some t
   else
    some false
noncomputable def zdK (p0:TObject):Option Bool :=
 zem p0.Id >>= fun r8 =>
 if r8=true then
  if (p0.Vals.length:Int) > 30 then
   some false
  else
   zcZ p0.Vals >>= fun r19 =>
   if r19=true then
    zdk p0
   else
    some false
 else
  some false
noncomputable def zcn (s0 s7:List TObject) (s8 s9:Int):Option (Unit ⊕ Bool) :=
 if s9<s8 then
  idx s7 s9 >>= fun a11 =>
  zdK a11 >>= fun r15 =>
  if r15=true then
   zcn s0 s7 s8 (IntKind.wrap .i64 (s9 + 1))
  else
   some (.inr false)
 else
  some (.inl ())
 partial_fixpoint
noncomputable def zdL (p0:List TObject):Option Bool :=
 zcn p0 p0 (p0.length:Int) 0 >>= fun t =>
 match t with
 | .inl t =>
  some true
 | .inr t =>
  some t
noncomputable def zaX (a b:List TValue):Option (List TValue):=chk (a.length + b.length≤most) >>= fun _=>some (a++b)
noncomputable def zfe (p0:TObject):Option ((List TValue)) :=
 zaX p0.Keys p0.Vals >>= fun r9 =>
 if p0.Kind=2 then
  app r9 ([p0.Default]) >>= fun c17 =>
  some c17
 else
  some r9
noncomputable def zgf (p0:Int):Option Bool :=
 zdI p0 4 6 >>= fun r4 =>
 some r4
noncomputable def zcy (p0:Int):Option Bool :=
 some false
noncomputable def zcN (p0 p1:Int):Option Int :=
 zcy p0 >>= fun r8 =>
 zcy p1 >>= fun r10 =>
 if r8=true then
  if r10=true then
   some 0
  else
   some (-1)
 else
  if r10=true then
   some 1
  else
   if p0<p1 then
    some (-1)
   else
    if p0 > p1 then
     some 1
    else
     some 0
noncomputable def zbZ (p0:TObject) (p1:Int):Option Int :=
 zcN p0.Id p1 >>= fun r8 =>
 some r8
noncomputable def zag (s0:List TObject) (s1 s8 s9 s10:Int):Option Int :=
 if s9<s10 then
  idx s0 (IntKind.wrap .i64 ((IntKind.wrap .u64 (IntKind.wrap .i64 (s9 + s10))).fdiv (2 ^ (min 1 (IntKind.bits .u64))))) >>= fun a27 =>
  zbZ a27 s1 >>= fun r30 =>
  if r30<0 then
   zag s0 s1 s8 (IntKind.wrap .i64 (IntKind.wrap .i64 ((IntKind.wrap .u64 (IntKind.wrap .i64 (s9 + s10))).fdiv (2 ^ (min 1 (IntKind.bits .u64)))) + 1)) s10
  else
   zag s0 s1 s8 s9 (IntKind.wrap .i64 ((IntKind.wrap .u64 (IntKind.wrap .i64 (s9 + s10))).fdiv (2 ^ (min 1 (IntKind.bits .u64)))))
 else
  some s9
 partial_fixpoint
noncomputable def zan (p0:List TObject) (p1:Int):Option (Int × Bool) :=
 zag p0 p1 (p0.length:Int) 0 (p0.length:Int) >>= fun t =>
 if t<(p0.length:Int) then
  idx p0 t >>= fun a43 =>
  zbZ a43 p1 >>= fun r46 =>
  some (t,(decide (r46=0)))
 else
  some (t,false)
noncomputable def zca (p0:THeap) (p1:Int):Option Int :=
 zan p0.Objects p1 >>= fun r11 =>
 if r11.2=true then
  some r11.1
 else
  some (-1)
noncomputable def zgL (p0:Int):Option Int :=
 some (IntKind.wrap .i64 (IntKind.wrap .i64 (p0 - 4) + 1))
noncomputable def zfA (s2:THeap) (s3:TValue):Option Bool :=
 zca s2 s3.Ref >>= fun r20 =>
 if r20 ≥ 0 then
  idx s2.Objects r20 >>= fun a27 =>
  zgL s3.Kind >>= fun r32 =>
  some (decide (a27.Kind=r32))
 else
  some false
noncomputable def zff (p0:THeap) (p1:TValue):Option Bool :=
 zbl p1 >>= fun r7 =>
 if r7=true then
  zgf p1.Kind >>= fun r12 =>
  if r12=true then
   zfA p0 p1
  else
   zbl p1 >>= fun r16 =>
   some r16
 else
  zbl p1 >>= fun r16 =>
  some r16
noncomputable def zcb (s0:List TValue) (s1:THeap) (s7:List TValue) (s8 s9:Int):Option (Unit ⊕ Bool) :=
 if s9<s8 then
  idx s7 s9 >>= fun a11 =>
  zff s1 a11 >>= fun r15 =>
  if r15=true then
   zcb s0 s1 s7 s8 (IntKind.wrap .i64 (s9 + 1))
  else
   some (.inr false)
 else
  some (.inl ())
 partial_fixpoint
noncomputable def zci (p0:List TValue) (p1:THeap):Option Bool :=
 zcb p0 p1 p0 (p0.length:Int) 0 >>= fun t =>
 match t with
 | .inl t =>
  some true
 | .inr t =>
  some t
noncomputable def zdM (p0:TObject) (g0:THeap):Option Bool :=
 zfe p0 >>= fun r5 =>
 zci r5 g0 >>= fun r8 =>
 some r8
noncomputable def zbD (s0 s7:List TObject) (s8:Int) (g0:THeap) (s9:Int):Option (Unit ⊕ Bool) :=
 if s9<s8 then
  idx s7 s9 >>= fun a11 =>
  zdM a11 g0 >>= fun r15 =>
  if r15=true then
   zbD s0 s7 s8 g0 (IntKind.wrap .i64 (s9 + 1))
  else
   some (.inr false)
 else
  some (.inl ())
 partial_fixpoint
noncomputable def zcO (p0:List TObject) (g0:THeap):Option Bool :=
 zbD p0 p0 (p0.length:Int) g0 0 >>= fun t =>
 match t with
 | .inl t =>
  some true
 | .inr t =>
  some t
noncomputable def zdb (s1:THeap) (s23:List TObject) (s24 s3 s25:Int):Option (Unit ⊕ Bool) :=
 if s25<s24 then
  idx s23 s25 >>= fun a27 =>
  if a27.Id≤s3 then
   some (.inr false)
  else
   if a27.Id > s1.Next then
    some (.inr false)
   else
    zdb s1 s23 s24 a27.Id (IntKind.wrap .i64 (s25 + 1))
 else
  some (.inl ())
 partial_fixpoint
noncomputable def zfB (s1:THeap):Option Bool :=
 zdb s1 s1.Objects (s1.Objects.length:Int) 0 0 >>= fun t =>
 match t with
 | .inl t =>
  zcO s1.Objects s1 >>= fun r46 =>
  some r46
 | .inr t =>
  some t
noncomputable def zgg (p0:THeap):Option Bool :=
 zdI p0.Next 0 1000000 >>= fun r8 =>
 if r8=true then
  if (p0.Objects.length:Int) > 40 then
   some false
  else
   zdL p0.Objects >>= fun r19 =>
   if r19=true then
    zfB p0
   else
    some false
 else
  some false
noncomputable def zfg (p0:TBinding):Option ByteArray :=
 some p0.Name
noncomputable def zbw (s0:List TBinding) (s5:Int):Option (Unit ⊕ Bool) :=
 if s5<(s0.length:Int) then
  idx s0 (IntKind.wrap .i64 (s5 - 1)) >>= fun a16 =>
  zfg a16 >>= fun r18 =>
  idx s0 s5 >>= fun a22 =>
  zfg a22 >>= fun r24 =>
  if (Op.bytesLess r18.toList r24.toList)=true then
   zbw s0 (IntKind.wrap .i64 (s5 + 1))
  else
   some (.inr false)
 else
  some (.inl ())
 partial_fixpoint
noncomputable def zco (p0:List TBinding):Option Bool :=
 zbw p0 1 >>= fun t =>
 match t with
 | .inl t =>
  some true
 | .inr t =>
  some t
noncomputable def zes (p0:TFunction):Option ByteArray :=
 some p0.Name
noncomputable def zbr (s0:List TFunction) (s5:Int):Option (Unit ⊕ Bool) :=
 if s5<(s0.length:Int) then
  idx s0 (IntKind.wrap .i64 (s5 - 1)) >>= fun a16 =>
  zes a16 >>= fun r18 =>
  idx s0 s5 >>= fun a22 =>
  zes a22 >>= fun r24 =>
  if (Op.bytesLess r18.toList r24.toList)=true then
   zbr s0 (IntKind.wrap .i64 (s5 + 1))
  else
   some (.inr false)
 else
  some (.inl ())
 partial_fixpoint
noncomputable def zcc (p0:List TFunction):Option Bool :=
 zbr p0 1 >>= fun t =>
 match t with
 | .inl t =>
  some true
 | .inr t =>
  some t
noncomputable def zgM (p0:TRecordType):Option ByteArray :=
 some p0.Name
noncomputable def zbe (s0:List TRecordType) (s5:Int):Option (Unit ⊕ Bool) :=
 if s5<(s0.length:Int) then
  idx s0 (IntKind.wrap .i64 (s5 - 1)) >>= fun a16 =>
  zgM a16 >>= fun r18 =>
  idx s0 s5 >>= fun a22 =>
  zgM a22 >>= fun r24 =>
  if (Op.bytesLess r18.toList r24.toList)=true then
   zbe s0 (IntKind.wrap .i64 (s5 + 1))
  else
   some (.inr false)
 else
  some (.inl ())
 partial_fixpoint
noncomputable def zbx (p0:List TRecordType):Option Bool :=
 zbe p0 1 >>= fun t =>
 match t with
 | .inl t =>
  some true
 | .inr t =>
  some t
noncomputable def zyi:Option TValue :=
 ziM (⟨#[]⟩) >>= fun r1 =>
 some r1
noncomputable def zla (p0:TValue):Option Bool :=
 zyi >>= fun r4 =>
 some ((decide (p0.Kind=r4.Kind)) && ((decide (p0.Num=r4.Num)) && ((decide (p0.Text=r4.Text)) && (decide (p0.Ref=r4.Ref)))))
noncomputable def zbP (p0:TBinding):Option Bool :=
 zcK p0.Name >>= fun r5 =>
 if r5=true then
  zbl p0.Value >>= fun r9 =>
  if r9=true then
   zla p0.Value >>= fun r14 =>
   some (!r14)
  else
   some false
 else
  some false
noncomputable def zcd (s0 s7:List TBinding) (s8 s9:Int):Option (Unit ⊕ Bool) :=
 if s9<s8 then
  idx s7 s9 >>= fun a11 =>
  zbP a11 >>= fun r15 =>
  if r15=true then
   zcd s0 s7 s8 (IntKind.wrap .i64 (s9 + 1))
  else
   some (.inr false)
 else
  some (.inl ())
 partial_fixpoint
noncomputable def zdl (p0:List TBinding):Option Bool :=
 zcd p0 p0 (p0.length:Int) 0 >>= fun t =>
 match t with
 | .inl t =>
  some true
 | .inr t =>
  some t
noncomputable def zaP (a b:List ByteArray):Option (List ByteArray):=chk (a.length + b.length≤most) >>= fun _=>some (a++b)
noncomputable def zcp (s0 s7:List ByteArray) (s8 s9:Int):Option (Unit ⊕ Bool) :=
 if s9<s8 then
  idx s7 s9 >>= fun a11 =>
  zcK a11 >>= fun r15 =>
  if r15=true then
   zcp s0 s7 s8 (IntKind.wrap .i64 (s9 + 1))
  else
   some (.inr false)
 else
  some (.inl ())
 partial_fixpoint
noncomputable def zcz (p0:List ByteArray):Option Bool :=
 zcp p0 p0 (p0.length:Int) 0 >>= fun t =>
 match t with
 | .inl t =>
  some true
 | .inr t =>
  some t
noncomputable def zad (p0:List ByteArray):Option (List ByteArray):=chk (p0.length≤most) >>= fun _=>some p0
noncomputable def zaY (p0:List ByteArray):Option (List ByteArray):=chk (p0.length≤most) >>= fun _=>some (zmc p0)
noncomputable def zaJ (p0:List ByteArray):Option (List ByteArray):=chk (p0.length≤most) >>= fun _=>some (ziJ p0)
noncomputable def zdN (p0:List ByteArray):Option ((List ByteArray)) :=
 zaY p0 >>= fun r4 =>
 zaJ r4 >>= fun r6 =>
 some r6
noncomputable def zby (s1:TFunction) (s3:List ByteArray) (s4:Bool):Option Bool :=
 zcK s1.Name >>= fun r23 =>
 if r23=true then
  zcK s1.Label >>= fun r27 =>
  if r27=true then
   if s4=true then
    zcz s3 >>= fun r34 =>
    if r34=true then
     zad s3 >>= fun r38 =>
     zdN r38 >>= fun r39 =>
     some (decide ((r39.length:Int)=(s3.length:Int)))
    else
     some false
   else
    some false
  else
   some false
 else
  some false
noncomputable def zbz (p0:TFunction):Option Bool :=
 zaP p0.Params p0.Locals >>= fun r10 =>
 if (p0.Params.length:Int)≤6 then
  zby p0 r10 (decide ((p0.Locals.length:Int)≤6))
 else
  zby p0 r10 false
noncomputable def zbE (s0 s7:List TFunction) (s8 s9:Int):Option (Unit ⊕ Bool) :=
 if s9<s8 then
  idx s7 s9 >>= fun a11 =>
  zbz a11 >>= fun r15 =>
  if r15=true then
   zbE s0 s7 s8 (IntKind.wrap .i64 (s9 + 1))
  else
   some (.inr false)
 else
  some (.inl ())
 partial_fixpoint
noncomputable def zcP (p0:List TFunction):Option Bool :=
 zbE p0 p0 (p0.length:Int) 0 >>= fun t =>
 match t with
 | .inl t =>
  some true
 | .inr t =>
  some t
noncomputable def zfC (s0:List ByteArray):Option Bool :=
 zad s0 >>= fun r17 =>
 zdN r17 >>= fun r18 =>
 some (decide ((r18.length:Int)=(s0.length:Int)))
noncomputable def zhu (p0:List ByteArray):Option Bool :=
 if (p0.length:Int)<1 then
  some false
 else
  if (p0.length:Int) > 6 then
   some false
  else
   zcz p0 >>= fun r13 =>
   if r13=true then
    zfC p0
   else
    some false
noncomputable def zbk (p0:TRecordType):Option Bool :=
 zcK p0.Name >>= fun r5 =>
 if r5=true then
  zhu p0.Fields >>= fun r9 =>
  some r9
 else
  some false
noncomputable def zbs (s0 s7:List TRecordType) (s8 s9:Int):Option (Unit ⊕ Bool) :=
 if s9<s8 then
  idx s7 s9 >>= fun a11 =>
  zbk a11 >>= fun r15 =>
  if r15=true then
   zbs s0 s7 s8 (IntKind.wrap .i64 (s9 + 1))
  else
   some (.inr false)
 else
  some (.inl ())
 partial_fixpoint
noncomputable def zce (p0:List TRecordType):Option Bool :=
 zbs p0 p0 (p0.length:Int) 0 >>= fun t =>
 match t with
 | .inl t =>
  some true
 | .inr t =>
  some t
noncomputable def zcA (s1:TScope) (s3:Bool):Option Bool :=
 if s3=true then
  zdl s1.Vars >>= fun r37 =>
  if r37=true then
   zcP s1.Functions >>= fun r42 =>
   if r42=true then
    zce s1.Types >>= fun r47 =>
    some r47
   else
    some false
  else
   some false
 else
  some false
noncomputable def zfh (s1:TScope):Option Bool :=
 zco s1.Vars >>= fun r22 =>
 if r22=true then
  zcc s1.Functions >>= fun r26 =>
  if r26=true then
   zbx s1.Types >>= fun r31 =>
   zcA s1 r31 >>= fun t =>
   some t
  else
   zcA s1 false >>= fun t =>
   some t
 else
  zcA s1 false >>= fun t =>
  some t
noncomputable def zfs (p0:TScope):Option Bool :=
 if (p0.Vars.length:Int) > 40 then
  some false
 else
  if (p0.Functions.length:Int) > 12 then
   some false
  else
   if (p0.Types.length:Int) > 8 then
    some false
   else
    zfh p0
noncomputable def zjo (p0:ByteArray):Option Bool :=
 some (decide ((p0.size:Int)≤200))
noncomputable def zbF (s0 s7:List ByteArray) (s8 s9:Int):Option (Unit ⊕ Bool) :=
 if s9<s8 then
  idx s7 s9 >>= fun a11 =>
  zjo a11 >>= fun r15 =>
  if r15=true then
   zbF s0 s7 s8 (IntKind.wrap .i64 (s9 + 1))
  else
   some (.inr false)
 else
  some (.inl ())
 partial_fixpoint
noncomputable def zbm (p0:List ByteArray):Option Bool :=
 zbF p0 p0 (p0.length:Int) 0 >>= fun t =>
 match t with
 | .inl t =>
  some true
 | .inr t =>
  some t
noncomputable def zet (p0:ByteArray):Option Bool :=
 some (decide ((p0.size:Int)≤1300))
noncomputable def zbG (s0 s7:List ByteArray) (s8 s9:Int):Option (Unit ⊕ Bool) :=
 if s9<s8 then
  idx s7 s9 >>= fun a11 =>
  zet a11 >>= fun r15 =>
  if r15=true then
   zbG s0 s7 s8 (IntKind.wrap .i64 (s9 + 1))
  else
   some (.inr false)
 else
  some (.inl ())
 partial_fixpoint
noncomputable def zcQ (p0:List ByteArray):Option Bool :=
 zbG p0 p0 (p0.length:Int) 0 >>= fun t =>
 match t with
 | .inl t =>
  some true
 | .inr t =>
  some t
noncomputable def zlb (p0:Int):Option Bool :=
 zdI p0 1 3 >>= fun r4 =>
 some r4
noncomputable def zbQ (s1:TFile) (s3 s4:Bool):Option Bool :=
 zcK s1.Name >>= fun r32 =>
 if r32=true then
  if s3=true then
   if s4=true then
    if s1.Mode=0 then
     some true
    else
     zlb s1.Mode >>= fun r46 =>
     some r46
   else
    some false
  else
   some false
 else
  some false
noncomputable def zcR (s1:TFile) (s3:Bool):Option Bool :=
 zdI s1.At 0 (s1.Lines.length:Int) >>= fun r19 =>
 if r19=true then
  if s1.At=0 then
   zbQ s1 s3 true >>= fun t =>
   some t
  else
   zbQ s1 s3 (decide (s1.Mode=1)) >>= fun t =>
   some t
 else
  zbQ s1 s3 false >>= fun t =>
  some t
noncomputable def zdc (p0:TFile):Option Bool :=
 if (p0.Lines.length:Int)≤40 then
  zbm p0.Lines >>= fun r12 =>
  zcR p0 r12
 else
  zcR p0 false
noncomputable def zdm (s0 s7:List TFile) (s8 s9:Int):Option (Unit ⊕ Bool) :=
 if s9<s8 then
  idx s7 s9 >>= fun a11 =>
  zdc a11 >>= fun r15 =>
  if r15=true then
   zdm s0 s7 s8 (IntKind.wrap .i64 (s9 + 1))
  else
   some (.inr false)
 else
  some (.inl ())
 partial_fixpoint
noncomputable def zeF (p0:List TFile):Option Bool :=
 zdm p0 p0 (p0.length:Int) 0 >>= fun t =>
 match t with
 | .inl t =>
  some true
 | .inr t =>
  some t
noncomputable def zgN (p0:TFile):Option ByteArray :=
 some p0.Name
noncomputable def zcq (s0:List TFile) (s5:Int):Option (Unit ⊕ Bool) :=
 if s5<(s0.length:Int) then
  idx s0 (IntKind.wrap .i64 (s5 - 1)) >>= fun a16 =>
  zgN a16 >>= fun r18 =>
  idx s0 s5 >>= fun a22 =>
  zgN a22 >>= fun r24 =>
  if (Op.bytesLess r18.toList r24.toList)=true then
   zcq s0 (IntKind.wrap .i64 (s5 + 1))
  else
   some (.inr false)
 else
  some (.inl ())
 partial_fixpoint
noncomputable def zdO (p0:List TFile):Option Bool :=
 zcq p0 1 >>= fun t =>
 match t with
 | .inl t =>
  some true
 | .inr t =>
  some t
noncomputable def zbR (s1:TConsole) (s4:Bool):Option Bool :=
 if s4=true then
  zdI s1.At 0 (s1.Input.length:Int) >>= fun r48 =>
  if r48=true then
   zeF s1.Files >>= fun r53 =>
   if r53=true then
    zdO s1.Files >>= fun r58 =>
    some r58
   else
    some false
  else
   some false
 else
  some false
noncomputable def zec (s1:TConsole):Option Bool :=
 zbm s1.Input >>= fun r29 =>
 if r29=true then
  zbm s1.Output >>= fun r33 =>
  if r33=true then
   zcQ s1.Trace >>= fun r39 =>
   zbR s1 r39 >>= fun t =>
   some t
  else
   zbR s1 false >>= fun t =>
   some t
 else
  zbR s1 false >>= fun t =>
  some t
noncomputable def zeg (p0:TConsole):Option Bool :=
 if (p0.Input.length:Int) > 100 then
  some false
 else
  if (p0.Output.length:Int) > 100 then
   some false
  else
   if (p0.Files.length:Int) > 6 then
    some false
   else
    if (p0.Trace.length:Int) > 200 then
     some false
    else
     zec p0
noncomputable def zdn (s1:TScope) (s8:List TBinding) (s9:Int) (s3:List TValue) (s10:Int):Option ((List TValue)) :=
 if s10<s9 then
  idx s8 s10 >>= fun a12 =>
  app s3 ([a12.Value]) >>= fun c18 =>
  zdn s1 s8 s9 c18 (IntKind.wrap .i64 (s10 + 1))
 else
  some s3
 partial_fixpoint
noncomputable def zdP (p0:TScope):Option ((List TValue)) :=
 zdn p0 p0.Vars (p0.Vars.length:Int) ([]) 0 >>= fun t =>
 some t
noncomputable def zeG (p0:TMemory):Option Bool :=
 zgg p0.Heap >>= fun r5 =>
 if r5=true then
  zfs p0.Scope >>= fun r9 =>
  if r9=true then
   zeg p0.Console >>= fun r14 =>
   if r14=true then
    zdP p0.Scope >>= fun r19 =>
    zci r19 p0.Heap >>= fun r23 =>
    some r23
   else
    some false
  else
   some false
 else
  some false
noncomputable def zaQ (s0:List Int) (s1 s7 s8:Int):Option (Unit ⊕ Int) :=
 if s8<s7 then
  idx s0 s8 >>= fun a14 =>
  if s1=a14 then
   some (.inr s8)
  else
   zaQ s0 s1 s7 (IntKind.wrap .i64 (s8 + 1))
 else
  some (.inl ())
 partial_fixpoint
noncomputable def zaG (p0:List Int) (p1:Int):Option Int :=
 zaQ p0 p1 (p0.length:Int) 0 >>= fun t =>
 match t with
 | .inl t =>
  some (-1)
 | .inr t =>
  some t
noncomputable def zaR (p0:List Int) (p1:Int):Option Bool :=
 zaG p0 p1 >>= fun r7 =>
 some (decide (r7 ≥ 0))
noncomputable def zcB (s0:List TValue) (s4:TValue) (s5:List TValue) (s6 s7:Int) (g0:List Int):Option (Int × (List Int) × (List Int)) :=
 app g0 ([s4.Ref]) >>= fun c25 =>
 some (s4.Ref,[s4.Ref],c25)
noncomputable def zaH (s0 s5:List TValue) (s6 s7:Int) (g0:List Int):Option ((List Int)) :=
 if s7<s6 then
  idx s5 s7 >>= fun a9 =>
  zgf a9.Kind >>= fun r13 =>
  if r13=true then
   zaR g0 a9.Ref >>= fun r18 =>
   if r18=true then
    zaH s0 s5 s6 (IntKind.wrap .i64 (s7 + 1)) g0
   else
    zcB s0 a9 s5 s6 s7 g0 >>= fun t =>
    zaH s0 s5 s6 (IntKind.wrap .i64 (s7 + 1)) t.2.2
  else
   zaH s0 s5 s6 (IntKind.wrap .i64 (s7 + 1)) g0
 else
  some g0
 partial_fixpoint
noncomputable def zbf (p0:List TValue) (g0:List Int):Option ((List Int)) :=
 zaH p0 p0 (p0.length:Int) 0 g0 >>= fun t =>
 some t
noncomputable def zcr (s1:TObject) (s13:List TValue) (s14:Int) (s3:List TValue) (s15:Int):Option ((List TValue)) :=
 if s15<s14 then
  idx s13 s15 >>= fun a18 =>
  idx s1.Vals s15 >>= fun a25 =>
  app s3 ([a18,a25]) >>= fun c28 =>
  zcr s1 s13 s14 c28 (IntKind.wrap .i64 (s15 + 1))
 else
  some s3
 partial_fixpoint
noncomputable def zdQ (p0:TObject):Option (((List TValue)) ⊕ ((List TValue))) :=
 if p0.Kind=2 then
  zcr p0 p0.Keys (p0.Keys.length:Int) ([]) 0 >>= fun t =>
  app t ([p0.Default]) >>= fun c34 =>
  some (.inl c34)
 else
  some (.inr p0.Vals)
noncomputable def zaT (s1:List TValue) (s2:THeap) (s7:Int) (g0:List Int):Option ((List Int)) :=
 if s7<(g0.length:Int) then
  idx g0 s7 >>= fun a25 =>
  zca s2 a25 >>= fun r27 =>
  idx s2.Objects r27 >>= fun a28 =>
  zdQ a28 >>= fun r30 =>
  match r30 with
  | .inl r30 =>
   zbf r30 g0 >>= fun r31 =>
   zaT s1 s2 (IntKind.wrap .i64 (s7 + 1)) r31
  | .inr r30 =>
   zbf r30 g0 >>= fun r31 =>
   zaT s1 s2 (IntKind.wrap .i64 (s7 + 1)) r31
 else
  some g0
 partial_fixpoint
noncomputable def zdo (p0:THeap) (p1:List TValue):Option ((List Int)) :=
 zbf p1 ([]) >>= fun r12 =>
 zaT p1 p0 0 r12 >>= fun t =>
 some t
noncomputable def zbg (p0:List TValue):Option (List TValue):=chk (p0.length≤most) >>= fun _=>some p0
noncomputable def zcC (s0:List TValue) (s1:List Int) (s11:Int) (s5:List TValue) (s12:Int):Option ((List TValue)) :=
 if s12<s11 then
  idx s5 s12 >>= fun a15 =>
  zgf a15.Kind >>= fun r19 =>
  if r19=true then
   zaG s1 a15.Ref >>= fun r25 =>
   zcC s0 s1 s11 (setN s5 s12.toNat (TValue.mk a15.Kind a15.Num a15.Text (IntKind.wrap .i64 (r25 + 1)))) (IntKind.wrap .i64 (s12 + 1))
  else
   zcC s0 s1 s11 s5 (IntKind.wrap .i64 (s12 + 1))
 else
  some s5
 partial_fixpoint
noncomputable def zcD (p0:List TValue) (p1:List Int):Option ((List TValue)) :=
 zbg p0 >>= fun r9 =>
 zcC p0 p1 (r9.length:Int) r9 0 >>= fun t =>
 some t
noncomputable def zbS (s1:List TValue) (s2 s4:THeap) (s6:List Int) (s18:Int) (s7:THeap) (s19:Int):Option THeap :=
 if s19<s18 then
  idx s6 s19 >>= fun a22 =>
  zca s2 a22 >>= fun r28 =>
  idx s2.Objects r28 >>= fun a29 =>
  zcD a29.Keys s6 >>= fun r37 =>
  zcD a29.Vals s6 >>= fun r41 =>
  zcD ([a29.Default]) s6 >>= fun r48 =>
  idxN r48 0 >>= fun a49 =>
  app s7.Objects ([TObject.mk (IntKind.wrap .i64 (s19 + 1)) a29.Kind a29.Name a29.Low r37 r41 a49]) >>= fun c56 =>
  zbS s1 s2 s4 s6 s18 (THeap.mk s7.Next c56) (IntKind.wrap .i64 (s19 + 1))
 else
  some s7
 partial_fixpoint
noncomputable def zeh (p0:THeap) (p1:List TValue):Option (THeap × (List TValue)) :=
 zdo p0 p1 >>= fun r13 =>
 zbS p1 p0 (THeap.mk 0 ([])) r13 (r13.length:Int) (THeap.mk (r13.length:Int) ([])) 0 >>= fun t =>
 zcD p1 r13 >>= fun r62 =>
 some (t,r62)
noncomputable def zaK (p0:List TBinding):Option (List TBinding):=chk (p0.length≤most) >>= fun _=>some p0
noncomputable def zbT (s1 s2:TScope) (s13:List TFunction) (s14:Int) (s3:TScope) (s15:Int):Option TScope :=
 if s15<s14 then
  idx s13 s15 >>= fun a17 =>
  zad a17.Params >>= fun r21 =>
  zad a17.Locals >>= fun r24 =>
  app s3.Functions ([TFunction.mk a17.Name r21 r24 a17.Label]) >>= fun c31 =>
  zbT s1 s2 s13 s14 (TScope.mk s3.Vars c31 s3.Types) (IntKind.wrap .i64 (s15 + 1))
 else
  some s3
 partial_fixpoint
noncomputable def zbU (s1 s2:TScope) (s35:List TRecordType) (s36:Int) (s3:TScope) (s37:Int):Option TScope :=
 if s37<s36 then
  idx s35 s37 >>= fun a39 =>
  zad a39.Fields >>= fun r43 =>
  app s3.Types ([TRecordType.mk a39.Name r43]) >>= fun c49 =>
  zbU s1 s2 s35 s36 (TScope.mk s3.Vars s3.Functions c49) (IntKind.wrap .i64 (s37 + 1))
 else
  some s3
 partial_fixpoint
noncomputable def zei (p0:TScope):Option TScope :=
 zaK p0.Vars >>= fun r10 =>
 zbT p0 (TScope.mk ([]) ([]) ([])) p0.Functions (p0.Functions.length:Int) (TScope.mk r10 ([]) ([])) 0 >>= fun t =>
 zbU p0 (TScope.mk ([]) ([]) ([])) p0.Types (p0.Types.length:Int) t 0 >>= fun t_1 =>
 some t_1
noncomputable def zbH (s1:List TValue) (s4:TScope) (s10:List TValue) (s11:Int) (s5:TScope) (s12:Int):Option TScope :=
 if s12<s11 then
  idx s10 s12 >>= fun a15 =>
  idx s5.Vars s12 >>= fun a21 =>
  zbH s1 s4 s10 s11 (TScope.mk (setN s5.Vars s12.toNat (TBinding.mk a21.Name a15)) s5.Functions s5.Types) (IntKind.wrap .i64 (s12 + 1))
 else
  some s5
 partial_fixpoint
noncomputable def zcS (p0:TScope) (p1:List TValue):Option TScope :=
 zei p0 >>= fun r9 =>
 zbH p1 (TScope.mk ([]) ([]) ([])) p1 (p1.length:Int) r9 0 >>= fun t =>
 some t
noncomputable def zcf (s1 s2:TConsole) (s19:List TFile) (s20:Int) (s3:TConsole) (s21:Int):Option TConsole :=
 if s21<s20 then
  idx s19 s21 >>= fun a23 =>
  zad a23.Lines >>= fun r27 =>
  app s3.Files ([TFile.mk a23.Name r27 a23.Mode a23.At]) >>= fun c33 =>
  zcf s1 s2 s19 s20 (TConsole.mk s3.Input s3.At s3.Output c33 s3.Trace) (IntKind.wrap .i64 (s21 + 1))
 else
  some s3
 partial_fixpoint
noncomputable def zdp (p0:TConsole):Option TConsole :=
 zad p0.Input >>= fun r8 =>
 zad p0.Output >>= fun r13 =>
 zad p0.Trace >>= fun r16 =>
 zcf p0 (TConsole.mk ([]) 0 ([]) ([]) ([])) p0.Files (p0.Files.length:Int) (TConsole.mk r8 p0.At r13 ([]) r16) 0 >>= fun t =>
 some t
noncomputable def zdR (p0:TMemory):Option TMemory :=
 zdP p0.Scope >>= fun r10 =>
 zeh p0.Heap r10 >>= fun r11 =>
 zcS p0.Scope r11.2 >>= fun r18 =>
 zdp p0.Console >>= fun r21 =>
 some (TMemory.mk r11.1 r18 r21)
noncomputable def zfi (p0:TMemory):Option (TMemory × Int) :=
 zeG p0 >>= fun r5 =>
 if r5=true then
  zdR p0 >>= fun r9 =>
  some (r9,0)
 else
  some (TMemory.mk (THeap.mk 0 ([])) (TScope.mk ([]) ([]) ([])) (TConsole.mk ([]) 0 ([]) ([]) ([])),1)
end Go.Vx.CmZ
