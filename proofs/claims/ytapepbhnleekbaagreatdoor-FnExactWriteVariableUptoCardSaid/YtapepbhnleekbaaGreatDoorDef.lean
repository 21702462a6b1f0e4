/-
  The program's functions as plain functions.
-/
import Derived.Test.YtapepbhnleekbaaGreatDoorTypes
import Derived.Test.YtapepbhnleekbaaGreatDoorVxD
import Derived.Test.YtapepbhnleekbaaGreatDoorVxE
import Derived.Test.YtapepbhnleekbaaGreatDoorVxG
import Derived.Test.YtapepbhnleekbaaGreatDoorVxF
set_option linter.unusedVariables false
set_option linter.unusedSimpArgs false
namespace Go.Vx.WvZ
noncomputable section
set_option maxRecDepth 10000
set_option maxHeartbeats 2000000
def zdC (p0 p1 p2:Int):Option Bool :=
 if p0 ≥ p1 then
  some (decide (p0<=p2))
 else
  some false
def zdx (p0:TValue) (p1 p2 p3:Bool):Option Bool :=
 if p1=true then
  if p2=true then
   if p3=true then
    some true
   else
    some (decide (p0.Ref=0))
  else
   if p0.Text=⟨#[]⟩ then
    if p3=true then
     some true
    else
     some (decide (p0.Ref=0))
   else
    some false
 else
  if p0.Num=0 then
   if p2=true then
    if p3=true then
     some true
    else
     some (decide (p0.Ref=0))
   else
    if p0.Text=⟨#[]⟩ then
     if p3=true then
      some true
     else
      some (decide (p0.Ref=0))
    else
     some false
  else
   some false
def zeW (p0:Int):Option Bool :=
 if p0 ≥ 65 then
  if p0<=90 then
   some true
  else
   if p0 ≥ 97 then
    some (decide (p0<=122))
   else
    some false
 else
  if p0 ≥ 97 then
   some (decide (p0<=122))
  else
   some false
def zha (p0:Int):Option Bool :=
 if p0 ≥ 48 then
  some (decide (p0<=57))
 else
  some false
def zbd (s0:ByteArray) (s1:Int):Option Int :=
 if s1<(s0.size:Int) then
  idxB s0 s1 >>= fun b24 =>
  zeW (b24.toNat:Int) >>= fun r25 =>
  if r25=true then
   zbd s0 (IntKind.wrap .i64 (s1 + 1))
  else
   zha (b24.toNat:Int) >>= fun r30 =>
   if r30=true then
    zbd s0 (IntKind.wrap .i64 (s1 + 1))
   else
    if (b24.toNat:Int)=95 then
     zbd s0 (IntKind.wrap .i64 (s1 + 1))
    else
     some s1
 else
  some s1
 partial_fixpoint
def zeX (s0:ByteArray) (s1:Int):Option Int :=
 zbd s0 s1 >>= fun t =>
 some t
def zgE (p0:ByteArray) (p1:Int):Option Int :=
 if p1 ≥ (p0.size:Int) then
  some p1
 else
  idxB p0 p1 >>= fun b12 =>
  zeW (b12.toNat:Int) >>= fun r13 =>
  if r13=true then
   zeX p0 p1
  else
   some p1
def zcH (p0:ByteArray):Option Bool :=
 if p0=⟨#[]⟩ then
  some false
 else
  if (p0.size:Int)<=12 then
   zgE p0 0 >>= fun r12 =>
   some (decide (r12=(p0.size:Int)))
  else
   some false
def zdD (s1:TValue) (s45:Bool):Option (Bool ⊕ Bool) :=
 if s45=true then
  zdx s1 false true false >>= fun r49 =>
  if r49=true then
   zcH s1.Text >>= fun r53 =>
   some (.inr r53)
  else
   some (.inr false)
 else
  some (.inl false)
def zcy (s1:TValue) (s4:Int) (s34:Bool):Option (Unit ⊕ Bool) :=
 if s34=true then
  zdx s1 false false true >>= fun r39 =>
  if r39=true then
   zdC s1.Ref 1 1000000 >>= fun r43 =>
   some (.inr r43)
  else
   some (.inr false)
 else
  if s4=7 then
   zdD s1 true >>= fun t =>
   match t with
   | .inl t =>
    some (.inl ())
   | .inr t =>
    some (.inr t)
  else
   zdD s1 (decide (s4=8)) >>= fun t =>
   match t with
   | .inl t =>
    some (.inl ())
   | .inr t =>
    some (.inr t)
def zbv (p0:TValue):Option Bool :=
 if p0.Kind=1 then
  zdx p0 false true false >>= fun r8 =>
  if r8=true then
   some (decide ((p0.Text.size:Int)<=200))
  else
   some false
 else
  if p0.Kind=2 then
   zdx p0 true false false >>= fun r18 =>
   if r18=true then
    zdC p0.Num (-1000000000000) 1000000000000 >>= fun r22 =>
    some r22
   else
    some false
  else
   if p0.Kind=3 then
    zdx p0 false true false >>= fun r27 =>
    if r27=true then
     zdC (p0.Text.size:Int) 1 1200 >>= fun r32 =>
     some r32
    else
     some false
   else
    if p0.Kind=4 then
     zcy p0 p0.Kind true >>= fun t =>
     match t with
     | .inl t =>
      some false
     | .inr t =>
      some t
    else
     if p0.Kind=5 then
      zcy p0 p0.Kind true >>= fun t =>
      match t with
      | .inl t =>
       some false
      | .inr t =>
       some t
     else
      zcy p0 p0.Kind (decide (p0.Kind=6)) >>= fun t =>
      match t with
      | .inl t =>
       some false
      | .inr t =>
       some t
def zbU (s0:List TValue) (s1 s5:Int):Option (Unit ⊕ Bool) :=
 if s5<(s0.length:Int) then
  idx s0 s5 >>= fun a18 =>
  zbv a18 >>= fun r20 =>
  if r20=true then
   zbU s0 s1 (IntKind.wrap .i64 (s5 + 1))
  else
   some (.inr false)
 else
  some (.inl ())
 partial_fixpoint
def zbs (p0:List TValue) (p1:Int):Option Bool :=
 if (p0.length:Int) > p1 then
  some false
 else
  zbU p0 p1 0 >>= fun t =>
  match t with
  | .inl t =>
   some true
  | .inr t =>
   some t
def zgb (p0 p1:TValue):Option Bool :=
 some ((decide (p0.Kind=p1.Kind)) && ((decide (p0.Num=p1.Num)) && ((decide (p0.Text=p1.Text)) && (decide (p0.Ref=p1.Ref)))))
def zcd (s0:List TValue) (s3 s4:Int):Option (Unit ⊕ Bool) :=
 if s4<s3 then
  idx s0 s3 >>= fun a18 =>
  idx s0 s4 >>= fun a22 =>
  zgb a18 a22 >>= fun r24 =>
  if r24=true then
   some (.inr false)
  else
   zcd s0 s3 (IntKind.wrap .i64 (s4 + 1))
 else
  some (.inl ())
 partial_fixpoint
def zdg (s0:List TValue) (s3:Int):Option (Unit ⊕ Bool) :=
 if s3<(s0.length:Int) then
  zcd s0 s3 0 >>= fun t =>
  match t with
  | .inl t =>
   zdg s0 (IntKind.wrap .i64 (s3 + 1))
  | .inr t =>
   some (.inr t)
 else
  some (.inl ())
 partial_fixpoint
def zdE (p0:List TValue):Option Bool :=
 zdg p0 0 >>= fun t =>
 match t with
 | .inl t =>
  some true
 | .inr t =>
  some t
def zcm (s0:List TValue) (s3:Int):Option (Unit ⊕ Bool) :=
 if s3<(s0.length:Int) then
  idx s0 s3 >>= fun a12 =>
  if a12.Kind=1 then
   zcH a12.Text >>= fun r22 =>
   if r22=true then
    zcm s0 (IntKind.wrap .i64 (s3 + 1))
   else
    some (.inr false)
  else
   some (.inr false)
 else
  some (.inl ())
 partial_fixpoint
def zdF (p0:List TValue):Option Bool :=
 zcm p0 0 >>= fun t =>
 match t with
 | .inl t =>
  if (p0.length:Int) ≥ 1 then
   zbs p0 6 >>= fun r30 =>
   if r30=true then
    zdE p0 >>= fun r34 =>
    some r34
   else
    some false
  else
   some false
 | .inr t =>
  some t
def zed (s1:TObject):Option Bool :=
 if s1.Kind=1 then
  if s1.Name=⟨#[]⟩ then
   zdC s1.Low (-1000) 1000 >>= fun r23 =>
   if r23=true then
    if (s1.Keys.length:Int)=0 then
     some ((decide (s1.Default.Kind=0)) && ((decide (s1.Default.Num=0)) && ((decide (s1.Default.Text=ByteArray.empty)) && (decide (s1.Default.Ref=0)))))
    else
     some false
   else
    some false
  else
   some false
 else
  if s1.Kind=2 then
   if s1.Name=⟨#[]⟩ then
    if s1.Low=0 then
     if (s1.Keys.length:Int)=(s1.Vals.length:Int) then
      zbs s1.Keys 30 >>= fun r59 =>
      if r59=true then
       zdE s1.Keys >>= fun r64 =>
       if r64=true then
        zbv s1.Default >>= fun r69 =>
        some r69
       else
        some false
      else
       some false
     else
      some false
    else
     some false
   else
    some false
  else
   if s1.Kind=3 then
    zcH s1.Name >>= fun r75 =>
    if r75=true then
     if s1.Low=0 then
      if (s1.Keys.length:Int)=(s1.Vals.length:Int) then
       zdF s1.Keys >>= fun r93 =>
       if r93=true then
        some ((decide (s1.Default.Kind=0)) && ((decide (s1.Default.Num=0)) && ((decide (s1.Default.Text=ByteArray.empty)) && (decide (s1.Default.Ref=0)))))
       else
        some false
      else
       some false
     else
      some false
    else
     some false
   else
    some false
def zgc (p0:TObject):Option Bool :=
 zdC p0.Id 1 1000000 >>= fun r5 =>
 if r5=true then
  zbs p0.Vals 30 >>= fun r10 =>
  if r10=true then
   zed p0
  else
   some false
 else
  some false
def zin (p0:TValue):Option Bool :=
 zdC p0.Kind 4 6 >>= fun r5 =>
 some r5
def zei (s0:THeap) (s1 s5:Int):Option (Unit ⊕ Int) :=
 if s5<(s0.Objects.length:Int) then
  idx s0.Objects s5 >>= fun a20 =>
  if a20.Id=s1 then
   some (.inr s5)
  else
   zei s0 s1 (IntKind.wrap .i64 (s5 + 1))
 else
  some (.inl ())
 partial_fixpoint
def zhK (p0:THeap) (p1:Int):Option Int :=
 zei p0 p1 0 >>= fun t =>
 match t with
 | .inl t =>
  some (-1)
 | .inr t =>
  some t
def zeY (p0:Int):Option Int :=
 some (IntKind.wrap .i64 (IntKind.wrap .i64 (p0 - 4) + 1))
def zeZ (p0:THeap) (p1:TValue):Option Bool :=
 zbv p1 >>= fun r7 =>
 if r7=true then
  zin p1 >>= fun r10 =>
  if r10=true then
   zhK p0 p1.Ref >>= fun r15 =>
   if r15 ≥ 0 then
    idx p0.Objects r15 >>= fun a24 =>
    zeY p1.Kind >>= fun r29 =>
    some (decide (a24.Kind=r29))
   else
    some false
  else
   some true
 else
  some false
def zee (s0:THeap) (s1:List TValue) (s5:Int):Option (Unit ⊕ Bool) :=
 if s5<(s1.length:Int) then
  idx s1 s5 >>= fun a15 =>
  zeZ s0 a15 >>= fun r17 =>
  if r17=true then
   zee s0 s1 (IntKind.wrap .i64 (s5 + 1))
  else
   some (.inr false)
 else
  some (.inl ())
 partial_fixpoint
def zfa (p0:THeap) (p1:List TValue):Option Bool :=
 zee p0 p1 0 >>= fun t =>
 match t with
 | .inl t =>
  some true
 | .inr t =>
  some t
def zhL (p0:THeap) (p1:TObject):Option Bool :=
 zfa p0 p1.Keys >>= fun r10 =>
 if r10=true then
  zfa p0 p1.Vals >>= fun r17 =>
  if r17=true then
   if p1.Kind=2 then
    zeZ p0 p1.Default >>= fun r31 =>
    some r31
   else
    some true
  else
   some false
 else
  some false
def zeR (s0:THeap) (s3:Int):Option (Unit ⊕ Bool) :=
 if s3<(s0.Objects.length:Int) then
  idx s0.Objects s3 >>= fun a34 =>
  zgc a34 >>= fun r37 =>
  if r37=true then
   if a34.Id > s0.Next then
    some (.inr false)
   else
    if s3 > 0 then
     idx s0.Objects (IntKind.wrap .i64 (s3 - 1)) >>= fun a58 =>
     if a58.Id ≥ a34.Id then
      some (.inr false)
     else
      zeR s0 (IntKind.wrap .i64 (s3 + 1))
    else
     zeR s0 (IntKind.wrap .i64 (s3 + 1))
  else
   some (.inr false)
 else
  some (.inl ())
 partial_fixpoint
def zfP (s0:THeap) (s5:Int):Option (Unit ⊕ Bool) :=
 if s5<(s0.Objects.length:Int) then
  idx s0.Objects s5 >>= fun a81 =>
  zhL s0 a81 >>= fun r82 =>
  if r82=true then
   zfP s0 (IntKind.wrap .i64 (s5 + 1))
  else
   some (.inr false)
 else
  some (.inl ())
 partial_fixpoint
def zio (s0:THeap):Option Bool :=
 zeR s0 0 >>= fun t =>
 match t with
 | .inl t =>
  zfP s0 0 >>= fun t_1 =>
  match t_1 with
  | .inl t_1 =>
   some true
  | .inr t_1 =>
   some t_1
 | .inr t =>
  some t
def zjA (p0:THeap):Option Bool :=
 zdC p0.Next 0 1000000 >>= fun r10 =>
 if r10=true then
  if (p0.Objects.length:Int) > 40 then
   some false
  else
   zio p0
 else
  some false
def zfb (p0:THeap):Option Bool :=
 zjA p0 >>= fun r3 =>
 some r3
def ziS (p0:TValue):Option Bool :=
 some ((decide (p0.Kind=1)) && ((decide (p0.Num=0)) && ((decide (p0.Text=ByteArray.empty)) && (decide (p0.Ref=0)))))
def zfQ (s0:List ByteArray) (s1:ByteArray) (s5:Int):Option (Unit ⊕ Int) :=
 if s5<(s0.length:Int) then
  idx s0 s5 >>= fun a14 =>
  if a14=s1 then
   some (.inr s5)
  else
   zfQ s0 s1 (IntKind.wrap .i64 (s5 + 1))
 else
  some (.inl ())
 partial_fixpoint
def zlA (p0:List ByteArray) (p1:ByteArray):Option Int :=
 zfQ p0 p1 0 >>= fun t =>
 match t with
 | .inl t =>
  some (-1)
 | .inr t =>
  some t
def zeB (s0:List ByteArray) (s3:Int):Option (Unit ⊕ Bool) :=
 if s3<(s0.length:Int) then
  idx s0 s3 >>= fun a12 =>
  zcH a12 >>= fun r14 =>
  if r14=true then
   zlA s0 a12 >>= fun r22 =>
   if r22=s3 then
    zeB s0 (IntKind.wrap .i64 (s3 + 1))
   else
    some (.inr false)
  else
   some (.inr false)
 else
  some (.inl ())
 partial_fixpoint
def zfR (p0:List ByteArray):Option Bool :=
 zeB p0 0 >>= fun t =>
 match t with
 | .inl t =>
  some true
 | .inr t =>
  some t
def zer (s1:TFunction):Option Bool :=
 chk (s1.Params.length<=most) >>= fun _ =>
 app s1.Params s1.Locals >>= fun c31 =>
 zfR c31 >>= fun r32 =>
 some r32
def zeC (p0:TFunction):Option Bool :=
 zcH p0.Name >>= fun r5 =>
 if r5=true then
  zcH p0.Label >>= fun r10 =>
  if r10=true then
   if (p0.Params.length:Int) > 6 then
    some false
   else
    if (p0.Locals.length:Int) > 6 then
     some false
    else
     zer p0
  else
   some false
 else
  some false
def zhM (p0:TRecordType):Option Bool :=
 zcH p0.Name >>= fun r5 =>
 if r5=true then
  zdC (p0.Fields.length:Int) 1 6 >>= fun r10 =>
  if r10=true then
   zfR p0.Fields >>= fun r15 =>
   some r15
  else
   some false
 else
  some false
def zbL (s1:TScope) (s3:Int):Option (Unit ⊕ Bool) :=
 if s3<(s1.Vars.length:Int) then
  idx s1.Vars s3 >>= fun a33 =>
  zcH a33.Name >>= fun r37 =>
  if r37=true then
   zbv a33.Value >>= fun r42 =>
   if r42=true then
    ziS a33.Value >>= fun r48 =>
    if r48=true then
     some (.inr false)
    else
     if s3 > 0 then
      idx s1.Vars (IntKind.wrap .i64 (s3 - 1)) >>= fun a58 =>
      if (Op.bytesLess a58.Name.toList a33.Name.toList)=true then
       zbL s1 (IntKind.wrap .i64 (s3 + 1))
      else
       some (.inr false)
     else
      zbL s1 (IntKind.wrap .i64 (s3 + 1))
   else
    some (.inr false)
  else
   some (.inr false)
 else
  some (.inl ())
 partial_fixpoint
def zbM (s1:TScope) (s5:Int):Option (Unit ⊕ Bool) :=
 if s5<(s1.Functions.length:Int) then
  idx s1.Functions s5 >>= fun a76 =>
  zeC a76 >>= fun r78 =>
  if r78=true then
   if s5 > 0 then
    idx s1.Functions (IntKind.wrap .i64 (s5 - 1)) >>= fun a88 =>
    if (Op.bytesLess a88.Name.toList a76.Name.toList)=true then
     zbM s1 (IntKind.wrap .i64 (s5 + 1))
    else
     some (.inr false)
   else
    zbM s1 (IntKind.wrap .i64 (s5 + 1))
  else
   some (.inr false)
 else
  some (.inl ())
 partial_fixpoint
def zbN (s1:TScope) (s6:Int):Option (Unit ⊕ Bool) :=
 if s6<(s1.Types.length:Int) then
  idx s1.Types s6 >>= fun a110 =>
  zhM a110 >>= fun r112 =>
  if r112=true then
   if s6 > 0 then
    idx s1.Types (IntKind.wrap .i64 (s6 - 1)) >>= fun a122 =>
    if (Op.bytesLess a122.Name.toList a110.Name.toList)=true then
     zbN s1 (IntKind.wrap .i64 (s6 + 1))
    else
     some (.inr false)
   else
    zbN s1 (IntKind.wrap .i64 (s6 + 1))
  else
   some (.inr false)
 else
  some (.inl ())
 partial_fixpoint
def zfc (s1:TScope):Option Bool :=
 zbL s1 0 >>= fun t =>
 match t with
 | .inl t =>
  zbM s1 0 >>= fun t_1 =>
  match t_1 with
  | .inl t_1 =>
   zbN s1 0 >>= fun t_2 =>
   match t_2 with
   | .inl t_2 =>
    some true
   | .inr t_2 =>
    some t_2
  | .inr t_1 =>
   some t_1
 | .inr t =>
  some t
def zej (p0:TScope):Option Bool :=
 if (p0.Vars.length:Int) > 40 then
  some false
 else
  if (p0.Functions.length:Int) > 12 then
   some false
  else
   if (p0.Types.length:Int) > 8 then
    some false
   else
    zfc p0
def zdG (s0:List ByteArray) (s1 s2 s7:Int):Option (Unit ⊕ Bool) :=
 if s7<(s0.length:Int) then
  idx s0 s7 >>= fun a20 =>
  if (a20.size:Int) > s2 then
   some (.inr false)
  else
   zdG s0 s1 s2 (IntKind.wrap .i64 (s7 + 1))
 else
  some (.inl ())
 partial_fixpoint
def zdY (p0:List ByteArray) (p1 p2:Int):Option Bool :=
 if (p0.length:Int) > p1 then
  some false
 else
  zdG p0 p1 p2 0 >>= fun t =>
  match t with
  | .inl t =>
   some true
  | .inr t =>
   some t
def zgF (s1:TFile):Option Bool :=
 zdC s1.At 0 (s1.Lines.length:Int) >>= fun r24 =>
 if r24=true then
  if s1.Mode=1 then
   some true
  else
   some (decide (s1.At=0))
 else
  some false
def zhN (p0:TFile):Option Bool :=
 zcH p0.Name >>= fun r5 =>
 if r5=true then
  zdY p0.Lines 40 200 >>= fun r10 =>
  if r10=true then
   zdC p0.Mode 0 3 >>= fun r16 =>
   if r16=true then
    zgF p0
   else
    some false
  else
   some false
 else
  some false
def zeS (s0:TConsole) (s3:Int):Option (Unit ⊕ Bool) :=
 if s3<(s0.Files.length:Int) then
  idx s0.Files s3 >>= fun a61 =>
  zhN a61 >>= fun r63 =>
  if r63=true then
   if s3 > 0 then
    idx s0.Files (IntKind.wrap .i64 (s3 - 1)) >>= fun a75 =>
    if (Op.bytesLess a75.Name.toList a61.Name.toList)=true then
     zeS s0 (IntKind.wrap .i64 (s3 + 1))
    else
     some (.inr false)
   else
    zeS s0 (IntKind.wrap .i64 (s3 + 1))
  else
   some (.inr false)
 else
  some (.inl ())
 partial_fixpoint
def zip (s0:TConsole):Option Bool :=
 zeS s0 0 >>= fun t =>
 match t with
 | .inl t =>
  some true
 | .inr t =>
  some t
def ziq (p0:TConsole):Option Bool :=
 zdY p0.Input 100 200 >>= fun r8 =>
 if r8=true then
  zdC p0.At 0 (p0.Input.length:Int) >>= fun r20 =>
  if r20=true then
   zdY p0.Output 100 200 >>= fun r28 =>
   if r28=true then
    if (p0.Files.length:Int) > 6 then
     some false
    else
     zdY p0.Trace 200 1300 >>= fun r44 =>
     if r44=true then
      zip p0
     else
      some false
   else
    some false
  else
   some false
 else
  some false
def zcW (p0:TConsole):Option Bool :=
 ziq p0 >>= fun r3 =>
 some r3
def zdH (s1:TScope) (s3:List TValue) (s4:Int):Option ((List TValue)) :=
 if s4<(s1.Vars.length:Int) then
  idx s1.Vars s4 >>= fun a20 =>
  app s3 ([a20.Value]) >>= fun c24 =>
  zdH s1 c24 (IntKind.wrap .i64 (s4 + 1))
 else
  some s3
 partial_fixpoint
def zfp (p0:TScope):Option ((List TValue)) :=
 zej p0 >>= fun r6 =>
 if r6=true then
  zdH p0 ([]) 0 >>= fun t =>
  some t
 else
  some ([])
def zeT (p0:THeap) (p1:TValue):Option Bool :=
 zjA p0 >>= fun r5 =>
 if r5=true then
  zeZ p0 p1 >>= fun r8 =>
  some r8
 else
  some false
def zek (s1:List TValue) (s2:THeap) (s5:Int):Option (Unit ⊕ Bool) :=
 if s5<(s1.length:Int) then
  idx s1 s5 >>= fun a15 =>
  zeT s2 a15 >>= fun r17 =>
  if r17=true then
   zek s1 s2 (IntKind.wrap .i64 (s5 + 1))
  else
   some (.inr false)
 else
  some (.inl ())
 partial_fixpoint
def zhO (p0:THeap) (p1:List TValue):Option Bool :=
 zek p1 p0 0 >>= fun t =>
 match t with
 | .inl t =>
  zfb p0 >>= fun r20 =>
  some r20
 | .inr t =>
  some t
def zeD (p0:TMemory):Option Bool :=
 zfb p0.Heap >>= fun r5 =>
 if r5=true then
  zej p0.Scope >>= fun r9 =>
  if r9=true then
   zcW p0.Console >>= fun r14 =>
   if r14=true then
    zfp p0.Scope >>= fun r21 =>
    zhO p0.Heap r21 >>= fun r22 =>
    some r22
   else
    some false
  else
   some false
 else
  some false
def zfq (s1 s2 s3:THeap) (s4:Int):Option THeap :=
 if s4<(s1.Objects.length:Int) then
  idx s1.Objects s4 >>= fun a19 =>
  chk (a19.Keys.length<=most) >>= fun _ =>
  chk (a19.Vals.length<=most) >>= fun _ =>
  app s3.Objects ([a19]) >>= fun c35 =>
  zfq s1 s2 (THeap.mk s3.Next c35) (IntKind.wrap .i64 (s4 + 1))
 else
  some s3
 partial_fixpoint
def zhP (p0:THeap):Option THeap :=
 zfq p0 (THeap.mk 0 ([])) (THeap.mk p0.Next ([])) 0 >>= fun t =>
 some t
def zdh (p0:TFunction):Option TFunction :=
 chk (p0.Params.length<=most) >>= fun _ =>
 chk (p0.Locals.length<=most) >>= fun _ =>
 some p0
def zfr (p0:TRecordType):Option TRecordType :=
 chk (p0.Fields.length<=most) >>= fun _ =>
 some p0
def zfd (s1 s2 s3:TScope) (s4:Int):Option TScope :=
 if s4<(s1.Functions.length:Int) then
  idx s1.Functions s4 >>= fun a23 =>
  zdh a23 >>= fun r25 =>
  app s3.Functions ([r25]) >>= fun c27 =>
  zfd s1 s2 (TScope.mk s3.Vars c27 s3.Types) (IntKind.wrap .i64 (s4 + 1))
 else
  some s3
 partial_fixpoint
def zfe (s1 s2 s3:TScope) (s5:Int):Option TScope :=
 if s5<(s1.Types.length:Int) then
  idx s1.Types s5 >>= fun a41 =>
  zfr a41 >>= fun r43 =>
  app s3.Types ([r43]) >>= fun c45 =>
  zfe s1 s2 (TScope.mk s3.Vars s3.Functions c45) (IntKind.wrap .i64 (s5 + 1))
 else
  some s3
 partial_fixpoint
def zhQ (p0:TScope):Option TScope :=
 chk (p0.Vars.length<=most) >>= fun _ =>
 zfd p0 (TScope.mk ([]) ([]) ([])) (TScope.mk p0.Vars ([]) ([])) 0 >>= fun t =>
 zfe p0 (TScope.mk ([]) ([]) ([])) t 0 >>= fun t_1 =>
 some t_1
def zdI (s1 s2 s3:TConsole) (s4:Int):Option TConsole :=
 if s4<(s1.Files.length:Int) then
  idx s1.Files s4 >>= fun a31 =>
  chk (a31.Lines.length<=most) >>= fun _ =>
  app s3.Files ([a31]) >>= fun c42 =>
  zdI s1 s2 (TConsole.mk s3.Input s3.At s3.Output c42 s3.Trace) (IntKind.wrap .i64 (s4 + 1))
 else
  some s3
 partial_fixpoint
def zfs (p0:TConsole):Option TConsole :=
 chk (p0.Input.length<=most) >>= fun _ =>
 chk (p0.Output.length<=most) >>= fun _ =>
 chk (p0.Trace.length<=most) >>= fun _ =>
 zdI p0 (TConsole.mk ([]) 0 ([]) ([]) ([])) (TConsole.mk p0.Input p0.At p0.Output ([]) p0.Trace) 0 >>= fun t =>
 some t
def ziT (p0:TMemory):Option TMemory :=
 zhP p0.Heap >>= fun r5 =>
 zhQ p0.Scope >>= fun r8 =>
 zfs p0.Console >>= fun r11 =>
 some (TMemory.mk r5 r8 r11)
def zcX (s0:Int) (s3:ByteArray) (s4 s5:Int):Option (ByteArray × Int × Int × (List Int) × ByteArray × ByteArray) :=
 appB (txtI [IntKind.wrap .u8 (IntKind.wrap .i64 (48 + s5))]) s3 >>= fun c25 =>
 some (c25,IntKind.wrap .i64 (48 + s5),IntKind.wrap .u8 (IntKind.wrap .i64 (48 + s5)),[IntKind.wrap .u8 (IntKind.wrap .i64 (48 + s5))],txtI [IntKind.wrap .u8 (IntKind.wrap .i64 (48 + s5))],c25)
def zbA (s0:Int) (s3:ByteArray) (s4:Int):Option ByteArray :=
 if s4=0 then
  some s3
 else
  if s4.tmod 10<0 then
   zcX s0 s3 s4 (IntKind.wrap .i64 (0 - (s4.tmod 10))) >>= fun t =>
   zbA s0 t.1 (IntKind.wrap .i64 (s4.tdiv 10))
  else
   zcX s0 s3 s4 (s4.tmod 10) >>= fun t =>
   zbA s0 t.1 (IntKind.wrap .i64 (s4.tdiv 10))
 partial_fixpoint
def zgd (p0:Int):Option ByteArray :=
 if p0=0 then
  some (⟨#[48]⟩)
 else
  zbA p0 (⟨#[]⟩) p0 >>= fun t =>
  if p0<0 then
   appB (⟨#[45]⟩) t >>= fun c29 =>
   some c29
  else
   some t
def ziU (p0:TValue):Option (ByteArray × Bool) :=
 zbv p0 >>= fun r5 =>
 if r5=true then
  if p0.Kind=1 then
   some (p0.Text,true)
  else
   if p0.Kind=2 then
    zgd p0.Num >>= fun r17 =>
    some (r17,true)
   else
    some (⟨#[]⟩,false)
 else
  some (⟨#[]⟩,false)
def zdZ (p0:List ByteArray):Option ((List ByteArray)) :=
 chk (p0.length<=most) >>= fun _ =>
 some p0
def zge (s0 s2 s3:TConsole) (s4:Int):Option TConsole :=
 if s4<(s0.Files.length:Int) then
  idx s0.Files s4 >>= fun a40 =>
  zdZ a40.Lines >>= fun r44 =>
  app s3.Files ([TFile.mk a40.Name r44 a40.Mode a40.At]) >>= fun c50 =>
  zge s0 s2 (TConsole.mk s3.Input s3.At s3.Output c50 s3.Trace) (IntKind.wrap .i64 (s4 + 1))
 else
  some s3
 partial_fixpoint
def ziV (p0:TConsole):Option TConsole :=
 zdZ p0.Input >>= fun r10 =>
 zdZ p0.Output >>= fun r19 =>
 zdZ p0.Trace >>= fun r24 =>
 zge p0 (TConsole.mk ([]) 0 ([]) ([]) ([])) (TConsole.mk r10 p0.At r19 ([]) r24) 0 >>= fun t =>
 some t
def zfA (s1:ByteArray) (s4 g0:TConsole):Option ((TConsole × Int)) :=
 if (g0.Output.length:Int) ≥ 100 then
  some (TConsole.mk ([]) 0 ([]) ([]) ([]),6)
 else
  ziV g0 >>= fun r20 =>
  app r20.Output ([s1]) >>= fun c25 =>
  some (TConsole.mk r20.Input r20.At c25 r20.Files r20.Trace,0)
def zhs (p0:TConsole) (p1:ByteArray):Option (TConsole × Int) :=
 ziq p0 >>= fun r7 =>
 if r7=true then
  if (p1.size:Int) > 200 then
   some (TConsole.mk ([]) 0 ([]) ([]) ([]),1)
  else
   zfA p1 (TConsole.mk ([]) 0 ([]) ([]) ([])) p0
 else
  some (TConsole.mk ([]) 0 ([]) ([]) ([]),1)
def zfB (s1:ByteArray) (s3:TScope) (s5:TValue) (s6 s8:TScope) (s9:List TBinding) (s10:Int):Option ((List TBinding) × Int × (List TBinding) × TBinding × TBinding × (List TBinding) × Int) :=
 idx s3.Vars s10 >>= fun a33 =>
 app s9 ([a33]) >>= fun c36 =>
 some (c36,IntKind.wrap .i64 (s10 + 1),s3.Vars,a33,a33,[a33],IntKind.wrap .i64 (s10 + 1))
def zcY (s1:ByteArray) (s3:TScope) (s5:TValue) (s6 s8:TScope) (s9:List TBinding) (s10:Int):Option ((List TBinding) × Int) :=
 if s10<(s3.Vars.length:Int) then
  idx s3.Vars s10 >>= fun a23 =>
  if (Op.bytesLess a23.Name.toList s1.toList)=true then
   zfB s1 s3 s5 s6 s8 s9 s10 >>= fun t =>
   zcY s1 s3 s5 s6 s8 t.1 t.2.1
  else
   some (s9,s10)
 else
  some (s9,s10)
 partial_fixpoint
def zci (s1:ByteArray) (s3 s6 s8:TScope) (s9:List TBinding) (s10:Int):Option ((TScope × Int)) :=
 subL s3.Vars s10 >>= fun c69 =>
 app s9 c69 >>= fun c70 =>
 if (c70.length:Int) > 40 then
  some (TScope.mk ([]) ([]) ([]),6)
 else
  some (TScope.mk c70 s8.Functions s8.Types,0)
def zcZ (s1:ByteArray) (s3 s6 s8:TScope) (s9:List TBinding) (s10:Int):Option ((TScope × Int)) :=
 if s10<(s3.Vars.length:Int) then
  idx s3.Vars s10 >>= fun a57 =>
  if a57.Name=s1 then
   zci s1 s3 s6 s8 s9 (IntKind.wrap .i64 (s10 + 1)) >>= fun t =>
   some t
  else
   zci s1 s3 s6 s8 s9 s10 >>= fun t =>
   some t
 else
  zci s1 s3 s6 s8 s9 s10 >>= fun t =>
  some t
def zgf (p0:TScope) (p1:ByteArray) (p2:TValue):Option (TScope × Int) :=
 zhQ p0 >>= fun r12 =>
 zcY p1 p0 p2 (TScope.mk ([]) ([]) ([])) r12 ([]) 0 >>= fun t =>
 ziS p2 >>= fun r40 =>
 if r40=true then
  zcZ p1 p0 (TScope.mk ([]) ([]) ([])) r12 t.1 t.2
 else
  app t.1 ([TBinding.mk p1 p2]) >>= fun c47 =>
  zcZ p1 p0 (TScope.mk ([]) ([]) ([])) r12 c47 t.2
def zir (p1:ByteArray) (p2:TValue) (g0:TMemory):Option (Int × TMemory) :=
 if p1=⟨#[73,78,80,85,84]⟩ then
  some (10,g0)
 else
  if p1=⟨#[79,85,84,80,85,84]⟩ then
   ziU p2 >>= fun r20 =>
   if r20.2=true then
    zhs g0.Console r20.1 >>= fun r31 =>
    if r31.2=0 then
     some (r31.2,TMemory.mk g0.Heap g0.Scope r31.1)
    else
     some (r31.2,g0)
   else
    some (4,g0)
  else
   zgf g0.Scope p1 p2 >>= fun r48 =>
   if r48.2=0 then
    some (r48.2,TMemory.mk g0.Heap r48.1 g0.Console)
   else
    some (r48.2,g0)
def zcn (s1:ByteArray) (s3:TMemory) (s5:TValue) (s6:TMemory):Option ((TMemory × Int)) :=
 ziT s3 >>= fun r27 =>
 zir s1 s5 r27 >>= fun r30 =>
 if r30.1=0 then
  some (r30.2,0)
 else
  some (TMemory.mk (THeap.mk 0 ([])) (TScope.mk ([]) ([]) ([])) (TConsole.mk ([]) 0 ([]) ([]) ([])),r30.1)
def zff (p0:TMemory) (p1:ByteArray) (p2:TValue):Option (TMemory × Int) :=
 zeD p0 >>= fun r11 =>
 if r11=true then
  zcH p1 >>= fun r15 =>
  if r15=true then
   zeT p0.Heap p2 >>= fun r22 =>
   if r22=true then
    zcn p1 p0 p2 (TMemory.mk (THeap.mk 0 ([])) (TScope.mk ([]) ([]) ([])) (TConsole.mk ([]) 0 ([]) ([]) ([])))
   else
    some (TMemory.mk (THeap.mk 0 ([])) (TScope.mk ([]) ([]) ([])) (TConsole.mk ([]) 0 ([]) ([]) ([])),1)
  else
   some (TMemory.mk (THeap.mk 0 ([])) (TScope.mk ([]) ([]) ([])) (TConsole.mk ([]) 0 ([]) ([]) ([])),1)
 else
  some (TMemory.mk (THeap.mk 0 ([])) (TScope.mk ([]) ([]) ([])) (TConsole.mk ([]) 0 ([]) ([]) ([])),1)
def zdJ (p0 p1 p2:Int):Option Bool :=
 if p0 ≥ p1 then
  some (decide (p0<=p2))
 else
  some false
def zel (p0:Int):Option Bool :=
 zdJ p0 1 1000000 >>= fun r4 =>
 some r4
def zfS (p0:Int):Option Bool :=
 if p0 ≥ 65 then
  if p0<=90 then
   some true
  else
   if p0 ≥ 97 then
    some (decide (p0<=122))
   else
    some false
 else
  if p0 ≥ 97 then
   some (decide (p0<=122))
  else
   some false
def zhR (p0:Int):Option Bool :=
 if p0 ≥ 48 then
  some (decide (p0<=57))
 else
  some false
def zem (p0:Int):Option Bool :=
 zfS p0 >>= fun r4 =>
 if r4=true then
  some true
 else
  zhR p0 >>= fun r7 =>
  if r7=true then
   some true
  else
   some (decide (p0=95))
def zdi (s0 s7:List Int) (s8 s9:Int):Option (Unit ⊕ Bool) :=
 if s9<s8 then
  idx s7 s9 >>= fun a11 =>
  zem a11 >>= fun r15 =>
  if r15=true then
   zdi s0 s7 s8 (IntKind.wrap .i64 (s9 + 1))
  else
   some (.inr false)
 else
  some (.inl ())
 partial_fixpoint
def zeE (p0:List Int):Option Bool :=
 zdi p0 p0 (p0.length:Int) 0 >>= fun t =>
 match t with
 | .inl t =>
  some true
 | .inr t =>
  some t
def zco (p0:ByteArray):Option Bool :=
 if (p0.size:Int) ≥ 1 then
  if (p0.size:Int)<=12 then
   idxBN p0 0 >>= fun b13 =>
   zfS (b13.toNat:Int) >>= fun r14 =>
   if r14=true then
    zeE (strI p0) >>= fun r19 =>
    some r19
   else
    some false
  else
   some false
 else
  some false
def zdK (s1:TValue) (s65:Bool):Option (Bool ⊕ Bool) :=
 if s65=true then
  if s1.Num=0 then
   if s1.Ref=0 then
    zco s1.Text >>= fun r78 =>
    some (.inr r78)
   else
    some (.inr false)
  else
   some (.inr false)
 else
  some (.inl false)
def zcz (s1:TValue) (s4:Int) (s49:Bool):Option (Unit ⊕ Bool) :=
 if s49=true then
  if s1.Num=0 then
   if s1.Text=ByteArray.empty then
    zel s1.Ref >>= fun r63 =>
    some (.inr r63)
   else
    some (.inr false)
  else
   some (.inr false)
 else
  if s4=7 then
   zdK s1 true >>= fun t =>
   match t with
   | .inl t =>
    some (.inl ())
   | .inr t =>
    some (.inr t)
  else
   zdK s1 (decide (s4=8)) >>= fun t =>
   match t with
   | .inl t =>
    some (.inl ())
   | .inr t =>
    some (.inr t)
def zbe (p0:TValue):Option Bool :=
 if p0.Kind=1 then
  if p0.Num=0 then
   if p0.Ref=0 then
    some (decide ((p0.Text.size:Int)<=200))
   else
    some false
  else
   some false
 else
  if p0.Kind=2 then
   if p0.Text=ByteArray.empty then
    if p0.Ref=0 then
     zdJ p0.Num (-1000000000000) 1000000000000 >>= fun r28 =>
     some r28
    else
     some false
   else
    some false
  else
   if p0.Kind=3 then
    if p0.Num=0 then
     if p0.Ref=0 then
      if (p0.Text.size:Int) ≥ 1 then
       some (decide ((p0.Text.size:Int)<=1200))
      else
       some false
     else
      some false
    else
     some false
   else
    if p0.Kind=4 then
     zcz p0 p0.Kind true >>= fun t =>
     match t with
     | .inl t =>
      some false
     | .inr t =>
      some t
    else
     if p0.Kind=5 then
      zcz p0 p0.Kind true >>= fun t =>
      match t with
      | .inl t =>
       some false
      | .inr t =>
       some t
     else
      zcz p0 p0.Kind (decide (p0.Kind=6)) >>= fun t =>
      match t with
      | .inl t =>
       some false
      | .inr t =>
       some t
def zcI (s0 s7:List TValue) (s8 s9:Int):Option (Unit ⊕ Bool) :=
 if s9<s8 then
  idx s7 s9 >>= fun a11 =>
  zbe a11 >>= fun r15 =>
  if r15=true then
   zcI s0 s7 s8 (IntKind.wrap .i64 (s9 + 1))
  else
   some (.inr false)
 else
  some (.inl ())
 partial_fixpoint
def zda (p0:List TValue):Option Bool :=
 zcI p0 p0 (p0.length:Int) 0 >>= fun t =>
 match t with
 | .inl t =>
  some true
 | .inr t =>
  some t
def zan (s0:List TValue) (s3:TValue) (s7 s8:Int):Option (Unit ⊕ Int) :=
 if s8<s7 then
  idx s0 s8 >>= fun a14 =>
  if s3.Kind=a14.Kind then
   if s3.Num=a14.Num then
    if s3.Text=a14.Text then
     if s3.Ref=a14.Ref then
      some (.inr s8)
     else
      zan s0 s3 s7 (IntKind.wrap .i64 (s8 + 1))
    else
     zan s0 s3 s7 (IntKind.wrap .i64 (s8 + 1))
   else
    zan s0 s3 s7 (IntKind.wrap .i64 (s8 + 1))
  else
   zan s0 s3 s7 (IntKind.wrap .i64 (s8 + 1))
 else
  some (.inl ())
 partial_fixpoint
def zbO (p0:List TValue) (p1:TValue):Option Int :=
 zan p0 p1 (p0.length:Int) 0 >>= fun t =>
 match t with
 | .inl t =>
  some (-1)
 | .inr t =>
  some t
def zaH (p0:List TValue) (p1:TValue):Option Bool :=
 zbO p0 p1 >>= fun r7 =>
 some (decide (r7 ≥ 0))
def zcJ (s0 s5:List TValue) (s6 s7:Int):Option (Unit ⊕ Bool) :=
 if s7<s6 then
  idx s5 s7 >>= fun a10 =>
  subH s0 s7 >>= fun c14 =>
  zaH c14 a10 >>= fun r16 =>
  if r16=true then
   some (.inr false)
  else
   zcJ s0 s5 s6 (IntKind.wrap .i64 (s7 + 1))
 else
  some (.inl ())
 partial_fixpoint
def zdb (p0:List TValue):Option Bool :=
 zcJ p0 p0 (p0.length:Int) 0 >>= fun t =>
 match t with
 | .inl t =>
  some true
 | .inr t =>
  some t
def ziW (p0:ByteArray):Option TValue :=
 some (TValue.mk 1 0 p0 0)
def zgG (p0:TValue):Option Bool :=
 ziW p0.Text >>= fun r6 =>
 if p0.Kind=r6.Kind then
  if p0.Num=r6.Num then
   if p0.Text=r6.Text then
    if p0.Ref=r6.Ref then
     zco p0.Text >>= fun r11 =>
     some r11
    else
     some false
   else
    some false
  else
   some false
 else
  some false
def zbV (s0 s7:List TValue) (s8 s9:Int):Option (Unit ⊕ Bool) :=
 if s9<s8 then
  idx s7 s9 >>= fun a11 =>
  zgG a11 >>= fun r15 =>
  if r15=true then
   zbV s0 s7 s8 (IntKind.wrap .i64 (s9 + 1))
  else
   some (.inr false)
 else
  some (.inl ())
 partial_fixpoint
def zdj (p0:List TValue):Option Bool :=
 zbV p0 p0 (p0.length:Int) 0 >>= fun t =>
 match t with
 | .inl t =>
  some true
 | .inr t =>
  some t
def zce (s1:TObject) (s3:Bool):Option Bool :=
 if s1.Low=0 then
  if s3=true then
   zbe s1.Default >>= fun r74 =>
   if r74=true then
    some (decide (s1.Name=⟨#[]⟩))
   else
    some false
  else
   some false
 else
  some false
def zbi (s1:TObject) (s5:Bool):Option Bool :=
 if s1.Low=0 then
  if s5=true then
   if s1.Default.Kind=0 then
    if s1.Default.Num=0 then
     if s1.Default.Text=ByteArray.empty then
      if s1.Default.Ref=0 then
       zco s1.Name >>= fun r124 =>
       some r124
      else
       some false
     else
      some false
    else
     some false
   else
    some false
  else
   some false
 else
  some false
def zdk (s1:TObject):Option Bool :=
 if s1.Kind=1 then
  zdJ s1.Low (-1000) 1000 >>= fun r28 =>
  if r28=true then
   if (s1.Keys.length:Int)=0 then
    if s1.Default.Kind=0 then
     if s1.Default.Num=0 then
      if s1.Default.Text=ByteArray.empty then
       if s1.Default.Ref=0 then
        some (decide (s1.Name=⟨#[]⟩))
       else
        some false
      else
       some false
     else
      some false
    else
     some false
   else
    some false
  else
   some false
 else
  if s1.Kind=2 then
   if (s1.Keys.length:Int)=(s1.Vals.length:Int) then
    zda s1.Keys >>= fun r58 =>
    if r58=true then
     zdb s1.Keys >>= fun r63 =>
     zce s1 r63 >>= fun t =>
     some t
    else
     zce s1 false >>= fun t =>
     some t
   else
    zce s1 false >>= fun t =>
    some t
  else
   if s1.Kind=3 then
    if (s1.Keys.length:Int) ≥ 1 then
     if (s1.Keys.length:Int)<=6 then
      if (s1.Keys.length:Int)=(s1.Vals.length:Int) then
       zdj s1.Keys >>= fun r102 =>
       if r102=true then
        zdb s1.Keys >>= fun r107 =>
        zbi s1 r107 >>= fun t =>
        some t
       else
        zbi s1 false >>= fun t =>
        some t
      else
       zbi s1 false >>= fun t =>
       some t
     else
      zbi s1 false >>= fun t =>
      some t
    else
     zbi s1 false >>= fun t =>
     some t
   else
    some false
def zdL (p0:TObject):Option Bool :=
 zel p0.Id >>= fun r8 =>
 if r8=true then
  if (p0.Vals.length:Int) > 30 then
   some false
  else
   zda p0.Vals >>= fun r19 =>
   if r19=true then
    zdk p0
   else
    some false
 else
  some false
def zcp (s0 s7:List TObject) (s8 s9:Int):Option (Unit ⊕ Bool) :=
 if s9<s8 then
  idx s7 s9 >>= fun a11 =>
  zdL a11 >>= fun r15 =>
  if r15=true then
   zcp s0 s7 s8 (IntKind.wrap .i64 (s9 + 1))
  else
   some (.inr false)
 else
  some (.inl ())
 partial_fixpoint
def zdM (p0:List TObject):Option Bool :=
 zcp p0 p0 (p0.length:Int) 0 >>= fun t =>
 match t with
 | .inl t =>
  some true
 | .inr t =>
  some t
def zba (a b:List TValue):Option (List TValue):=chk (a.length + b.length<=most) >>= fun _=>some (a++b)
def zfg (p0:TObject):Option ((List TValue)) :=
 zba p0.Keys p0.Vals >>= fun r9 =>
 if p0.Kind=2 then
  app r9 ([p0.Default]) >>= fun c17 =>
  some c17
 else
  some r9
def zlB (p0:Int):Option Bool :=
 zdJ p0 4 6 >>= fun r4 =>
 some r4
def zdN (p0:Int):Option Bool :=
 some false
def zea (p0 p1:Int):Option Int :=
 zdN p0 >>= fun r8 =>
 zdN p1 >>= fun r10 =>
 if r8=true then
  if r10=true then
   some 0
  else
   some (-1)
 else
  if r10=true then
   some 1
  else
   if p0<p1 then
    some (-1)
   else
    if p0 > p1 then
     some 1
    else
     some 0
def zdO (p0:TObject) (p1:Int):Option Int :=
 zea p0.Id p1 >>= fun r8 =>
 some r8
def zai (s0:List TObject) (s1 s8 s9 s10:Int):Option Int :=
 if s9<s10 then
  idx s0 (IntKind.wrap .i64 ((IntKind.wrap .u64 (IntKind.wrap .i64 (s9 + s10))).fdiv (2 ^ (min 1 (IntKind.bits .u64))))) >>= fun a27 =>
  zdO a27 s1 >>= fun r30 =>
  if r30<0 then
   zai s0 s1 s8 (IntKind.wrap .i64 (IntKind.wrap .i64 ((IntKind.wrap .u64 (IntKind.wrap .i64 (s9 + s10))).fdiv (2 ^ (min 1 (IntKind.bits .u64)))) + 1)) s10
  else
   zai s0 s1 s8 s9 (IntKind.wrap .i64 ((IntKind.wrap .u64 (IntKind.wrap .i64 (s9 + s10))).fdiv (2 ^ (min 1 (IntKind.bits .u64)))))
 else
  some s9
 partial_fixpoint
def zaE (p0:List TObject) (p1:Int):Option (Int × Bool) :=
 zai p0 p1 (p0.length:Int) 0 (p0.length:Int) >>= fun t =>
 if t<(p0.length:Int) then
  idx p0 t >>= fun a43 =>
  zdO a43 p1 >>= fun r46 =>
  some (t,(decide (r46=0)))
 else
  some (t,false)
def zgg (p0:THeap) (p1:Int):Option Int :=
 zaE p0.Objects p1 >>= fun r11 =>
 if r11.2=true then
  some r11.1
 else
  some (-1)
def zgH (p0:Int):Option Int :=
 some (IntKind.wrap .i64 (IntKind.wrap .i64 (p0 - 4) + 1))
def zfC (s2:THeap) (s3:TValue):Option Bool :=
 zgg s2 s3.Ref >>= fun r20 =>
 if r20 ≥ 0 then
  idx s2.Objects r20 >>= fun a27 =>
  zgH s3.Kind >>= fun r32 =>
  some (decide (a27.Kind=r32))
 else
  some false
def zeb (p0:THeap) (p1:TValue):Option Bool :=
 zbe p1 >>= fun r7 =>
 if r7=true then
  zlB p1.Kind >>= fun r12 =>
  if r12=true then
   zfC p0 p1
  else
   zbe p1 >>= fun r16 =>
   some r16
 else
  zbe p1 >>= fun r16 =>
  some r16
def zbW (s0:List TValue) (s1:THeap) (s7:List TValue) (s8 s9:Int):Option (Unit ⊕ Bool) :=
 if s9<s8 then
  idx s7 s9 >>= fun a11 =>
  zeb s1 a11 >>= fun r15 =>
  if r15=true then
   zbW s0 s1 s7 s8 (IntKind.wrap .i64 (s9 + 1))
  else
   some (.inr false)
 else
  some (.inl ())
 partial_fixpoint
def zcf (p0:List TValue) (p1:THeap):Option Bool :=
 zbW p0 p1 p0 (p0.length:Int) 0 >>= fun t =>
 match t with
 | .inl t =>
  some true
 | .inr t =>
  some t
def zdP (p0:TObject) (g0:THeap):Option Bool :=
 zfg p0 >>= fun r5 =>
 zcf r5 g0 >>= fun r8 =>
 some r8
def zbE (s0 s7:List TObject) (s8:Int) (g0:THeap) (s9:Int):Option (Unit ⊕ Bool) :=
 if s9<s8 then
  idx s7 s9 >>= fun a11 =>
  zdP a11 g0 >>= fun r15 =>
  if r15=true then
   zbE s0 s7 s8 g0 (IntKind.wrap .i64 (s9 + 1))
  else
   some (.inr false)
 else
  some (.inl ())
 partial_fixpoint
def zcK (p0:List TObject) (g0:THeap):Option Bool :=
 zbE p0 p0 (p0.length:Int) g0 0 >>= fun t =>
 match t with
 | .inl t =>
  some true
 | .inr t =>
  some t
def zdc (s1:THeap) (s23:List TObject) (s24 s3 s25:Int):Option (Unit ⊕ Bool) :=
 if s25<s24 then
  idx s23 s25 >>= fun a27 =>
  if a27.Id<=s3 then
   some (.inr false)
  else
   if a27.Id > s1.Next then
    some (.inr false)
   else
    zdc s1 s23 s24 a27.Id (IntKind.wrap .i64 (s25 + 1))
 else
  some (.inl ())
 partial_fixpoint
def zfD (s1:THeap):Option Bool :=
 zdc s1 s1.Objects (s1.Objects.length:Int) 0 0 >>= fun t =>
 match t with
 | .inl t =>
  zcK s1.Objects s1 >>= fun r46 =>
  some r46
 | .inr t =>
  some t
def zgh (p0:THeap):Option Bool :=
 zdJ p0.Next 0 1000000 >>= fun r8 =>
 if r8=true then
  if (p0.Objects.length:Int) > 40 then
   some false
  else
   zdM p0.Objects >>= fun r19 =>
   if r19=true then
    zfD p0
   else
    some false
 else
  some false
def zbo (p0:TBinding):Option ByteArray :=
 some p0.Name
def zbw (s0:List TBinding) (s5:Int):Option (Unit ⊕ Bool) :=
 if s5<(s0.length:Int) then
  idx s0 (IntKind.wrap .i64 (s5 - 1)) >>= fun a16 =>
  zbo a16 >>= fun r18 =>
  idx s0 s5 >>= fun a22 =>
  zbo a22 >>= fun r24 =>
  if (Op.bytesLess r18.toList r24.toList)=true then
   zbw s0 (IntKind.wrap .i64 (s5 + 1))
  else
   some (.inr false)
 else
  some (.inl ())
 partial_fixpoint
def zcq (p0:List TBinding):Option Bool :=
 zbw p0 1 >>= fun t =>
 match t with
 | .inl t =>
  some true
 | .inr t =>
  some t
def zes (p0:TFunction):Option ByteArray :=
 some p0.Name
def zbq (s0:List TFunction) (s5:Int):Option (Unit ⊕ Bool) :=
 if s5<(s0.length:Int) then
  idx s0 (IntKind.wrap .i64 (s5 - 1)) >>= fun a16 =>
  zes a16 >>= fun r18 =>
  idx s0 s5 >>= fun a22 =>
  zes a22 >>= fun r24 =>
  if (Op.bytesLess r18.toList r24.toList)=true then
   zbq s0 (IntKind.wrap .i64 (s5 + 1))
  else
   some (.inr false)
 else
  some (.inl ())
 partial_fixpoint
def zbX (p0:List TFunction):Option Bool :=
 zbq p0 1 >>= fun t =>
 match t with
 | .inl t =>
  some true
 | .inr t =>
  some t
def zgI (p0:TRecordType):Option ByteArray :=
 some p0.Name
def zbg (s0:List TRecordType) (s5:Int):Option (Unit ⊕ Bool) :=
 if s5<(s0.length:Int) then
  idx s0 (IntKind.wrap .i64 (s5 - 1)) >>= fun a16 =>
  zgI a16 >>= fun r18 =>
  idx s0 s5 >>= fun a22 =>
  zgI a22 >>= fun r24 =>
  if (Op.bytesLess r18.toList r24.toList)=true then
   zbg s0 (IntKind.wrap .i64 (s5 + 1))
  else
   some (.inr false)
 else
  some (.inl ())
 partial_fixpoint
def zbx (p0:List TRecordType):Option Bool :=
 zbg p0 1 >>= fun t =>
 match t with
 | .inl t =>
  some true
 | .inr t =>
  some t
def zyQ:Option TValue :=
 ziW (⟨#[]⟩) >>= fun r1 =>
 some r1
def ziX (p0:TValue):Option Bool :=
 zyQ >>= fun r4 =>
 some ((decide (p0.Kind=r4.Kind)) && ((decide (p0.Num=r4.Num)) && ((decide (p0.Text=r4.Text)) && (decide (p0.Ref=r4.Ref)))))
def zbP (p0:TBinding):Option Bool :=
 zco p0.Name >>= fun r5 =>
 if r5=true then
  zbe p0.Value >>= fun r9 =>
  if r9=true then
   ziX p0.Value >>= fun r14 =>
   some (!r14)
  else
   some false
 else
  some false
def zbY (s0 s7:List TBinding) (s8 s9:Int):Option (Unit ⊕ Bool) :=
 if s9<s8 then
  idx s7 s9 >>= fun a11 =>
  zbP a11 >>= fun r15 =>
  if r15=true then
   zbY s0 s7 s8 (IntKind.wrap .i64 (s9 + 1))
  else
   some (.inr false)
 else
  some (.inl ())
 partial_fixpoint
def zdl (p0:List TBinding):Option Bool :=
 zbY p0 p0 (p0.length:Int) 0 >>= fun t =>
 match t with
 | .inl t =>
  some true
 | .inr t =>
  some t
def zaU (a b:List ByteArray):Option (List ByteArray):=chk (a.length + b.length<=most) >>= fun _=>some (a++b)
def zcr (s0 s7:List ByteArray) (s8 s9:Int):Option (Unit ⊕ Bool) :=
 if s9<s8 then
  idx s7 s9 >>= fun a11 =>
  zco a11 >>= fun r15 =>
  if r15=true then
   zcr s0 s7 s8 (IntKind.wrap .i64 (s9 + 1))
  else
   some (.inr false)
 else
  some (.inl ())
 partial_fixpoint
def zcA (p0:List ByteArray):Option Bool :=
 zcr p0 p0 (p0.length:Int) 0 >>= fun t =>
 match t with
 | .inl t =>
  some true
 | .inr t =>
  some t
def zad (p0:List ByteArray):Option (List ByteArray):=chk (p0.length<=most) >>= fun _=>some p0
def zbb (p0:List ByteArray):Option (List ByteArray):=chk (p0.length<=most) >>= fun _=>some (zmB p0)
def zaP (p0:List ByteArray):Option (List ByteArray):=chk (p0.length<=most) >>= fun _=>some (ziR p0)
def zdQ (p0:List ByteArray):Option ((List ByteArray)) :=
 zbb p0 >>= fun r4 =>
 zaP r4 >>= fun r6 =>
 some r6
def zby (s1:TFunction) (s3:List ByteArray) (s4:Bool):Option Bool :=
 zco s1.Name >>= fun r23 =>
 if r23=true then
  zco s1.Label >>= fun r27 =>
  if r27=true then
   if s4=true then
    zcA s3 >>= fun r34 =>
    if r34=true then
     zad s3 >>= fun r38 =>
     zdQ r38 >>= fun r39 =>
     some (decide ((r39.length:Int)=(s3.length:Int)))
    else
     some false
   else
    some false
  else
   some false
 else
  some false
def zbz (p0:TFunction):Option Bool :=
 zaU p0.Params p0.Locals >>= fun r10 =>
 if (p0.Params.length:Int)<=6 then
  zby p0 r10 (decide ((p0.Locals.length:Int)<=6))
 else
  zby p0 r10 false
def zbF (s0 s7:List TFunction) (s8 s9:Int):Option (Unit ⊕ Bool) :=
 if s9<s8 then
  idx s7 s9 >>= fun a11 =>
  zbz a11 >>= fun r15 =>
  if r15=true then
   zbF s0 s7 s8 (IntKind.wrap .i64 (s9 + 1))
  else
   some (.inr false)
 else
  some (.inl ())
 partial_fixpoint
def zcL (p0:List TFunction):Option Bool :=
 zbF p0 p0 (p0.length:Int) 0 >>= fun t =>
 match t with
 | .inl t =>
  some true
 | .inr t =>
  some t
def zfE (s0:List ByteArray):Option Bool :=
 zad s0 >>= fun r17 =>
 zdQ r17 >>= fun r18 =>
 some (decide ((r18.length:Int)=(s0.length:Int)))
def zht (p0:List ByteArray):Option Bool :=
 if (p0.length:Int)<1 then
  some false
 else
  if (p0.length:Int) > 6 then
   some false
  else
   zcA p0 >>= fun r13 =>
   if r13=true then
    zfE p0
   else
    some false
def zbj (p0:TRecordType):Option Bool :=
 zco p0.Name >>= fun r5 =>
 if r5=true then
  zht p0.Fields >>= fun r9 =>
  some r9
 else
  some false
def zbr (s0 s7:List TRecordType) (s8 s9:Int):Option (Unit ⊕ Bool) :=
 if s9<s8 then
  idx s7 s9 >>= fun a11 =>
  zbj a11 >>= fun r15 =>
  if r15=true then
   zbr s0 s7 s8 (IntKind.wrap .i64 (s9 + 1))
  else
   some (.inr false)
 else
  some (.inl ())
 partial_fixpoint
def zbZ (p0:List TRecordType):Option Bool :=
 zbr p0 p0 (p0.length:Int) 0 >>= fun t =>
 match t with
 | .inl t =>
  some true
 | .inr t =>
  some t
def zcB (s1:TScope) (s3:Bool):Option Bool :=
 if s3=true then
  zdl s1.Vars >>= fun r37 =>
  if r37=true then
   zcL s1.Functions >>= fun r42 =>
   if r42=true then
    zbZ s1.Types >>= fun r47 =>
    some r47
   else
    some false
  else
   some false
 else
  some false
def zfh (s1:TScope):Option Bool :=
 zcq s1.Vars >>= fun r22 =>
 if r22=true then
  zbX s1.Functions >>= fun r26 =>
  if r26=true then
   zbx s1.Types >>= fun r31 =>
   zcB s1 r31 >>= fun t =>
   some t
  else
   zcB s1 false >>= fun t =>
   some t
 else
  zcB s1 false >>= fun t =>
  some t
def zft (p0:TScope):Option Bool :=
 if (p0.Vars.length:Int) > 40 then
  some false
 else
  if (p0.Functions.length:Int) > 12 then
   some false
  else
   if (p0.Types.length:Int) > 8 then
    some false
   else
    zfh p0
def zjB (p0:ByteArray):Option Bool :=
 some (decide ((p0.size:Int)<=200))
def zbG (s0 s7:List ByteArray) (s8 s9:Int):Option (Unit ⊕ Bool) :=
 if s9<s8 then
  idx s7 s9 >>= fun a11 =>
  zjB a11 >>= fun r15 =>
  if r15=true then
   zbG s0 s7 s8 (IntKind.wrap .i64 (s9 + 1))
  else
   some (.inr false)
 else
  some (.inl ())
 partial_fixpoint
def zbk (p0:List ByteArray):Option Bool :=
 zbG p0 p0 (p0.length:Int) 0 >>= fun t =>
 match t with
 | .inl t =>
  some true
 | .inr t =>
  some t
def zet (p0:ByteArray):Option Bool :=
 some (decide ((p0.size:Int)<=1300))
def zbH (s0 s7:List ByteArray) (s8 s9:Int):Option (Unit ⊕ Bool) :=
 if s9<s8 then
  idx s7 s9 >>= fun a11 =>
  zet a11 >>= fun r15 =>
  if r15=true then
   zbH s0 s7 s8 (IntKind.wrap .i64 (s9 + 1))
  else
   some (.inr false)
 else
  some (.inl ())
 partial_fixpoint
def zcM (p0:List ByteArray):Option Bool :=
 zbH p0 p0 (p0.length:Int) 0 >>= fun t =>
 match t with
 | .inl t =>
  some true
 | .inr t =>
  some t
def zlC (p0:Int):Option Bool :=
 zdJ p0 1 3 >>= fun r4 =>
 some r4
def zbQ (s1:TFile) (s3 s4:Bool):Option Bool :=
 zco s1.Name >>= fun r32 =>
 if r32=true then
  if s3=true then
   if s4=true then
    if s1.Mode=0 then
     some true
    else
     zlC s1.Mode >>= fun r46 =>
     some r46
   else
    some false
  else
   some false
 else
  some false
def zcN (s1:TFile) (s3:Bool):Option Bool :=
 zdJ s1.At 0 (s1.Lines.length:Int) >>= fun r19 =>
 if r19=true then
  if s1.At=0 then
   zbQ s1 s3 true >>= fun t =>
   some t
  else
   zbQ s1 s3 (decide (s1.Mode=1)) >>= fun t =>
   some t
 else
  zbQ s1 s3 false >>= fun t =>
  some t
def zdd (p0:TFile):Option Bool :=
 if (p0.Lines.length:Int)<=40 then
  zbk p0.Lines >>= fun r12 =>
  zcN p0 r12
 else
  zcN p0 false
def zdm (s0 s7:List TFile) (s8 s9:Int):Option (Unit ⊕ Bool) :=
 if s9<s8 then
  idx s7 s9 >>= fun a11 =>
  zdd a11 >>= fun r15 =>
  if r15=true then
   zdm s0 s7 s8 (IntKind.wrap .i64 (s9 + 1))
  else
   some (.inr false)
 else
  some (.inl ())
 partial_fixpoint
def zeF (p0:List TFile):Option Bool :=
 zdm p0 p0 (p0.length:Int) 0 >>= fun t =>
 match t with
 | .inl t =>
  some true
 | .inr t =>
  some t
def zgJ (p0:TFile):Option ByteArray :=
 some p0.Name
def zcs (s0:List TFile) (s5:Int):Option (Unit ⊕ Bool) :=
 if s5<(s0.length:Int) then
  idx s0 (IntKind.wrap .i64 (s5 - 1)) >>= fun a16 =>
  zgJ a16 >>= fun r18 =>
  idx s0 s5 >>= fun a22 =>
  zgJ a22 >>= fun r24 =>
  if (Op.bytesLess r18.toList r24.toList)=true then
   zcs s0 (IntKind.wrap .i64 (s5 + 1))
  else
   some (.inr false)
 else
  some (.inl ())
 partial_fixpoint
def zdR (p0:List TFile):Option Bool :=
 zcs p0 1 >>= fun t =>
 match t with
 | .inl t =>
  some true
 | .inr t =>
  some t
def zbR (s1:TConsole) (s4:Bool):Option Bool :=
 if s4=true then
  zdJ s1.At 0 (s1.Input.length:Int) >>= fun r48 =>
  if r48=true then
   zeF s1.Files >>= fun r53 =>
   if r53=true then
    zdR s1.Files >>= fun r58 =>
    some r58
   else
    some false
  else
   some false
 else
  some false
def zec (s1:TConsole):Option Bool :=
 zbk s1.Input >>= fun r29 =>
 if r29=true then
  zbk s1.Output >>= fun r33 =>
  if r33=true then
   zcM s1.Trace >>= fun r39 =>
   zbR s1 r39 >>= fun t =>
   some t
  else
   zbR s1 false >>= fun t =>
   some t
 else
  zbR s1 false >>= fun t =>
  some t
def zef (p0:TConsole):Option Bool :=
 if (p0.Input.length:Int) > 100 then
  some false
 else
  if (p0.Output.length:Int) > 100 then
   some false
  else
   if (p0.Files.length:Int) > 6 then
    some false
   else
    if (p0.Trace.length:Int) > 200 then
     some false
    else
     zec p0
def zdn (s1:TScope) (s8:List TBinding) (s9:Int) (s3:List TValue) (s10:Int):Option ((List TValue)) :=
 if s10<s9 then
  idx s8 s10 >>= fun a12 =>
  app s3 ([a12.Value]) >>= fun c18 =>
  zdn s1 s8 s9 c18 (IntKind.wrap .i64 (s10 + 1))
 else
  some s3
 partial_fixpoint
def zeG (p0:TScope):Option ((List TValue)) :=
 zdn p0 p0.Vars (p0.Vars.length:Int) ([]) 0 >>= fun t =>
 some t
def zeH (p0:TMemory):Option Bool :=
 zgh p0.Heap >>= fun r5 =>
 if r5=true then
  zft p0.Scope >>= fun r9 =>
  if r9=true then
   zef p0.Console >>= fun r14 =>
   if r14=true then
    zeG p0.Scope >>= fun r19 =>
    zcf r19 p0.Heap >>= fun r23 =>
    some r23
   else
    some false
  else
   some false
 else
  some false
def zaO (p0:List TValue):Option (List TValue):=chk (p0.length<=most) >>= fun _=>some p0
def zdS (p0:TObject):Option TObject :=
 zaO p0.Keys >>= fun r5 =>
 zaO p0.Vals >>= fun r8 =>
 some (TObject.mk p0.Id p0.Kind p0.Name p0.Low r5 r8 p0.Default)
def zdo (s1 s2:THeap) (s10:List TObject) (s11:Int) (s3:THeap) (s12:Int):Option THeap :=
 if s12<s11 then
  idx s10 s12 >>= fun a14 =>
  zdS a14 >>= fun r19 =>
  app s3.Objects ([r19]) >>= fun c21 =>
  zdo s1 s2 s10 s11 (THeap.mk s3.Next c21) (IntKind.wrap .i64 (s12 + 1))
 else
  some s3
 partial_fixpoint
def zeI (p0:THeap):Option THeap :=
 zdo p0 (THeap.mk 0 ([])) p0.Objects (p0.Objects.length:Int) (THeap.mk p0.Next ([])) 0 >>= fun t =>
 some t
def zal (p0:List TBinding):Option (List TBinding):=chk (p0.length<=most) >>= fun _=>some p0
def zbS (s1 s2:TScope) (s13:List TFunction) (s14:Int) (s3:TScope) (s15:Int):Option TScope :=
 if s15<s14 then
  idx s13 s15 >>= fun a17 =>
  zad a17.Params >>= fun r21 =>
  zad a17.Locals >>= fun r24 =>
  app s3.Functions ([TFunction.mk a17.Name r21 r24 a17.Label]) >>= fun c31 =>
  zbS s1 s2 s13 s14 (TScope.mk s3.Vars c31 s3.Types) (IntKind.wrap .i64 (s15 + 1))
 else
  some s3
 partial_fixpoint
def zbT (s1 s2:TScope) (s35:List TRecordType) (s36:Int) (s3:TScope) (s37:Int):Option TScope :=
 if s37<s36 then
  idx s35 s37 >>= fun a39 =>
  zad a39.Fields >>= fun r43 =>
  app s3.Types ([TRecordType.mk a39.Name r43]) >>= fun c49 =>
  zbT s1 s2 s35 s36 (TScope.mk s3.Vars s3.Functions c49) (IntKind.wrap .i64 (s37 + 1))
 else
  some s3
 partial_fixpoint
def zeg (p0:TScope):Option TScope :=
 zal p0.Vars >>= fun r10 =>
 zbS p0 (TScope.mk ([]) ([]) ([])) p0.Functions (p0.Functions.length:Int) (TScope.mk r10 ([]) ([])) 0 >>= fun t =>
 zbT p0 (TScope.mk ([]) ([]) ([])) p0.Types (p0.Types.length:Int) t 0 >>= fun t_1 =>
 some t_1
def zca (s1 s2:TConsole) (s19:List TFile) (s20:Int) (s3:TConsole) (s21:Int):Option TConsole :=
 if s21<s20 then
  idx s19 s21 >>= fun a23 =>
  zad a23.Lines >>= fun r27 =>
  app s3.Files ([TFile.mk a23.Name r27 a23.Mode a23.At]) >>= fun c33 =>
  zca s1 s2 s19 s20 (TConsole.mk s3.Input s3.At s3.Output c33 s3.Trace) (IntKind.wrap .i64 (s21 + 1))
 else
  some s3
 partial_fixpoint
def zdp (p0:TConsole):Option TConsole :=
 zad p0.Input >>= fun r8 =>
 zad p0.Output >>= fun r13 =>
 zad p0.Trace >>= fun r16 =>
 zca p0 (TConsole.mk ([]) 0 ([]) ([]) ([])) p0.Files (p0.Files.length:Int) (TConsole.mk r8 p0.At r13 ([]) r16) 0 >>= fun t =>
 some t
def zdT (p0:TMemory):Option TMemory :=
 zeI p0.Heap >>= fun r5 =>
 zeg p0.Scope >>= fun r8 =>
 zdp p0.Console >>= fun r11 =>
 some (TMemory.mk r5 r8 r11)
def zhu (p0:TMemory):Option Trunner :=
 zdT p0 >>= fun r4 =>
 some (Trunner.mk r4 (TProgram.mk ([])) false 0 0 0 (-1))
def zcO (n b:Int):Option ByteArray:=zrz n b
def zhS (p0:Int):Option ByteArray :=
 zcO p0 10 >>= fun r4 =>
 some r4
def ziY (p0:TValue):Option (ByteArray × Bool) :=
 zbe p0 >>= fun r6 =>
 if r6=true then
  if p0.Kind=1 then
   some (p0.Text,true)
  else
   if p0.Kind=2 then
    zhS p0.Num >>= fun r20 =>
    some (r20,true)
   else
    some (⟨#[]⟩,false)
 else
  some (⟨#[]⟩,false)
def zdu (p1:ByteArray) (g0:Trunner):Option (Int × Trunner) :=
 if (g0.m_.Console.Output.length:Int)=100 then
  some (6,g0)
 else
  app g0.m_.Console.Output ([p1]) >>= fun c18 =>
  some (0,Trunner.mk (TMemory.mk g0.m_.Heap g0.m_.Scope (TConsole.mk g0.m_.Console.Input g0.m_.Console.At c18 g0.m_.Console.Files g0.m_.Console.Trace)) g0.program g0.hasCalls g0.fuel g0.steps g0.level g0.at_)
def zdq (p0:ByteArray):Option Bool :=
 some false
def zct (p0 p1:ByteArray):Option Int :=
 zdq p0 >>= fun r8 =>
 zdq p1 >>= fun r10 =>
 if r8=true then
  if r10=true then
   some 0
  else
   some (-1)
 else
  if r10=true then
   some 1
  else
   if (Op.bytesLess p0.toList p1.toList)=true then
    some (-1)
   else
    if p0=p1 then
     some 0
    else
     some 1
def zcg (p0:TBinding) (p1:ByteArray):Option Int :=
 zbo p0 >>= fun r8 =>
 zct r8 p1 >>= fun r10 =>
 some r10
def zah (s0:List TBinding) (s1:ByteArray) (s8 s9 s10:Int):Option Int :=
 if s9<s10 then
  idx s0 (IntKind.wrap .i64 ((IntKind.wrap .u64 (IntKind.wrap .i64 (s9 + s10))).fdiv (2 ^ (min 1 (IntKind.bits .u64))))) >>= fun a27 =>
  zcg a27 s1 >>= fun r30 =>
  if r30<0 then
   zah s0 s1 s8 (IntKind.wrap .i64 (IntKind.wrap .i64 ((IntKind.wrap .u64 (IntKind.wrap .i64 (s9 + s10))).fdiv (2 ^ (min 1 (IntKind.bits .u64)))) + 1)) s10
  else
   zah s0 s1 s8 s9 (IntKind.wrap .i64 ((IntKind.wrap .u64 (IntKind.wrap .i64 (s9 + s10))).fdiv (2 ^ (min 1 (IntKind.bits .u64)))))
 else
  some s9
 partial_fixpoint
def zay (p0:List TBinding) (p1:ByteArray):Option (Int × Bool) :=
 zah p0 p1 (p0.length:Int) 0 (p0.length:Int) >>= fun t =>
 if t<(p0.length:Int) then
  idx p0 t >>= fun a43 =>
  zcg a43 p1 >>= fun r46 =>
  some (t,(decide (r46=0)))
 else
  some (t,false)
def zde (p0:List TBinding) (p1:ByteArray):Option (Int × Bool) :=
 zay p0 p1 >>= fun r11 =>
 some (r11.1,r11.2)
def zaK (a:List TBinding) (i j:Int):Option (List TBinding):=chk (0<=i∧j=i + 1∧i<a.length∧a.length<=most) >>= fun _=>some (a.take i.toNat++a.drop (i.toNat + 1))
def zaL (a:List TBinding) (i:Int) (y:TBinding):Option (List TBinding):=chk (0<=i∧i<=a.length∧a.length + 1<=most) >>= fun _=>some (a.take i.toNat++y::a.drop i.toNat)
def zcu (p0:List TBinding) (p1:TBinding):Option ((List TBinding)) :=
 zbo p1 >>= fun r14 =>
 zde p0 r14 >>= fun r16 =>
 zal p0 >>= fun r20 =>
 if r16.2=true then
  idx r20 r16.1 >>= fun a25 =>
  some (setN r20 r16.1.toNat p1)
 else
  zaL r20 r16.1 p1 >>= fun r31 =>
  some r31
def zcP (s1:ByteArray) (s5:TValue) (g0:Trunner):Option ((Int × Trunner)) :=
 zcu g0.m_.Scope.Vars (TBinding.mk s1 s5) >>= fun r53 =>
 some (0,Trunner.mk (TMemory.mk g0.m_.Heap (TScope.mk r53 g0.m_.Scope.Functions g0.m_.Scope.Types) g0.m_.Console) g0.program g0.hasCalls g0.fuel g0.steps g0.level g0.at_)
def zeh (p1:ByteArray) (p2:TValue) (g0:Trunner):Option (Int × Trunner) :=
 zde g0.m_.Scope.Vars p1 >>= fun r15 =>
 ziX p2 >>= fun r20 =>
 if r20=true then
  if r15.2=true then
   zal g0.m_.Scope.Vars >>= fun r27 =>
   zaK r27 r15.1 (IntKind.wrap .i64 (r15.1 + 1)) >>= fun r31 =>
   some (0,Trunner.mk (TMemory.mk g0.m_.Heap (TScope.mk r31 g0.m_.Scope.Functions g0.m_.Scope.Types) g0.m_.Console) g0.program g0.hasCalls g0.fuel g0.steps g0.level g0.at_)
  else
   some (0,g0)
 else
  if r15.2=true then
   zcP p1 p2 g0
  else
   if (g0.m_.Scope.Vars.length:Int)=40 then
    some (6,g0)
   else
    zcP p1 p2 g0
def zcj (p1:ByteArray) (p2:TValue) (g0:Trunner):Option (Int × Trunner) :=
 if p1=⟨#[73,78,80,85,84]⟩ then
  some (10,g0)
 else
  if p1=⟨#[79,85,84,80,85,84]⟩ then
   ziY p2 >>= fun r16 =>
   if r16.2=true then
    zdu r16.1 g0 >>= fun r26 =>
    some (r26.1,r26.2)
   else
    some (4,g0)
  else
   zeh p1 p2 g0 >>= fun r33 =>
   some (r33.1,r33.2)
def zcv (s1:ByteArray) (s3:TMemory) (s5:TValue) (s6:TMemory):Option ((TMemory × Int)) :=
 zhu s3 >>= fun r27 =>
 zcj s1 s5 r27 >>= fun r31 =>
 if r31.1=0 then
  some (r31.2.m_,0)
 else
  some (TMemory.mk (THeap.mk 0 ([])) (TScope.mk ([]) ([]) ([])) (TConsole.mk ([]) 0 ([]) ([]) ([])),r31.1)
def zfi (p0:TMemory) (p1:ByteArray) (p2:TValue):Option (TMemory × Int) :=
 zeH p0 >>= fun r11 =>
 if r11=true then
  zco p1 >>= fun r15 =>
  if r15=true then
   zeb p0.Heap p2 >>= fun r22 =>
   if r22=true then
    zcv p1 p0 p2 (TMemory.mk (THeap.mk 0 ([])) (TScope.mk ([]) ([]) ([])) (TConsole.mk ([]) 0 ([]) ([]) ([])))
   else
    some (TMemory.mk (THeap.mk 0 ([])) (TScope.mk ([]) ([]) ([])) (TConsole.mk ([]) 0 ([]) ([]) ([])),1)
  else
   some (TMemory.mk (THeap.mk 0 ([])) (TScope.mk ([]) ([]) ([])) (TConsole.mk ([]) 0 ([]) ([]) ([])),1)
 else
  some (TMemory.mk (THeap.mk 0 ([])) (TScope.mk ([]) ([]) ([])) (TConsole.mk ([]) 0 ([]) ([]) ([])),1)
end
end Go.Vx.WvZ

