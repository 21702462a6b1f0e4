/-
  The program's functions as plain functions.
-/
import Derived.Test.YthppbplieikhkaaGreatTypes
import Derived.Test.YthppbplieikhkaaGreatVxD
import Derived.Test.YthppbplieikhkaaGreatVxE
import Derived.Test.YthppbplieikhkaaGreatVxF
set_option linter.unusedVariables false
set_option linter.unusedSimpArgs false
namespace Go.Vx.RnZ
set_option linter.unusedVariables false
set_option linter.unusedSimpArgs false
set_option maxRecDepth 10000
set_option maxHeartbeats 2000000
noncomputable def zdG (p0 : Int) : Option Bool :=
 if p0 ≥ 65 then
  if p0 ≤ 90 then
   some true
  else
   if p0 ≥ 97 then
    some (decide (p0 ≤ 122))
   else
    some false
 else
  if p0 ≥ 97 then
   some (decide (p0 ≤ 122))
  else
   some false
noncomputable def zeW (p0 : Int) : Option Bool :=
 if p0 ≥ 48 then
  some (decide (p0 ≤ 57))
 else
  some false
noncomputable def zaW (s0 : ByteArray) (s1 : Int) : Option Int :=
 if s1 < (s0.size : Int) then
  idxB s0 s1 >>= fun b24 =>
  zdG (b24.toNat : Int) >>= fun r25 =>
  if r25 = true then
   zaW s0 (IntKind.wrap .i64 (s1 + 1))
  else
   zeW (b24.toNat : Int) >>= fun r30 =>
   if r30 = true then
    zaW s0 (IntKind.wrap .i64 (s1 + 1))
   else
    if (b24.toNat : Int) = 95 then
     zaW s0 (IntKind.wrap .i64 (s1 + 1))
    else
     some s1
 else
  some s1
 partial_fixpoint
noncomputable def zdt (s0 : ByteArray) (s1 : Int) : Option Int :=
 zaW s0 s1 >>= fun t =>
 some t
noncomputable def zeF (p0 : ByteArray) (p1 : Int) : Option Int :=
 if p1 ≥ (p0.size : Int) then
  some p1
 else
  idxB p0 p1 >>= fun b12 =>
  zdG (b12.toNat : Int) >>= fun r13 =>
  if r13 = true then
   zdt p0 p1
  else
   some p1
noncomputable def zdu (p0 : ByteArray) : Option Bool :=
 if p0 = ⟨#[]⟩ then
  some false
 else
  if (p0.size : Int) ≤ 12 then
   zeF p0 0 >>= fun r12 =>
   some (decide (r12 = (p0.size : Int)))
  else
   some false
noncomputable def zcF (p0 : TValue) (p1 : Bool) (p2 : Bool) (p3 : Bool) : Option Bool :=
 if p1 = true then
  if p2 = true then
   if p3 = true then
    some true
   else
    some (decide (p0.Ref = 0))
  else
   if p0.Text = ⟨#[]⟩ then
    if p3 = true then
     some true
    else
     some (decide (p0.Ref = 0))
   else
    some false
 else
  if p0.Num = 0 then
   if p2 = true then
    if p3 = true then
     some true
    else
     some (decide (p0.Ref = 0))
   else
    if p0.Text = ⟨#[]⟩ then
     if p3 = true then
      some true
     else
      some (decide (p0.Ref = 0))
    else
     some false
  else
   some false
noncomputable def zgh (p0 : Int) (p1 : Int) (p2 : Int) : Option Bool :=
 if p0 ≥ p1 then
  some (decide (p0 ≤ p2))
 else
  some false
noncomputable def zcA (s1 : TValue) (s45 : Bool) : Option (Bool ⊕ Bool) :=
 if s45 = true then
  zcF s1 false true false >>= fun r49 =>
  if r49 = true then
   zdu s1.Text >>= fun r53 =>
   some (.inr r53)
  else
   some (.inr false)
 else
  some (.inl false)
noncomputable def zbR (s1 : TValue) (s4 : Int) (s34 : Bool) : Option (Bool ⊕ Bool) :=
 if s34 = true then
  zcF s1 false false true >>= fun r39 =>
  if r39 = true then
   zgh s1.Ref 1 1000000 >>= fun r43 =>
   some (.inr r43)
  else
   some (.inr false)
 else
  if s4 = 7 then
   zcA s1 true >>= fun t =>
   match t with
   | .inl t =>
    some (.inl t)
   | .inr t =>
    some (.inr t)
  else
   zcA s1 (decide (s4 = 8)) >>= fun t =>
   match t with
   | .inl t =>
    some (.inl t)
   | .inr t =>
    some (.inr t)
noncomputable def zdk (p0 : TValue) : Option Bool :=
 if p0.Kind = 1 then
  zcF p0 false true false >>= fun r8 =>
  if r8 = true then
   some (decide ((p0.Text.size : Int) ≤ 200))
  else
   some false
 else
  if p0.Kind = 2 then
   zcF p0 true false false >>= fun r18 =>
   if r18 = true then
    zgh p0.Num (-1000000000000) 1000000000000 >>= fun r22 =>
    some r22
   else
    some false
  else
   if p0.Kind = 3 then
    zcF p0 false true false >>= fun r27 =>
    if r27 = true then
     zgh (p0.Text.size : Int) 1 1200 >>= fun r32 =>
     some r32
    else
     some false
   else
    if p0.Kind = 4 then
     zbR p0 p0.Kind true >>= fun t =>
     match t with
     | .inl t =>
      some false
     | .inr t =>
      some t
    else
     if p0.Kind = 5 then
      zbR p0 p0.Kind true >>= fun t =>
      match t with
      | .inl t =>
       some false
      | .inr t =>
       some t
     else
      zbR p0 p0.Kind (decide (p0.Kind = 6)) >>= fun t =>
      match t with
      | .inl t =>
       some false
      | .inr t =>
       some t
noncomputable def zhK (p0 : TValue) : Option Bool :=
 some ((decide (p0.Kind = 1)) && ((decide (p0.Num = 0)) && ((decide (p0.Text = ByteArray.empty)) && (decide (p0.Ref = 0)))))
noncomputable def zeX (s0 : List ByteArray) (s1 : ByteArray) (s5 : Int) : Option (Unit ⊕ Int) :=
 if s5 < (s0.length : Int) then
  idx s0 s5 >>= fun a14 =>
  if a14 = s1 then
   some (.inr s5)
  else
   zeX s0 s1 (IntKind.wrap .i64 (s5 + 1))
 else
  some (.inl ())
 partial_fixpoint
noncomputable def zke (p0 : List ByteArray) (p1 : ByteArray) : Option Int :=
 zeX p0 p1 0 >>= fun t =>
 match t with
 | .inl t =>
  some (-1)
 | .inr t =>
  some t
noncomputable def zeg (s0 : List ByteArray) (s3 : Int) : Option (Unit ⊕ Bool) :=
 if s3 < (s0.length : Int) then
  idx s0 s3 >>= fun a12 =>
  zdu a12 >>= fun r14 =>
  if r14 = true then
   zke s0 a12 >>= fun r22 =>
   if r22 = s3 then
    zeg s0 (IntKind.wrap .i64 (s3 + 1))
   else
    some (.inr false)
  else
   some (.inr false)
 else
  some (.inl ())
 partial_fixpoint
noncomputable def zer (p0 : List ByteArray) : Option Bool :=
 zeg p0 0 >>= fun t =>
 match t with
 | .inl t =>
  some true
 | .inr t =>
  some t
noncomputable def zcZ (s1 : TFunction) : Option Bool :=
 chk (s1.Params.length ≤ most) >>= fun _ =>
 app s1.Params s1.Locals >>= fun c31 =>
 zer c31 >>= fun r32 =>
 some r32
noncomputable def zdv (p0 : TFunction) : Option Bool :=
 zdu p0.Name >>= fun r5 =>
 if r5 = true then
  zdu p0.Label >>= fun r10 =>
  if r10 = true then
   if (p0.Params.length : Int) > 6 then
    some false
   else
    if (p0.Locals.length : Int) > 6 then
     some false
    else
     zcZ p0
  else
   some false
 else
  some false
noncomputable def zgi (p0 : TRecordType) : Option Bool :=
 zdu p0.Name >>= fun r5 =>
 if r5 = true then
  zgh (p0.Fields.length : Int) 1 6 >>= fun r10 =>
  if r10 = true then
   zer p0.Fields >>= fun r15 =>
   some r15
  else
   some false
 else
  some false
noncomputable def zbS (s1 : TScope) (s3 : Int) : Option (Unit ⊕ Bool) :=
 if s3 < (s1.Vars.length : Int) then
  idx s1.Vars s3 >>= fun a33 =>
  zdu a33.Name >>= fun r37 =>
  if r37 = true then
   zdk a33.Value >>= fun r42 =>
   if r42 = true then
    zhK a33.Value >>= fun r48 =>
    if r48 = true then
     some (.inr false)
    else
     if s3 > 0 then
      idx s1.Vars (IntKind.wrap .i64 (s3 - 1)) >>= fun a58 =>
      if (Op.bytesLess a58.Name.toList a33.Name.toList) = true then
       zbS s1 (IntKind.wrap .i64 (s3 + 1))
      else
       some (.inr false)
     else
      zbS s1 (IntKind.wrap .i64 (s3 + 1))
   else
    some (.inr false)
  else
   some (.inr false)
 else
  some (.inl ())
 partial_fixpoint
noncomputable def zbT (s1 : TScope) (s5 : Int) : Option (Unit ⊕ Bool) :=
 if s5 < (s1.Functions.length : Int) then
  idx s1.Functions s5 >>= fun a76 =>
  zdv a76 >>= fun r78 =>
  if r78 = true then
   if s5 > 0 then
    idx s1.Functions (IntKind.wrap .i64 (s5 - 1)) >>= fun a88 =>
    if (Op.bytesLess a88.Name.toList a76.Name.toList) = true then
     zbT s1 (IntKind.wrap .i64 (s5 + 1))
    else
     some (.inr false)
   else
    zbT s1 (IntKind.wrap .i64 (s5 + 1))
  else
   some (.inr false)
 else
  some (.inl ())
 partial_fixpoint
noncomputable def zbU (s1 : TScope) (s6 : Int) : Option (Unit ⊕ Bool) :=
 if s6 < (s1.Types.length : Int) then
  idx s1.Types s6 >>= fun a110 =>
  zgi a110 >>= fun r112 =>
  if r112 = true then
   if s6 > 0 then
    idx s1.Types (IntKind.wrap .i64 (s6 - 1)) >>= fun a122 =>
    if (Op.bytesLess a122.Name.toList a110.Name.toList) = true then
     zbU s1 (IntKind.wrap .i64 (s6 + 1))
    else
     some (.inr false)
   else
    zbU s1 (IntKind.wrap .i64 (s6 + 1))
  else
   some (.inr false)
 else
  some (.inl ())
 partial_fixpoint
noncomputable def zdw (s1 : TScope) : Option Bool :=
 zbS s1 0 >>= fun t =>
 match t with
 | .inl t =>
  zbT s1 0 >>= fun t_1 =>
  match t_1 with
  | .inl t_1 =>
   zbU s1 0 >>= fun t_2 =>
   match t_2 with
   | .inl t_2 =>
    some true
   | .inr t_2 =>
    some t_2
  | .inr t_1 =>
   some t_1
 | .inr t =>
  some t
noncomputable def zdl (p0 : TScope) : Option Bool :=
 if (p0.Vars.length : Int) > 40 then
  some false
 else
  if (p0.Functions.length : Int) > 12 then
   some false
  else
   if (p0.Types.length : Int) > 8 then
    some false
   else
    zdw p0
noncomputable def zcn (p0 : TFunction) : Option TFunction :=
 chk (p0.Params.length ≤ most) >>= fun _ =>
 chk (p0.Locals.length ≤ most) >>= fun _ =>
 some p0
noncomputable def zdR (p0 : TRecordType) : Option TRecordType :=
 chk (p0.Fields.length ≤ most) >>= fun _ =>
 some p0
noncomputable def zex (s1 : TScope) (s2 : TScope) (s3 : TScope) (s4 : Int) : Option TScope :=
 if s4 < (s1.Functions.length : Int) then
  idx s1.Functions s4 >>= fun a23 =>
  zcn a23 >>= fun r25 =>
  app s3.Functions ([r25]) >>= fun c27 =>
  zex s1 s2 (TScope.mk s3.Vars c27 s3.Types) (IntKind.wrap .i64 (s4 + 1))
 else
  some s3
 partial_fixpoint
noncomputable def zey (s1 : TScope) (s2 : TScope) (s3 : TScope) (s5 : Int) : Option TScope :=
 if s5 < (s1.Types.length : Int) then
  idx s1.Types s5 >>= fun a41 =>
  zdR a41 >>= fun r43 =>
  app s3.Types ([r43]) >>= fun c45 =>
  zey s1 s2 (TScope.mk s3.Vars s3.Functions c45) (IntKind.wrap .i64 (s5 + 1))
 else
  some s3
 partial_fixpoint
noncomputable def zgF (p0 : TScope) : Option TScope :=
 chk (p0.Vars.length ≤ most) >>= fun _ =>
 zex p0 (TScope.mk ([]) ([]) ([])) (TScope.mk p0.Vars ([]) ([])) 0 >>= fun t =>
 zey p0 (TScope.mk ([]) ([]) ([])) t 0 >>= fun t_1 =>
 some t_1
noncomputable def zdM (s1 : ByteArray) (s3 : TScope) (s5 : TValue) (s6 : TScope) (s8 : TScope) (s9 : List TBinding) (s10 : Int) : Option ((List TBinding) × Int × (List TBinding) × ByteArray × Int × Int × ByteArray × Int × TBinding × (List TBinding) × Int) :=
 idx s3.Vars s10 >>= fun a33 =>
 app s9 ([a33]) >>= fun c36 =>
 some (c36, IntKind.wrap .i64 (s10 + 1), s3.Vars, a33.Name, a33.Value.Kind, a33.Value.Num, a33.Value.Text, a33.Value.Ref, a33, [a33], IntKind.wrap .i64 (s10 + 1))
noncomputable def zcV (s1 : ByteArray) (s3 : TScope) (s5 : TValue) (s6 : TScope) (s8 : TScope) (s9 : List TBinding) (s10 : Int) : Option ((List TBinding) × Int) :=
 if s10 < (s3.Vars.length : Int) then
  idx s3.Vars s10 >>= fun a23 =>
  if (Op.bytesLess a23.Name.toList s1.toList) = true then
   zdM s1 s3 s5 s6 s8 s9 s10 >>= fun t =>
   zcV s1 s3 s5 s6 s8 t.1 t.2.1
  else
   some (s9, s10)
 else
  some (s9, s10)
 partial_fixpoint
noncomputable def zbH (s1 : ByteArray) (s3 : TScope) (s6 : TScope) (s8 : TScope) (s9 : List TBinding) (s10 : Int) : Option (TScope × Int) :=
 subL s3.Vars s10 >>= fun c69 =>
 app s9 c69 >>= fun c70 =>
 if (c70.length : Int) > 40 then
  some (TScope.mk ([]) ([]) ([]), 6)
 else
  some (TScope.mk c70 s8.Functions s8.Types, 0)
noncomputable def zcr (s1 : ByteArray) (s3 : TScope) (s6 : TScope) (s8 : TScope) (s9 : List TBinding) (s10 : Int) : Option (TScope × Int) :=
 if s10 < (s3.Vars.length : Int) then
  idx s3.Vars s10 >>= fun a57 =>
  if a57.Name = s1 then
   zbH s1 s3 s6 s8 s9 (IntKind.wrap .i64 (s10 + 1)) >>= fun t =>
   some t
  else
   zbH s1 s3 s6 s8 s9 s10 >>= fun t =>
   some t
 else
  zbH s1 s3 s6 s8 s9 s10 >>= fun t =>
  some t
noncomputable def zez (p0 : TScope) (p1 : ByteArray) (p2 : TValue) : Option (TScope × Int) :=
 zgF p0 >>= fun r12 =>
 zcV p1 p0 p2 (TScope.mk ([]) ([]) ([])) r12 ([]) 0 >>= fun t =>
 zhK p2 >>= fun r40 =>
 if r40 = true then
  zcr p1 p0 (TScope.mk ([]) ([]) ([])) r12 t.1 t.2
 else
  app t.1 ([TBinding.mk p1 p2]) >>= fun c47 =>
  zcr p1 p0 (TScope.mk ([]) ([]) ([])) r12 c47 t.2
noncomputable def zfx (s1 : ByteArray) (s3 : TScope) (s5 : TValue) (s6 : TScope) : Option (TScope × Int) :=
 zez s3 s1 s5 >>= fun r25 =>
 some (r25.1, r25.2)
noncomputable def zhL (p0 : TScope) (p1 : ByteArray) (p2 : TValue) : Option (TScope × Int) :=
 zdl p0 >>= fun r9 =>
 if r9 = true then
  zdu p1 >>= fun r13 =>
  if r13 = true then
   zdk p2 >>= fun r18 =>
   if r18 = true then
    zfx p1 p0 p2 (TScope.mk ([]) ([]) ([]))
   else
    some (TScope.mk ([]) ([]) ([]), 1)
  else
   some (TScope.mk ([]) ([]) ([]), 1)
 else
  some (TScope.mk ([]) ([]) ([]), 1)
noncomputable def zbl (s1 : List TBinding) (s4 : TScope) (s6 : TScope) (s7 : Int) : Option (TScope ⊕ (TScope × Int)) :=
 if s7 < (s1.length : Int) then
  idx s1 s7 >>= fun a26 =>
  zhL s6 a26.Name a26.Value >>= fun r34 =>
  if r34.2 = 0 then
   zbl s1 s4 r34.1 (IntKind.wrap .i64 (s7 + 1))
  else
   some (.inr ((TScope.mk ([]) ([]) ([]), r34.2)))
 else
  some (.inl s6)
 partial_fixpoint
noncomputable def zdN (p0 : TScope) (p1 : List TBinding) : Option (TScope × Int) :=
 zdl p0 >>= fun r11 =>
 if r11 = true then
  zgF p0 >>= fun r15 =>
  zbl p1 (TScope.mk ([]) ([]) ([])) r15 0 >>= fun t =>
  match t with
  | .inl t =>
   some (t, 0)
  | .inr t =>
   some t
 else
  some (TScope.mk ([]) ([]) ([]), 1)
noncomputable def zaX (p0 : TBinding) : Option ByteArray :=
 some p0.Name
noncomputable def zbz (s0 : List TBinding) (s5 : Int) : Option (Unit ⊕ Bool) :=
 if s5 < (s0.length : Int) then
  idx s0 (IntKind.wrap .i64 (s5 - 1)) >>= fun a16 =>
  zaX a16 >>= fun r18 =>
  idx s0 s5 >>= fun a22 =>
  zaX a22 >>= fun r24 =>
  if (Op.bytesLess r18.toList r24.toList) = true then
   zbz s0 (IntKind.wrap .i64 (s5 + 1))
  else
   some (.inr false)
 else
  some (.inl ())
 partial_fixpoint
noncomputable def zbA (p0 : List TBinding) : Option Bool :=
 zbz p0 1 >>= fun t =>
 match t with
 | .inl t =>
  some true
 | .inr t =>
  some t
noncomputable def zda (p0 : TFunction) : Option ByteArray :=
 some p0.Name
noncomputable def zbs (s0 : List TFunction) (s5 : Int) : Option (Unit ⊕ Bool) :=
 if s5 < (s0.length : Int) then
  idx s0 (IntKind.wrap .i64 (s5 - 1)) >>= fun a16 =>
  zda a16 >>= fun r18 =>
  idx s0 s5 >>= fun a22 =>
  zda a22 >>= fun r24 =>
  if (Op.bytesLess r18.toList r24.toList) = true then
   zbs s0 (IntKind.wrap .i64 (s5 + 1))
  else
   some (.inr false)
 else
  some (.inl ())
 partial_fixpoint
noncomputable def zbp (p0 : List TFunction) : Option Bool :=
 zbs p0 1 >>= fun t =>
 match t with
 | .inl t =>
  some true
 | .inr t =>
  some t
noncomputable def zeG (p0 : TRecordType) : Option ByteArray :=
 some p0.Name
noncomputable def zbc (s0 : List TRecordType) (s5 : Int) : Option (Unit ⊕ Bool) :=
 if s5 < (s0.length : Int) then
  idx s0 (IntKind.wrap .i64 (s5 - 1)) >>= fun a16 =>
  zeG a16 >>= fun r18 =>
  idx s0 s5 >>= fun a22 =>
  zeG a22 >>= fun r24 =>
  if (Op.bytesLess r18.toList r24.toList) = true then
   zbc s0 (IntKind.wrap .i64 (s5 + 1))
  else
   some (.inr false)
 else
  some (.inl ())
 partial_fixpoint
noncomputable def zaY (p0 : List TRecordType) : Option Bool :=
 zbc p0 1 >>= fun t =>
 match t with
 | .inl t =>
  some true
 | .inr t =>
  some t
noncomputable def zes (p0 : Int) : Option Bool :=
 if p0 ≥ 65 then
  if p0 ≤ 90 then
   some true
  else
   if p0 ≥ 97 then
    some (decide (p0 ≤ 122))
   else
    some false
 else
  if p0 ≥ 97 then
   some (decide (p0 ≤ 122))
  else
   some false
noncomputable def zgj (p0 : Int) : Option Bool :=
 if p0 ≥ 48 then
  some (decide (p0 ≤ 57))
 else
  some false
noncomputable def zdm (p0 : Int) : Option Bool :=
 zes p0 >>= fun r4 =>
 if r4 = true then
  some true
 else
  zgj p0 >>= fun r7 =>
  if r7 = true then
   some true
  else
   some (decide (p0 = 95))
noncomputable def zdb (s0 : List Int) (s7 : List Int) (s8 : Int) (s9 : Int) : Option (Unit ⊕ Bool) :=
 if s9 < s8 then
  idx s7 s9 >>= fun a11 =>
  zdm a11 >>= fun r15 =>
  if r15 = true then
   zdb s0 s7 s8 (IntKind.wrap .i64 (s9 + 1))
  else
   some (.inr false)
 else
  some (.inl ())
 partial_fixpoint
noncomputable def zdx (p0 : List Int) : Option Bool :=
 zdb p0 p0 (p0.length : Int) 0 >>= fun t =>
 match t with
 | .inl t =>
  some true
 | .inr t =>
  some t
noncomputable def zdc (p0 : ByteArray) : Option Bool :=
 if (p0.size : Int) ≥ 1 then
  if (p0.size : Int) ≤ 12 then
   idxBN p0 0 >>= fun b13 =>
   zes (b13.toNat : Int) >>= fun r14 =>
   if r14 = true then
    zdx (strI p0) >>= fun r19 =>
    some r19
   else
    some false
  else
   some false
 else
  some false
noncomputable def zgG (p0 : Int) (p1 : Int) (p2 : Int) : Option Bool :=
 if p0 ≥ p1 then
  some (decide (p0 ≤ p2))
 else
  some false
noncomputable def zdS (p0 : Int) : Option Bool :=
 zgG p0 1 1000000 >>= fun r4 =>
 some r4
noncomputable def zcB (s1 : TValue) (s65 : Bool) : Option (Bool ⊕ Bool) :=
 if s65 = true then
  if s1.Num = 0 then
   if s1.Ref = 0 then
    zdc s1.Text >>= fun r78 =>
    some (.inr r78)
   else
    some (.inr false)
  else
   some (.inr false)
 else
  some (.inl false)
noncomputable def zbV (s1 : TValue) (s4 : Int) (s49 : Bool) : Option (Bool ⊕ Bool) :=
 if s49 = true then
  if s1.Num = 0 then
   if s1.Text = ByteArray.empty then
    zdS s1.Ref >>= fun r63 =>
    some (.inr r63)
   else
    some (.inr false)
  else
   some (.inr false)
 else
  if s4 = 7 then
   zcB s1 true >>= fun t =>
   match t with
   | .inl t =>
    some (.inl t)
   | .inr t =>
    some (.inr t)
  else
   zcB s1 (decide (s4 = 8)) >>= fun t =>
   match t with
   | .inl t =>
    some (.inl t)
   | .inr t =>
    some (.inr t)
noncomputable def zdn (p0 : TValue) : Option Bool :=
 if p0.Kind = 1 then
  if p0.Num = 0 then
   if p0.Ref = 0 then
    some (decide ((p0.Text.size : Int) ≤ 200))
   else
    some false
  else
   some false
 else
  if p0.Kind = 2 then
   if p0.Text = ByteArray.empty then
    if p0.Ref = 0 then
     zgG p0.Num (-1000000000000) 1000000000000 >>= fun r28 =>
     some r28
    else
     some false
   else
    some false
  else
   if p0.Kind = 3 then
    if p0.Num = 0 then
     if p0.Ref = 0 then
      if (p0.Text.size : Int) ≥ 1 then
       some (decide ((p0.Text.size : Int) ≤ 1200))
      else
       some false
     else
      some false
    else
     some false
   else
    if p0.Kind = 4 then
     zbV p0 p0.Kind true >>= fun t =>
     match t with
     | .inl t =>
      some false
     | .inr t =>
      some t
    else
     if p0.Kind = 5 then
      zbV p0 p0.Kind true >>= fun t =>
      match t with
      | .inl t =>
       some false
      | .inr t =>
       some t
     else
      zbV p0 p0.Kind (decide (p0.Kind = 6)) >>= fun t =>
      match t with
      | .inl t =>
       some false
      | .inr t =>
       some t
noncomputable def zma (p0 : ByteArray) : Option TValue :=
 some (TValue.mk 1 0 p0 0)
noncomputable def zsh : Option TValue :=
 zma (⟨#[]⟩) >>= fun r1 =>
 some r1
noncomputable def zhM (p0 : TValue) : Option Bool :=
 zsh >>= fun r4 =>
 some ((decide (p0.Kind = r4.Kind)) && ((decide (p0.Num = r4.Num)) && ((decide (p0.Text = r4.Text)) && (decide (p0.Ref = r4.Ref)))))
noncomputable def zbm (p0 : TBinding) : Option Bool :=
 zdc p0.Name >>= fun r5 =>
 if r5 = true then
  zdn p0.Value >>= fun r9 =>
  if r9 = true then
   zhM p0.Value >>= fun r14 =>
   some (!r14)
  else
   some false
 else
  some false
noncomputable def zcf (s0 : List TBinding) (s7 : List TBinding) (s8 : Int) (s9 : Int) : Option (Unit ⊕ Bool) :=
 if s9 < s8 then
  idx s7 s9 >>= fun a11 =>
  zbm a11 >>= fun r15 =>
  if r15 = true then
   zcf s0 s7 s8 (IntKind.wrap .i64 (s9 + 1))
  else
   some (.inr false)
 else
  some (.inl ())
 partial_fixpoint
noncomputable def zco (p0 : List TBinding) : Option Bool :=
 zcf p0 p0 (p0.length : Int) 0 >>= fun t =>
 match t with
 | .inl t =>
  some true
 | .inr t =>
  some t
noncomputable def zaM (a b : List ByteArray) : Option (List ByteArray) := chk (a.length + b.length ≤ most) >>= fun _ => some (a ++ b)
noncomputable def zcu (s0 : List ByteArray) (s7 : List ByteArray) (s8 : Int) (s9 : Int) : Option (Unit ⊕ Bool) :=
 if s9 < s8 then
  idx s7 s9 >>= fun a11 =>
  zdc a11 >>= fun r15 =>
  if r15 = true then
   zcu s0 s7 s8 (IntKind.wrap .i64 (s9 + 1))
  else
   some (.inr false)
 else
  some (.inl ())
 partial_fixpoint
noncomputable def zbW (p0 : List ByteArray) : Option Bool :=
 zcu p0 p0 (p0.length : Int) 0 >>= fun t =>
 match t with
 | .inl t =>
  some true
 | .inr t =>
  some t
noncomputable def zac (p0 : List ByteArray) : Option (List ByteArray) := chk (p0.length ≤ most) >>= fun _ => some p0
noncomputable def zaU (p0 : List ByteArray) : Option (List ByteArray) := chk (p0.length ≤ most) >>= fun _ => some (zmK p0)
noncomputable def zaG (p0 : List ByteArray) : Option (List ByteArray) := chk (p0.length ≤ most) >>= fun _ => some (zjl p0)
noncomputable def zcG (p0 : List ByteArray) : Option ((List ByteArray)) :=
 zaU p0 >>= fun r4 =>
 zaG r4 >>= fun r6 =>
 some r6
noncomputable def zaZ (s1 : TFunction) (s3 : List ByteArray) (s4 : Bool) : Option Bool :=
 zdc s1.Name >>= fun r23 =>
 if r23 = true then
  zdc s1.Label >>= fun r27 =>
  if r27 = true then
   if s4 = true then
    zbW s3 >>= fun r34 =>
    if r34 = true then
     zac s3 >>= fun r38 =>
     zcG r38 >>= fun r39 =>
     some (decide ((r39.length : Int) = (s3.length : Int)))
    else
     some false
   else
    some false
  else
   some false
 else
  some false
noncomputable def zbd (p0 : TFunction) : Option Bool :=
 zaM p0.Params p0.Locals >>= fun r10 =>
 if (p0.Params.length : Int) ≤ 6 then
  zaZ p0 r10 (decide ((p0.Locals.length : Int) ≤ 6))
 else
  zaZ p0 r10 false
noncomputable def zbI (s0 : List TFunction) (s7 : List TFunction) (s8 : Int) (s9 : Int) : Option (Unit ⊕ Bool) :=
 if s9 < s8 then
  idx s7 s9 >>= fun a11 =>
  zbd a11 >>= fun r15 =>
  if r15 = true then
   zbI s0 s7 s8 (IntKind.wrap .i64 (s9 + 1))
  else
   some (.inr false)
 else
  some (.inl ())
 partial_fixpoint
noncomputable def zbX (p0 : List TFunction) : Option Bool :=
 zbI p0 p0 (p0.length : Int) 0 >>= fun t =>
 match t with
 | .inl t =>
  some true
 | .inr t =>
  some t
noncomputable def zdO (s0 : List ByteArray) : Option Bool :=
 zac s0 >>= fun r17 =>
 zcG r17 >>= fun r18 =>
 some (decide ((r18.length : Int) = (s0.length : Int)))
noncomputable def zfy (p0 : List ByteArray) : Option Bool :=
 if (p0.length : Int) < 1 then
  some false
 else
  if (p0.length : Int) > 6 then
   some false
  else
   zbW p0 >>= fun r13 =>
   if r13 = true then
    zdO p0
   else
    some false
noncomputable def zaO (p0 : TRecordType) : Option Bool :=
 zdc p0.Name >>= fun r5 =>
 if r5 = true then
  zfy p0.Fields >>= fun r9 =>
  some r9
 else
  some false
noncomputable def zbt (s0 : List TRecordType) (s7 : List TRecordType) (s8 : Int) (s9 : Int) : Option (Unit ⊕ Bool) :=
 if s9 < s8 then
  idx s7 s9 >>= fun a11 =>
  zaO a11 >>= fun r15 =>
  if r15 = true then
   zbt s0 s7 s8 (IntKind.wrap .i64 (s9 + 1))
  else
   some (.inr false)
 else
  some (.inl ())
 partial_fixpoint
noncomputable def zbq (p0 : List TRecordType) : Option Bool :=
 zbt p0 p0 (p0.length : Int) 0 >>= fun t =>
 match t with
 | .inl t =>
  some true
 | .inr t =>
  some t
noncomputable def zbY (s1 : TScope) (s3 : Bool) : Option Bool :=
 if s3 = true then
  zco s1.Vars >>= fun r37 =>
  if r37 = true then
   zbX s1.Functions >>= fun r42 =>
   if r42 = true then
    zbq s1.Types >>= fun r47 =>
    some r47
   else
    some false
  else
   some false
 else
  some false
noncomputable def zdy (s1 : TScope) : Option Bool :=
 zbA s1.Vars >>= fun r22 =>
 if r22 = true then
  zbp s1.Functions >>= fun r26 =>
  if r26 = true then
   zaY s1.Types >>= fun r31 =>
   zbY s1 r31 >>= fun t =>
   some t
  else
   zbY s1 false >>= fun t =>
   some t
 else
  zbY s1 false >>= fun t =>
  some t
noncomputable def zdT (p0 : TScope) : Option Bool :=
 if (p0.Vars.length : Int) > 40 then
  some false
 else
  if (p0.Functions.length : Int) > 12 then
   some false
  else
   if (p0.Types.length : Int) > 8 then
    some false
   else
    zdy p0
noncomputable def zak (p0 : List TBinding) : Option (List TBinding) := chk (p0.length ≤ most) >>= fun _ => some p0
noncomputable def zbZ (s1 : TScope) (s2 : TScope) (s13 : List TFunction) (s14 : Int) (s3 : TScope) (s15 : Int) : Option TScope :=
 if s15 < s14 then
  idx s13 s15 >>= fun a17 =>
  zac a17.Params >>= fun r21 =>
  zac a17.Locals >>= fun r24 =>
  app s3.Functions ([TFunction.mk a17.Name r21 r24 a17.Label]) >>= fun c31 =>
  zbZ s1 s2 s13 s14 (TScope.mk s3.Vars c31 s3.Types) (IntKind.wrap .i64 (s15 + 1))
 else
  some s3
 partial_fixpoint
noncomputable def zca (s1 : TScope) (s2 : TScope) (s35 : List TRecordType) (s36 : Int) (s3 : TScope) (s37 : Int) : Option TScope :=
 if s37 < s36 then
  idx s35 s37 >>= fun a39 =>
  zac a39.Fields >>= fun r43 =>
  app s3.Types ([TRecordType.mk a39.Name r43]) >>= fun c49 =>
  zca s1 s2 s35 s36 (TScope.mk s3.Vars s3.Functions c49) (IntKind.wrap .i64 (s37 + 1))
 else
  some s3
 partial_fixpoint
noncomputable def zcW (p0 : TScope) : Option TScope :=
 zak p0.Vars >>= fun r10 =>
 zbZ p0 (TScope.mk ([]) ([]) ([])) p0.Functions (p0.Functions.length : Int) (TScope.mk r10 ([]) ([])) 0 >>= fun t =>
 zca p0 (TScope.mk ([]) ([]) ([])) p0.Types (p0.Types.length : Int) t 0 >>= fun t_1 =>
 some t_1
noncomputable def zcp (p0 : ByteArray) : Option Bool :=
 some false
noncomputable def zbB (p0 : ByteArray) (p1 : ByteArray) : Option Int :=
 zcp p0 >>= fun r8 =>
 zcp p1 >>= fun r10 =>
 if r8 = true then
  if r10 = true then
   some 0
  else
   some (-1)
 else
  if r10 = true then
   some 1
  else
   if (Op.bytesLess p0.toList p1.toList) = true then
    some (-1)
   else
    if p0 = p1 then
     some 0
    else
     some 1
noncomputable def zbw (p0 : TBinding) (p1 : ByteArray) : Option Int :=
 zaX p0 >>= fun r8 =>
 zbB r8 p1 >>= fun r10 =>
 some r10
noncomputable def zad (s0 : List TBinding) (s1 : ByteArray) (s8 : Int) (s9 : Int) (s10 : Int) : Option Int :=
 if s9 < s10 then
  idx s0 (IntKind.wrap .i64 ((IntKind.wrap .u64 (IntKind.wrap .i64 (s9 + s10))).fdiv (2 ^ (min 1 (IntKind.bits .u64))))) >>= fun a27 =>
  zbw a27 s1 >>= fun r30 =>
  if r30 < 0 then
   zad s0 s1 s8 (IntKind.wrap .i64 (IntKind.wrap .i64 ((IntKind.wrap .u64 (IntKind.wrap .i64 (s9 + s10))).fdiv (2 ^ (min 1 (IntKind.bits .u64)))) + 1)) s10
  else
   zad s0 s1 s8 s9 (IntKind.wrap .i64 ((IntKind.wrap .u64 (IntKind.wrap .i64 (s9 + s10))).fdiv (2 ^ (min 1 (IntKind.bits .u64)))))
 else
  some s9
 partial_fixpoint
noncomputable def zan (p0 : List TBinding) (p1 : ByteArray) : Option (Int × Bool) :=
 zad p0 p1 (p0.length : Int) 0 (p0.length : Int) >>= fun t =>
 if t < (p0.length : Int) then
  idx p0 t >>= fun a43 =>
  zbw a43 p1 >>= fun r46 =>
  some (t, (decide (r46 = 0)))
 else
  some (t, false)
noncomputable def zcs (p0 : List TBinding) (p1 : ByteArray) : Option (Int × Bool) :=
 zan p0 p1 >>= fun r11 =>
 some (r11.1, r11.2)
noncomputable def zaC (a : List TBinding) (i j : Int) : Option (List TBinding) := chk (0 ≤ i ∧ j = i + 1 ∧ i < a.length ∧ a.length ≤ most) >>= fun _ => some (a.take i.toNat ++ a.drop (i.toNat + 1))
noncomputable def zaD (a : List TBinding) (i : Int) (y : TBinding) : Option (List TBinding) := chk (0 ≤ i ∧ i ≤ a.length ∧ a.length + 1 ≤ most) >>= fun _ => some (a.take i.toNat ++ y :: a.drop i.toNat)
noncomputable def zbC (p0 : List TBinding) (p1 : TBinding) : Option ((List TBinding)) :=
 zaX p1 >>= fun r14 =>
 zcs p0 r14 >>= fun r16 =>
 zak p0 >>= fun r20 =>
 if r16.2 = true then
  idx r20 r16.1 >>= fun a25 =>
  some (setN r20 r16.1.toNat p1)
 else
  zaD r20 r16.1 p1 >>= fun r31 =>
  some r31
noncomputable def zcb (s1 : ByteArray) (s5 : TValue) (g0 : List TBinding) (g0_1 : List TFunction) (g0_2 : List TRecordType) : Option (Int × (List TBinding)) :=
 zbC g0 (TBinding.mk s1 s5) >>= fun r53 =>
 some (0, r53)
noncomputable def zcX (p1 : ByteArray) (p2 : TValue) (g0 : List TBinding) (g0_1 : List TFunction) (g0_2 : List TRecordType) : Option (Int × (List TBinding)) :=
 zcs g0 p1 >>= fun r15 =>
 zhM p2 >>= fun r20 =>
 if r20 = true then
  if r15.2 = true then
   zak g0 >>= fun r27 =>
   zaC r27 r15.1 (IntKind.wrap .i64 (r15.1 + 1)) >>= fun r31 =>
   some (0, r31)
  else
   some (0, g0)
 else
  if r15.2 = true then
   zcb p1 p2 g0 g0_1 g0_2
  else
   if (g0.length : Int) = 40 then
    some (6, g0)
   else
    zcb p1 p2 g0 g0_1 g0_2
noncomputable def zcv (s1 : List TBinding) (s6 : TBinding) (s8 : List TBinding) (s9 : Int) (s10 : Int) (g0 : List TBinding) (g0_1 : List TFunction) (g0_2 : List TRecordType) : Option ((Int × ByteArray × TValue × Int × Int × Bool × (List TBinding)) ⊕ (Int × (List TBinding))) :=
 zcX s6.Name s6.Value g0 g0_1 g0_2 >>= fun r29 =>
 if r29.1 = 0 then
  some (.inl (r29.1, s6.Name, s6.Value, r29.1, r29.1, false, r29.2))
 else
  some (.inr ((r29.1, r29.2)))
noncomputable def zbD (s1 : List TBinding) (s8 : List TBinding) (s9 : Int) (g0_1 : List TFunction) (g0_2 : List TRecordType) (s10 : Int) (g0 : List TBinding) : Option (((List TBinding)) ⊕ (Int × (List TBinding))) :=
 if s10 < s9 then
  idx s8 s10 >>= fun a12 =>
  zdc a12.Name >>= fun r16 =>
  if r16 = true then
   zdn a12.Value >>= fun r21 =>
   if r21 = true then
    zcv s1 a12 s8 s9 s10 g0 g0_1 g0_2 >>= fun t =>
    match t with
    | .inl t =>
     zbD s1 s8 s9 g0_1 g0_2 (IntKind.wrap .i64 (s10 + 1)) t.2.2.2.2.2.2
    | .inr t =>
     some (.inr t)
   else
    some (.inr ((1, g0)))
  else
   some (.inr ((1, g0)))
 else
  some (.inl g0)
 partial_fixpoint
noncomputable def zdz (p1 : List TBinding) (g0 : List TBinding) (g0_1 : List TFunction) (g0_2 : List TRecordType) : Option (Int × (List TBinding)) :=
 zbD p1 p1 (p1.length : Int) g0_1 g0_2 0 g0 >>= fun t =>
 match t with
 | .inl t =>
  some (0, t)
 | .inr t =>
  some t
noncomputable def zdP (p0 : TScope) (p1 : List TBinding) : Option (TScope × Int) :=
 zdT p0 >>= fun r9 =>
 if r9 = true then
  zcW p0 >>= fun r13 =>
  zdz p1 r13.Vars r13.Functions r13.Types >>= fun r15 =>
  if r15.1 = 0 then
   some (TScope.mk r15.2 r13.Functions r13.Types, 0)
  else
   some (TScope.mk ([]) ([]) ([]), r15.1)
 else
  some (TScope.mk ([]) ([]) ([]), 1)
end Go.Vx.RnZ
