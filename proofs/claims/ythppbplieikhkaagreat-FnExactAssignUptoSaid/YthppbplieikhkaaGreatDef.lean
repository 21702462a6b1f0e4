/-
  The program's functions as plain functions.
-/
import Derived.Test.YthppbplieikhkaaGreatTypes
import Derived.Test.YthppbplieikhkaaGreatVxD
import Derived.Test.YthppbplieikhkaaGreatVxE
import Derived.Test.YthppbplieikhkaaGreatVxF
set_option linter.unusedVariables false
set_option linter.unusedSimpArgs false
namespace Go.Vx.AsZ
set_option linter.unusedVariables false
set_option linter.unusedSimpArgs false
set_option maxRecDepth 10000
set_option maxHeartbeats 2000000
noncomputable def zdx (p0 : Int) : Option Bool :=
 if p0 ≥ 65 then
  if p0 ≤ 90 then
   some true
  else
   if p0 ≥ 97 then
    some (decide (p0 ≤ 122))
   else
    some false
 else
  if p0 ≥ 97 then
   some (decide (p0 ≤ 122))
  else
   some false
noncomputable def zeJ (p0 : Int) : Option Bool :=
 if p0 ≥ 48 then
  some (decide (p0 ≤ 57))
 else
  some false
noncomputable def zaU (s0 : ByteArray) (s1 : Int) : Option Int :=
 if s1 < (s0.size : Int) then
  idxB s0 s1 >>= fun b24 =>
  zdx (b24.toNat : Int) >>= fun r25 =>
  if r25 = true then
   zaU s0 (IntKind.wrap .i64 (s1 + 1))
  else
   zeJ (b24.toNat : Int) >>= fun r30 =>
   if r30 = true then
    zaU s0 (IntKind.wrap .i64 (s1 + 1))
   else
    if (b24.toNat : Int) = 95 then
     zaU s0 (IntKind.wrap .i64 (s1 + 1))
    else
     some s1
 else
  some s1
 partial_fixpoint
noncomputable def zdk (s0 : ByteArray) (s1 : Int) : Option Int :=
 zaU s0 s1 >>= fun t =>
 some t
noncomputable def zer (p0 : ByteArray) (p1 : Int) : Option Int :=
 if p1 ≥ (p0.size : Int) then
  some p1
 else
  idxB p0 p1 >>= fun b12 =>
  zdx (b12.toNat : Int) >>= fun r13 =>
  if r13 = true then
   zdk p0 p1
  else
   some p1
noncomputable def zdl (p0 : ByteArray) : Option Bool :=
 if p0 = ⟨#[]⟩ then
  some false
 else
  if (p0.size : Int) ≤ 12 then
   zer p0 0 >>= fun r12 =>
   some (decide (r12 = (p0.size : Int)))
  else
   some false
noncomputable def zcy (p0 : TValue) (p1 : Bool) (p2 : Bool) (p3 : Bool) : Option Bool :=
 if p1 = true then
  if p2 = true then
   if p3 = true then
    some true
   else
    some (decide (p0.Ref = 0))
  else
   if p0.Text = ⟨#[]⟩ then
    if p3 = true then
     some true
    else
     some (decide (p0.Ref = 0))
   else
    some false
 else
  if p0.Num = 0 then
   if p2 = true then
    if p3 = true then
     some true
    else
     some (decide (p0.Ref = 0))
   else
    if p0.Text = ⟨#[]⟩ then
     if p3 = true then
      some true
     else
      some (decide (p0.Ref = 0))
    else
     some false
  else
   some false
noncomputable def zfV (p0 : Int) (p1 : Int) (p2 : Int) : Option Bool :=
 if p0 ≥ p1 then
  some (decide (p0 ≤ p2))
 else
  some false
noncomputable def zct (s1 : TValue) (s45 : Bool) : Option (Bool ⊕ Bool) :=
 if s45 = true then
  zcy s1 false true false >>= fun r49 =>
  if r49 = true then
   zdl s1.Text >>= fun r53 =>
   some (.inr r53)
  else
   some (.inr false)
 else
  some (.inl false)
noncomputable def zbM (s1 : TValue) (s4 : Int) (s34 : Bool) : Option (Bool ⊕ Bool) :=
 if s34 = true then
  zcy s1 false false true >>= fun r39 =>
  if r39 = true then
   zfV s1.Ref 1 1000000 >>= fun r43 =>
   some (.inr r43)
  else
   some (.inr false)
 else
  if s4 = 7 then
   zct s1 true >>= fun t =>
   match t with
   | .inl t =>
    some (.inl t)
   | .inr t =>
    some (.inr t)
  else
   zct s1 (decide (s4 = 8)) >>= fun t =>
   match t with
   | .inl t =>
    some (.inl t)
   | .inr t =>
    some (.inr t)
noncomputable def zdd (p0 : TValue) : Option Bool :=
 if p0.Kind = 1 then
  zcy p0 false true false >>= fun r8 =>
  if r8 = true then
   some (decide ((p0.Text.size : Int) ≤ 200))
  else
   some false
 else
  if p0.Kind = 2 then
   zcy p0 true false false >>= fun r18 =>
   if r18 = true then
    zfV p0.Num (-1000000000000) 1000000000000 >>= fun r22 =>
    some r22
   else
    some false
  else
   if p0.Kind = 3 then
    zcy p0 false true false >>= fun r27 =>
    if r27 = true then
     zfV (p0.Text.size : Int) 1 1200 >>= fun r32 =>
     some r32
    else
     some false
   else
    if p0.Kind = 4 then
     zbM p0 p0.Kind true >>= fun t =>
     match t with
     | .inl t =>
      some false
     | .inr t =>
      some t
    else
     if p0.Kind = 5 then
      zbM p0 p0.Kind true >>= fun t =>
      match t with
      | .inl t =>
       some false
      | .inr t =>
       some t
     else
      zbM p0 p0.Kind (decide (p0.Kind = 6)) >>= fun t =>
      match t with
      | .inl t =>
       some false
      | .inr t =>
       some t
noncomputable def zhr (p0 : TValue) : Option Bool :=
 some ((decide (p0.Kind = 1)) && ((decide (p0.Num = 0)) && ((decide (p0.Text = ByteArray.empty)) && (decide (p0.Ref = 0)))))
noncomputable def zeK (s0 : List ByteArray) (s1 : ByteArray) (s5 : Int) : Option (Unit ⊕ Int) :=
 if s5 < (s0.length : Int) then
  idx s0 s5 >>= fun a14 =>
  if a14 = s1 then
   some (.inr s5)
  else
   zeK s0 s1 (IntKind.wrap .i64 (s5 + 1))
 else
  some (.inl ())
 partial_fixpoint
noncomputable def zjI (p0 : List ByteArray) (p1 : ByteArray) : Option Int :=
 zeK p0 p1 0 >>= fun t =>
 match t with
 | .inl t =>
  some (-1)
 | .inr t =>
  some t
noncomputable def zdT (s0 : List ByteArray) (s3 : Int) : Option (Unit ⊕ Bool) :=
 if s3 < (s0.length : Int) then
  idx s0 s3 >>= fun a12 =>
  zdl a12 >>= fun r14 =>
  if r14 = true then
   zjI s0 a12 >>= fun r22 =>
   if r22 = s3 then
    zdT s0 (IntKind.wrap .i64 (s3 + 1))
   else
    some (.inr false)
  else
   some (.inr false)
 else
  some (.inl ())
 partial_fixpoint
noncomputable def zee (p0 : List ByteArray) : Option Bool :=
 zdT p0 0 >>= fun t =>
 match t with
 | .inl t =>
  some true
 | .inr t =>
  some t
noncomputable def zcS (s1 : TFunction) : Option Bool :=
 chk (s1.Params.length ≤ most) >>= fun _ =>
 app s1.Params s1.Locals >>= fun c31 =>
 zee c31 >>= fun r32 =>
 some r32
noncomputable def zdm (p0 : TFunction) : Option Bool :=
 zdl p0.Name >>= fun r5 =>
 if r5 = true then
  zdl p0.Label >>= fun r10 =>
  if r10 = true then
   if (p0.Params.length : Int) > 6 then
    some false
   else
    if (p0.Locals.length : Int) > 6 then
     some false
    else
     zcS p0
  else
   some false
 else
  some false
noncomputable def zfW (p0 : TRecordType) : Option Bool :=
 zdl p0.Name >>= fun r5 =>
 if r5 = true then
  zfV (p0.Fields.length : Int) 1 6 >>= fun r10 =>
  if r10 = true then
   zee p0.Fields >>= fun r15 =>
   some r15
  else
   some false
 else
  some false
noncomputable def zbN (s1 : TScope) (s3 : Int) : Option (Unit ⊕ Bool) :=
 if s3 < (s1.Vars.length : Int) then
  idx s1.Vars s3 >>= fun a33 =>
  zdl a33.Name >>= fun r37 =>
  if r37 = true then
   zdd a33.Value >>= fun r42 =>
   if r42 = true then
    zhr a33.Value >>= fun r48 =>
    if r48 = true then
     some (.inr false)
    else
     if s3 > 0 then
      idx s1.Vars (IntKind.wrap .i64 (s3 - 1)) >>= fun a58 =>
      if (Op.bytesLess a58.Name.toList a33.Name.toList) = true then
       zbN s1 (IntKind.wrap .i64 (s3 + 1))
      else
       some (.inr false)
     else
      zbN s1 (IntKind.wrap .i64 (s3 + 1))
   else
    some (.inr false)
  else
   some (.inr false)
 else
  some (.inl ())
 partial_fixpoint
noncomputable def zbO (s1 : TScope) (s5 : Int) : Option (Unit ⊕ Bool) :=
 if s5 < (s1.Functions.length : Int) then
  idx s1.Functions s5 >>= fun a76 =>
  zdm a76 >>= fun r78 =>
  if r78 = true then
   if s5 > 0 then
    idx s1.Functions (IntKind.wrap .i64 (s5 - 1)) >>= fun a88 =>
    if (Op.bytesLess a88.Name.toList a76.Name.toList) = true then
     zbO s1 (IntKind.wrap .i64 (s5 + 1))
    else
     some (.inr false)
   else
    zbO s1 (IntKind.wrap .i64 (s5 + 1))
  else
   some (.inr false)
 else
  some (.inl ())
 partial_fixpoint
noncomputable def zbP (s1 : TScope) (s6 : Int) : Option (Unit ⊕ Bool) :=
 if s6 < (s1.Types.length : Int) then
  idx s1.Types s6 >>= fun a110 =>
  zfW a110 >>= fun r112 =>
  if r112 = true then
   if s6 > 0 then
    idx s1.Types (IntKind.wrap .i64 (s6 - 1)) >>= fun a122 =>
    if (Op.bytesLess a122.Name.toList a110.Name.toList) = true then
     zbP s1 (IntKind.wrap .i64 (s6 + 1))
    else
     some (.inr false)
   else
    zbP s1 (IntKind.wrap .i64 (s6 + 1))
  else
   some (.inr false)
 else
  some (.inl ())
 partial_fixpoint
noncomputable def zdn (s1 : TScope) : Option Bool :=
 zbN s1 0 >>= fun t =>
 match t with
 | .inl t =>
  zbO s1 0 >>= fun t_1 =>
  match t_1 with
  | .inl t_1 =>
   zbP s1 0 >>= fun t_2 =>
   match t_2 with
   | .inl t_2 =>
    some true
   | .inr t_2 =>
    some t_2
  | .inr t_1 =>
   some t_1
 | .inr t =>
  some t
noncomputable def zdG (p0 : TScope) : Option Bool :=
 if (p0.Vars.length : Int) > 40 then
  some false
 else
  if (p0.Functions.length : Int) > 12 then
   some false
  else
   if (p0.Types.length : Int) > 8 then
    some false
   else
    zdn p0
noncomputable def zch (p0 : TFunction) : Option TFunction :=
 chk (p0.Params.length ≤ most) >>= fun _ =>
 chk (p0.Locals.length ≤ most) >>= fun _ =>
 some p0
noncomputable def zdH (p0 : TRecordType) : Option TRecordType :=
 chk (p0.Fields.length ≤ most) >>= fun _ =>
 some p0
noncomputable def zej (s1 : TScope) (s2 : TScope) (s3 : TScope) (s4 : Int) : Option TScope :=
 if s4 < (s1.Functions.length : Int) then
  idx s1.Functions s4 >>= fun a23 =>
  zch a23 >>= fun r25 =>
  app s3.Functions ([r25]) >>= fun c27 =>
  zej s1 s2 (TScope.mk s3.Vars c27 s3.Types) (IntKind.wrap .i64 (s4 + 1))
 else
  some s3
 partial_fixpoint
noncomputable def zek (s1 : TScope) (s2 : TScope) (s3 : TScope) (s5 : Int) : Option TScope :=
 if s5 < (s1.Types.length : Int) then
  idx s1.Types s5 >>= fun a41 =>
  zdH a41 >>= fun r43 =>
  app s3.Types ([r43]) >>= fun c45 =>
  zek s1 s2 (TScope.mk s3.Vars s3.Functions c45) (IntKind.wrap .i64 (s5 + 1))
 else
  some s3
 partial_fixpoint
noncomputable def zhs (p0 : TScope) : Option TScope :=
 chk (p0.Vars.length ≤ most) >>= fun _ =>
 zej p0 (TScope.mk ([]) ([]) ([])) (TScope.mk p0.Vars ([]) ([])) 0 >>= fun t =>
 zek p0 (TScope.mk ([]) ([]) ([])) t 0 >>= fun t_1 =>
 some t_1
noncomputable def zdD (s1 : ByteArray) (s3 : TScope) (s5 : TValue) (s6 : TScope) (s8 : TScope) (s9 : List TBinding) (s10 : Int) : Option ((List TBinding) × Int × (List TBinding) × ByteArray × Int × Int × ByteArray × Int × TBinding × (List TBinding) × Int) :=
 idx s3.Vars s10 >>= fun a33 =>
 app s9 ([a33]) >>= fun c36 =>
 some (c36, IntKind.wrap .i64 (s10 + 1), s3.Vars, a33.Name, a33.Value.Kind, a33.Value.Num, a33.Value.Text, a33.Value.Ref, a33, [a33], IntKind.wrap .i64 (s10 + 1))
noncomputable def zcO (s1 : ByteArray) (s3 : TScope) (s5 : TValue) (s6 : TScope) (s8 : TScope) (s9 : List TBinding) (s10 : Int) : Option ((List TBinding) × Int) :=
 if s10 < (s3.Vars.length : Int) then
  idx s3.Vars s10 >>= fun a23 =>
  if (Op.bytesLess a23.Name.toList s1.toList) = true then
   zdD s1 s3 s5 s6 s8 s9 s10 >>= fun t =>
   zcO s1 s3 s5 s6 s8 t.1 t.2.1
  else
   some (s9, s10)
 else
  some (s9, s10)
 partial_fixpoint
noncomputable def zbF (s1 : ByteArray) (s3 : TScope) (s6 : TScope) (s8 : TScope) (s9 : List TBinding) (s10 : Int) : Option (TScope × Int) :=
 subL s3.Vars s10 >>= fun c69 =>
 app s9 c69 >>= fun c70 =>
 if (c70.length : Int) > 40 then
  some (TScope.mk ([]) ([]) ([]), 6)
 else
  some (TScope.mk c70 s8.Functions s8.Types, 0)
noncomputable def zcl (s1 : ByteArray) (s3 : TScope) (s6 : TScope) (s8 : TScope) (s9 : List TBinding) (s10 : Int) : Option (TScope × Int) :=
 if s10 < (s3.Vars.length : Int) then
  idx s3.Vars s10 >>= fun a57 =>
  if a57.Name = s1 then
   zbF s1 s3 s6 s8 s9 (IntKind.wrap .i64 (s10 + 1)) >>= fun t =>
   some t
  else
   zbF s1 s3 s6 s8 s9 s10 >>= fun t =>
   some t
 else
  zbF s1 s3 s6 s8 s9 s10 >>= fun t =>
  some t
noncomputable def zel (p0 : TScope) (p1 : ByteArray) (p2 : TValue) : Option (TScope × Int) :=
 zhs p0 >>= fun r12 =>
 zcO p1 p0 p2 (TScope.mk ([]) ([]) ([])) r12 ([]) 0 >>= fun t =>
 zhr p2 >>= fun r40 =>
 if r40 = true then
  zcl p1 p0 (TScope.mk ([]) ([]) ([])) r12 t.1 t.2
 else
  app t.1 ([TBinding.mk p1 p2]) >>= fun c47 =>
  zcl p1 p0 (TScope.mk ([]) ([]) ([])) r12 c47 t.2
noncomputable def zfk (s1 : ByteArray) (s3 : TScope) (s5 : TValue) (s6 : TScope) : Option (TScope × Int) :=
 zel s3 s1 s5 >>= fun r25 =>
 some (r25.1, r25.2)
noncomputable def zht (p0 : TScope) (p1 : ByteArray) (p2 : TValue) : Option (TScope × Int) :=
 zdG p0 >>= fun r9 =>
 if r9 = true then
  zdl p1 >>= fun r13 =>
  if r13 = true then
   zdd p2 >>= fun r18 =>
   if r18 = true then
    zfk p1 p0 p2 (TScope.mk ([]) ([]) ([]))
   else
    some (TScope.mk ([]) ([]) ([]), 1)
  else
   some (TScope.mk ([]) ([]) ([]), 1)
 else
  some (TScope.mk ([]) ([]) ([]), 1)
noncomputable def zaV (p0 : TBinding) : Option ByteArray :=
 some p0.Name
noncomputable def zby (s0 : List TBinding) (s5 : Int) : Option (Unit ⊕ Bool) :=
 if s5 < (s0.length : Int) then
  idx s0 (IntKind.wrap .i64 (s5 - 1)) >>= fun a16 =>
  zaV a16 >>= fun r18 =>
  idx s0 s5 >>= fun a22 =>
  zaV a22 >>= fun r24 =>
  if (Op.bytesLess r18.toList r24.toList) = true then
   zby s0 (IntKind.wrap .i64 (s5 + 1))
  else
   some (.inr false)
 else
  some (.inl ())
 partial_fixpoint
noncomputable def zbz (p0 : List TBinding) : Option Bool :=
 zby p0 1 >>= fun t =>
 match t with
 | .inl t =>
  some true
 | .inr t =>
  some t
noncomputable def zcT (p0 : TFunction) : Option ByteArray :=
 some p0.Name
noncomputable def zbr (s0 : List TFunction) (s5 : Int) : Option (Unit ⊕ Bool) :=
 if s5 < (s0.length : Int) then
  idx s0 (IntKind.wrap .i64 (s5 - 1)) >>= fun a16 =>
  zcT a16 >>= fun r18 =>
  idx s0 s5 >>= fun a22 =>
  zcT a22 >>= fun r24 =>
  if (Op.bytesLess r18.toList r24.toList) = true then
   zbr s0 (IntKind.wrap .i64 (s5 + 1))
  else
   some (.inr false)
 else
  some (.inl ())
 partial_fixpoint
noncomputable def zbn (p0 : List TFunction) : Option Bool :=
 zbr p0 1 >>= fun t =>
 match t with
 | .inl t =>
  some true
 | .inr t =>
  some t
noncomputable def zes (p0 : TRecordType) : Option ByteArray :=
 some p0.Name
noncomputable def zbb (s0 : List TRecordType) (s5 : Int) : Option (Unit ⊕ Bool) :=
 if s5 < (s0.length : Int) then
  idx s0 (IntKind.wrap .i64 (s5 - 1)) >>= fun a16 =>
  zes a16 >>= fun r18 =>
  idx s0 s5 >>= fun a22 =>
  zes a22 >>= fun r24 =>
  if (Op.bytesLess r18.toList r24.toList) = true then
   zbb s0 (IntKind.wrap .i64 (s5 + 1))
  else
   some (.inr false)
 else
  some (.inl ())
 partial_fixpoint
noncomputable def zaW (p0 : List TRecordType) : Option Bool :=
 zbb p0 1 >>= fun t =>
 match t with
 | .inl t =>
  some true
 | .inr t =>
  some t
noncomputable def zef (p0 : Int) : Option Bool :=
 if p0 ≥ 65 then
  if p0 ≤ 90 then
   some true
  else
   if p0 ≥ 97 then
    some (decide (p0 ≤ 122))
   else
    some false
 else
  if p0 ≥ 97 then
   some (decide (p0 ≤ 122))
  else
   some false
noncomputable def zfX (p0 : Int) : Option Bool :=
 if p0 ≥ 48 then
  some (decide (p0 ≤ 57))
 else
  some false
noncomputable def zde (p0 : Int) : Option Bool :=
 zef p0 >>= fun r4 =>
 if r4 = true then
  some true
 else
  zfX p0 >>= fun r7 =>
  if r7 = true then
   some true
  else
   some (decide (p0 = 95))
noncomputable def zcU (s0 : List Int) (s7 : List Int) (s8 : Int) (s9 : Int) : Option (Unit ⊕ Bool) :=
 if s9 < s8 then
  idx s7 s9 >>= fun a11 =>
  zde a11 >>= fun r15 =>
  if r15 = true then
   zcU s0 s7 s8 (IntKind.wrap .i64 (s9 + 1))
  else
   some (.inr false)
 else
  some (.inl ())
 partial_fixpoint
noncomputable def zdo (p0 : List Int) : Option Bool :=
 zcU p0 p0 (p0.length : Int) 0 >>= fun t =>
 match t with
 | .inl t =>
  some true
 | .inr t =>
  some t
noncomputable def zcV (p0 : ByteArray) : Option Bool :=
 if (p0.size : Int) ≥ 1 then
  if (p0.size : Int) ≤ 12 then
   idxBN p0 0 >>= fun b13 =>
   zef (b13.toNat : Int) >>= fun r14 =>
   if r14 = true then
    zdo (strI p0) >>= fun r19 =>
    some r19
   else
    some false
  else
   some false
 else
  some false
noncomputable def zgs (p0 : Int) (p1 : Int) (p2 : Int) : Option Bool :=
 if p0 ≥ p1 then
  some (decide (p0 ≤ p2))
 else
  some false
noncomputable def zdI (p0 : Int) : Option Bool :=
 zgs p0 1 1000000 >>= fun r4 =>
 some r4
noncomputable def zcu (s1 : TValue) (s65 : Bool) : Option (Bool ⊕ Bool) :=
 if s65 = true then
  if s1.Num = 0 then
   if s1.Ref = 0 then
    zcV s1.Text >>= fun r78 =>
    some (.inr r78)
   else
    some (.inr false)
  else
   some (.inr false)
 else
  some (.inl false)
noncomputable def zbQ (s1 : TValue) (s4 : Int) (s49 : Bool) : Option (Bool ⊕ Bool) :=
 if s49 = true then
  if s1.Num = 0 then
   if s1.Text = ByteArray.empty then
    zdI s1.Ref >>= fun r63 =>
    some (.inr r63)
   else
    some (.inr false)
  else
   some (.inr false)
 else
  if s4 = 7 then
   zcu s1 true >>= fun t =>
   match t with
   | .inl t =>
    some (.inl t)
   | .inr t =>
    some (.inr t)
  else
   zcu s1 (decide (s4 = 8)) >>= fun t =>
   match t with
   | .inl t =>
    some (.inl t)
   | .inr t =>
    some (.inr t)
noncomputable def zdf (p0 : TValue) : Option Bool :=
 if p0.Kind = 1 then
  if p0.Num = 0 then
   if p0.Ref = 0 then
    some (decide ((p0.Text.size : Int) ≤ 200))
   else
    some false
  else
   some false
 else
  if p0.Kind = 2 then
   if p0.Text = ByteArray.empty then
    if p0.Ref = 0 then
     zgs p0.Num (-1000000000000) 1000000000000 >>= fun r28 =>
     some r28
    else
     some false
   else
    some false
  else
   if p0.Kind = 3 then
    if p0.Num = 0 then
     if p0.Ref = 0 then
      if (p0.Text.size : Int) ≥ 1 then
       some (decide ((p0.Text.size : Int) ≤ 1200))
      else
       some false
     else
      some false
    else
     some false
   else
    if p0.Kind = 4 then
     zbQ p0 p0.Kind true >>= fun t =>
     match t with
     | .inl t =>
      some false
     | .inr t =>
      some t
    else
     if p0.Kind = 5 then
      zbQ p0 p0.Kind true >>= fun t =>
      match t with
      | .inl t =>
       some false
      | .inr t =>
       some t
     else
      zbQ p0 p0.Kind (decide (p0.Kind = 6)) >>= fun t =>
      match t with
      | .inl t =>
       some false
      | .inr t =>
       some t
noncomputable def zlH (p0 : ByteArray) : Option TValue :=
 some (TValue.mk 1 0 p0 0)
noncomputable def zrQ : Option TValue :=
 zlH (⟨#[]⟩) >>= fun r1 =>
 some r1
noncomputable def zhu (p0 : TValue) : Option Bool :=
 zrQ >>= fun r4 =>
 some ((decide (p0.Kind = r4.Kind)) && ((decide (p0.Num = r4.Num)) && ((decide (p0.Text = r4.Text)) && (decide (p0.Ref = r4.Ref)))))
noncomputable def zbk (p0 : TBinding) : Option Bool :=
 zcV p0.Name >>= fun r5 =>
 if r5 = true then
  zdf p0.Value >>= fun r9 =>
  if r9 = true then
   zhu p0.Value >>= fun r14 =>
   some (!r14)
  else
   some false
 else
  some false
noncomputable def zcb (s0 : List TBinding) (s7 : List TBinding) (s8 : Int) (s9 : Int) : Option (Unit ⊕ Bool) :=
 if s9 < s8 then
  idx s7 s9 >>= fun a11 =>
  zbk a11 >>= fun r15 =>
  if r15 = true then
   zcb s0 s7 s8 (IntKind.wrap .i64 (s9 + 1))
  else
   some (.inr false)
 else
  some (.inl ())
 partial_fixpoint
noncomputable def zci (p0 : List TBinding) : Option Bool :=
 zcb p0 p0 (p0.length : Int) 0 >>= fun t =>
 match t with
 | .inl t =>
  some true
 | .inr t =>
  some t
noncomputable def zaK (a b : List ByteArray) : Option (List ByteArray) := chk (a.length + b.length ≤ most) >>= fun _ => some (a ++ b)
noncomputable def zco (s0 : List ByteArray) (s7 : List ByteArray) (s8 : Int) (s9 : Int) : Option (Unit ⊕ Bool) :=
 if s9 < s8 then
  idx s7 s9 >>= fun a11 =>
  zcV a11 >>= fun r15 =>
  if r15 = true then
   zco s0 s7 s8 (IntKind.wrap .i64 (s9 + 1))
  else
   some (.inr false)
 else
  some (.inl ())
 partial_fixpoint
noncomputable def zbR (p0 : List ByteArray) : Option Bool :=
 zco p0 p0 (p0.length : Int) 0 >>= fun t =>
 match t with
 | .inl t =>
  some true
 | .inr t =>
  some t
noncomputable def zac (p0 : List ByteArray) : Option (List ByteArray) := chk (p0.length ≤ most) >>= fun _ => some p0
noncomputable def zaS (p0 : List ByteArray) : Option (List ByteArray) := chk (p0.length ≤ most) >>= fun _ => some (zmt p0)
noncomputable def zaF (p0 : List ByteArray) : Option (List ByteArray) := chk (p0.length ≤ most) >>= fun _ => some (ziP p0)
noncomputable def zcz (p0 : List ByteArray) : Option ((List ByteArray)) :=
 zaS p0 >>= fun r4 =>
 zaF r4 >>= fun r6 =>
 some r6
noncomputable def zaX (s1 : TFunction) (s3 : List ByteArray) (s4 : Bool) : Option Bool :=
 zcV s1.Name >>= fun r23 =>
 if r23 = true then
  zcV s1.Label >>= fun r27 =>
  if r27 = true then
   if s4 = true then
    zbR s3 >>= fun r34 =>
    if r34 = true then
     zac s3 >>= fun r38 =>
     zcz r38 >>= fun r39 =>
     some (decide ((r39.length : Int) = (s3.length : Int)))
    else
     some false
   else
    some false
  else
   some false
 else
  some false
noncomputable def zbc (p0 : TFunction) : Option Bool :=
 zaK p0.Params p0.Locals >>= fun r10 =>
 if (p0.Params.length : Int) ≤ 6 then
  zaX p0 r10 (decide ((p0.Locals.length : Int) ≤ 6))
 else
  zaX p0 r10 false
noncomputable def zbG (s0 : List TFunction) (s7 : List TFunction) (s8 : Int) (s9 : Int) : Option (Unit ⊕ Bool) :=
 if s9 < s8 then
  idx s7 s9 >>= fun a11 =>
  zbc a11 >>= fun r15 =>
  if r15 = true then
   zbG s0 s7 s8 (IntKind.wrap .i64 (s9 + 1))
  else
   some (.inr false)
 else
  some (.inl ())
 partial_fixpoint
noncomputable def zbS (p0 : List TFunction) : Option Bool :=
 zbG p0 p0 (p0.length : Int) 0 >>= fun t =>
 match t with
 | .inl t =>
  some true
 | .inr t =>
  some t
noncomputable def zdE (s0 : List ByteArray) : Option Bool :=
 zac s0 >>= fun r17 =>
 zcz r17 >>= fun r18 =>
 some (decide ((r18.length : Int) = (s0.length : Int)))
noncomputable def zfl (p0 : List ByteArray) : Option Bool :=
 if (p0.length : Int) < 1 then
  some false
 else
  if (p0.length : Int) > 6 then
   some false
  else
   zbR p0 >>= fun r13 =>
   if r13 = true then
    zdE p0
   else
    some false
noncomputable def zaL (p0 : TRecordType) : Option Bool :=
 zcV p0.Name >>= fun r5 =>
 if r5 = true then
  zfl p0.Fields >>= fun r9 =>
  some r9
 else
  some false
noncomputable def zbs (s0 : List TRecordType) (s7 : List TRecordType) (s8 : Int) (s9 : Int) : Option (Unit ⊕ Bool) :=
 if s9 < s8 then
  idx s7 s9 >>= fun a11 =>
  zaL a11 >>= fun r15 =>
  if r15 = true then
   zbs s0 s7 s8 (IntKind.wrap .i64 (s9 + 1))
  else
   some (.inr false)
 else
  some (.inl ())
 partial_fixpoint
noncomputable def zbo (p0 : List TRecordType) : Option Bool :=
 zbs p0 p0 (p0.length : Int) 0 >>= fun t =>
 match t with
 | .inl t =>
  some true
 | .inr t =>
  some t
noncomputable def zbT (s1 : TScope) (s3 : Bool) : Option Bool :=
 if s3 = true then
  zci s1.Vars >>= fun r37 =>
  if r37 = true then
   zbS s1.Functions >>= fun r42 =>
   if r42 = true then
    zbo s1.Types >>= fun r47 =>
    some r47
   else
    some false
  else
   some false
 else
  some false
noncomputable def zdp (s1 : TScope) : Option Bool :=
 zbz s1.Vars >>= fun r22 =>
 if r22 = true then
  zbn s1.Functions >>= fun r26 =>
  if r26 = true then
   zaW s1.Types >>= fun r31 =>
   zbT s1 r31 >>= fun t =>
   some t
  else
   zbT s1 false >>= fun t =>
   some t
 else
  zbT s1 false >>= fun t =>
  some t
noncomputable def zdJ (p0 : TScope) : Option Bool :=
 if (p0.Vars.length : Int) > 40 then
  some false
 else
  if (p0.Functions.length : Int) > 12 then
   some false
  else
   if (p0.Types.length : Int) > 8 then
    some false
   else
    zdp p0
noncomputable def zak (p0 : List TBinding) : Option (List TBinding) := chk (p0.length ≤ most) >>= fun _ => some p0
noncomputable def zbU (s1 : TScope) (s2 : TScope) (s13 : List TFunction) (s14 : Int) (s3 : TScope) (s15 : Int) : Option TScope :=
 if s15 < s14 then
  idx s13 s15 >>= fun a17 =>
  zac a17.Params >>= fun r21 =>
  zac a17.Locals >>= fun r24 =>
  app s3.Functions ([TFunction.mk a17.Name r21 r24 a17.Label]) >>= fun c31 =>
  zbU s1 s2 s13 s14 (TScope.mk s3.Vars c31 s3.Types) (IntKind.wrap .i64 (s15 + 1))
 else
  some s3
 partial_fixpoint
noncomputable def zbV (s1 : TScope) (s2 : TScope) (s35 : List TRecordType) (s36 : Int) (s3 : TScope) (s37 : Int) : Option TScope :=
 if s37 < s36 then
  idx s35 s37 >>= fun a39 =>
  zac a39.Fields >>= fun r43 =>
  app s3.Types ([TRecordType.mk a39.Name r43]) >>= fun c49 =>
  zbV s1 s2 s35 s36 (TScope.mk s3.Vars s3.Functions c49) (IntKind.wrap .i64 (s37 + 1))
 else
  some s3
 partial_fixpoint
noncomputable def zcP (p0 : TScope) : Option TScope :=
 zak p0.Vars >>= fun r10 =>
 zbU p0 (TScope.mk ([]) ([]) ([])) p0.Functions (p0.Functions.length : Int) (TScope.mk r10 ([]) ([])) 0 >>= fun t =>
 zbV p0 (TScope.mk ([]) ([]) ([])) p0.Types (p0.Types.length : Int) t 0 >>= fun t_1 =>
 some t_1
noncomputable def zcj (p0 : ByteArray) : Option Bool :=
 some false
noncomputable def zbA (p0 : ByteArray) (p1 : ByteArray) : Option Int :=
 zcj p0 >>= fun r8 =>
 zcj p1 >>= fun r10 =>
 if r8 = true then
  if r10 = true then
   some 0
  else
   some (-1)
 else
  if r10 = true then
   some 1
  else
   if (Op.bytesLess p0.toList p1.toList) = true then
    some (-1)
   else
    if p0 = p1 then
     some 0
    else
     some 1
noncomputable def zbv (p0 : TBinding) (p1 : ByteArray) : Option Int :=
 zaV p0 >>= fun r8 =>
 zbA r8 p1 >>= fun r10 =>
 some r10
noncomputable def zad (s0 : List TBinding) (s1 : ByteArray) (s8 : Int) (s9 : Int) (s10 : Int) : Option Int :=
 if s9 < s10 then
  idx s0 (IntKind.wrap .i64 ((IntKind.wrap .u64 (IntKind.wrap .i64 (s9 + s10))).fdiv (2 ^ (min 1 (IntKind.bits .u64))))) >>= fun a27 =>
  zbv a27 s1 >>= fun r30 =>
  if r30 < 0 then
   zad s0 s1 s8 (IntKind.wrap .i64 (IntKind.wrap .i64 ((IntKind.wrap .u64 (IntKind.wrap .i64 (s9 + s10))).fdiv (2 ^ (min 1 (IntKind.bits .u64)))) + 1)) s10
  else
   zad s0 s1 s8 s9 (IntKind.wrap .i64 ((IntKind.wrap .u64 (IntKind.wrap .i64 (s9 + s10))).fdiv (2 ^ (min 1 (IntKind.bits .u64)))))
 else
  some s9
 partial_fixpoint
noncomputable def zam (p0 : List TBinding) (p1 : ByteArray) : Option (Int × Bool) :=
 zad p0 p1 (p0.length : Int) 0 (p0.length : Int) >>= fun t =>
 if t < (p0.length : Int) then
  idx p0 t >>= fun a43 =>
  zbv a43 p1 >>= fun r46 =>
  some (t, (decide (r46 = 0)))
 else
  some (t, false)
noncomputable def zcm (p0 : List TBinding) (p1 : ByteArray) : Option (Int × Bool) :=
 zam p0 p1 >>= fun r11 =>
 some (r11.1, r11.2)
noncomputable def zaC (a : List TBinding) (i j : Int) : Option (List TBinding) := chk (0 ≤ i ∧ j = i + 1 ∧ i < a.length ∧ a.length ≤ most) >>= fun _ => some (a.take i.toNat ++ a.drop (i.toNat + 1))
noncomputable def zaD (a : List TBinding) (i : Int) (y : TBinding) : Option (List TBinding) := chk (0 ≤ i ∧ i ≤ a.length ∧ a.length + 1 ≤ most) >>= fun _ => some (a.take i.toNat ++ y :: a.drop i.toNat)
noncomputable def zbB (p0 : List TBinding) (p1 : TBinding) : Option ((List TBinding)) :=
 zaV p1 >>= fun r14 =>
 zcm p0 r14 >>= fun r16 =>
 zak p0 >>= fun r20 =>
 if r16.2 = true then
  idx r20 r16.1 >>= fun a25 =>
  some (setN r20 r16.1.toNat p1)
 else
  zaD r20 r16.1 p1 >>= fun r31 =>
  some r31
noncomputable def zbW (s1 : ByteArray) (s5 : TValue) (g0 : List TBinding) (g0_1 : List TFunction) (g0_2 : List TRecordType) : Option (Int × (List TBinding)) :=
 zbB g0 (TBinding.mk s1 s5) >>= fun r53 =>
 some (0, r53)
noncomputable def zcQ (p1 : ByteArray) (p2 : TValue) (g0 : List TBinding) (g0_1 : List TFunction) (g0_2 : List TRecordType) : Option (Int × (List TBinding)) :=
 zcm g0 p1 >>= fun r15 =>
 zhu p2 >>= fun r20 =>
 if r20 = true then
  if r15.2 = true then
   zak g0 >>= fun r27 =>
   zaC r27 r15.1 (IntKind.wrap .i64 (r15.1 + 1)) >>= fun r31 =>
   some (0, r31)
  else
   some (0, g0)
 else
  if r15.2 = true then
   zbW p1 p2 g0 g0_1 g0_2
  else
   if (g0.length : Int) = 40 then
    some (6, g0)
   else
    zbW p1 p2 g0 g0_1 g0_2
noncomputable def zfm (s1 : ByteArray) (s3 : TScope) (s5 : TValue) (s6 : TScope) : Option (TScope × Int) :=
 zcP s3 >>= fun r25 =>
 zcQ s1 s5 r25.Vars r25.Functions r25.Types >>= fun r28 =>
 if r28.1 = 0 then
  some (TScope.mk r28.2 r25.Functions r25.Types, 0)
 else
  some (TScope.mk ([]) ([]) ([]), r28.1)
noncomputable def zhv (p0 : TScope) (p1 : ByteArray) (p2 : TValue) : Option (TScope × Int) :=
 zdJ p0 >>= fun r11 =>
 if r11 = true then
  zcV p1 >>= fun r15 =>
  if r15 = true then
   zdf p2 >>= fun r20 =>
   if r20 = true then
    zfm p1 p0 p2 (TScope.mk ([]) ([]) ([]))
   else
    some (TScope.mk ([]) ([]) ([]), 1)
  else
   some (TScope.mk ([]) ([]) ([]), 1)
 else
  some (TScope.mk ([]) ([]) ([]), 1)
end Go.Vx.AsZ
