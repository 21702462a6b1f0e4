/-
  The program's functions as plain functions.
-/
import Derived.Test.YthppbplieikhkaaGreatDoorTypes
import Derived.Test.YthppbplieikhkaaGreatDoorVxD
import Derived.Test.YthppbplieikhkaaGreatDoorVxE
import Derived.Test.YthppbplieikhkaaGreatDoorVxG
import Derived.Test.YthppbplieikhkaaGreatDoorVxF
set_option linter.unusedVariables false
set_option linter.unusedSimpArgs false
namespace Go.Vx.DtZ
set_option linter.unusedVariables false
set_option linter.unusedSimpArgs false
set_option maxRecDepth 10000
set_option maxHeartbeats 2000000
noncomputable def zdR (p0 : Int) : Option Bool :=
 if p0 ≥ 65 then
  if p0 ≤ 90 then
   some true
  else
   if p0 ≥ 97 then
    some (decide (p0 ≤ 122))
   else
    some false
 else
  if p0 ≥ 97 then
   some (decide (p0 ≤ 122))
  else
   some false
noncomputable def zfp (p0 : Int) : Option Bool :=
 if p0 ≥ 48 then
  some (decide (p0 ≤ 57))
 else
  some false
noncomputable def zbb (s0 : ByteArray) (s1 : Int) : Option Int :=
 if s1 < (s0.size : Int) then
  idxB s0 s1 >>= fun b24 =>
  zdR (b24.toNat : Int) >>= fun r25 =>
  if r25 = true then
   zbb s0 (IntKind.wrap .i64 (s1 + 1))
  else
   zfp (b24.toNat : Int) >>= fun r30 =>
   if r30 = true then
    zbb s0 (IntKind.wrap .i64 (s1 + 1))
   else
    if (b24.toNat : Int) = 95 then
     zbb s0 (IntKind.wrap .i64 (s1 + 1))
    else
     some s1
 else
  some s1
 partial_fixpoint
noncomputable def zdA (s0 : ByteArray) (s1 : Int) : Option Int :=
 zbb s0 s1 >>= fun t =>
 some t
noncomputable def zeX (p0 : ByteArray) (p1 : Int) : Option Int :=
 if p1 ≥ (p0.size : Int) then
  some p1
 else
  idxB p0 p1 >>= fun b12 =>
  zdR (b12.toNat : Int) >>= fun r13 =>
  if r13 = true then
   zdA p0 p1
  else
   some p1
noncomputable def zdW (p0 : ByteArray) : Option Bool :=
 if p0 = ⟨#[]⟩ then
  some false
 else
  if (p0.size : Int) ≤ 12 then
   zeX p0 0 >>= fun r12 =>
   some (decide (r12 = (p0.size : Int)))
  else
   some false
noncomputable def zcG (p0 : TValue) (p1 : Bool) (p2 : Bool) (p3 : Bool) : Option Bool :=
 if p1 = true then
  if p2 = true then
   if p3 = true then
    some true
   else
    some (decide (p0.Ref = 0))
  else
   if p0.Text = ⟨#[]⟩ then
    if p3 = true then
     some true
    else
     some (decide (p0.Ref = 0))
   else
    some false
 else
  if p0.Num = 0 then
   if p2 = true then
    if p3 = true then
     some true
    else
     some (decide (p0.Ref = 0))
   else
    if p0.Text = ⟨#[]⟩ then
     if p3 = true then
      some true
     else
      some (decide (p0.Ref = 0))
    else
     some false
  else
   some false
noncomputable def zgz (p0 : Int) (p1 : Int) (p2 : Int) : Option Bool :=
 if p0 ≥ p1 then
  some (decide (p0 ≤ p2))
 else
  some false
noncomputable def zcx (s1 : TValue) (s45 : Bool) : Option (Bool ⊕ Bool) :=
 if s45 = true then
  zcG s1 false true false >>= fun r49 =>
  if r49 = true then
   zdW s1.Text >>= fun r53 =>
   some (.inr r53)
  else
   some (.inr false)
 else
  some (.inl false)
noncomputable def zbT (s1 : TValue) (s4 : Int) (s34 : Bool) : Option (Unit ⊕ Bool) :=
 if s34 = true then
  zcG s1 false false true >>= fun r39 =>
  if r39 = true then
   zgz s1.Ref 1 1000000 >>= fun r43 =>
   some (.inr r43)
  else
   some (.inr false)
 else
  if s4 = 7 then
   zcx s1 true >>= fun t =>
   match t with
   | .inl t =>
    some (.inl ())
   | .inr t =>
    some (.inr t)
  else
   zcx s1 (decide (s4 = 8)) >>= fun t =>
   match t with
   | .inl t =>
    some (.inl ())
   | .inr t =>
    some (.inr t)
noncomputable def zdZ (p0 : TValue) : Option Bool :=
 if p0.Kind = 1 then
  zcG p0 false true false >>= fun r8 =>
  if r8 = true then
   some (decide ((p0.Text.size : Int) ≤ 200))
  else
   some false
 else
  if p0.Kind = 2 then
   zcG p0 true false false >>= fun r18 =>
   if r18 = true then
    zgz p0.Num (-1000000000000) 1000000000000 >>= fun r22 =>
    some r22
   else
    some false
  else
   if p0.Kind = 3 then
    zcG p0 false true false >>= fun r27 =>
    if r27 = true then
     zgz (p0.Text.size : Int) 1 1200 >>= fun r32 =>
     some r32
    else
     some false
   else
    if p0.Kind = 4 then
     zbT p0 p0.Kind true >>= fun t =>
     match t with
     | .inl t =>
      some false
     | .inr t =>
      some t
    else
     if p0.Kind = 5 then
      zbT p0 p0.Kind true >>= fun t =>
      match t with
      | .inl t =>
       some false
      | .inr t =>
       some t
     else
      zbT p0 p0.Kind (decide (p0.Kind = 6)) >>= fun t =>
      match t with
      | .inl t =>
       some false
      | .inr t =>
       some t
noncomputable def zjq (p0 : TValue) : Option Bool :=
 some ((decide (p0.Kind = 1)) && ((decide (p0.Num = 0)) && ((decide (p0.Text = ByteArray.empty)) && (decide (p0.Ref = 0)))))
noncomputable def zfq (s0 : List ByteArray) (s1 : ByteArray) (s5 : Int) : Option (Unit ⊕ Int) :=
 if s5 < (s0.length : Int) then
  idx s0 s5 >>= fun a14 =>
  if a14 = s1 then
   some (.inr s5)
  else
   zfq s0 s1 (IntKind.wrap .i64 (s5 + 1))
 else
  some (.inl ())
 partial_fixpoint
noncomputable def zkj (p0 : List ByteArray) (p1 : ByteArray) : Option Int :=
 zfq p0 p1 0 >>= fun t =>
 match t with
 | .inl t =>
  some (-1)
 | .inr t =>
  some t
noncomputable def zew (s0 : List ByteArray) (s3 : Int) : Option (Unit ⊕ Bool) :=
 if s3 < (s0.length : Int) then
  idx s0 s3 >>= fun a12 =>
  zdW a12 >>= fun r14 =>
  if r14 = true then
   zkj s0 a12 >>= fun r22 =>
   if r22 = s3 then
    zew s0 (IntKind.wrap .i64 (s3 + 1))
   else
    some (.inr false)
  else
   some (.inr false)
 else
  some (.inl ())
 partial_fixpoint
noncomputable def zeJ (p0 : List ByteArray) : Option Bool :=
 zew p0 0 >>= fun t =>
 match t with
 | .inl t =>
  some true
 | .inr t =>
  some t
noncomputable def zdl (s1 : TFunction) : Option Bool :=
 chk (s1.Params.length ≤ most) >>= fun _ =>
 app s1.Params s1.Locals >>= fun c31 =>
 zeJ c31 >>= fun r32 =>
 some r32
noncomputable def zdB (p0 : TFunction) : Option Bool :=
 zdW p0.Name >>= fun r5 =>
 if r5 = true then
  zdW p0.Label >>= fun r10 =>
  if r10 = true then
   if (p0.Params.length : Int) > 6 then
    some false
   else
    if (p0.Locals.length : Int) > 6 then
     some false
    else
     zdl p0
  else
   some false
 else
  some false
noncomputable def zfr (p0 : TRecordType) : Option Bool :=
 zdW p0.Name >>= fun r5 =>
 if r5 = true then
  zgz (p0.Fields.length : Int) 1 6 >>= fun r10 =>
  if r10 = true then
   zeJ p0.Fields >>= fun r15 =>
   some r15
  else
   some false
 else
  some false
noncomputable def zbU (s1 : TScope) (s3 : Int) : Option (Unit ⊕ Bool) :=
 if s3 < (s1.Vars.length : Int) then
  idx s1.Vars s3 >>= fun a33 =>
  zdW a33.Name >>= fun r37 =>
  if r37 = true then
   zdZ a33.Value >>= fun r42 =>
   if r42 = true then
    zjq a33.Value >>= fun r48 =>
    if r48 = true then
     some (.inr false)
    else
     if s3 > 0 then
      idx s1.Vars (IntKind.wrap .i64 (s3 - 1)) >>= fun a58 =>
      if (Op.bytesLess a58.Name.toList a33.Name.toList) = true then
       zbU s1 (IntKind.wrap .i64 (s3 + 1))
      else
       some (.inr false)
     else
      zbU s1 (IntKind.wrap .i64 (s3 + 1))
   else
    some (.inr false)
  else
   some (.inr false)
 else
  some (.inl ())
 partial_fixpoint
noncomputable def zbV (s1 : TScope) (s5 : Int) : Option (Unit ⊕ Bool) :=
 if s5 < (s1.Functions.length : Int) then
  idx s1.Functions s5 >>= fun a76 =>
  zdB a76 >>= fun r78 =>
  if r78 = true then
   if s5 > 0 then
    idx s1.Functions (IntKind.wrap .i64 (s5 - 1)) >>= fun a88 =>
    if (Op.bytesLess a88.Name.toList a76.Name.toList) = true then
     zbV s1 (IntKind.wrap .i64 (s5 + 1))
    else
     some (.inr false)
   else
    zbV s1 (IntKind.wrap .i64 (s5 + 1))
  else
   some (.inr false)
 else
  some (.inl ())
 partial_fixpoint
noncomputable def zbW (s1 : TScope) (s6 : Int) : Option (Unit ⊕ Bool) :=
 if s6 < (s1.Types.length : Int) then
  idx s1.Types s6 >>= fun a110 =>
  zfr a110 >>= fun r112 =>
  if r112 = true then
   if s6 > 0 then
    idx s1.Types (IntKind.wrap .i64 (s6 - 1)) >>= fun a122 =>
    if (Op.bytesLess a122.Name.toList a110.Name.toList) = true then
     zbW s1 (IntKind.wrap .i64 (s6 + 1))
    else
     some (.inr false)
   else
    zbW s1 (IntKind.wrap .i64 (s6 + 1))
  else
   some (.inr false)
 else
  some (.inl ())
 partial_fixpoint
noncomputable def zdC (s1 : TScope) : Option Bool :=
 zbU s1 0 >>= fun t =>
 match t with
 | .inl t =>
  zbV s1 0 >>= fun t_1 =>
  match t_1 with
  | .inl t_1 =>
   zbW s1 0 >>= fun t_2 =>
   match t_2 with
   | .inl t_2 =>
    some true
   | .inr t_2 =>
    some t_2
  | .inr t_1 =>
   some t_1
 | .inr t =>
  some t
noncomputable def zea (p0 : TScope) : Option Bool :=
 if (p0.Vars.length : Int) > 40 then
  some false
 else
  if (p0.Functions.length : Int) > 12 then
   some false
  else
   if (p0.Types.length : Int) > 8 then
    some false
   else
    zdC p0
noncomputable def zcH (s0 : ByteArray) (s3 : List ByteArray) (s4 : Int) (s5 : Int) : Option ((List ByteArray) × Int × ByteArray × (List ByteArray) × Int) :=
 subB s0 s4 s5 >>= fun c30 =>
 app s3 ([c30]) >>= fun c32 =>
 some (c32, IntKind.wrap .i64 (s5 + 1), c30, [c30], IntKind.wrap .i64 (s5 + 1))
noncomputable def zcf (s0 : ByteArray) (s3 : List ByteArray) (s4 : Int) (s5 : Int) : Option ((List ByteArray)) :=
 if s5 ≤ (s0.size : Int) then
  if s5 = (s0.size : Int) then
   zcH s0 s3 s4 s5 >>= fun t =>
   zcf s0 t.1 t.2.1 (IntKind.wrap .i64 (s5 + 1))
  else
   idxB s0 s5 >>= fun b23 =>
   if (b23.toNat : Int) = 44 then
    zcH s0 s3 s4 s5 >>= fun t =>
    zcf s0 t.1 t.2.1 (IntKind.wrap .i64 (s5 + 1))
   else
    zcf s0 s3 s4 (IntKind.wrap .i64 (s5 + 1))
 else
  some s3
 partial_fixpoint
noncomputable def zeK (p0 : ByteArray) : Option ((List ByteArray)) :=
 if p0 = ⟨#[]⟩ then
  some ([])
 else
  zcf p0 ([]) 0 0 >>= fun t =>
  some t
noncomputable def zaU (s0 : ByteArray) (s6 : Int) (s7 : Int) (s8 : Int) : Option Int :=
 idxB s0 s8 >>= fun b26 =>
 if (b26.toNat : Int) = 41 then
  if s7 < 0 then
   some s8
  else
   some s7
 else
  some s7
noncomputable def zaV (s0 : ByteArray) (s6 : Int) (s7 : Int) (s8 : Int) : Option (Int × Int) :=
 if s8 < (s0.size : Int) then
  idxB s0 s8 >>= fun b17 =>
  if (b17.toNat : Int) = 40 then
   if s6 < 0 then
    zaU s0 s8 s7 s8 >>= fun t =>
    zaV s0 s8 t (IntKind.wrap .i64 (s8 + 1))
   else
    zaU s0 s6 s7 s8 >>= fun t =>
    zaV s0 s6 t (IntKind.wrap .i64 (s8 + 1))
  else
   zaU s0 s6 s7 s8 >>= fun t =>
   zaV s0 s6 t (IntKind.wrap .i64 (s8 + 1))
 else
  some (s6, s7)
 partial_fixpoint
noncomputable def zcI (s0 : ByteArray) (s6 : Int) (s7 : Int) : Option ((ByteArray × (List ByteArray) × (List ByteArray) × Bool)) :=
 subBH s0 s6 >>= fun c42 =>
 subB s0 (IntKind.wrap .i64 (s6 + 1)) s7 >>= fun c47 =>
 zeK c47 >>= fun r48 =>
 subBL s0 (IntKind.wrap .i64 (s7 + 1)) >>= fun c52 =>
 zeK c52 >>= fun r53 =>
 some (c42, r48, r53, true)
noncomputable def zdi (p0 : ByteArray) : Option (ByteArray × (List ByteArray) × (List ByteArray) × Bool) :=
 zaV p0 (-1) (-1) 0 >>= fun t =>
 if t.1 < 0 then
  some (⟨#[]⟩, [], [], false)
 else
  if t.2 < t.1 then
   some (⟨#[]⟩, [], [], false)
  else
   zcI p0 t.1 t.2
noncomputable def zcn (p0 : TFunction) : Option TFunction :=
 chk (p0.Params.length ≤ most) >>= fun _ =>
 chk (p0.Locals.length ≤ most) >>= fun _ =>
 some p0
noncomputable def zeb (p0 : TRecordType) : Option TRecordType :=
 chk (p0.Fields.length ≤ most) >>= fun _ =>
 some p0
noncomputable def zeO (s1 : TScope) (s2 : TScope) (s3 : TScope) (s4 : Int) : Option TScope :=
 if s4 < (s1.Functions.length : Int) then
  idx s1.Functions s4 >>= fun a23 =>
  zcn a23 >>= fun r25 =>
  app s3.Functions ([r25]) >>= fun c27 =>
  zeO s1 s2 (TScope.mk s3.Vars c27 s3.Types) (IntKind.wrap .i64 (s4 + 1))
 else
  some s3
 partial_fixpoint
noncomputable def zeP (s1 : TScope) (s2 : TScope) (s3 : TScope) (s5 : Int) : Option TScope :=
 if s5 < (s1.Types.length : Int) then
  idx s1.Types s5 >>= fun a41 =>
  zeb a41 >>= fun r43 =>
  app s3.Types ([r43]) >>= fun c45 =>
  zeP s1 s2 (TScope.mk s3.Vars s3.Functions c45) (IntKind.wrap .i64 (s5 + 1))
 else
  some s3
 partial_fixpoint
noncomputable def zhY (p0 : TScope) : Option TScope :=
 chk (p0.Vars.length ≤ most) >>= fun _ =>
 zeO p0 (TScope.mk ([]) ([]) ([])) (TScope.mk p0.Vars ([]) ([])) 0 >>= fun t =>
 zeP p0 (TScope.mk ([]) ([]) ([])) t 0 >>= fun t_1 =>
 some t_1
noncomputable def zdD (s1 : ByteArray) (s4 : TScope) (s6 : ByteArray) (s10 : TRecordType) (s11 : TScope) (s12 : List TRecordType) (s13 : Int) : Option ((List TRecordType) × Int × (List TRecordType) × ByteArray × (List ByteArray) × TRecordType × (List TRecordType) × Int) :=
 idx s11.Types s13 >>= fun a63 =>
 app s12 ([a63]) >>= fun c66 =>
 some (c66, IntKind.wrap .i64 (s13 + 1), s11.Types, a63.Name, a63.Fields, a63, [a63], IntKind.wrap .i64 (s13 + 1))
noncomputable def zcy (s1 : ByteArray) (s4 : TScope) (s6 : ByteArray) (s10 : TRecordType) (s11 : TScope) (s12 : List TRecordType) (s13 : Int) : Option ((List TRecordType) × Int) :=
 if s13 < (s11.Types.length : Int) then
  idx s11.Types s13 >>= fun a53 =>
  if (Op.bytesLess a53.Name.toList s6.toList) = true then
   zdD s1 s4 s6 s10 s11 s12 s13 >>= fun t =>
   zcy s1 s4 s6 s10 s11 t.1 t.2.1
  else
   some (s12, s13)
 else
  some (s12, s13)
 partial_fixpoint
noncomputable def zbc (s1 : ByteArray) (s4 : TScope) (s11 : TScope) (s12 : List TRecordType) (s13 : Int) : Option (((TScope × Int) ⊕ (TScope × Int))) :=
 subL s11.Types s13 >>= fun c94 =>
 app s12 c94 >>= fun c95 =>
 if (c95.length : Int) > 8 then
  some (.inl (TScope.mk ([]) ([]) ([]), 6))
 else
  some (.inr (TScope.mk s11.Vars s11.Functions c95, 0))
noncomputable def zcz (s1 : ByteArray) (s2 : TScope) (s4 : TScope) (s6 : ByteArray) (s10 : TRecordType) : Option (((TScope × Int) ⊕ (TScope × Int))) :=
 zhY s2 >>= fun r42 =>
 zcy s1 s4 s6 s10 r42 ([]) 0 >>= fun t =>
 app t.1 ([s10]) >>= fun c72 =>
 if t.2 < (r42.Types.length : Int) then
  idx r42.Types t.2 >>= fun a82 =>
  if a82.Name = s6 then
   zbc s1 s4 r42 c72 (IntKind.wrap .i64 (t.2 + 1)) >>= fun t_1 =>
   some t_1
  else
   zbc s1 s4 r42 c72 t.2 >>= fun t_1 =>
   some t_1
 else
  zbc s1 s4 r42 c72 t.2 >>= fun t_1 =>
  some t_1
noncomputable def zec (p0 : TScope) (p1 : ByteArray) : Option ((TScope × Int) ⊕ (TScope × Int)) :=
 zea p0 >>= fun r15 =>
 if r15 = true then
  zdi p1 >>= fun r20 =>
  if r20.2.2.2 = true then
   if (r20.2.2.1.length : Int) > 0 then
    some (.inl (TScope.mk ([]) ([]) ([]), 2))
   else
    zfr (TRecordType.mk r20.1 r20.2.1) >>= fun r37 =>
    if r37 = true then
     zcz p1 p0 (TScope.mk ([]) ([]) ([])) r20.1 (TRecordType.mk r20.1 r20.2.1)
    else
     some (.inl (TScope.mk ([]) ([]) ([]), 2))
  else
   some (.inl (TScope.mk ([]) ([]) ([]), 2))
 else
  some (.inl (TScope.mk ([]) ([]) ([]), 1))
noncomputable def zdE (p0 : TBinding) : Option ByteArray :=
 some p0.Name
noncomputable def zbC (s0 : List TBinding) (s5 : Int) : Option (Unit ⊕ Bool) :=
 if s5 < (s0.length : Int) then
  idx s0 (IntKind.wrap .i64 (s5 - 1)) >>= fun a16 =>
  zdE a16 >>= fun r18 =>
  idx s0 s5 >>= fun a22 =>
  zdE a22 >>= fun r24 =>
  if (Op.bytesLess r18.toList r24.toList) = true then
   zbC s0 (IntKind.wrap .i64 (s5 + 1))
  else
   some (.inr false)
 else
  some (.inl ())
 partial_fixpoint
noncomputable def zbD (p0 : List TBinding) : Option Bool :=
 zbC p0 1 >>= fun t =>
 match t with
 | .inl t =>
  some true
 | .inr t =>
  some t
noncomputable def zdm (p0 : TFunction) : Option ByteArray :=
 some p0.Name
noncomputable def zbx (s0 : List TFunction) (s5 : Int) : Option (Unit ⊕ Bool) :=
 if s5 < (s0.length : Int) then
  idx s0 (IntKind.wrap .i64 (s5 - 1)) >>= fun a16 =>
  zdm a16 >>= fun r18 =>
  idx s0 s5 >>= fun a22 =>
  zdm a22 >>= fun r24 =>
  if (Op.bytesLess r18.toList r24.toList) = true then
   zbx s0 (IntKind.wrap .i64 (s5 + 1))
  else
   some (.inr false)
 else
  some (.inl ())
 partial_fixpoint
noncomputable def zbv (p0 : List TFunction) : Option Bool :=
 zbx p0 1 >>= fun t =>
 match t with
 | .inl t =>
  some true
 | .inr t =>
  some t
noncomputable def zce (p0 : TRecordType) : Option ByteArray :=
 some p0.Name
noncomputable def zbi (s0 : List TRecordType) (s5 : Int) : Option (Unit ⊕ Bool) :=
 if s5 < (s0.length : Int) then
  idx s0 (IntKind.wrap .i64 (s5 - 1)) >>= fun a16 =>
  zce a16 >>= fun r18 =>
  idx s0 s5 >>= fun a22 =>
  zce a22 >>= fun r24 =>
  if (Op.bytesLess r18.toList r24.toList) = true then
   zbi s0 (IntKind.wrap .i64 (s5 + 1))
  else
   some (.inr false)
 else
  some (.inl ())
 partial_fixpoint
noncomputable def zbd (p0 : List TRecordType) : Option Bool :=
 zbi p0 1 >>= fun t =>
 match t with
 | .inl t =>
  some true
 | .inr t =>
  some t
noncomputable def zeL (p0 : Int) : Option Bool :=
 if p0 ≥ 65 then
  if p0 ≤ 90 then
   some true
  else
   if p0 ≥ 97 then
    some (decide (p0 ≤ 122))
   else
    some false
 else
  if p0 ≥ 97 then
   some (decide (p0 ≤ 122))
  else
   some false
noncomputable def zgA (p0 : Int) : Option Bool :=
 if p0 ≥ 48 then
  some (decide (p0 ≤ 57))
 else
  some false
noncomputable def zdu (p0 : Int) : Option Bool :=
 zeL p0 >>= fun r4 =>
 if r4 = true then
  some true
 else
  zgA p0 >>= fun r7 =>
  if r7 = true then
   some true
  else
   some (decide (p0 = 95))
noncomputable def zdn (s0 : List Int) (s7 : List Int) (s8 : Int) (s9 : Int) : Option (Unit ⊕ Bool) :=
 if s9 < s8 then
  idx s7 s9 >>= fun a11 =>
  zdu a11 >>= fun r15 =>
  if r15 = true then
   zdn s0 s7 s8 (IntKind.wrap .i64 (s9 + 1))
  else
   some (.inr false)
 else
  some (.inl ())
 partial_fixpoint
noncomputable def zdF (p0 : List Int) : Option Bool :=
 zdn p0 p0 (p0.length : Int) 0 >>= fun t =>
 match t with
 | .inl t =>
  some true
 | .inr t =>
  some t
noncomputable def zcJ (p0 : ByteArray) : Option Bool :=
 if (p0.size : Int) ≥ 1 then
  if (p0.size : Int) ≤ 12 then
   idxBN p0 0 >>= fun b13 =>
   zeL (b13.toNat : Int) >>= fun r14 =>
   if r14 = true then
    zdF (strI p0) >>= fun r19 =>
    some r19
   else
    some false
  else
   some false
 else
  some false
noncomputable def zgV (p0 : Int) (p1 : Int) (p2 : Int) : Option Bool :=
 if p0 ≥ p1 then
  some (decide (p0 ≤ p2))
 else
  some false
noncomputable def zed (p0 : Int) : Option Bool :=
 zgV p0 1 1000000 >>= fun r4 =>
 some r4
noncomputable def zcA (s1 : TValue) (s65 : Bool) : Option (Bool ⊕ Bool) :=
 if s65 = true then
  if s1.Num = 0 then
   if s1.Ref = 0 then
    zcJ s1.Text >>= fun r78 =>
    some (.inr r78)
   else
    some (.inr false)
  else
   some (.inr false)
 else
  some (.inl false)
noncomputable def zbX (s1 : TValue) (s4 : Int) (s49 : Bool) : Option (Unit ⊕ Bool) :=
 if s49 = true then
  if s1.Num = 0 then
   if s1.Text = ByteArray.empty then
    zed s1.Ref >>= fun r63 =>
    some (.inr r63)
   else
    some (.inr false)
  else
   some (.inr false)
 else
  if s4 = 7 then
   zcA s1 true >>= fun t =>
   match t with
   | .inl t =>
    some (.inl ())
   | .inr t =>
    some (.inr t)
  else
   zcA s1 (decide (s4 = 8)) >>= fun t =>
   match t with
   | .inl t =>
    some (.inl ())
   | .inr t =>
    some (.inr t)
noncomputable def zee (p0 : TValue) : Option Bool :=
 if p0.Kind = 1 then
  if p0.Num = 0 then
   if p0.Ref = 0 then
    some (decide ((p0.Text.size : Int) ≤ 200))
   else
    some false
  else
   some false
 else
  if p0.Kind = 2 then
   if p0.Text = ByteArray.empty then
    if p0.Ref = 0 then
     zgV p0.Num (-1000000000000) 1000000000000 >>= fun r28 =>
     some r28
    else
     some false
   else
    some false
  else
   if p0.Kind = 3 then
    if p0.Num = 0 then
     if p0.Ref = 0 then
      if (p0.Text.size : Int) ≥ 1 then
       some (decide ((p0.Text.size : Int) ≤ 1200))
      else
       some false
     else
      some false
    else
     some false
   else
    if p0.Kind = 4 then
     zbX p0 p0.Kind true >>= fun t =>
     match t with
     | .inl t =>
      some false
     | .inr t =>
      some t
    else
     if p0.Kind = 5 then
      zbX p0 p0.Kind true >>= fun t =>
      match t with
      | .inl t =>
       some false
      | .inr t =>
       some t
     else
      zbX p0 p0.Kind (decide (p0.Kind = 6)) >>= fun t =>
      match t with
      | .inl t =>
       some false
      | .inr t =>
       some t
noncomputable def zmz (p0 : ByteArray) : Option TValue :=
 some (TValue.mk 1 0 p0 0)
noncomputable def ztb : Option TValue :=
 zmz (⟨#[]⟩) >>= fun r1 =>
 some r1
noncomputable def zjr (p0 : TValue) : Option Bool :=
 ztb >>= fun r4 =>
 some ((decide (p0.Kind = r4.Kind)) && ((decide (p0.Num = r4.Num)) && ((decide (p0.Text = r4.Text)) && (decide (p0.Ref = r4.Ref)))))
noncomputable def zbs (p0 : TBinding) : Option Bool :=
 zcJ p0.Name >>= fun r5 =>
 if r5 = true then
  zee p0.Value >>= fun r9 =>
  if r9 = true then
   zjr p0.Value >>= fun r14 =>
   some (!r14)
  else
   some false
 else
  some false
noncomputable def zcg (s0 : List TBinding) (s7 : List TBinding) (s8 : Int) (s9 : Int) : Option (Unit ⊕ Bool) :=
 if s9 < s8 then
  idx s7 s9 >>= fun a11 =>
  zbs a11 >>= fun r15 =>
  if r15 = true then
   zcg s0 s7 s8 (IntKind.wrap .i64 (s9 + 1))
  else
   some (.inr false)
 else
  some (.inl ())
 partial_fixpoint
noncomputable def zco (p0 : List TBinding) : Option Bool :=
 zcg p0 p0 (p0.length : Int) 0 >>= fun t =>
 match t with
 | .inl t =>
  some true
 | .inr t =>
  some t
noncomputable def zaP (a b : List ByteArray) : Option (List ByteArray) := chk (a.length + b.length ≤ most) >>= fun _ => some (a ++ b)
noncomputable def zcr (s0 : List ByteArray) (s7 : List ByteArray) (s8 : Int) (s9 : Int) : Option (Unit ⊕ Bool) :=
 if s9 < s8 then
  idx s7 s9 >>= fun a11 =>
  zcJ a11 >>= fun r15 =>
  if r15 = true then
   zcr s0 s7 s8 (IntKind.wrap .i64 (s9 + 1))
  else
   some (.inr false)
 else
  some (.inl ())
 partial_fixpoint
noncomputable def zaG (p0 : List ByteArray) : Option Bool :=
 zcr p0 p0 (p0.length : Int) 0 >>= fun t =>
 match t with
 | .inl t =>
  some true
 | .inr t =>
  some t
noncomputable def zad (p0 : List ByteArray) : Option (List ByteArray) := chk (p0.length ≤ most) >>= fun _ => some p0
noncomputable def zaZ (p0 : List ByteArray) : Option (List ByteArray) := chk (p0.length ≤ most) >>= fun _ => some (znl p0)
noncomputable def zaJ (p0 : List ByteArray) : Option (List ByteArray) := chk (p0.length ≤ most) >>= fun _ => some (zjp p0)
noncomputable def zcK (p0 : List ByteArray) : Option ((List ByteArray)) :=
 zaZ p0 >>= fun r4 =>
 zaJ r4 >>= fun r6 =>
 some r6
noncomputable def zbe (s1 : TFunction) (s3 : List ByteArray) (s4 : Bool) : Option Bool :=
 zcJ s1.Name >>= fun r23 =>
 if r23 = true then
  zcJ s1.Label >>= fun r27 =>
  if r27 = true then
   if s4 = true then
    zaG s3 >>= fun r34 =>
    if r34 = true then
     zad s3 >>= fun r38 =>
     zcK r38 >>= fun r39 =>
     some (decide ((r39.length : Int) = (s3.length : Int)))
    else
     some false
   else
    some false
  else
   some false
 else
  some false
noncomputable def zbj (p0 : TFunction) : Option Bool :=
 zaP p0.Params p0.Locals >>= fun r10 =>
 if (p0.Params.length : Int) ≤ 6 then
  zbe p0 r10 (decide ((p0.Locals.length : Int) ≤ 6))
 else
  zbe p0 r10 false
noncomputable def zbM (s0 : List TFunction) (s7 : List TFunction) (s8 : Int) (s9 : Int) : Option (Unit ⊕ Bool) :=
 if s9 < s8 then
  idx s7 s9 >>= fun a11 =>
  zbj a11 >>= fun r15 =>
  if r15 = true then
   zbM s0 s7 s8 (IntKind.wrap .i64 (s9 + 1))
  else
   some (.inr false)
 else
  some (.inl ())
 partial_fixpoint
noncomputable def zbY (p0 : List TFunction) : Option Bool :=
 zbM p0 p0 (p0.length : Int) 0 >>= fun t =>
 match t with
 | .inl t =>
  some true
 | .inr t =>
  some t
noncomputable def zdX (s0 : List ByteArray) : Option Bool :=
 zad s0 >>= fun r17 =>
 zcK r17 >>= fun r18 =>
 some (decide ((r18.length : Int) = (s0.length : Int)))
noncomputable def zfW (p0 : List ByteArray) : Option Bool :=
 if (p0.length : Int) < 1 then
  some false
 else
  if (p0.length : Int) > 6 then
   some false
  else
   zaG p0 >>= fun r13 =>
   if r13 = true then
    zdX p0
   else
    some false
noncomputable def zaF (p0 : TRecordType) : Option Bool :=
 zcJ p0.Name >>= fun r5 =>
 if r5 = true then
  zfW p0.Fields >>= fun r9 =>
  some r9
 else
  some false
noncomputable def zby (s0 : List TRecordType) (s7 : List TRecordType) (s8 : Int) (s9 : Int) : Option (Unit ⊕ Bool) :=
 if s9 < s8 then
  idx s7 s9 >>= fun a11 =>
  zaF a11 >>= fun r15 =>
  if r15 = true then
   zby s0 s7 s8 (IntKind.wrap .i64 (s9 + 1))
  else
   some (.inr false)
 else
  some (.inl ())
 partial_fixpoint
noncomputable def zbw (p0 : List TRecordType) : Option Bool :=
 zby p0 p0 (p0.length : Int) 0 >>= fun t =>
 match t with
 | .inl t =>
  some true
 | .inr t =>
  some t
noncomputable def zbZ (s1 : TScope) (s3 : Bool) : Option Bool :=
 if s3 = true then
  zco s1.Vars >>= fun r37 =>
  if r37 = true then
   zbY s1.Functions >>= fun r42 =>
   if r42 = true then
    zbw s1.Types >>= fun r47 =>
    some r47
   else
    some false
  else
   some false
 else
  some false
noncomputable def zdG (s1 : TScope) : Option Bool :=
 zbD s1.Vars >>= fun r22 =>
 if r22 = true then
  zbv s1.Functions >>= fun r26 =>
  if r26 = true then
   zbd s1.Types >>= fun r31 =>
   zbZ s1 r31 >>= fun t =>
   some t
  else
   zbZ s1 false >>= fun t =>
   some t
 else
  zbZ s1 false >>= fun t =>
  some t
noncomputable def zef (p0 : TScope) : Option Bool :=
 if (p0.Vars.length : Int) > 40 then
  some false
 else
  if (p0.Functions.length : Int) > 12 then
   some false
  else
   if (p0.Types.length : Int) > 8 then
    some false
   else
    zdG p0
noncomputable def zaK (p0 : List TBinding) : Option (List TBinding) := chk (p0.length ≤ most) >>= fun _ => some p0
noncomputable def zca (s1 : TScope) (s2 : TScope) (s13 : List TFunction) (s14 : Int) (s3 : TScope) (s15 : Int) : Option TScope :=
 if s15 < s14 then
  idx s13 s15 >>= fun a17 =>
  zad a17.Params >>= fun r21 =>
  zad a17.Locals >>= fun r24 =>
  app s3.Functions ([TFunction.mk a17.Name r21 r24 a17.Label]) >>= fun c31 =>
  zca s1 s2 s13 s14 (TScope.mk s3.Vars c31 s3.Types) (IntKind.wrap .i64 (s15 + 1))
 else
  some s3
 partial_fixpoint
noncomputable def zcb (s1 : TScope) (s2 : TScope) (s35 : List TRecordType) (s36 : Int) (s3 : TScope) (s37 : Int) : Option TScope :=
 if s37 < s36 then
  idx s35 s37 >>= fun a39 =>
  zad a39.Fields >>= fun r43 =>
  app s3.Types ([TRecordType.mk a39.Name r43]) >>= fun c49 =>
  zcb s1 s2 s35 s36 (TScope.mk s3.Vars s3.Functions c49) (IntKind.wrap .i64 (s37 + 1))
 else
  some s3
 partial_fixpoint
noncomputable def zdj (p0 : TScope) : Option TScope :=
 zaK p0.Vars >>= fun r10 =>
 zca p0 (TScope.mk ([]) ([]) ([])) p0.Functions (p0.Functions.length : Int) (TScope.mk r10 ([]) ([])) 0 >>= fun t =>
 zcb p0 (TScope.mk ([]) ([]) ([])) p0.Types (p0.Types.length : Int) t 0 >>= fun t_1 =>
 some t_1
noncomputable def zaQ (s p : ByteArray) : Option Int := zoD s p
noncomputable def zbk (p0 : ByteArray) (p1 : ByteArray) : Option (ByteArray × ByteArray × Bool) :=
 zaQ p0 p1 >>= fun r10 =>
 if r10 ≥ 0 then
  subBH p0 r10 >>= fun c15 =>
  subBL p0 (IntKind.wrap .i64 (r10 + (p1.size : Int))) >>= fun c21 =>
  some (c15, c21, true)
 else
  some (p0, ⟨#[]⟩, false)
noncomputable def zdS (p0 : ByteArray) (p1 : ByteArray) : Option (ByteArray × ByteArray × Bool) :=
 zbk p0 p1 >>= fun r9 =>
 some (r9.1, r9.2.1, r9.2.2)
noncomputable def zex (s p : ByteArray) : Option (List ByteArray) := zme s p
noncomputable def zcB (p0 : ByteArray) : Option ((List ByteArray)) :=
 if p0 = ⟨#[]⟩ then
  some ([])
 else
  zex p0 (⟨#[44]⟩) >>= fun r6 =>
  some r6
noncomputable def zan (s0 : ByteArray) (s6 : ByteArray) (s12 : List ByteArray) (s13 : List ByteArray) (s14 : Bool) : Option ((ByteArray × (List ByteArray) × (List ByteArray) × Bool)) :=
 some (s6, s12, s13, s14)
noncomputable def zcC (p0 : ByteArray) : Option (ByteArray × (List ByteArray) × (List ByteArray) × Bool) :=
 zdS p0 (⟨#[40]⟩) >>= fun r17 =>
 zdS r17.2.1 (⟨#[41]⟩) >>= fun r23 =>
 zcB r23.1 >>= fun r28 =>
 zcB r23.2.1 >>= fun r30 =>
 if r17.2.2 = true then
  if r23.2.2 = true then
   zcJ r17.1 >>= fun r37 =>
   if r37 = true then
    zaG r28 >>= fun r41 =>
    if r41 = true then
     zaG r30 >>= fun r45 =>
     zan p0 r17.1 r28 r30 r45
    else
     zan p0 r17.1 r28 r30 false
   else
    zan p0 r17.1 r28 r30 false
  else
   zan p0 r17.1 r28 r30 false
 else
  zan p0 r17.1 r28 r30 false
noncomputable def zcp (p0 : ByteArray) : Option Bool :=
 some false
noncomputable def zbE (p0 : ByteArray) (p1 : ByteArray) : Option Int :=
 zcp p0 >>= fun r8 =>
 zcp p1 >>= fun r10 =>
 if r8 = true then
  if r10 = true then
   some 0
  else
   some (-1)
 else
  if r10 = true then
   some 1
  else
   if (Op.bytesLess p0.toList p1.toList) = true then
    some (-1)
   else
    if p0 = p1 then
     some 0
    else
     some 1
noncomputable def zaW (p0 : TRecordType) (p1 : ByteArray) : Option Int :=
 zce p0 >>= fun r8 =>
 zbE r8 p1 >>= fun r10 =>
 some r10
noncomputable def zab (s0 : List TRecordType) (s1 : ByteArray) (s8 : Int) (s9 : Int) (s10 : Int) : Option Int :=
 if s9 < s10 then
  idx s0 (IntKind.wrap .i64 ((IntKind.wrap .u64 (IntKind.wrap .i64 (s9 + s10))).fdiv (2 ^ (min 1 (IntKind.bits .u64))))) >>= fun a27 =>
  zaW a27 s1 >>= fun r30 =>
  if r30 < 0 then
   zab s0 s1 s8 (IntKind.wrap .i64 (IntKind.wrap .i64 ((IntKind.wrap .u64 (IntKind.wrap .i64 (s9 + s10))).fdiv (2 ^ (min 1 (IntKind.bits .u64)))) + 1)) s10
  else
   zab s0 s1 s8 s9 (IntKind.wrap .i64 ((IntKind.wrap .u64 (IntKind.wrap .i64 (s9 + s10))).fdiv (2 ^ (min 1 (IntKind.bits .u64)))))
 else
  some s9
 partial_fixpoint
noncomputable def zai (p0 : List TRecordType) (p1 : ByteArray) : Option (Int × Bool) :=
 zab p0 p1 (p0.length : Int) 0 (p0.length : Int) >>= fun t =>
 if t < (p0.length : Int) then
  idx p0 t >>= fun a43 =>
  zaW a43 p1 >>= fun r46 =>
  some (t, (decide (r46 = 0)))
 else
  some (t, false)
noncomputable def zcc (p0 : List TRecordType) (p1 : ByteArray) : Option (Int × Bool) :=
 zai p0 p1 >>= fun r11 =>
 some (r11.1, r11.2)
noncomputable def zaw (p0 : List TRecordType) : Option (List TRecordType) := chk (p0.length ≤ most) >>= fun _ => some p0
noncomputable def zaA (a : List TRecordType) (i : Int) (y : TRecordType) : Option (List TRecordType) := chk (0 ≤ i ∧ i ≤ a.length ∧ a.length + 1 ≤ most) >>= fun _ => some (a.take i.toNat ++ y :: a.drop i.toNat)
noncomputable def zbf (p0 : List TRecordType) (p1 : TRecordType) : Option ((List TRecordType)) :=
 zce p1 >>= fun r14 =>
 zcc p0 r14 >>= fun r16 =>
 zaw p0 >>= fun r20 =>
 if r16.2 = true then
  idx r20 r16.1 >>= fun a25 =>
  some (setN r20 r16.1.toNat p1)
 else
  zaA r20 r16.1 p1 >>= fun r31 =>
  some r31
noncomputable def zbF (s1 : ByteArray) (s9 : TRecordType) (g0 : List TBinding) (g0_1 : List TFunction) (g0_2 : List TRecordType) : Option (((Int × Nat) ⊕ (Int × (List TRecordType)))) :=
 zbf g0_2 s9 >>= fun r38 =>
 if (r38.length : Int) > 8 then
  some (.inl (6, g0_2.length))
 else
  some (.inr (0, r38))
noncomputable def zbG (p1 : ByteArray) (g0 : List TBinding) (g0_1 : List TFunction) (g0_2 : List TRecordType) : Option ((Int × Nat) ⊕ (Int × (List TRecordType))) :=
 zcC p1 >>= fun r13 =>
 if r13.2.2.2 = true then
  if (r13.2.2.1.length : Int) > 0 then
   some (.inr (2, g0_2))
  else
   zaF (TRecordType.mk r13.1 r13.2.1) >>= fun r30 =>
   if r30 = true then
    zbF p1 (TRecordType.mk r13.1 r13.2.1) g0 g0_1 g0_2
   else
    some (.inr (2, g0_2))
 else
  some (.inr (2, g0_2))
noncomputable def zeg (p0 : TScope) (p1 : ByteArray) : Option (((List TBinding) × (List TFunction) × Nat × Int) ⊕ (TScope × Int)) :=
 zef p0 >>= fun r9 =>
 if r9 = true then
  zdj p0 >>= fun r13 =>
  zbG p1 r13.Vars r13.Functions r13.Types >>= fun r15 =>
  match r15 with
  | .inl r15 =>
   if r15.1 = 0 then
    some (.inl (r13.Vars, r13.Functions, r15.2, 0))
   else
    some (.inr (TScope.mk ([]) ([]) ([]), r15.1))
  | .inr r15 =>
   if r15.1 = 0 then
    some (.inr (TScope.mk r13.Vars r13.Functions r15.2, 0))
   else
    some (.inr (TScope.mk ([]) ([]) ([]), r15.1))
 else
  some (.inr (TScope.mk ([]) ([]) ([]), 1))
end Go.Vx.DtZ
