/-
  The program's functions as plain functions.
-/
import Derived.Test.YthppbplieikhkaaGreatDoorTypes
import Derived.Test.YthppbplieikhkaaGreatDoorVxD
import Derived.Test.YthppbplieikhkaaGreatDoorVxE
import Derived.Test.YthppbplieikhkaaGreatDoorVxG
import Derived.Test.YthppbplieikhkaaGreatDoorVxF
set_option linter.unusedVariables false
set_option linter.unusedSimpArgs false
namespace Go.Vx.DfZ
set_option linter.unusedVariables false
set_option linter.unusedSimpArgs false
set_option maxRecDepth 10000
set_option maxHeartbeats 2000000
noncomputable def zdX (p0 : Int) : Option Bool :=
 if p0 ≥ 65 then
  if p0 ≤ 90 then
   some true
  else
   if p0 ≥ 97 then
    some (decide (p0 ≤ 122))
   else
    some false
 else
  if p0 ≥ 97 then
   some (decide (p0 ≤ 122))
  else
   some false
noncomputable def zfG (p0 : Int) : Option Bool :=
 if p0 ≥ 48 then
  some (decide (p0 ≤ 57))
 else
  some false
noncomputable def zbh (s0 : ByteArray) (s1 : Int) : Option Int :=
 if s1 < (s0.size : Int) then
  idxB s0 s1 >>= fun b24 =>
  zdX (b24.toNat : Int) >>= fun r25 =>
  if r25 = true then
   zbh s0 (IntKind.wrap .i64 (s1 + 1))
  else
   zfG (b24.toNat : Int) >>= fun r30 =>
   if r30 = true then
    zbh s0 (IntKind.wrap .i64 (s1 + 1))
   else
    if (b24.toNat : Int) = 95 then
     zbh s0 (IntKind.wrap .i64 (s1 + 1))
    else
     some s1
 else
  some s1
 partial_fixpoint
noncomputable def zdH (s0 : ByteArray) (s1 : Int) : Option Int :=
 zbh s0 s1 >>= fun t =>
 some t
noncomputable def zfp (p0 : ByteArray) (p1 : Int) : Option Int :=
 if p1 ≥ (p0.size : Int) then
  some p1
 else
  idxB p0 p1 >>= fun b12 =>
  zdX (b12.toNat : Int) >>= fun r13 =>
  if r13 = true then
   zdH p0 p1
  else
   some p1
noncomputable def zdI (p0 : ByteArray) : Option Bool :=
 if p0 = ⟨#[]⟩ then
  some false
 else
  if (p0.size : Int) ≤ 12 then
   zfp p0 0 >>= fun r12 =>
   some (decide (r12 = (p0.size : Int)))
  else
   some false
noncomputable def zcN (p0 : TValue) (p1 : Bool) (p2 : Bool) (p3 : Bool) : Option Bool :=
 if p1 = true then
  if p2 = true then
   if p3 = true then
    some true
   else
    some (decide (p0.Ref = 0))
  else
   if p0.Text = ⟨#[]⟩ then
    if p3 = true then
     some true
    else
     some (decide (p0.Ref = 0))
   else
    some false
 else
  if p0.Num = 0 then
   if p2 = true then
    if p3 = true then
     some true
    else
     some (decide (p0.Ref = 0))
   else
    if p0.Text = ⟨#[]⟩ then
     if p3 = true then
      some true
     else
      some (decide (p0.Ref = 0))
    else
     some false
  else
   some false
noncomputable def zgH (p0 : Int) (p1 : Int) (p2 : Int) : Option Bool :=
 if p0 ≥ p1 then
  some (decide (p0 ≤ p2))
 else
  some false
noncomputable def zcG (s1 : TValue) (s45 : Bool) : Option (Bool ⊕ Bool) :=
 if s45 = true then
  zcN s1 false true false >>= fun r49 =>
  if r49 = true then
   zdI s1.Text >>= fun r53 =>
   some (.inr r53)
  else
   some (.inr false)
 else
  some (.inl false)
noncomputable def zcb (s1 : TValue) (s4 : Int) (s34 : Bool) : Option (Unit ⊕ Bool) :=
 if s34 = true then
  zcN s1 false false true >>= fun r39 =>
  if r39 = true then
   zgH s1.Ref 1 1000000 >>= fun r43 =>
   some (.inr r43)
  else
   some (.inr false)
 else
  if s4 = 7 then
   zcG s1 true >>= fun t =>
   match t with
   | .inl t =>
    some (.inl ())
   | .inr t =>
    some (.inr t)
  else
   zcG s1 (decide (s4 = 8)) >>= fun t =>
   match t with
   | .inl t =>
    some (.inl ())
   | .inr t =>
    some (.inr t)
noncomputable def zed (p0 : TValue) : Option Bool :=
 if p0.Kind = 1 then
  zcN p0 false true false >>= fun r8 =>
  if r8 = true then
   some (decide ((p0.Text.size : Int) ≤ 200))
  else
   some false
 else
  if p0.Kind = 2 then
   zcN p0 true false false >>= fun r18 =>
   if r18 = true then
    zgH p0.Num (-1000000000000) 1000000000000 >>= fun r22 =>
    some r22
   else
    some false
  else
   if p0.Kind = 3 then
    zcN p0 false true false >>= fun r27 =>
    if r27 = true then
     zgH (p0.Text.size : Int) 1 1200 >>= fun r32 =>
     some r32
    else
     some false
   else
    if p0.Kind = 4 then
     zcb p0 p0.Kind true >>= fun t =>
     match t with
     | .inl t =>
      some false
     | .inr t =>
      some t
    else
     if p0.Kind = 5 then
      zcb p0 p0.Kind true >>= fun t =>
      match t with
      | .inl t =>
       some false
      | .inr t =>
       some t
     else
      zcb p0 p0.Kind (decide (p0.Kind = 6)) >>= fun t =>
      match t with
      | .inl t =>
       some false
      | .inr t =>
       some t
noncomputable def zjN (p0 : TValue) : Option Bool :=
 some ((decide (p0.Kind = 1)) && ((decide (p0.Num = 0)) && ((decide (p0.Text = ByteArray.empty)) && (decide (p0.Ref = 0)))))
noncomputable def zfH (s0 : List ByteArray) (s1 : ByteArray) (s5 : Int) : Option (Unit ⊕ Int) :=
 if s5 < (s0.length : Int) then
  idx s0 s5 >>= fun a14 =>
  if a14 = s1 then
   some (.inr s5)
  else
   zfH s0 s1 (IntKind.wrap .i64 (s5 + 1))
 else
  some (.inl ())
 partial_fixpoint
noncomputable def zkG (p0 : List ByteArray) (p1 : ByteArray) : Option Int :=
 zfH p0 p1 0 >>= fun t =>
 match t with
 | .inl t =>
  some (-1)
 | .inr t =>
  some t
noncomputable def zeJ (s0 : List ByteArray) (s3 : Int) : Option (Unit ⊕ Bool) :=
 if s3 < (s0.length : Int) then
  idx s0 s3 >>= fun a12 =>
  zdI a12 >>= fun r14 =>
  if r14 = true then
   zkG s0 a12 >>= fun r22 =>
   if r22 = s3 then
    zeJ s0 (IntKind.wrap .i64 (s3 + 1))
   else
    some (.inr false)
  else
   some (.inr false)
 else
  some (.inl ())
 partial_fixpoint
noncomputable def zeW (p0 : List ByteArray) : Option Bool :=
 zeJ p0 0 >>= fun t =>
 match t with
 | .inl t =>
  some true
 | .inr t =>
  some t
noncomputable def zdp (s1 : TFunction) : Option Bool :=
 chk (s1.Params.length ≤ most) >>= fun _ =>
 app s1.Params s1.Locals >>= fun c31 =>
 zeW c31 >>= fun r32 =>
 some r32
noncomputable def zcO (p0 : TFunction) : Option Bool :=
 zdI p0.Name >>= fun r5 =>
 if r5 = true then
  zdI p0.Label >>= fun r10 =>
  if r10 = true then
   if (p0.Params.length : Int) > 6 then
    some false
   else
    if (p0.Locals.length : Int) > 6 then
     some false
    else
     zdp p0
  else
   some false
 else
  some false
noncomputable def zgI (p0 : TRecordType) : Option Bool :=
 zdI p0.Name >>= fun r5 =>
 if r5 = true then
  zgH (p0.Fields.length : Int) 1 6 >>= fun r10 =>
  if r10 = true then
   zeW p0.Fields >>= fun r15 =>
   some r15
  else
   some false
 else
  some false
noncomputable def zcc (s1 : TScope) (s3 : Int) : Option (Unit ⊕ Bool) :=
 if s3 < (s1.Vars.length : Int) then
  idx s1.Vars s3 >>= fun a33 =>
  zdI a33.Name >>= fun r37 =>
  if r37 = true then
   zed a33.Value >>= fun r42 =>
   if r42 = true then
    zjN a33.Value >>= fun r48 =>
    if r48 = true then
     some (.inr false)
    else
     if s3 > 0 then
      idx s1.Vars (IntKind.wrap .i64 (s3 - 1)) >>= fun a58 =>
      if (Op.bytesLess a58.Name.toList a33.Name.toList) = true then
       zcc s1 (IntKind.wrap .i64 (s3 + 1))
      else
       some (.inr false)
     else
      zcc s1 (IntKind.wrap .i64 (s3 + 1))
   else
    some (.inr false)
  else
   some (.inr false)
 else
  some (.inl ())
 partial_fixpoint
noncomputable def zcd (s1 : TScope) (s5 : Int) : Option (Unit ⊕ Bool) :=
 if s5 < (s1.Functions.length : Int) then
  idx s1.Functions s5 >>= fun a76 =>
  zcO a76 >>= fun r78 =>
  if r78 = true then
   if s5 > 0 then
    idx s1.Functions (IntKind.wrap .i64 (s5 - 1)) >>= fun a88 =>
    if (Op.bytesLess a88.Name.toList a76.Name.toList) = true then
     zcd s1 (IntKind.wrap .i64 (s5 + 1))
    else
     some (.inr false)
   else
    zcd s1 (IntKind.wrap .i64 (s5 + 1))
  else
   some (.inr false)
 else
  some (.inl ())
 partial_fixpoint
noncomputable def zce (s1 : TScope) (s6 : Int) : Option (Unit ⊕ Bool) :=
 if s6 < (s1.Types.length : Int) then
  idx s1.Types s6 >>= fun a110 =>
  zgI a110 >>= fun r112 =>
  if r112 = true then
   if s6 > 0 then
    idx s1.Types (IntKind.wrap .i64 (s6 - 1)) >>= fun a122 =>
    if (Op.bytesLess a122.Name.toList a110.Name.toList) = true then
     zce s1 (IntKind.wrap .i64 (s6 + 1))
    else
     some (.inr false)
   else
    zce s1 (IntKind.wrap .i64 (s6 + 1))
  else
   some (.inr false)
 else
  some (.inl ())
 partial_fixpoint
noncomputable def zdJ (s1 : TScope) : Option Bool :=
 zcc s1 0 >>= fun t =>
 match t with
 | .inl t =>
  zcd s1 0 >>= fun t_1 =>
  match t_1 with
  | .inl t_1 =>
   zce s1 0 >>= fun t_2 =>
   match t_2 with
   | .inl t_2 =>
    some true
   | .inr t_2 =>
    some t_2
  | .inr t_1 =>
   some t_1
 | .inr t =>
  some t
noncomputable def zee (p0 : TScope) : Option Bool :=
 if (p0.Vars.length : Int) > 40 then
  some false
 else
  if (p0.Functions.length : Int) > 12 then
   some false
  else
   if (p0.Types.length : Int) > 8 then
    some false
   else
    zdJ p0
noncomputable def zcP (s0 : ByteArray) (s3 : List ByteArray) (s4 : Int) (s5 : Int) : Option ((List ByteArray) × Int × ByteArray × (List ByteArray) × Int) :=
 subB s0 s4 s5 >>= fun c30 =>
 app s3 ([c30]) >>= fun c32 =>
 some (c32, IntKind.wrap .i64 (s5 + 1), c30, [c30], IntKind.wrap .i64 (s5 + 1))
noncomputable def zck (s0 : ByteArray) (s3 : List ByteArray) (s4 : Int) (s5 : Int) : Option ((List ByteArray)) :=
 if s5 ≤ (s0.size : Int) then
  if s5 = (s0.size : Int) then
   zcP s0 s3 s4 s5 >>= fun t =>
   zck s0 t.1 t.2.1 (IntKind.wrap .i64 (s5 + 1))
  else
   idxB s0 s5 >>= fun b23 =>
   if (b23.toNat : Int) = 44 then
    zcP s0 s3 s4 s5 >>= fun t =>
    zck s0 t.1 t.2.1 (IntKind.wrap .i64 (s5 + 1))
   else
    zck s0 s3 s4 (IntKind.wrap .i64 (s5 + 1))
 else
  some s3
 partial_fixpoint
noncomputable def zeX (p0 : ByteArray) : Option ((List ByteArray)) :=
 if p0 = ⟨#[]⟩ then
  some ([])
 else
  zck p0 ([]) 0 0 >>= fun t =>
  some t
noncomputable def zaY (s0 : ByteArray) (s6 : Int) (s7 : Int) (s8 : Int) : Option Int :=
 idxB s0 s8 >>= fun b26 =>
 if (b26.toNat : Int) = 41 then
  if s7 < 0 then
   some s8
  else
   some s7
 else
  some s7
noncomputable def zaZ (s0 : ByteArray) (s6 : Int) (s7 : Int) (s8 : Int) : Option (Int × Int) :=
 if s8 < (s0.size : Int) then
  idxB s0 s8 >>= fun b17 =>
  if (b17.toNat : Int) = 40 then
   if s6 < 0 then
    zaY s0 s8 s7 s8 >>= fun t =>
    zaZ s0 s8 t (IntKind.wrap .i64 (s8 + 1))
   else
    zaY s0 s6 s7 s8 >>= fun t =>
    zaZ s0 s6 t (IntKind.wrap .i64 (s8 + 1))
  else
   zaY s0 s6 s7 s8 >>= fun t =>
   zaZ s0 s6 t (IntKind.wrap .i64 (s8 + 1))
 else
  some (s6, s7)
 partial_fixpoint
noncomputable def zcQ (s0 : ByteArray) (s6 : Int) (s7 : Int) : Option ((ByteArray × (List ByteArray) × (List ByteArray) × Bool)) :=
 subBH s0 s6 >>= fun c42 =>
 subB s0 (IntKind.wrap .i64 (s6 + 1)) s7 >>= fun c47 =>
 zeX c47 >>= fun r48 =>
 subBL s0 (IntKind.wrap .i64 (s7 + 1)) >>= fun c52 =>
 zeX c52 >>= fun r53 =>
 some (c42, r48, r53, true)
noncomputable def zdl (p0 : ByteArray) : Option (ByteArray × (List ByteArray) × (List ByteArray) × Bool) :=
 zaZ p0 (-1) (-1) 0 >>= fun t =>
 if t.1 < 0 then
  some (⟨#[]⟩, [], [], false)
 else
  if t.2 < t.1 then
   some (⟨#[]⟩, [], [], false)
  else
   zcQ p0 t.1 t.2
noncomputable def zct (p0 : TFunction) : Option TFunction :=
 chk (p0.Params.length ≤ most) >>= fun _ =>
 chk (p0.Locals.length ≤ most) >>= fun _ =>
 some p0
noncomputable def zef (p0 : TRecordType) : Option TRecordType :=
 chk (p0.Fields.length ≤ most) >>= fun _ =>
 some p0
noncomputable def zfb (s1 : TScope) (s2 : TScope) (s3 : TScope) (s4 : Int) : Option TScope :=
 if s4 < (s1.Functions.length : Int) then
  idx s1.Functions s4 >>= fun a23 =>
  zct a23 >>= fun r25 =>
  app s3.Functions ([r25]) >>= fun c27 =>
  zfb s1 s2 (TScope.mk s3.Vars c27 s3.Types) (IntKind.wrap .i64 (s4 + 1))
 else
  some s3
 partial_fixpoint
noncomputable def zfc (s1 : TScope) (s2 : TScope) (s3 : TScope) (s5 : Int) : Option TScope :=
 if s5 < (s1.Types.length : Int) then
  idx s1.Types s5 >>= fun a41 =>
  zef a41 >>= fun r43 =>
  app s3.Types ([r43]) >>= fun c45 =>
  zfc s1 s2 (TScope.mk s3.Vars s3.Functions c45) (IntKind.wrap .i64 (s5 + 1))
 else
  some s3
 partial_fixpoint
noncomputable def ziv (p0 : TScope) : Option TScope :=
 chk (p0.Vars.length ≤ most) >>= fun _ =>
 zfb p0 (TScope.mk ([]) ([]) ([])) (TScope.mk p0.Vars ([]) ([])) 0 >>= fun t =>
 zfc p0 (TScope.mk ([]) ([]) ([])) t 0 >>= fun t_1 =>
 some t_1
noncomputable def zcl (s1 : ByteArray) (s2 : ByteArray) (s6 : TScope) (s8 : ByteArray) (s12 : TFunction) (s13 : TScope) (s14 : List TFunction) (s15 : Int) : Option ((List TFunction) × Int × (List TFunction) × ByteArray × (List ByteArray) × (List ByteArray) × ByteArray × TFunction × (List TFunction) × Int) :=
 idx s13.Functions s15 >>= fun a75 =>
 app s14 ([a75]) >>= fun c78 =>
 some (c78, IntKind.wrap .i64 (s15 + 1), s13.Functions, a75.Name, a75.Params, a75.Locals, a75.Label, a75, [a75], IntKind.wrap .i64 (s15 + 1))
noncomputable def zbz (s1 : ByteArray) (s2 : ByteArray) (s6 : TScope) (s8 : ByteArray) (s12 : TFunction) (s13 : TScope) (s14 : List TFunction) (s15 : Int) : Option ((List TFunction) × Int) :=
 if s15 < (s13.Functions.length : Int) then
  idx s13.Functions s15 >>= fun a65 =>
  if (Op.bytesLess a65.Name.toList s8.toList) = true then
   zcl s1 s2 s6 s8 s12 s13 s14 s15 >>= fun t =>
   zbz s1 s2 s6 s8 s12 s13 t.1 t.2.1
  else
   some (s14, s15)
 else
  some (s14, s15)
 partial_fixpoint
noncomputable def zaD (s1 : ByteArray) (s2 : ByteArray) (s6 : TScope) (s13 : TScope) (s14 : List TFunction) (s15 : Int) : Option (((TScope × Int) ⊕ (TScope × Int))) :=
 subL s13.Functions s15 >>= fun c106 =>
 app s14 c106 >>= fun c107 =>
 if (c107.length : Int) > 12 then
  some (.inl (TScope.mk ([]) ([]) ([]), 6))
 else
  some (.inr (TScope.mk s13.Vars c107 s13.Types, 0))
noncomputable def zbA (s1 : ByteArray) (s2 : ByteArray) (s3 : TScope) (s6 : TScope) (s8 : ByteArray) (s12 : TFunction) : Option (((TScope × Int) ⊕ (TScope × Int))) :=
 ziv s3 >>= fun r54 =>
 zbz s1 s2 s6 s8 s12 r54 ([]) 0 >>= fun t =>
 app t.1 ([s12]) >>= fun c84 =>
 if t.2 < (r54.Functions.length : Int) then
  idx r54.Functions t.2 >>= fun a94 =>
  if a94.Name = s8 then
   zaD s1 s2 s6 r54 c84 (IntKind.wrap .i64 (t.2 + 1)) >>= fun t_1 =>
   some t_1
  else
   zaD s1 s2 s6 r54 c84 t.2 >>= fun t_1 =>
   some t_1
 else
  zaD s1 s2 s6 r54 c84 t.2 >>= fun t_1 =>
  some t_1
noncomputable def zaJ (s1 : ByteArray) (s2 : ByteArray) (s3 : TScope) (s6 : TScope) (s8 : ByteArray) (s11 : Bool) (s12 : TFunction) : Option (((TScope × Int) ⊕ (TScope × Int))) :=
 if s11 = true then
  zcO s12 >>= fun r49 =>
  if r49 = true then
   zbA s1 s2 s3 s6 s8 s12 >>= fun t =>
   some t
  else
   some (.inl (TScope.mk ([]) ([]) ([]), 2))
 else
  some (.inl (TScope.mk ([]) ([]) ([]), 2))
noncomputable def zba (s1 : ByteArray) (s2 : ByteArray) (s3 : TScope) (s6 : TScope) : Option (((TScope × Int) ⊕ (TScope × Int))) :=
 zdl s1 >>= fun r31 =>
 if s2 = ⟨#[]⟩ then
  zaJ s1 s2 s3 s6 r31.1 r31.2.2.2 (TFunction.mk r31.1 r31.2.1 r31.2.2.1 r31.1) >>= fun t =>
  some t
 else
  zaJ s1 s2 s3 s6 r31.1 r31.2.2.2 (TFunction.mk r31.1 r31.2.1 r31.2.2.1 s2) >>= fun t =>
  some t
noncomputable def zcu (p0 : TScope) (p1 : ByteArray) (p2 : ByteArray) : Option ((TScope × Int) ⊕ (TScope × Int)) :=
 zee p0 >>= fun r17 =>
 if r17 = true then
  if p2 = ⟨#[]⟩ then
   zba p1 p2 p0 (TScope.mk ([]) ([]) ([]))
  else
   zdI p2 >>= fun r24 =>
   if r24 = true then
    zba p1 p2 p0 (TScope.mk ([]) ([]) ([]))
   else
    some (.inl (TScope.mk ([]) ([]) ([]), 1))
 else
  some (.inl (TScope.mk ([]) ([]) ([]), 1))
noncomputable def zdK (p0 : TBinding) : Option ByteArray :=
 some p0.Name
noncomputable def zbK (s0 : List TBinding) (s5 : Int) : Option (Unit ⊕ Bool) :=
 if s5 < (s0.length : Int) then
  idx s0 (IntKind.wrap .i64 (s5 - 1)) >>= fun a16 =>
  zdK a16 >>= fun r18 =>
  idx s0 s5 >>= fun a22 =>
  zdK a22 >>= fun r24 =>
  if (Op.bytesLess r18.toList r24.toList) = true then
   zbK s0 (IntKind.wrap .i64 (s5 + 1))
  else
   some (.inr false)
 else
  some (.inl ())
 partial_fixpoint
noncomputable def zbL (p0 : List TBinding) : Option Bool :=
 zbK p0 1 >>= fun t =>
 match t with
 | .inl t =>
  some true
 | .inr t =>
  some t
noncomputable def zaT (p0 : TFunction) : Option ByteArray :=
 some p0.Name
noncomputable def zbE (s0 : List TFunction) (s5 : Int) : Option (Unit ⊕ Bool) :=
 if s5 < (s0.length : Int) then
  idx s0 (IntKind.wrap .i64 (s5 - 1)) >>= fun a16 =>
  zaT a16 >>= fun r18 =>
  idx s0 s5 >>= fun a22 =>
  zaT a22 >>= fun r24 =>
  if (Op.bytesLess r18.toList r24.toList) = true then
   zbE s0 (IntKind.wrap .i64 (s5 + 1))
  else
   some (.inr false)
 else
  some (.inl ())
 partial_fixpoint
noncomputable def zbB (p0 : List TFunction) : Option Bool :=
 zbE p0 1 >>= fun t =>
 match t with
 | .inl t =>
  some true
 | .inr t =>
  some t
noncomputable def zfq (p0 : TRecordType) : Option ByteArray :=
 some p0.Name
noncomputable def zbm (s0 : List TRecordType) (s5 : Int) : Option (Unit ⊕ Bool) :=
 if s5 < (s0.length : Int) then
  idx s0 (IntKind.wrap .i64 (s5 - 1)) >>= fun a16 =>
  zfq a16 >>= fun r18 =>
  idx s0 s5 >>= fun a22 =>
  zfq a22 >>= fun r24 =>
  if (Op.bytesLess r18.toList r24.toList) = true then
   zbm s0 (IntKind.wrap .i64 (s5 + 1))
  else
   some (.inr false)
 else
  some (.inl ())
 partial_fixpoint
noncomputable def zbi (p0 : List TRecordType) : Option Bool :=
 zbm p0 1 >>= fun t =>
 match t with
 | .inl t =>
  some true
 | .inr t =>
  some t
noncomputable def zeY (p0 : Int) : Option Bool :=
 if p0 ≥ 65 then
  if p0 ≤ 90 then
   some true
  else
   if p0 ≥ 97 then
    some (decide (p0 ≤ 122))
   else
    some false
 else
  if p0 ≥ 97 then
   some (decide (p0 ≤ 122))
  else
   some false
noncomputable def zgJ (p0 : Int) : Option Bool :=
 if p0 ≥ 48 then
  some (decide (p0 ≤ 57))
 else
  some false
noncomputable def zdz (p0 : Int) : Option Bool :=
 zeY p0 >>= fun r4 =>
 if r4 = true then
  some true
 else
  zgJ p0 >>= fun r7 =>
  if r7 = true then
   some true
  else
   some (decide (p0 = 95))
noncomputable def zdq (s0 : List Int) (s7 : List Int) (s8 : Int) (s9 : Int) : Option (Unit ⊕ Bool) :=
 if s9 < s8 then
  idx s7 s9 >>= fun a11 =>
  zdz a11 >>= fun r15 =>
  if r15 = true then
   zdq s0 s7 s8 (IntKind.wrap .i64 (s9 + 1))
  else
   some (.inr false)
 else
  some (.inl ())
 partial_fixpoint
noncomputable def zdL (p0 : List Int) : Option Bool :=
 zdq p0 p0 (p0.length : Int) 0 >>= fun t =>
 match t with
 | .inl t =>
  some true
 | .inr t =>
  some t
noncomputable def zcz (p0 : ByteArray) : Option Bool :=
 if (p0.size : Int) ≥ 1 then
  if (p0.size : Int) ≤ 12 then
   idxBN p0 0 >>= fun b13 =>
   zeY (b13.toNat : Int) >>= fun r14 =>
   if r14 = true then
    zdL (strI p0) >>= fun r19 =>
    some r19
   else
    some false
  else
   some false
 else
  some false
noncomputable def zhp (p0 : Int) (p1 : Int) (p2 : Int) : Option Bool :=
 if p0 ≥ p1 then
  some (decide (p0 ≤ p2))
 else
  some false
noncomputable def zeg (p0 : Int) : Option Bool :=
 zhp p0 1 1000000 >>= fun r4 =>
 some r4
noncomputable def zcH (s1 : TValue) (s65 : Bool) : Option (Bool ⊕ Bool) :=
 if s65 = true then
  if s1.Num = 0 then
   if s1.Ref = 0 then
    zcz s1.Text >>= fun r78 =>
    some (.inr r78)
   else
    some (.inr false)
  else
   some (.inr false)
 else
  some (.inl false)
noncomputable def zcf (s1 : TValue) (s4 : Int) (s49 : Bool) : Option (Unit ⊕ Bool) :=
 if s49 = true then
  if s1.Num = 0 then
   if s1.Text = ByteArray.empty then
    zeg s1.Ref >>= fun r63 =>
    some (.inr r63)
   else
    some (.inr false)
  else
   some (.inr false)
 else
  if s4 = 7 then
   zcH s1 true >>= fun t =>
   match t with
   | .inl t =>
    some (.inl ())
   | .inr t =>
    some (.inr t)
  else
   zcH s1 (decide (s4 = 8)) >>= fun t =>
   match t with
   | .inl t =>
    some (.inl ())
   | .inr t =>
    some (.inr t)
noncomputable def zeh (p0 : TValue) : Option Bool :=
 if p0.Kind = 1 then
  if p0.Num = 0 then
   if p0.Ref = 0 then
    some (decide ((p0.Text.size : Int) ≤ 200))
   else
    some false
  else
   some false
 else
  if p0.Kind = 2 then
   if p0.Text = ByteArray.empty then
    if p0.Ref = 0 then
     zhp p0.Num (-1000000000000) 1000000000000 >>= fun r28 =>
     some r28
    else
     some false
   else
    some false
  else
   if p0.Kind = 3 then
    if p0.Num = 0 then
     if p0.Ref = 0 then
      if (p0.Text.size : Int) ≥ 1 then
       some (decide ((p0.Text.size : Int) ≤ 1200))
      else
       some false
     else
      some false
    else
     some false
   else
    if p0.Kind = 4 then
     zcf p0 p0.Kind true >>= fun t =>
     match t with
     | .inl t =>
      some false
     | .inr t =>
      some t
    else
     if p0.Kind = 5 then
      zcf p0 p0.Kind true >>= fun t =>
      match t with
      | .inl t =>
       some false
      | .inr t =>
       some t
     else
      zcf p0 p0.Kind (decide (p0.Kind = 6)) >>= fun t =>
      match t with
      | .inl t =>
       some false
      | .inr t =>
       some t
noncomputable def zmR (p0 : ByteArray) : Option TValue :=
 some (TValue.mk 1 0 p0 0)
noncomputable def ztA : Option TValue :=
 zmR (⟨#[]⟩) >>= fun r1 =>
 some r1
noncomputable def zjO (p0 : TValue) : Option Bool :=
 ztA >>= fun r4 =>
 some ((decide (p0.Kind = r4.Kind)) && ((decide (p0.Num = r4.Num)) && ((decide (p0.Text = r4.Text)) && (decide (p0.Ref = r4.Ref)))))
noncomputable def zbv (p0 : TBinding) : Option Bool :=
 zcz p0.Name >>= fun r5 =>
 if r5 = true then
  zeh p0.Value >>= fun r9 =>
  if r9 = true then
   zjO p0.Value >>= fun r14 =>
   some (!r14)
  else
   some false
 else
  some false
noncomputable def zcm (s0 : List TBinding) (s7 : List TBinding) (s8 : Int) (s9 : Int) : Option (Unit ⊕ Bool) :=
 if s9 < s8 then
  idx s7 s9 >>= fun a11 =>
  zbv a11 >>= fun r15 =>
  if r15 = true then
   zcm s0 s7 s8 (IntKind.wrap .i64 (s9 + 1))
  else
   some (.inr false)
 else
  some (.inl ())
 partial_fixpoint
noncomputable def zcv (p0 : List TBinding) : Option Bool :=
 zcm p0 p0 (p0.length : Int) 0 >>= fun t =>
 match t with
 | .inl t =>
  some true
 | .inr t =>
  some t
noncomputable def zaQ (a b : List ByteArray) : Option (List ByteArray) := chk (a.length + b.length ≤ most) >>= fun _ => some (a ++ b)
noncomputable def zcA (s0 : List ByteArray) (s7 : List ByteArray) (s8 : Int) (s9 : Int) : Option (Unit ⊕ Bool) :=
 if s9 < s8 then
  idx s7 s9 >>= fun a11 =>
  zcz a11 >>= fun r15 =>
  if r15 = true then
   zcA s0 s7 s8 (IntKind.wrap .i64 (s9 + 1))
  else
   some (.inr false)
 else
  some (.inl ())
 partial_fixpoint
noncomputable def zaG (p0 : List ByteArray) : Option Bool :=
 zcA p0 p0 (p0.length : Int) 0 >>= fun t =>
 match t with
 | .inl t =>
  some true
 | .inr t =>
  some t
noncomputable def zad (p0 : List ByteArray) : Option (List ByteArray) := chk (p0.length ≤ most) >>= fun _ => some p0
noncomputable def zbf (p0 : List ByteArray) : Option (List ByteArray) := chk (p0.length ≤ most) >>= fun _ => some (znD p0)
noncomputable def zaK (p0 : List ByteArray) : Option (List ByteArray) := chk (p0.length ≤ most) >>= fun _ => some (zjM p0)
noncomputable def zcR (p0 : List ByteArray) : Option ((List ByteArray)) :=
 zbf p0 >>= fun r4 =>
 zaK r4 >>= fun r6 =>
 some r6
noncomputable def zbj (s1 : TFunction) (s3 : List ByteArray) (s4 : Bool) : Option Bool :=
 zcz s1.Name >>= fun r23 =>
 if r23 = true then
  zcz s1.Label >>= fun r27 =>
  if r27 = true then
   if s4 = true then
    zaG s3 >>= fun r34 =>
    if r34 = true then
     zad s3 >>= fun r38 =>
     zcR r38 >>= fun r39 =>
     some (decide ((r39.length : Int) = (s3.length : Int)))
    else
     some false
   else
    some false
  else
   some false
 else
  some false
noncomputable def zaR (p0 : TFunction) : Option Bool :=
 zaQ p0.Params p0.Locals >>= fun r10 =>
 if (p0.Params.length : Int) ≤ 6 then
  zbj p0 r10 (decide ((p0.Locals.length : Int) ≤ 6))
 else
  zbj p0 r10 false
noncomputable def zbU (s0 : List TFunction) (s7 : List TFunction) (s8 : Int) (s9 : Int) : Option (Unit ⊕ Bool) :=
 if s9 < s8 then
  idx s7 s9 >>= fun a11 =>
  zaR a11 >>= fun r15 =>
  if r15 = true then
   zbU s0 s7 s8 (IntKind.wrap .i64 (s9 + 1))
  else
   some (.inr false)
 else
  some (.inl ())
 partial_fixpoint
noncomputable def zcg (p0 : List TFunction) : Option Bool :=
 zbU p0 p0 (p0.length : Int) 0 >>= fun t =>
 match t with
 | .inl t =>
  some true
 | .inr t =>
  some t
noncomputable def zeb (s0 : List ByteArray) : Option Bool :=
 zad s0 >>= fun r17 =>
 zcR r17 >>= fun r18 =>
 some (decide ((r18.length : Int) = (s0.length : Int)))
noncomputable def zgg (p0 : List ByteArray) : Option Bool :=
 if (p0.length : Int) < 1 then
  some false
 else
  if (p0.length : Int) > 6 then
   some false
  else
   zaG p0 >>= fun r13 =>
   if r13 = true then
    zeb p0
   else
    some false
noncomputable def zaS (p0 : TRecordType) : Option Bool :=
 zcz p0.Name >>= fun r5 =>
 if r5 = true then
  zgg p0.Fields >>= fun r9 =>
  some r9
 else
  some false
noncomputable def zbF (s0 : List TRecordType) (s7 : List TRecordType) (s8 : Int) (s9 : Int) : Option (Unit ⊕ Bool) :=
 if s9 < s8 then
  idx s7 s9 >>= fun a11 =>
  zaS a11 >>= fun r15 =>
  if r15 = true then
   zbF s0 s7 s8 (IntKind.wrap .i64 (s9 + 1))
  else
   some (.inr false)
 else
  some (.inl ())
 partial_fixpoint
noncomputable def zbC (p0 : List TRecordType) : Option Bool :=
 zbF p0 p0 (p0.length : Int) 0 >>= fun t =>
 match t with
 | .inl t =>
  some true
 | .inr t =>
  some t
noncomputable def zch (s1 : TScope) (s3 : Bool) : Option Bool :=
 if s3 = true then
  zcv s1.Vars >>= fun r37 =>
  if r37 = true then
   zcg s1.Functions >>= fun r42 =>
   if r42 = true then
    zbC s1.Types >>= fun r47 =>
    some r47
   else
    some false
  else
   some false
 else
  some false
noncomputable def zdM (s1 : TScope) : Option Bool :=
 zbL s1.Vars >>= fun r22 =>
 if r22 = true then
  zbB s1.Functions >>= fun r26 =>
  if r26 = true then
   zbi s1.Types >>= fun r31 =>
   zch s1 r31 >>= fun t =>
   some t
  else
   zch s1 false >>= fun t =>
   some t
 else
  zch s1 false >>= fun t =>
  some t
noncomputable def zei (p0 : TScope) : Option Bool :=
 if (p0.Vars.length : Int) > 40 then
  some false
 else
  if (p0.Functions.length : Int) > 12 then
   some false
  else
   if (p0.Types.length : Int) > 8 then
    some false
   else
    zdM p0
noncomputable def zaL (p0 : List TBinding) : Option (List TBinding) := chk (p0.length ≤ most) >>= fun _ => some p0
noncomputable def zci (s1 : TScope) (s2 : TScope) (s13 : List TFunction) (s14 : Int) (s3 : TScope) (s15 : Int) : Option TScope :=
 if s15 < s14 then
  idx s13 s15 >>= fun a17 =>
  zad a17.Params >>= fun r21 =>
  zad a17.Locals >>= fun r24 =>
  app s3.Functions ([TFunction.mk a17.Name r21 r24 a17.Label]) >>= fun c31 =>
  zci s1 s2 s13 s14 (TScope.mk s3.Vars c31 s3.Types) (IntKind.wrap .i64 (s15 + 1))
 else
  some s3
 partial_fixpoint
noncomputable def zcj (s1 : TScope) (s2 : TScope) (s35 : List TRecordType) (s36 : Int) (s3 : TScope) (s37 : Int) : Option TScope :=
 if s37 < s36 then
  idx s35 s37 >>= fun a39 =>
  zad a39.Fields >>= fun r43 =>
  app s3.Types ([TRecordType.mk a39.Name r43]) >>= fun c49 =>
  zcj s1 s2 s35 s36 (TScope.mk s3.Vars s3.Functions c49) (IntKind.wrap .i64 (s37 + 1))
 else
  some s3
 partial_fixpoint
noncomputable def zdm (p0 : TScope) : Option TScope :=
 zaL p0.Vars >>= fun r10 =>
 zci p0 (TScope.mk ([]) ([]) ([])) p0.Functions (p0.Functions.length : Int) (TScope.mk r10 ([]) ([])) 0 >>= fun t =>
 zcj p0 (TScope.mk ([]) ([]) ([])) p0.Types (p0.Types.length : Int) t 0 >>= fun t_1 =>
 some t_1
noncomputable def zaU (s p : ByteArray) : Option Int := zoS s p
noncomputable def zbn (p0 : ByteArray) (p1 : ByteArray) : Option (ByteArray × ByteArray × Bool) :=
 zaU p0 p1 >>= fun r10 =>
 if r10 ≥ 0 then
  subBH p0 r10 >>= fun c15 =>
  subBL p0 (IntKind.wrap .i64 (r10 + (p1.size : Int))) >>= fun c21 =>
  some (c15, c21, true)
 else
  some (p0, ⟨#[]⟩, false)
noncomputable def zdY (p0 : ByteArray) (p1 : ByteArray) : Option (ByteArray × ByteArray × Bool) :=
 zbn p0 p1 >>= fun r9 =>
 some (r9.1, r9.2.1, r9.2.2)
noncomputable def zeK (s p : ByteArray) : Option (List ByteArray) := zmw s p
noncomputable def zcI (p0 : ByteArray) : Option ((List ByteArray)) :=
 if p0 = ⟨#[]⟩ then
  some ([])
 else
  zeK p0 (⟨#[44]⟩) >>= fun r6 =>
  some r6
noncomputable def zan (s0 : ByteArray) (s6 : ByteArray) (s12 : List ByteArray) (s13 : List ByteArray) (s14 : Bool) : Option ((ByteArray × (List ByteArray) × (List ByteArray) × Bool)) :=
 some (s6, s12, s13, s14)
noncomputable def zcJ (p0 : ByteArray) : Option (ByteArray × (List ByteArray) × (List ByteArray) × Bool) :=
 zdY p0 (⟨#[40]⟩) >>= fun r17 =>
 zdY r17.2.1 (⟨#[41]⟩) >>= fun r23 =>
 zcI r23.1 >>= fun r28 =>
 zcI r23.2.1 >>= fun r30 =>
 if r17.2.2 = true then
  if r23.2.2 = true then
   zcz r17.1 >>= fun r37 =>
   if r37 = true then
    zaG r28 >>= fun r41 =>
    if r41 = true then
     zaG r30 >>= fun r45 =>
     zan p0 r17.1 r28 r30 r45
    else
     zan p0 r17.1 r28 r30 false
   else
    zan p0 r17.1 r28 r30 false
  else
   zan p0 r17.1 r28 r30 false
 else
  zan p0 r17.1 r28 r30 false
noncomputable def zcw (p0 : ByteArray) : Option Bool :=
 some false
noncomputable def zbM (p0 : ByteArray) (p1 : ByteArray) : Option Int :=
 zcw p0 >>= fun r8 =>
 zcw p1 >>= fun r10 =>
 if r8 = true then
  if r10 = true then
   some 0
  else
   some (-1)
 else
  if r10 = true then
   some 1
  else
   if (Op.bytesLess p0.toList p1.toList) = true then
    some (-1)
   else
    if p0 = p1 then
     some 0
    else
     some 1
noncomputable def zbw (p0 : TFunction) (p1 : ByteArray) : Option Int :=
 zaT p0 >>= fun r8 =>
 zbM r8 p1 >>= fun r10 =>
 some r10
noncomputable def zac (s0 : List TFunction) (s1 : ByteArray) (s8 : Int) (s9 : Int) (s10 : Int) : Option Int :=
 if s9 < s10 then
  idx s0 (IntKind.wrap .i64 ((IntKind.wrap .u64 (IntKind.wrap .i64 (s9 + s10))).fdiv (2 ^ (min 1 (IntKind.bits .u64))))) >>= fun a27 =>
  zbw a27 s1 >>= fun r30 =>
  if r30 < 0 then
   zac s0 s1 s8 (IntKind.wrap .i64 (IntKind.wrap .i64 ((IntKind.wrap .u64 (IntKind.wrap .i64 (s9 + s10))).fdiv (2 ^ (min 1 (IntKind.bits .u64)))) + 1)) s10
  else
   zac s0 s1 s8 s9 (IntKind.wrap .i64 ((IntKind.wrap .u64 (IntKind.wrap .i64 (s9 + s10))).fdiv (2 ^ (min 1 (IntKind.bits .u64)))))
 else
  some s9
 partial_fixpoint
noncomputable def zak (p0 : List TFunction) (p1 : ByteArray) : Option (Int × Bool) :=
 zac p0 p1 (p0.length : Int) 0 (p0.length : Int) >>= fun t =>
 if t < (p0.length : Int) then
  idx p0 t >>= fun a43 =>
  zbw a43 p1 >>= fun r46 =>
  some (t, (decide (r46 = 0)))
 else
  some (t, false)
noncomputable def zcK (p0 : List TFunction) (p1 : ByteArray) : Option (Int × Bool) :=
 zak p0 p1 >>= fun r11 =>
 some (r11.1, r11.2)
noncomputable def zaC (p0 : List TFunction) : Option (List TFunction) := chk (p0.length ≤ most) >>= fun _ => some p0
noncomputable def zaE (a : List TFunction) (i : Int) (y : TFunction) : Option (List TFunction) := chk (0 ≤ i ∧ i ≤ a.length ∧ a.length + 1 ≤ most) >>= fun _ => some (a.take i.toNat ++ y :: a.drop i.toNat)
noncomputable def zbD (p0 : List TFunction) (p1 : TFunction) : Option ((List TFunction)) :=
 zaT p1 >>= fun r14 =>
 zcK p0 r14 >>= fun r16 =>
 zaC p0 >>= fun r20 =>
 if r16.2 = true then
  idx r20 r16.1 >>= fun a25 =>
  some (setN r20 r16.1.toNat p1)
 else
  zaE r20 r16.1 p1 >>= fun r31 =>
  some r31
noncomputable def zcS (s1 : ByteArray) (s2 : ByteArray) (s11 : TFunction) (g0 : List TBinding) (g0_1 : List TFunction) (g0_2 : List TRecordType) : Option (((Int × Nat) ⊕ (Int × (List TFunction)))) :=
 zbD g0_1 s11 >>= fun r41 =>
 if (r41.length : Int) > 12 then
  some (.inl (6, g0_1.length))
 else
  some (.inr (0, r41))
noncomputable def zbb (s1 : ByteArray) (s2 : ByteArray) (s10 : Bool) (s11 : TFunction) (g0 : List TBinding) (g0_1 : List TFunction) (g0_2 : List TRecordType) : Option (((Int × Nat) ⊕ (Int × (List TFunction)))) :=
 if s10 = true then
  zaR s11 >>= fun r33 =>
  if r33 = true then
   zcS s1 s2 s11 g0 g0_1 g0_2 >>= fun t =>
   some t
  else
   some (.inr (2, g0_1))
 else
  some (.inr (2, g0_1))
noncomputable def zdn (p1 : ByteArray) (p2 : ByteArray) (g0 : List TBinding) (g0_1 : List TFunction) (g0_2 : List TRecordType) : Option ((Int × Nat) ⊕ (Int × (List TFunction))) :=
 zcJ p1 >>= fun r15 =>
 if p2 = ⟨#[]⟩ then
  zbb p1 p2 r15.2.2.2 (TFunction.mk r15.1 r15.2.1 r15.2.2.1 r15.1) g0 g0_1 g0_2
 else
  zbb p1 p2 r15.2.2.2 (TFunction.mk r15.1 r15.2.1 r15.2.2.1 p2) g0 g0_1 g0_2
noncomputable def zbc (s1 : ByteArray) (s2 : ByteArray) (s3 : TScope) (s6 : TScope) : Option ((((List TBinding) × Nat × (List TRecordType) × Int) ⊕ (TScope × Int))) :=
 zdm s3 >>= fun r24 =>
 zdn s1 s2 r24.Vars r24.Functions r24.Types >>= fun r27 =>
 match r27 with
 | .inl r27 =>
  if r27.1 = 0 then
   some (.inl (r24.Vars, r27.2, r24.Types, 0))
  else
   some (.inr (TScope.mk ([]) ([]) ([]), r27.1))
 | .inr r27 =>
  if r27.1 = 0 then
   some (.inr (TScope.mk r24.Vars r27.2 r24.Types, 0))
  else
   some (.inr (TScope.mk ([]) ([]) ([]), r27.1))
noncomputable def zcx (p0 : TScope) (p1 : ByteArray) (p2 : ByteArray) : Option (((List TBinding) × Nat × (List TRecordType) × Int) ⊕ (TScope × Int)) :=
 zei p0 >>= fun r11 =>
 if r11 = true then
  if p2 = ⟨#[]⟩ then
   zbc p1 p2 p0 (TScope.mk ([]) ([]) ([]))
  else
   zcz p2 >>= fun r18 =>
   if r18 = true then
    zbc p1 p2 p0 (TScope.mk ([]) ([]) ([]))
   else
    some (.inr (TScope.mk ([]) ([]) ([]), 1))
 else
  some (.inr (TScope.mk ([]) ([]) ([]), 1))
end Go.Vx.DfZ
