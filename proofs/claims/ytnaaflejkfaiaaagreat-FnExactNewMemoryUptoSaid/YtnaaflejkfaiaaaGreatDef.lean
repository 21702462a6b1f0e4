/-
  The program's functions as plain functions.
-/
import Derived.Test.YtnaaflejkfaiaaaGreatTypes
import Derived.Test.YtnaaflejkfaiaaaGreatVxD
import Derived.Test.YtnaaflejkfaiaaaGreatVxE
set_option linter.unusedVariables false
set_option linter.unusedSimpArgs false
namespace Go.Vx.NmZ
set_option linter.unusedVariables false
set_option linter.unusedSimpArgs false
set_option maxRecDepth 10000
set_option maxHeartbeats 2000000
noncomputable def zdL (p0 : Int) (p1 : Int) (p2 : Int) : Option Bool :=
 if p0 ≥ p1 then
  some (decide (p0 ≤ p2))
 else
  some false
noncomputable def zeI (p0 : TValue) (p1 : Bool) (p2 : Bool) (p3 : Bool) : Option Bool :=
 if p1 = true then
  if p2 = true then
   if p3 = true then
    some true
   else
    some (decide (p0.Ref = 0))
  else
   if p0.Text = ⟨#[]⟩ then
    if p3 = true then
     some true
    else
     some (decide (p0.Ref = 0))
   else
    some false
 else
  if p0.Num = 0 then
   if p2 = true then
    if p3 = true then
     some true
    else
     some (decide (p0.Ref = 0))
   else
    if p0.Text = ⟨#[]⟩ then
     if p3 = true then
      some true
     else
      some (decide (p0.Ref = 0))
    else
     some false
  else
   some false
noncomputable def zhr (p0 : Int) : Option Bool :=
 if p0 ≥ 65 then
  if p0 ≤ 90 then
   some true
  else
   if p0 ≥ 97 then
    some (decide (p0 ≤ 122))
   else
    some false
 else
  if p0 ≥ 97 then
   some (decide (p0 ≤ 122))
  else
   some false
noncomputable def zkz (p0 : Int) : Option Bool :=
 if p0 ≥ 48 then
  some (decide (p0 ≤ 57))
 else
  some false
noncomputable def zcS (s0 : ByteArray) (s1 : Int) : Option Int :=
 if s1 < (s0.size : Int) then
  idxB s0 s1 >>= fun b24 =>
  zhr (b24.toNat : Int) >>= fun r25 =>
  if r25 = true then
   zcS s0 (IntKind.wrap .i64 (s1 + 1))
  else
   zkz (b24.toNat : Int) >>= fun r30 =>
   if r30 = true then
    zcS s0 (IntKind.wrap .i64 (s1 + 1))
   else
    if (b24.toNat : Int) = 95 then
     zcS s0 (IntKind.wrap .i64 (s1 + 1))
    else
     some s1
 else
  some s1
 partial_fixpoint
noncomputable def zfL (s0 : ByteArray) (s1 : Int) : Option Int :=
 zcS s0 s1 >>= fun t =>
 some t
noncomputable def zif (p0 : ByteArray) (p1 : Int) : Option Int :=
 if p1 ≥ (p0.size : Int) then
  some p1
 else
  idxB p0 p1 >>= fun b12 =>
  zhr (b12.toNat : Int) >>= fun r13 =>
  if r13 = true then
   zfL p0 p1
  else
   some p1
noncomputable def zed (p0 : ByteArray) : Option Bool :=
 if p0 = ⟨#[]⟩ then
  some false
 else
  if (p0.size : Int) ≤ 12 then
   zif p0 0 >>= fun r12 =>
   some (decide (r12 = (p0.size : Int)))
  else
   some false
noncomputable def zee (s1 : TValue) (s45 : Bool) : Option (Bool ⊕ Bool) :=
 if s45 = true then
  zeI s1 false true false >>= fun r49 =>
  if r49 = true then
   zed s1.Text >>= fun r53 =>
   some (.inr r53)
  else
   some (.inr false)
 else
  some (.inl false)
noncomputable def zcT (s1 : TValue) (s4 : Int) (s34 : Bool) : Option (Unit ⊕ Bool) :=
 if s34 = true then
  zeI s1 false false true >>= fun r39 =>
  if r39 = true then
   zdL s1.Ref 1 1000000 >>= fun r43 =>
   some (.inr r43)
  else
   some (.inr false)
 else
  if s4 = 7 then
   zee s1 true >>= fun t =>
   match t with
   | .inl t =>
    some (.inl ())
   | .inr t =>
    some (.inr t)
  else
   zee s1 (decide (s4 = 8)) >>= fun t =>
   match t with
   | .inl t =>
    some (.inl ())
   | .inr t =>
    some (.inr t)
noncomputable def zdS (p0 : TValue) : Option Bool :=
 if p0.Kind = 1 then
  zeI p0 false true false >>= fun r8 =>
  if r8 = true then
   some (decide ((p0.Text.size : Int) ≤ 200))
  else
   some false
 else
  if p0.Kind = 2 then
   zeI p0 true false false >>= fun r18 =>
   if r18 = true then
    zdL p0.Num (-1000000000000) 1000000000000 >>= fun r22 =>
    some r22
   else
    some false
  else
   if p0.Kind = 3 then
    zeI p0 false true false >>= fun r27 =>
    if r27 = true then
     zdL (p0.Text.size : Int) 1 1200 >>= fun r32 =>
     some r32
    else
     some false
   else
    if p0.Kind = 4 then
     zcT p0 p0.Kind true >>= fun t =>
     match t with
     | .inl t =>
      some false
     | .inr t =>
      some t
    else
     if p0.Kind = 5 then
      zcT p0 p0.Kind true >>= fun t =>
      match t with
      | .inl t =>
       some false
      | .inr t =>
       some t
     else
      zcT p0 p0.Kind (decide (p0.Kind = 6)) >>= fun t =>
      match t with
      | .inl t =>
       some false
      | .inr t =>
       some t
noncomputable def zdM (s0 : List TValue) (s1 : Int) (s5 : Int) : Option (Unit ⊕ Bool) :=
 if s5 < (s0.length : Int) then
  idx s0 s5 >>= fun a18 =>
  zdS a18 >>= fun r20 =>
  if r20 = true then
   zdM s0 s1 (IntKind.wrap .i64 (s5 + 1))
  else
   some (.inr false)
 else
  some (.inl ())
 partial_fixpoint
noncomputable def zcv (p0 : List TValue) (p1 : Int) : Option Bool :=
 if (p0.length : Int) > p1 then
  some false
 else
  zdM p0 p1 0 >>= fun t =>
  match t with
  | .inl t =>
   some true
  | .inr t =>
   some t
noncomputable def zjm (p0 : TValue) (p1 : TValue) : Option Bool :=
 some ((decide (p0.Kind = p1.Kind)) && ((decide (p0.Num = p1.Num)) && ((decide (p0.Text = p1.Text)) && (decide (p0.Ref = p1.Ref)))))
noncomputable def zff (s0 : List TValue) (s3 : Int) (s4 : Int) : Option (Unit ⊕ Bool) :=
 if s4 < s3 then
  idx s0 s3 >>= fun a18 =>
  idx s0 s4 >>= fun a22 =>
  zjm a18 a22 >>= fun r24 =>
  if r24 = true then
   some (.inr false)
  else
   zff s0 s3 (IntKind.wrap .i64 (s4 + 1))
 else
  some (.inl ())
 partial_fixpoint
noncomputable def zfg (s0 : List TValue) (s3 : Int) : Option (Unit ⊕ Bool) :=
 if s3 < (s0.length : Int) then
  zff s0 s3 0 >>= fun t =>
  match t with
  | .inl t =>
   zfg s0 (IntKind.wrap .i64 (s3 + 1))
  | .inr t =>
   some (.inr t)
 else
  some (.inl ())
 partial_fixpoint
noncomputable def zfy (p0 : List TValue) : Option Bool :=
 zfg p0 0 >>= fun t =>
 match t with
 | .inl t =>
  some true
 | .inr t =>
  some t
noncomputable def zef (s0 : List TValue) (s3 : Int) : Option (Unit ⊕ Bool) :=
 if s3 < (s0.length : Int) then
  idx s0 s3 >>= fun a12 =>
  if a12.Kind = 1 then
   zed a12.Text >>= fun r22 =>
   if r22 = true then
    zef s0 (IntKind.wrap .i64 (s3 + 1))
   else
    some (.inr false)
  else
   some (.inr false)
 else
  some (.inl ())
 partial_fixpoint
noncomputable def zfM (p0 : List TValue) : Option Bool :=
 zef p0 0 >>= fun t =>
 match t with
 | .inl t =>
  if (p0.length : Int) ≥ 1 then
   zcv p0 6 >>= fun r30 =>
   if r30 = true then
    zfy p0 >>= fun r34 =>
    some r34
   else
    some false
  else
   some false
 | .inr t =>
  some t
noncomputable def zgG (s1 : TObject) : Option Bool :=
 if s1.Kind = 1 then
  if s1.Name = ⟨#[]⟩ then
   zdL s1.Low (-1000) 1000 >>= fun r23 =>
   if r23 = true then
    if (s1.Keys.length : Int) = 0 then
     some ((decide (s1.Default.Kind = 0)) && ((decide (s1.Default.Num = 0)) && ((decide (s1.Default.Text = ByteArray.empty)) && (decide (s1.Default.Ref = 0)))))
    else
     some false
   else
    some false
  else
   some false
 else
  if s1.Kind = 2 then
   if s1.Name = ⟨#[]⟩ then
    if s1.Low = 0 then
     if (s1.Keys.length : Int) = (s1.Vals.length : Int) then
      zcv s1.Keys 30 >>= fun r59 =>
      if r59 = true then
       zfy s1.Keys >>= fun r64 =>
       if r64 = true then
        zdS s1.Default >>= fun r69 =>
        some r69
       else
        some false
      else
       some false
     else
      some false
    else
     some false
   else
    some false
  else
   if s1.Kind = 3 then
    zed s1.Name >>= fun r75 =>
    if r75 = true then
     if s1.Low = 0 then
      if (s1.Keys.length : Int) = (s1.Vals.length : Int) then
       zfM s1.Keys >>= fun r93 =>
       if r93 = true then
        some ((decide (s1.Default.Kind = 0)) && ((decide (s1.Default.Num = 0)) && ((decide (s1.Default.Text = ByteArray.empty)) && (decide (s1.Default.Ref = 0)))))
       else
        some false
      else
       some false
     else
      some false
    else
     some false
   else
    some false
noncomputable def zjn (p0 : TObject) : Option Bool :=
 zdL p0.Id 1 1000000 >>= fun r5 =>
 if r5 = true then
  zcv p0.Vals 30 >>= fun r10 =>
  if r10 = true then
   zgG p0
  else
   some false
 else
  some false
noncomputable def zkA (p0 : TValue) : Option Bool :=
 zdL p0.Kind 4 6 >>= fun r5 =>
 some r5
noncomputable def zig (s1 : Int) (g0 : Int) (g0_1 : List TObject) (s5 : Int) : Option (Unit ⊕ Int) :=
 if s5 < (g0_1.length : Int) then
  idx g0_1 s5 >>= fun a20 =>
  if a20.Id = s1 then
   some (.inr s5)
  else
   zig s1 g0 g0_1 (IntKind.wrap .i64 (s5 + 1))
 else
  some (.inl ())
 partial_fixpoint
noncomputable def zmO (p1 : Int) (g0 : Int) (g0_1 : List TObject) : Option Int :=
 zig p1 g0 g0_1 0 >>= fun t =>
 match t with
 | .inl t =>
  some (-1)
 | .inr t =>
  some t
noncomputable def zfN (p0 : Int) : Option Int :=
 some (IntKind.wrap .i64 (IntKind.wrap .i64 (p0 - 4) + 1))
noncomputable def zih (p1 : TValue) (g0 : Int) (g0_1 : List TObject) : Option Bool :=
 zdS p1 >>= fun r7 =>
 if r7 = true then
  zkA p1 >>= fun r10 =>
  if r10 = true then
   zmO p1.Ref g0 g0_1 >>= fun r15 =>
   if r15 ≥ 0 then
    idx g0_1 r15 >>= fun a24 =>
    zfN p1.Kind >>= fun r29 =>
    some (decide (a24.Kind = r29))
   else
    some false
  else
   some true
 else
  some false
noncomputable def zgH (s1 : List TValue) (g0 : Int) (g0_1 : List TObject) (s5 : Int) : Option (Unit ⊕ Bool) :=
 if s5 < (s1.length : Int) then
  idx s1 s5 >>= fun a15 =>
  zih a15 g0 g0_1 >>= fun r17 =>
  if r17 = true then
   zgH s1 g0 g0_1 (IntKind.wrap .i64 (s5 + 1))
  else
   some (.inr false)
 else
  some (.inl ())
 partial_fixpoint
noncomputable def zhs (p1 : List TValue) (g0 : Int) (g0_1 : List TObject) : Option Bool :=
 zgH p1 g0 g0_1 0 >>= fun t =>
 match t with
 | .inl t =>
  some true
 | .inr t =>
  some t
noncomputable def zmP (p1 : Int) (p1_1 : Int) (p1_2 : ByteArray) (p1_3 : Int) (p1_4 : List TValue) (p1_5 : List TValue) (p1_6 : Int) (p1_7 : Int) (p1_8 : ByteArray) (p1_9 : Int) (g0 : Int) (g0_1 : List TObject) : Option Bool :=
 zhs p1_4 g0 g0_1 >>= fun r10 =>
 if r10 = true then
  zhs p1_5 g0 g0_1 >>= fun r17 =>
  if r17 = true then
   if p1_1 = 2 then
    zih (TValue.mk p1_6 p1_7 p1_8 p1_9) g0 g0_1 >>= fun r31 =>
    some r31
   else
    some true
  else
   some false
 else
  some false
noncomputable def ziK (g0 : Int) (g0_1 : List TObject) (s3 : Int) : Option (Unit ⊕ Bool) :=
 if s3 < (g0_1.length : Int) then
  idx g0_1 s3 >>= fun a34 =>
  zjn a34 >>= fun r37 =>
  if r37 = true then
   if a34.Id > g0 then
    some (.inr false)
   else
    if s3 > 0 then
     idx g0_1 (IntKind.wrap .i64 (s3 - 1)) >>= fun a58 =>
     if a58.Id ≥ a34.Id then
      some (.inr false)
     else
      ziK g0 g0_1 (IntKind.wrap .i64 (s3 + 1))
    else
     ziK g0 g0_1 (IntKind.wrap .i64 (s3 + 1))
  else
   some (.inr false)
 else
  some (.inl ())
 partial_fixpoint
noncomputable def zkB (g0 : Int) (g0_1 : List TObject) (s5 : Int) : Option (Unit ⊕ Bool) :=
 if s5 < (g0_1.length : Int) then
  idx g0_1 s5 >>= fun a81 =>
  zmP a81.Id a81.Kind a81.Name a81.Low a81.Keys a81.Vals a81.Default.Kind a81.Default.Num a81.Default.Text a81.Default.Ref g0 g0_1 >>= fun r82 =>
  if r82 = true then
   zkB g0 g0_1 (IntKind.wrap .i64 (s5 + 1))
  else
   some (.inr false)
 else
  some (.inl ())
 partial_fixpoint
noncomputable def ziL (g0 : Int) (g0_1 : List TObject) : Option Bool :=
 ziK g0 g0_1 0 >>= fun t =>
 match t with
 | .inl t =>
  zkB g0 g0_1 0 >>= fun t_1 =>
  match t_1 with
  | .inl t_1 =>
   some true
  | .inr t_1 =>
   some t_1
 | .inr t =>
  some t
noncomputable def zmQ (g0 : Int) (g0_1 : List TObject) : Option Bool :=
 zdL g0 0 1000000 >>= fun r10 =>
 if r10 = true then
  if (g0_1.length : Int) > 40 then
   some false
  else
   ziL g0 g0_1
 else
  some false
noncomputable def zeJ (p0 : THeap) : Option Bool :=
 zmQ p0.Next p0.Objects >>= fun r3 =>
 some r3
noncomputable def zpY (p0 : TValue) : Option Bool :=
 some ((decide (p0.Kind = 1)) && ((decide (p0.Num = 0)) && ((decide (p0.Text = ByteArray.empty)) && (decide (p0.Ref = 0)))))
noncomputable def zkC (s0 : List ByteArray) (s1 : ByteArray) (s5 : Int) : Option (Unit ⊕ Int) :=
 if s5 < (s0.length : Int) then
  idx s0 s5 >>= fun a14 =>
  if a14 = s1 then
   some (.inr s5)
  else
   zkC s0 s1 (IntKind.wrap .i64 (s5 + 1))
 else
  some (.inl ())
 partial_fixpoint
noncomputable def zst (p0 : List ByteArray) (p1 : ByteArray) : Option Int :=
 zkC p0 p1 0 >>= fun t =>
 match t with
 | .inl t =>
  some (-1)
 | .inr t =>
  some t
noncomputable def zht (s0 : List ByteArray) (s3 : Int) : Option (Unit ⊕ Bool) :=
 if s3 < (s0.length : Int) then
  idx s0 s3 >>= fun a12 =>
  zed a12 >>= fun r14 =>
  if r14 = true then
   zst s0 a12 >>= fun r22 =>
   if r22 = s3 then
    zht s0 (IntKind.wrap .i64 (s3 + 1))
   else
    some (.inr false)
  else
   some (.inr false)
 else
  some (.inl ())
 partial_fixpoint
noncomputable def ziM (p0 : List ByteArray) : Option Bool :=
 zht p0 0 >>= fun t =>
 match t with
 | .inl t =>
  some true
 | .inr t =>
  some t
noncomputable def zfh (s1 : TFunction) : Option Bool :=
 chk (s1.Params.length ≤ most) >>= fun _ =>
 app s1.Params s1.Locals >>= fun c31 =>
 ziM c31 >>= fun r32 =>
 some r32
noncomputable def zhu (p0 : TFunction) : Option Bool :=
 zed p0.Name >>= fun r5 =>
 if r5 = true then
  zed p0.Label >>= fun r10 =>
  if r10 = true then
   if (p0.Params.length : Int) > 6 then
    some false
   else
    if (p0.Locals.length : Int) > 6 then
     some false
    else
     zfh p0
  else
   some false
 else
  some false
noncomputable def zmR (p0 : TRecordType) : Option Bool :=
 zed p0.Name >>= fun r5 =>
 if r5 = true then
  zdL (p0.Fields.length : Int) 1 6 >>= fun r10 =>
  if r10 = true then
   ziM p0.Fields >>= fun r15 =>
   some r15
  else
   some false
 else
  some false
noncomputable def zeg (s1 : TScope) (s3 : Int) : Option (Unit ⊕ Bool) :=
 if s3 < (s1.Vars.length : Int) then
  idx s1.Vars s3 >>= fun a33 =>
  zed a33.Name >>= fun r37 =>
  if r37 = true then
   zdS a33.Value >>= fun r42 =>
   if r42 = true then
    zpY a33.Value >>= fun r48 =>
    if r48 = true then
     some (.inr false)
    else
     if s3 > 0 then
      idx s1.Vars (IntKind.wrap .i64 (s3 - 1)) >>= fun a58 =>
      if (Op.bytesLess a58.Name.toList a33.Name.toList) = true then
       zeg s1 (IntKind.wrap .i64 (s3 + 1))
      else
       some (.inr false)
     else
      zeg s1 (IntKind.wrap .i64 (s3 + 1))
   else
    some (.inr false)
  else
   some (.inr false)
 else
  some (.inl ())
 partial_fixpoint
noncomputable def zeh (s1 : TScope) (s5 : Int) : Option (Unit ⊕ Bool) :=
 if s5 < (s1.Functions.length : Int) then
  idx s1.Functions s5 >>= fun a76 =>
  zhu a76 >>= fun r78 =>
  if r78 = true then
   if s5 > 0 then
    idx s1.Functions (IntKind.wrap .i64 (s5 - 1)) >>= fun a88 =>
    if (Op.bytesLess a88.Name.toList a76.Name.toList) = true then
     zeh s1 (IntKind.wrap .i64 (s5 + 1))
    else
     some (.inr false)
   else
    zeh s1 (IntKind.wrap .i64 (s5 + 1))
  else
   some (.inr false)
 else
  some (.inl ())
 partial_fixpoint
noncomputable def zei (s1 : TScope) (s6 : Int) : Option (Unit ⊕ Bool) :=
 if s6 < (s1.Types.length : Int) then
  idx s1.Types s6 >>= fun a110 =>
  zmR a110 >>= fun r112 =>
  if r112 = true then
   if s6 > 0 then
    idx s1.Types (IntKind.wrap .i64 (s6 - 1)) >>= fun a122 =>
    if (Op.bytesLess a122.Name.toList a110.Name.toList) = true then
     zei s1 (IntKind.wrap .i64 (s6 + 1))
    else
     some (.inr false)
   else
    zei s1 (IntKind.wrap .i64 (s6 + 1))
  else
   some (.inr false)
 else
  some (.inl ())
 partial_fixpoint
noncomputable def zej (s1 : TScope) : Option Bool :=
 zeg s1 0 >>= fun t =>
 match t with
 | .inl t =>
  zeh s1 0 >>= fun t_1 =>
  match t_1 with
  | .inl t_1 =>
   zei s1 0 >>= fun t_2 =>
   match t_2 with
   | .inl t_2 =>
    some true
   | .inr t_2 =>
    some t_2
  | .inr t_1 =>
   some t_1
 | .inr t =>
  some t
noncomputable def zdT (p0 : TScope) : Option Bool :=
 if (p0.Vars.length : Int) > 40 then
  some false
 else
  if (p0.Functions.length : Int) > 12 then
   some false
  else
   if (p0.Types.length : Int) > 8 then
    some false
   else
    zej p0
noncomputable def zek (s0 : List ByteArray) (s1 : Int) (s2 : Int) (s7 : Int) : Option (Unit ⊕ Bool) :=
 if s7 < (s0.length : Int) then
  idx s0 s7 >>= fun a20 =>
  if (a20.size : Int) > s2 then
   some (.inr false)
  else
   zek s0 s1 s2 (IntKind.wrap .i64 (s7 + 1))
 else
  some (.inl ())
 partial_fixpoint
noncomputable def zeK (p0 : List ByteArray) (p1 : Int) (p2 : Int) : Option Bool :=
 if (p0.length : Int) > p1 then
  some false
 else
  zek p0 p1 p2 0 >>= fun t =>
  match t with
  | .inl t =>
   some true
  | .inr t =>
   some t
noncomputable def zii (s1 : TFile) : Option Bool :=
 zdL s1.At 0 (s1.Lines.length : Int) >>= fun r24 =>
 if r24 = true then
  if s1.Mode = 1 then
   some true
  else
   some (decide (s1.At = 0))
 else
  some false
noncomputable def zmS (p0 : TFile) : Option Bool :=
 zed p0.Name >>= fun r5 =>
 if r5 = true then
  zeK p0.Lines 40 200 >>= fun r10 =>
  if r10 = true then
   zdL p0.Mode 0 3 >>= fun r16 =>
   if r16 = true then
    zii p0
   else
    some false
  else
   some false
 else
  some false
noncomputable def ziN (g0 : List ByteArray) (g0_1 : Int) (g0_2 : List ByteArray) (g0_3 : List TFile) (g0_4 : List ByteArray) (s3 : Int) : Option (Unit ⊕ Bool) :=
 if s3 < (g0_3.length : Int) then
  idx g0_3 s3 >>= fun a61 =>
  zmS a61 >>= fun r63 =>
  if r63 = true then
   if s3 > 0 then
    idx g0_3 (IntKind.wrap .i64 (s3 - 1)) >>= fun a75 =>
    if (Op.bytesLess a75.Name.toList a61.Name.toList) = true then
     ziN g0 g0_1 g0_2 g0_3 g0_4 (IntKind.wrap .i64 (s3 + 1))
    else
     some (.inr false)
   else
    ziN g0 g0_1 g0_2 g0_3 g0_4 (IntKind.wrap .i64 (s3 + 1))
  else
   some (.inr false)
 else
  some (.inl ())
 partial_fixpoint
noncomputable def ziO (g0 : List ByteArray) (g0_1 : Int) (g0_2 : List ByteArray) (g0_3 : List TFile) (g0_4 : List ByteArray) : Option Bool :=
 ziN g0 g0_1 g0_2 g0_3 g0_4 0 >>= fun t =>
 match t with
 | .inl t =>
  some true
 | .inr t =>
  some t
noncomputable def zpZ (g0 : List ByteArray) (g0_1 : Int) (g0_2 : List ByteArray) (g0_3 : List TFile) (g0_4 : List ByteArray) : Option Bool :=
 zeK g0 100 200 >>= fun r8 =>
 if r8 = true then
  zdL g0_1 0 (g0.length : Int) >>= fun r20 =>
  if r20 = true then
   zeK g0_2 100 200 >>= fun r28 =>
   if r28 = true then
    if (g0_3.length : Int) > 6 then
     some false
    else
     zeK g0_4 200 1300 >>= fun r44 =>
     if r44 = true then
      ziO g0 g0_1 g0_2 g0_3 g0_4
     else
      some false
   else
    some false
  else
   some false
 else
  some false
noncomputable def zdz (p0 : TConsole) : Option Bool :=
 zpZ p0.Input p0.At p0.Output p0.Files p0.Trace >>= fun r3 =>
 some r3
noncomputable def zfO (s1 : TScope) (s3 : List TValue) (s4 : Int) : Option ((List TValue)) :=
 if s4 < (s1.Vars.length : Int) then
  idx s1.Vars s4 >>= fun a20 =>
  app s3 ([a20.Value]) >>= fun c24 =>
  zfO s1 c24 (IntKind.wrap .i64 (s4 + 1))
 else
  some s3
 partial_fixpoint
noncomputable def zeY (p0 : TScope) : Option ((List TValue)) :=
 zdT p0 >>= fun r6 =>
 if r6 = true then
  zfO p0 ([]) 0 >>= fun t =>
  some t
 else
  some ([])
noncomputable def zkD (p0 : THeap) (p1 : TValue) : Option Bool :=
 zmQ p0.Next p0.Objects >>= fun r5 =>
 if r5 = true then
  zih p1 p0.Next p0.Objects >>= fun r8 =>
  some r8
 else
  some false
noncomputable def zij (s1 : List TValue) (s2 : THeap) (s5 : Int) : Option (Unit ⊕ Bool) :=
 if s5 < (s1.length : Int) then
  idx s1 s5 >>= fun a15 =>
  zkD s2 a15 >>= fun r17 =>
  if r17 = true then
   zij s1 s2 (IntKind.wrap .i64 (s5 + 1))
  else
   some (.inr false)
 else
  some (.inl ())
 partial_fixpoint
noncomputable def zik (p0 : THeap) (p1 : List TValue) : Option Bool :=
 zij p1 p0 0 >>= fun t =>
 match t with
 | .inl t =>
  zeJ p0 >>= fun r20 =>
  some r20
 | .inr t =>
  some t
noncomputable def zcY (p0 : TMemory) : Option Bool :=
 zeJ p0.Heap >>= fun r5 =>
 if r5 = true then
  zdT p0.Scope >>= fun r9 =>
  if r9 = true then
   zdz p0.Console >>= fun r14 =>
   if r14 = true then
    zeY p0.Scope >>= fun r21 =>
    zik p0.Heap r21 >>= fun r22 =>
    some r22
   else
    some false
  else
   some false
 else
  some false
noncomputable def zhv (p0 : List ByteArray) : Option (TMemory × Bool) :=
 chk (p0.length ≤ most) >>= fun _ =>
 zcY (TMemory.mk (THeap.mk 0 ([])) (TScope.mk ([]) ([]) ([])) (TConsole.mk p0 0 ([]) ([]) ([]))) >>= fun r11 =>
 if r11 = true then
  some (TMemory.mk (THeap.mk 0 ([])) (TScope.mk ([]) ([]) ([])) (TConsole.mk p0 0 ([]) ([]) ([])), true)
 else
  some (TMemory.mk (THeap.mk 0 ([])) (TScope.mk ([]) ([]) ([])) (TConsole.mk ([]) 0 ([]) ([]) ([])), false)
noncomputable def zdD (p0 : Int) (p1 : Int) (p2 : Int) : Option Bool :=
 if p0 ≥ p1 then
  some (decide (p0 ≤ p2))
 else
  some false
noncomputable def zgk (p0 : Int) : Option Bool :=
 zdD p0 1 1000000 >>= fun r4 =>
 some r4
noncomputable def ziP (p0 : Int) : Option Bool :=
 if p0 ≥ 65 then
  if p0 ≤ 90 then
   some true
  else
   if p0 ≥ 97 then
    some (decide (p0 ≤ 122))
   else
    some false
 else
  if p0 ≥ 97 then
   some (decide (p0 ≤ 122))
  else
   some false
noncomputable def zmT (p0 : Int) : Option Bool :=
 if p0 ≥ 48 then
  some (decide (p0 ≤ 57))
 else
  some false
noncomputable def zil (p0 : Int) : Option Bool :=
 ziP p0 >>= fun r4 =>
 if r4 = true then
  some true
 else
  zmT p0 >>= fun r7 =>
  if r7 = true then
   some true
  else
   some (decide (p0 = 95))
noncomputable def zfi (s0 : List Int) (s7 : List Int) (s8 : Int) (s9 : Int) : Option (Unit ⊕ Bool) :=
 if s9 < s8 then
  idx s7 s9 >>= fun a11 =>
  zil a11 >>= fun r15 =>
  if r15 = true then
   zfi s0 s7 s8 (IntKind.wrap .i64 (s9 + 1))
  else
   some (.inr false)
 else
  some (.inl ())
 partial_fixpoint
noncomputable def zhw (p0 : List Int) : Option Bool :=
 zfi p0 p0 (p0.length : Int) 0 >>= fun t =>
 match t with
 | .inl t =>
  some true
 | .inr t =>
  some t
noncomputable def zel (p0 : ByteArray) : Option Bool :=
 if (p0.size : Int) ≥ 1 then
  if (p0.size : Int) ≤ 12 then
   idxBN p0 0 >>= fun b13 =>
   ziP (b13.toNat : Int) >>= fun r14 =>
   if r14 = true then
    zhw (strI p0) >>= fun r19 =>
    some r19
   else
    some false
  else
   some false
 else
  some false
noncomputable def zem (s1 : TValue) (s65 : Bool) : Option (Bool ⊕ Bool) :=
 if s65 = true then
  if s1.Num = 0 then
   if s1.Ref = 0 then
    zel s1.Text >>= fun r78 =>
    some (.inr r78)
   else
    some (.inr false)
  else
   some (.inr false)
 else
  some (.inl false)
noncomputable def zcU (s1 : TValue) (s4 : Int) (s49 : Bool) : Option (Unit ⊕ Bool) :=
 if s49 = true then
  if s1.Num = 0 then
   if s1.Text = ByteArray.empty then
    zgk s1.Ref >>= fun r63 =>
    some (.inr r63)
   else
    some (.inr false)
  else
   some (.inr false)
 else
  if s4 = 7 then
   zem s1 true >>= fun t =>
   match t with
   | .inl t =>
    some (.inl ())
   | .inr t =>
    some (.inr t)
  else
   zem s1 (decide (s4 = 8)) >>= fun t =>
   match t with
   | .inl t =>
    some (.inl ())
   | .inr t =>
    some (.inr t)
noncomputable def zck (p0 : TValue) : Option Bool :=
 if p0.Kind = 1 then
  if p0.Num = 0 then
   if p0.Ref = 0 then
    some (decide ((p0.Text.size : Int) ≤ 200))
   else
    some false
  else
   some false
 else
  if p0.Kind = 2 then
   if p0.Text = ByteArray.empty then
    if p0.Ref = 0 then
     zdD p0.Num (-1000000000000) 1000000000000 >>= fun r28 =>
     some r28
    else
     some false
   else
    some false
  else
   if p0.Kind = 3 then
    if p0.Num = 0 then
     if p0.Ref = 0 then
      if (p0.Text.size : Int) ≥ 1 then
       some (decide ((p0.Text.size : Int) ≤ 1200))
      else
       some false
     else
      some false
    else
     some false
   else
    if p0.Kind = 4 then
     zcU p0 p0.Kind true >>= fun t =>
     match t with
     | .inl t =>
      some false
     | .inr t =>
      some t
    else
     if p0.Kind = 5 then
      zcU p0 p0.Kind true >>= fun t =>
      match t with
      | .inl t =>
       some false
      | .inr t =>
       some t
     else
      zcU p0 p0.Kind (decide (p0.Kind = 6)) >>= fun t =>
      match t with
      | .inl t =>
       some false
      | .inr t =>
       some t
noncomputable def zeL (s0 : List TValue) (s7 : List TValue) (s8 : Int) (s9 : Int) : Option (Unit ⊕ Bool) :=
 if s9 < s8 then
  idx s7 s9 >>= fun a11 =>
  zck a11 >>= fun r15 =>
  if r15 = true then
   zeL s0 s7 s8 (IntKind.wrap .i64 (s9 + 1))
  else
   some (.inr false)
 else
  some (.inl ())
 partial_fixpoint
noncomputable def zeP (p0 : List TValue) : Option Bool :=
 zeL p0 p0 (p0.length : Int) 0 >>= fun t =>
 match t with
 | .inl t =>
  some true
 | .inr t =>
  some t
noncomputable def zav (s0 : List TValue) (s3 : TValue) (s7 : Int) (s8 : Int) : Option (Unit ⊕ Int) :=
 if s8 < s7 then
  idx s0 s8 >>= fun a14 =>
  if s3.Kind = a14.Kind then
   if s3.Num = a14.Num then
    if s3.Text = a14.Text then
     if s3.Ref = a14.Ref then
      some (.inr s8)
     else
      zav s0 s3 s7 (IntKind.wrap .i64 (s8 + 1))
    else
     zav s0 s3 s7 (IntKind.wrap .i64 (s8 + 1))
   else
    zav s0 s3 s7 (IntKind.wrap .i64 (s8 + 1))
  else
   zav s0 s3 s7 (IntKind.wrap .i64 (s8 + 1))
 else
  some (.inl ())
 partial_fixpoint
noncomputable def zcd (p0 : List TValue) (p1 : TValue) : Option Int :=
 zav p0 p1 (p0.length : Int) 0 >>= fun t =>
 match t with
 | .inl t =>
  some (-1)
 | .inr t =>
  some t
noncomputable def zbn (p0 : List TValue) (p1 : TValue) : Option Bool :=
 zcd p0 p1 >>= fun r7 =>
 some (decide (r7 ≥ 0))
noncomputable def zeM (s0 : List TValue) (s5 : List TValue) (s6 : Int) (s7 : Int) : Option (Unit ⊕ Bool) :=
 if s7 < s6 then
  idx s5 s7 >>= fun a10 =>
  subH s0 s7 >>= fun c14 =>
  zbn c14 a10 >>= fun r16 =>
  if r16 = true then
   some (.inr false)
  else
   zeM s0 s5 s6 (IntKind.wrap .i64 (s7 + 1))
 else
  some (.inl ())
 partial_fixpoint
noncomputable def zeQ (p0 : List TValue) : Option Bool :=
 zeM p0 p0 (p0.length : Int) 0 >>= fun t =>
 match t with
 | .inl t =>
  some true
 | .inr t =>
  some t
noncomputable def zlP (p0 : ByteArray) : Option TValue :=
 some (TValue.mk 1 0 p0 0)
noncomputable def zmU (p0 : TValue) : Option Bool :=
 zlP p0.Text >>= fun r6 =>
 if p0.Kind = r6.Kind then
  if p0.Num = r6.Num then
   if p0.Text = r6.Text then
    if p0.Ref = r6.Ref then
     zel p0.Text >>= fun r11 =>
     some r11
    else
     some false
   else
    some false
  else
   some false
 else
  some false
noncomputable def zdN (s0 : List TValue) (s7 : List TValue) (s8 : Int) (s9 : Int) : Option (Unit ⊕ Bool) :=
 if s9 < s8 then
  idx s7 s9 >>= fun a11 =>
  zmU a11 >>= fun r15 =>
  if r15 = true then
   zdN s0 s7 s8 (IntKind.wrap .i64 (s9 + 1))
  else
   some (.inr false)
 else
  some (.inl ())
 partial_fixpoint
noncomputable def zfj (p0 : List TValue) : Option Bool :=
 zdN p0 p0 (p0.length : Int) 0 >>= fun t =>
 match t with
 | .inl t =>
  some true
 | .inr t =>
  some t
noncomputable def zcw (s1 : TObject) (s3 : Bool) : Option Bool :=
 if s1.Low = 0 then
  if s3 = true then
   zck s1.Default >>= fun r74 =>
   if r74 = true then
    some (decide (s1.Name = ⟨#[]⟩))
   else
    some false
  else
   some false
 else
  some false
noncomputable def zbf (s1 : TObject) (s5 : Bool) : Option Bool :=
 if s1.Low = 0 then
  if s5 = true then
   if s1.Default.Kind = 0 then
    if s1.Default.Num = 0 then
     if s1.Default.Text = ByteArray.empty then
      if s1.Default.Ref = 0 then
       zel s1.Name >>= fun r124 =>
       some r124
      else
       some false
     else
      some false
    else
     some false
   else
    some false
  else
   some false
 else
  some false
noncomputable def zfk (s1 : TObject) : Option Bool :=
 if s1.Kind = 1 then
  zdD s1.Low (-1000) 1000 >>= fun r28 =>
  if r28 = true then
   if (s1.Keys.length : Int) = 0 then
    if s1.Default.Kind = 0 then
     if s1.Default.Num = 0 then
      if s1.Default.Text = ByteArray.empty then
       if s1.Default.Ref = 0 then
        some (decide (s1.Name = ⟨#[]⟩))
       else
        some false
      else
       some false
     else
      some false
    else
     some false
   else
    some false
  else
   some false
 else
  if s1.Kind = 2 then
   if (s1.Keys.length : Int) = (s1.Vals.length : Int) then
    zeP s1.Keys >>= fun r58 =>
    if r58 = true then
     zeQ s1.Keys >>= fun r63 =>
     zcw s1 r63 >>= fun t =>
     some t
    else
     zcw s1 false >>= fun t =>
     some t
   else
    zcw s1 false >>= fun t =>
    some t
  else
   if s1.Kind = 3 then
    if (s1.Keys.length : Int) ≥ 1 then
     if (s1.Keys.length : Int) ≤ 6 then
      if (s1.Keys.length : Int) = (s1.Vals.length : Int) then
       zfj s1.Keys >>= fun r102 =>
       if r102 = true then
        zeQ s1.Keys >>= fun r107 =>
        zbf s1 r107 >>= fun t =>
        some t
       else
        zbf s1 false >>= fun t =>
        some t
      else
       zbf s1 false >>= fun t =>
       some t
     else
      zbf s1 false >>= fun t =>
      some t
    else
     zbf s1 false >>= fun t =>
     some t
   else
    some false
noncomputable def zhx (p0 : TObject) : Option Bool :=
 zgk p0.Id >>= fun r8 =>
 if r8 = true then
  if (p0.Vals.length : Int) > 30 then
   some false
  else
   zeP p0.Vals >>= fun r19 =>
   if r19 = true then
    zfk p0
   else
    some false
 else
  some false
noncomputable def zen (s0 : List TObject) (s7 : List TObject) (s8 : Int) (s9 : Int) : Option (Unit ⊕ Bool) :=
 if s9 < s8 then
  idx s7 s9 >>= fun a11 =>
  zhx a11 >>= fun r15 =>
  if r15 = true then
   zen s0 s7 s8 (IntKind.wrap .i64 (s9 + 1))
  else
   some (.inr false)
 else
  some (.inl ())
 partial_fixpoint
noncomputable def zeo (p0 : List TObject) : Option Bool :=
 zen p0 p0 (p0.length : Int) 0 >>= fun t =>
 match t with
 | .inl t =>
  some true
 | .inr t =>
  some t
noncomputable def zbN (a b : List TValue) : Option (List TValue) := chk (a.length + b.length ≤ most) >>= fun _ => some (a ++ b)
noncomputable def zfP (p0 : TObject) : Option ((List TValue)) :=
 zbN p0.Keys p0.Vals >>= fun r9 =>
 if p0.Kind = 2 then
  app r9 ([p0.Default]) >>= fun c17 =>
  some c17
 else
  some r9
noncomputable def zqa (p0 : Int) : Option Bool :=
 zdD p0 4 6 >>= fun r4 =>
 some r4
noncomputable def zep (p0 : Int) : Option Bool :=
 some false
noncomputable def zeN (p0 : Int) (p1 : Int) : Option Int :=
 zep p0 >>= fun r8 =>
 zep p1 >>= fun r10 =>
 if r8 = true then
  if r10 = true then
   some 0
  else
   some (-1)
 else
  if r10 = true then
   some 1
  else
   if p0 < p1 then
    some (-1)
   else
    if p0 > p1 then
     some 1
    else
     some 0
noncomputable def zfz (p0 : TObject) (p1 : Int) : Option Int :=
 zeN p0.Id p1 >>= fun r8 =>
 some r8
noncomputable def zal (s0 : List TObject) (s1 : Int) (s8 : Int) (s9 : Int) (s10 : Int) : Option Int :=
 if s9 < s10 then
  idx s0 (IntKind.wrap .i64 ((IntKind.wrap .u64 (IntKind.wrap .i64 (s9 + s10))).fdiv (2 ^ (min 1 (IntKind.bits .u64))))) >>= fun a27 =>
  zfz a27 s1 >>= fun r30 =>
  if r30 < 0 then
   zal s0 s1 s8 (IntKind.wrap .i64 (IntKind.wrap .i64 ((IntKind.wrap .u64 (IntKind.wrap .i64 (s9 + s10))).fdiv (2 ^ (min 1 (IntKind.bits .u64)))) + 1)) s10
  else
   zal s0 s1 s8 s9 (IntKind.wrap .i64 ((IntKind.wrap .u64 (IntKind.wrap .i64 (s9 + s10))).fdiv (2 ^ (min 1 (IntKind.bits .u64)))))
 else
  some s9
 partial_fixpoint
noncomputable def zay (p0 : List TObject) (p1 : Int) : Option (Int × Bool) :=
 zal p0 p1 (p0.length : Int) 0 (p0.length : Int) >>= fun t =>
 if t < (p0.length : Int) then
  idx p0 t >>= fun a43 =>
  zfz a43 p1 >>= fun r46 =>
  some (t, (decide (r46 = 0)))
 else
  some (t, false)
noncomputable def zjo (p0 : THeap) (p1 : Int) : Option Int :=
 zay p0.Objects p1 >>= fun r11 =>
 if r11.2 = true then
  some r11.1
 else
  some (-1)
noncomputable def zim (p0 : Int) : Option Int :=
 some (IntKind.wrap .i64 (IntKind.wrap .i64 (p0 - 4) + 1))
noncomputable def zgI (s2 : THeap) (s3 : TValue) : Option Bool :=
 zjo s2 s3.Ref >>= fun r20 =>
 if r20 ≥ 0 then
  idx s2.Objects r20 >>= fun a27 =>
  zim s3.Kind >>= fun r32 =>
  some (decide (a27.Kind = r32))
 else
  some false
noncomputable def zjp (p0 : THeap) (p1 : TValue) : Option Bool :=
 zck p1 >>= fun r7 =>
 if r7 = true then
  zqa p1.Kind >>= fun r12 =>
  if r12 = true then
   zgI p0 p1
  else
   zck p1 >>= fun r16 =>
   some r16
 else
  zck p1 >>= fun r16 =>
  some r16
noncomputable def zdO (s0 : List TValue) (s1 : THeap) (s7 : List TValue) (s8 : Int) (s9 : Int) : Option (Unit ⊕ Bool) :=
 if s9 < s8 then
  idx s7 s9 >>= fun a11 =>
  zjp s1 a11 >>= fun r15 =>
  if r15 = true then
   zdO s0 s1 s7 s8 (IntKind.wrap .i64 (s9 + 1))
  else
   some (.inr false)
 else
  some (.inl ())
 partial_fixpoint
noncomputable def zbx (p0 : List TValue) (p1 : THeap) : Option Bool :=
 zdO p0 p1 p0 (p0.length : Int) 0 >>= fun t =>
 match t with
 | .inl t =>
  some true
 | .inr t =>
  some t
noncomputable def zhy (p0 : TObject) (g0 : Int) (g0_1 : List TObject) : Option Bool :=
 zfP p0 >>= fun r5 =>
 zbx r5 (THeap.mk g0 g0_1) >>= fun r8 =>
 some r8
noncomputable def zds (s0 : List TObject) (s7 : List TObject) (s8 : Int) (g0 : Int) (g0_1 : List TObject) (s9 : Int) : Option (Unit ⊕ Bool) :=
 if s9 < s8 then
  idx s7 s9 >>= fun a11 =>
  zhy a11 g0 g0_1 >>= fun r15 =>
  if r15 = true then
   zds s0 s7 s8 g0 g0_1 (IntKind.wrap .i64 (s9 + 1))
  else
   some (.inr false)
 else
  some (.inl ())
 partial_fixpoint
noncomputable def zcZ (p0 : List TObject) (g0 : Int) (g0_1 : List TObject) : Option Bool :=
 zds p0 p0 (p0.length : Int) g0 g0_1 0 >>= fun t =>
 match t with
 | .inl t =>
  some true
 | .inr t =>
  some t
noncomputable def zgJ (s1 : THeap) (s23 : List TObject) (s24 : Int) (s3 : Int) (s25 : Int) : Option (Unit ⊕ Bool) :=
 if s25 < s24 then
  idx s23 s25 >>= fun a27 =>
  if a27.Id ≤ s3 then
   some (.inr false)
  else
   if a27.Id > s1.Next then
    some (.inr false)
   else
    zgJ s1 s23 s24 a27.Id (IntKind.wrap .i64 (s25 + 1))
 else
  some (.inl ())
 partial_fixpoint
noncomputable def zeR (s1 : THeap) : Option Bool :=
 zgJ s1 s1.Objects (s1.Objects.length : Int) 0 0 >>= fun t =>
 match t with
 | .inl t =>
  zcZ s1.Objects s1.Next s1.Objects >>= fun r46 =>
  some r46
 | .inr t =>
  some t
noncomputable def zfQ (p0 : THeap) : Option Bool :=
 zdD p0.Next 0 1000000 >>= fun r8 =>
 if r8 = true then
  if (p0.Objects.length : Int) > 40 then
   some false
  else
   zeo p0.Objects >>= fun r19 =>
   if r19 = true then
    zeR p0
   else
    some false
 else
  some false
noncomputable def zeq (p0 : TBinding) : Option ByteArray :=
 some p0.Name
noncomputable def zcV (s0 : List TBinding) (s5 : Int) : Option (Unit ⊕ Bool) :=
 if s5 < (s0.length : Int) then
  idx s0 (IntKind.wrap .i64 (s5 - 1)) >>= fun a16 =>
  zeq a16 >>= fun r18 =>
  idx s0 s5 >>= fun a22 =>
  zeq a22 >>= fun r24 =>
  if (Op.bytesLess r18.toList r24.toList) = true then
   zcV s0 (IntKind.wrap .i64 (s5 + 1))
  else
   some (.inr false)
 else
  some (.inl ())
 partial_fixpoint
noncomputable def zcD (p0 : List TBinding) : Option Bool :=
 zcV p0 1 >>= fun t =>
 match t with
 | .inl t =>
  some true
 | .inr t =>
  some t
noncomputable def zdE (p0 : TFunction) : Option ByteArray :=
 some p0.Name
noncomputable def zcB (s0 : List TFunction) (s5 : Int) : Option (Unit ⊕ Bool) :=
 if s5 < (s0.length : Int) then
  idx s0 (IntKind.wrap .i64 (s5 - 1)) >>= fun a16 =>
  zdE a16 >>= fun r18 =>
  idx s0 s5 >>= fun a22 =>
  zdE a22 >>= fun r24 =>
  if (Op.bytesLess r18.toList r24.toList) = true then
   zcB s0 (IntKind.wrap .i64 (s5 + 1))
  else
   some (.inr false)
 else
  some (.inl ())
 partial_fixpoint
noncomputable def zcl (p0 : List TFunction) : Option Bool :=
 zcB p0 1 >>= fun t =>
 match t with
 | .inl t =>
  some true
 | .inr t =>
  some t
noncomputable def zgl (p0 : TRecordType) : Option ByteArray :=
 some p0.Name
noncomputable def zce (s0 : List TRecordType) (s5 : Int) : Option (Unit ⊕ Bool) :=
 if s5 < (s0.length : Int) then
  idx s0 (IntKind.wrap .i64 (s5 - 1)) >>= fun a16 =>
  zgl a16 >>= fun r18 =>
  idx s0 s5 >>= fun a22 =>
  zgl a22 >>= fun r24 =>
  if (Op.bytesLess r18.toList r24.toList) = true then
   zce s0 (IntKind.wrap .i64 (s5 + 1))
  else
   some (.inr false)
 else
  some (.inl ())
 partial_fixpoint
noncomputable def zbA (p0 : List TRecordType) : Option Bool :=
 zce p0 1 >>= fun t =>
 match t with
 | .inl t =>
  some true
 | .inr t =>
  some t
noncomputable def zvZ : Option TValue :=
 zlP (⟨#[]⟩) >>= fun r1 =>
 some r1
noncomputable def zqb (p0 : TValue) : Option Bool :=
 zvZ >>= fun r4 =>
 some ((decide (p0.Kind = r4.Kind)) && ((decide (p0.Num = r4.Num)) && ((decide (p0.Text = r4.Text)) && (decide (p0.Ref = r4.Ref)))))
noncomputable def zeO (p0 : TBinding) : Option Bool :=
 zel p0.Name >>= fun r5 =>
 if r5 = true then
  zck p0.Value >>= fun r9 =>
  if r9 = true then
   zqb p0.Value >>= fun r14 =>
   some (!r14)
  else
   some false
 else
  some false
noncomputable def zdP (s0 : List TBinding) (s7 : List TBinding) (s8 : Int) (s9 : Int) : Option (Unit ⊕ Bool) :=
 if s9 < s8 then
  idx s7 s9 >>= fun a11 =>
  zeO a11 >>= fun r15 =>
  if r15 = true then
   zdP s0 s7 s8 (IntKind.wrap .i64 (s9 + 1))
  else
   some (.inr false)
 else
  some (.inl ())
 partial_fixpoint
noncomputable def zdF (p0 : List TBinding) : Option Bool :=
 zdP p0 p0 (p0.length : Int) 0 >>= fun t =>
 match t with
 | .inl t =>
  some true
 | .inr t =>
  some t
noncomputable def zbo (a b : List ByteArray) : Option (List ByteArray) := chk (a.length + b.length ≤ most) >>= fun _ => some (a ++ b)
noncomputable def zer (s0 : List ByteArray) (s7 : List ByteArray) (s8 : Int) (s9 : Int) : Option (Unit ⊕ Bool) :=
 if s9 < s8 then
  idx s7 s9 >>= fun a11 =>
  zel a11 >>= fun r15 =>
  if r15 = true then
   zer s0 s7 s8 (IntKind.wrap .i64 (s9 + 1))
  else
   some (.inr false)
 else
  some (.inl ())
 partial_fixpoint
noncomputable def zes (p0 : List ByteArray) : Option Bool :=
 zer p0 p0 (p0.length : Int) 0 >>= fun t =>
 match t with
 | .inl t =>
  some true
 | .inr t =>
  some t
noncomputable def zad (p0 : List ByteArray) : Option (List ByteArray) := chk (p0.length ≤ most) >>= fun _ => some p0
noncomputable def zbO (p0 : List ByteArray) : Option (List ByteArray) := chk (p0.length ≤ most) >>= fun _ => some (zBq p0)
noncomputable def zbg (p0 : List ByteArray) : Option (List ByteArray) := chk (p0.length ≤ most) >>= fun _ => some (zta p0)
noncomputable def zfA (p0 : List ByteArray) : Option ((List ByteArray)) :=
 zbO p0 >>= fun r4 =>
 zbg r4 >>= fun r6 =>
 some r6
noncomputable def zbB (s1 : TFunction) (s3 : List ByteArray) (s4 : Bool) : Option Bool :=
 zel s1.Name >>= fun r23 =>
 if r23 = true then
  zel s1.Label >>= fun r27 =>
  if r27 = true then
   if s4 = true then
    zes s3 >>= fun r34 =>
    if r34 = true then
     zad s3 >>= fun r38 =>
     zfA r38 >>= fun r39 =>
     some (decide ((r39.length : Int) = (s3.length : Int)))
    else
     some false
   else
    some false
  else
   some false
 else
  some false
noncomputable def zet (p0 : TFunction) : Option Bool :=
 zbo p0.Params p0.Locals >>= fun r10 =>
 if (p0.Params.length : Int) ≤ 6 then
  zbB p0 r10 (decide ((p0.Locals.length : Int) ≤ 6))
 else
  zbB p0 r10 false
noncomputable def zdt (s0 : List TFunction) (s7 : List TFunction) (s8 : Int) (s9 : Int) : Option (Unit ⊕ Bool) :=
 if s9 < s8 then
  idx s7 s9 >>= fun a11 =>
  zet a11 >>= fun r15 =>
  if r15 = true then
   zdt s0 s7 s8 (IntKind.wrap .i64 (s9 + 1))
  else
   some (.inr false)
 else
  some (.inl ())
 partial_fixpoint
noncomputable def zda (p0 : List TFunction) : Option Bool :=
 zdt p0 p0 (p0.length : Int) 0 >>= fun t =>
 match t with
 | .inl t =>
  some true
 | .inr t =>
  some t
noncomputable def zgK (s0 : List ByteArray) : Option Bool :=
 zad s0 >>= fun r17 =>
 zfA r17 >>= fun r18 =>
 some (decide ((r18.length : Int) = (s0.length : Int)))
noncomputable def zjq (p0 : List ByteArray) : Option Bool :=
 if (p0.length : Int) < 1 then
  some false
 else
  if (p0.length : Int) > 6 then
   some false
  else
   zes p0 >>= fun r13 =>
   if r13 = true then
    zgK p0
   else
    some false
noncomputable def zdu (p0 : TRecordType) : Option Bool :=
 zel p0.Name >>= fun r5 =>
 if r5 = true then
  zjq p0.Fields >>= fun r9 =>
  some r9
 else
  some false
noncomputable def zcC (s0 : List TRecordType) (s7 : List TRecordType) (s8 : Int) (s9 : Int) : Option (Unit ⊕ Bool) :=
 if s9 < s8 then
  idx s7 s9 >>= fun a11 =>
  zdu a11 >>= fun r15 =>
  if r15 = true then
   zcC s0 s7 s8 (IntKind.wrap .i64 (s9 + 1))
  else
   some (.inr false)
 else
  some (.inl ())
 partial_fixpoint
noncomputable def zcm (p0 : List TRecordType) : Option Bool :=
 zcC p0 p0 (p0.length : Int) 0 >>= fun t =>
 match t with
 | .inl t =>
  some true
 | .inr t =>
  some t
noncomputable def zcf (s1 : TScope) (s3 : Bool) : Option Bool :=
 if s3 = true then
  zdF s1.Vars >>= fun r37 =>
  if r37 = true then
   zda s1.Functions >>= fun r42 =>
   if r42 = true then
    zcm s1.Types >>= fun r47 =>
    some r47
   else
    some false
  else
   some false
 else
  some false
noncomputable def zeu (s1 : TScope) : Option Bool :=
 zcD s1.Vars >>= fun r22 =>
 if r22 = true then
  zcl s1.Functions >>= fun r26 =>
  if r26 = true then
   zbA s1.Types >>= fun r31 =>
   zcf s1 r31 >>= fun t =>
   some t
  else
   zcf s1 false >>= fun t =>
   some t
 else
  zcf s1 false >>= fun t =>
  some t
noncomputable def zeZ (p0 : TScope) : Option Bool :=
 if (p0.Vars.length : Int) > 40 then
  some false
 else
  if (p0.Functions.length : Int) > 12 then
   some false
  else
   if (p0.Types.length : Int) > 8 then
    some false
   else
    zeu p0
noncomputable def zjR (p0 : ByteArray) : Option Bool :=
 some (decide ((p0.size : Int) ≤ 200))
noncomputable def zbQ (s0 : List ByteArray) (s7 : List ByteArray) (s8 : Int) (s9 : Int) : Option (Unit ⊕ Bool) :=
 if s9 < s8 then
  idx s7 s9 >>= fun a11 =>
  zjR a11 >>= fun r15 =>
  if r15 = true then
   zbQ s0 s7 s8 (IntKind.wrap .i64 (s9 + 1))
  else
   some (.inr false)
 else
  some (.inl ())
 partial_fixpoint
noncomputable def zaR (p0 : List ByteArray) : Option Bool :=
 zbQ p0 p0 (p0.length : Int) 0 >>= fun t =>
 match t with
 | .inl t =>
  some true
 | .inr t =>
  some t
noncomputable def zfl (p0 : ByteArray) : Option Bool :=
 some (decide ((p0.size : Int) ≤ 1300))
noncomputable def zdv (s0 : List ByteArray) (s7 : List ByteArray) (s8 : Int) (s9 : Int) : Option (Unit ⊕ Bool) :=
 if s9 < s8 then
  idx s7 s9 >>= fun a11 =>
  zfl a11 >>= fun r15 =>
  if r15 = true then
   zdv s0 s7 s8 (IntKind.wrap .i64 (s9 + 1))
  else
   some (.inr false)
 else
  some (.inl ())
 partial_fixpoint
noncomputable def zdb (p0 : List ByteArray) : Option Bool :=
 zdv p0 p0 (p0.length : Int) 0 >>= fun t =>
 match t with
 | .inl t =>
  some true
 | .inr t =>
  some t
noncomputable def zqc (p0 : Int) : Option Bool :=
 zdD p0 1 3 >>= fun r4 =>
 some r4
noncomputable def zcg (s1 : TFile) (s3 : Bool) (s4 : Bool) : Option Bool :=
 zel s1.Name >>= fun r32 =>
 if r32 = true then
  if s3 = true then
   if s4 = true then
    if s1.Mode = 0 then
     some true
    else
     zqc s1.Mode >>= fun r46 =>
     some r46
   else
    some false
  else
   some false
 else
  some false
noncomputable def zdc (s1 : TFile) (s3 : Bool) : Option Bool :=
 zdD s1.At 0 (s1.Lines.length : Int) >>= fun r19 =>
 if r19 = true then
  if s1.At = 0 then
   zcg s1 s3 true >>= fun t =>
   some t
  else
   zcg s1 s3 (decide (s1.Mode = 1)) >>= fun t =>
   some t
 else
  zcg s1 s3 false >>= fun t =>
  some t
noncomputable def zgL (p0 : TFile) : Option Bool :=
 if (p0.Lines.length : Int) ≤ 40 then
  zaR p0.Lines >>= fun r12 =>
  zdc p0 r12
 else
  zdc p0 false
noncomputable def zfm (s0 : List TFile) (s7 : List TFile) (s8 : Int) (s9 : Int) : Option (Unit ⊕ Bool) :=
 if s9 < s8 then
  idx s7 s9 >>= fun a11 =>
  zgL a11 >>= fun r15 =>
  if r15 = true then
   zfm s0 s7 s8 (IntKind.wrap .i64 (s9 + 1))
  else
   some (.inr false)
 else
  some (.inl ())
 partial_fixpoint
noncomputable def zfB (p0 : List TFile) : Option Bool :=
 zfm p0 p0 (p0.length : Int) 0 >>= fun t =>
 match t with
 | .inl t =>
  some true
 | .inr t =>
  some t
noncomputable def zgm (p0 : TFile) : Option ByteArray :=
 some p0.Name
noncomputable def zev (s0 : List TFile) (s5 : Int) : Option (Unit ⊕ Bool) :=
 if s5 < (s0.length : Int) then
  idx s0 (IntKind.wrap .i64 (s5 - 1)) >>= fun a16 =>
  zgm a16 >>= fun r18 =>
  idx s0 s5 >>= fun a22 =>
  zgm a22 >>= fun r24 =>
  if (Op.bytesLess r18.toList r24.toList) = true then
   zev s0 (IntKind.wrap .i64 (s5 + 1))
  else
   some (.inr false)
 else
  some (.inl ())
 partial_fixpoint
noncomputable def zew (p0 : List TFile) : Option Bool :=
 zev p0 1 >>= fun t =>
 match t with
 | .inl t =>
  some true
 | .inr t =>
  some t
noncomputable def zbj (s1 : TConsole) (s4 : Bool) : Option Bool :=
 if s4 = true then
  zdD s1.At 0 (s1.Input.length : Int) >>= fun r48 =>
  if r48 = true then
   zfB s1.Files >>= fun r53 =>
   if r53 = true then
    zew s1.Files >>= fun r58 =>
    some r58
   else
    some false
  else
   some false
 else
  some false
noncomputable def zdd (s1 : TConsole) : Option Bool :=
 zaR s1.Input >>= fun r29 =>
 if r29 = true then
  zaR s1.Output >>= fun r33 =>
  if r33 = true then
   zdb s1.Trace >>= fun r39 =>
   zbj s1 r39 >>= fun t =>
   some t
  else
   zbj s1 false >>= fun t =>
   some t
 else
  zbj s1 false >>= fun t =>
  some t
noncomputable def zdA (p0 : TConsole) : Option Bool :=
 if (p0.Input.length : Int) > 100 then
  some false
 else
  if (p0.Output.length : Int) > 100 then
   some false
  else
   if (p0.Files.length : Int) > 6 then
    some false
   else
    if (p0.Trace.length : Int) > 200 then
     some false
    else
     zdd p0
noncomputable def zfn (s1 : TScope) (s8 : List TBinding) (s9 : Int) (s3 : List TValue) (s10 : Int) : Option ((List TValue)) :=
 if s10 < s9 then
  idx s8 s10 >>= fun a12 =>
  app s3 ([a12.Value]) >>= fun c18 =>
  zfn s1 s8 s9 c18 (IntKind.wrap .i64 (s10 + 1))
 else
  some s3
 partial_fixpoint
noncomputable def zex (p0 : TScope) : Option ((List TValue)) :=
 zfn p0 p0.Vars (p0.Vars.length : Int) ([]) 0 >>= fun t =>
 some t
noncomputable def zde (p0 : TMemory) : Option Bool :=
 zfQ p0.Heap >>= fun r5 =>
 if r5 = true then
  zeZ p0.Scope >>= fun r9 =>
  if r9 = true then
   zdA p0.Console >>= fun r14 =>
   if r14 = true then
    zex p0.Scope >>= fun r19 =>
    zbx r19 p0.Heap >>= fun r23 =>
    some r23
   else
    some false
  else
   some false
 else
  some false
noncomputable def zaZ (p0 : List TValue) : Option (List TValue) := chk (p0.length ≤ most) >>= fun _ => some p0
noncomputable def zfR (p0 : TObject) : Option TObject :=
 zaZ p0.Keys >>= fun r5 =>
 zaZ p0.Vals >>= fun r8 =>
 some (TObject.mk p0.Id p0.Kind p0.Name p0.Low r5 r8 p0.Default)
noncomputable def zfo (s1 : THeap) (s2 : THeap) (s10 : List TObject) (s11 : Int) (s3 : THeap) (s12 : Int) : Option THeap :=
 if s12 < s11 then
  idx s10 s12 >>= fun a14 =>
  zfR a14 >>= fun r19 =>
  app s3.Objects ([r19]) >>= fun c21 =>
  zfo s1 s2 s10 s11 (THeap.mk s3.Next c21) (IntKind.wrap .i64 (s12 + 1))
 else
  some s3
 partial_fixpoint
noncomputable def zdf (p0 : THeap) : Option THeap :=
 zfo p0 (THeap.mk 0 ([])) p0.Objects (p0.Objects.length : Int) (THeap.mk p0.Next ([])) 0 >>= fun t =>
 some t
noncomputable def zaG (p0 : List TBinding) : Option (List TBinding) := chk (p0.length ≤ most) >>= fun _ => some p0
noncomputable def zch (s1 : TScope) (s2 : TScope) (s13 : List TFunction) (s14 : Int) (s3 : TScope) (s15 : Int) : Option TScope :=
 if s15 < s14 then
  idx s13 s15 >>= fun a17 =>
  zad a17.Params >>= fun r21 =>
  zad a17.Locals >>= fun r24 =>
  app s3.Functions ([TFunction.mk a17.Name r21 r24 a17.Label]) >>= fun c31 =>
  zch s1 s2 s13 s14 (TScope.mk s3.Vars c31 s3.Types) (IntKind.wrap .i64 (s15 + 1))
 else
  some s3
 partial_fixpoint
noncomputable def zbk (s1 : TScope) (s2 : TScope) (s35 : List TRecordType) (s36 : Int) (s3 : TScope) (s37 : Int) : Option TScope :=
 if s37 < s36 then
  idx s35 s37 >>= fun a39 =>
  zad a39.Fields >>= fun r43 =>
  app s3.Types ([TRecordType.mk a39.Name r43]) >>= fun c49 =>
  zbk s1 s2 s35 s36 (TScope.mk s3.Vars s3.Functions c49) (IntKind.wrap .i64 (s37 + 1))
 else
  some s3
 partial_fixpoint
noncomputable def zcz (p0 : TScope) : Option TScope :=
 zaG p0.Vars >>= fun r10 =>
 zch p0 (TScope.mk ([]) ([]) ([])) p0.Functions (p0.Functions.length : Int) (TScope.mk r10 ([]) ([])) 0 >>= fun t =>
 zbk p0 (TScope.mk ([]) ([]) ([])) p0.Types (p0.Types.length : Int) t 0 >>= fun t_1 =>
 some t_1
noncomputable def zdQ (s1 : TConsole) (s2 : TConsole) (s19 : List TFile) (s20 : Int) (s3 : TConsole) (s21 : Int) : Option TConsole :=
 if s21 < s20 then
  idx s19 s21 >>= fun a23 =>
  zad a23.Lines >>= fun r27 =>
  app s3.Files ([TFile.mk a23.Name r27 a23.Mode a23.At]) >>= fun c33 =>
  zdQ s1 s2 s19 s20 (TConsole.mk s3.Input s3.At s3.Output c33 s3.Trace) (IntKind.wrap .i64 (s21 + 1))
 else
  some s3
 partial_fixpoint
noncomputable def zby (p0 : TConsole) : Option TConsole :=
 zad p0.Input >>= fun r8 =>
 zad p0.Output >>= fun r13 =>
 zad p0.Trace >>= fun r16 =>
 zdQ p0 (TConsole.mk ([]) 0 ([]) ([]) ([])) p0.Files (p0.Files.length : Int) (TConsole.mk r8 p0.At r13 ([]) r16) 0 >>= fun t =>
 some t
noncomputable def zci (p0 : TMemory) : Option TMemory :=
 zdf p0.Heap >>= fun r5 =>
 zcz p0.Scope >>= fun r8 =>
 zby p0.Console >>= fun r11 =>
 some (TMemory.mk r5 r8 r11)
noncomputable def zhz (p0 : List ByteArray) : Option (TMemory × Bool) :=
 zde (TMemory.mk (THeap.mk 0 ([])) (TScope.mk ([]) ([]) ([])) (TConsole.mk p0 0 ([]) ([]) ([]))) >>= fun r9 =>
 if r9 = true then
  zci (TMemory.mk (THeap.mk 0 ([])) (TScope.mk ([]) ([]) ([])) (TConsole.mk p0 0 ([]) ([]) ([]))) >>= fun r13 =>
  some (r13, true)
 else
  some (TMemory.mk (THeap.mk 0 ([])) (TScope.mk ([]) ([]) ([])) (TConsole.mk ([]) 0 ([]) ([]) ([])), false)
end Go.Vx.NmZ
