/-
 The program's functions as plain functions.
-/
import Derived.Test.YthfkpkfcnnhkeaaGreatTypes
import Derived.Test.YthfkpkfcnnhkeaaGreatVxD
import Derived.Test.YthfkpkfcnnhkeaaGreatVxE
set_option linter.unusedVariables false
set_option linter.unusedSimpArgs false
namespace Go.Vx.NrZ
set_option linter.unusedVariables false
set_option linter.unusedSimpArgs false
set_option maxRecDepth 10000
set_option maxHeartbeats 2000000
noncomputable def s_l02Letter (p0 : Int) : Option Bool :=
 if p0 ≥ 65 then
  if p0 ≤ 90 then
   some true
  else
   if p0 ≥ 97 then
    some (decide (p0 ≤ 122))
   else
    some false
 else
  if p0 ≥ 97 then
   some (decide (p0 ≤ 122))
  else
   some false
noncomputable def s_l02Digit (p0 : Int) : Option Bool :=
 if p0 ≥ 48 then
  some (decide (p0 ≤ 57))
 else
  some false
noncomputable def s_l02NameEnd_l1 (s0 : ByteArray) (s1 : Int) : Option Int :=
 if s1 < (s0.size : Int) then
  idxB s0 s1 >>= fun b24 =>
  s_l02Letter (b24.toNat : Int) >>= fun r25 =>
  if r25 = true then
   s_l02NameEnd_l1 s0 (IntKind.wrap .i64 (s1 + 1))
  else
   s_l02Digit (b24.toNat : Int) >>= fun r30 =>
   if r30 = true then
    s_l02NameEnd_l1 s0 (IntKind.wrap .i64 (s1 + 1))
   else
    if (b24.toNat : Int) = 95 then
     s_l02NameEnd_l1 s0 (IntKind.wrap .i64 (s1 + 1))
    else
     some s1
 else
  some s1
 partial_fixpoint
noncomputable def s_l02NameEnd_j1 (s0 : ByteArray) (s1 : Int) : Option Int :=
 s_l02NameEnd_l1 s0 s1 >>= fun t =>
 some t
noncomputable def s_l02NameEnd (p0 : ByteArray) (p1 : Int) : Option Int :=
 if p1 ≥ (p0.size : Int) then
  some p1
 else
  idxB p0 p1 >>= fun b12 =>
  s_l02Letter (b12.toNat : Int) >>= fun r13 =>
  if r13 = true then
   s_l02NameEnd_j1 p0 p1
  else
   some p1
noncomputable def s_IsName (p0 : ByteArray) : Option Bool :=
 if p0 = ⟨#[]⟩ then
  some false
 else
  if (p0.size : Int) ≤ 12 then
   s_l02NameEnd p0 0 >>= fun r12 =>
   some (decide (r12 = (p0.size : Int)))
  else
   some false
noncomputable def s_l06Plain (p0 : TValue) (p1 : Bool) (p2 : Bool) (p3 : Bool) : Option Bool :=
 if p1 = true then
  if p2 = true then
   if p3 = true then
    some true
   else
    some (decide (p0.Ref = 0))
  else
   if p0.Text = ⟨#[]⟩ then
    if p3 = true then
     some true
    else
     some (decide (p0.Ref = 0))
   else
    some false
 else
  if p0.Num = 0 then
   if p2 = true then
    if p3 = true then
     some true
    else
     some (decide (p0.Ref = 0))
   else
    if p0.Text = ⟨#[]⟩ then
     if p3 = true then
      some true
     else
      some (decide (p0.Ref = 0))
    else
     some false
  else
   some false
noncomputable def s_l00In (p0 : Int) (p1 : Int) (p2 : Int) : Option Bool :=
 if p0 ≥ p1 then
  some (decide (p0 ≤ p2))
 else
  some false
noncomputable def s_ValidValue_j1 (s1 : TValue) (s45 : Bool) : Option (Bool ⊕ Bool) :=
 if s45 = true then
  s_l06Plain s1 false true false >>= fun r49 =>
  if r49 = true then
   s_IsName s1.Text >>= fun r53 =>
   some (.inr r53)
  else
   some (.inr false)
 else
  some (.inl false)
noncomputable def s_ValidValue_j2 (s1 : TValue) (s4 : Int) (s34 : Bool) : Option (Bool ⊕ Bool) :=
 if s34 = true then
  s_l06Plain s1 false false true >>= fun r39 =>
  if r39 = true then
   s_l00In s1.Ref 1 1000000 >>= fun r43 =>
   some (.inr r43)
  else
   some (.inr false)
 else
  if s4 = 7 then
   s_ValidValue_j1 s1 true >>= fun t =>
   match t with
   | .inl t =>
    some (.inl t)
   | .inr t =>
    some (.inr t)
  else
   s_ValidValue_j1 s1 (decide (s4 = 8)) >>= fun t =>
   match t with
   | .inl t =>
    some (.inl t)
   | .inr t =>
    some (.inr t)
noncomputable def s_ValidValue (p0 : TValue) : Option Bool :=
 if p0.Kind = 1 then
  s_l06Plain p0 false true false >>= fun r8 =>
  if r8 = true then
   some (decide ((p0.Text.size : Int) ≤ 200))
  else
   some false
 else
  if p0.Kind = 2 then
   s_l06Plain p0 true false false >>= fun r18 =>
   if r18 = true then
    s_l00In p0.Num (-1000000000000) 1000000000000 >>= fun r22 =>
    some r22
   else
    some false
  else
   if p0.Kind = 3 then
    s_l06Plain p0 false true false >>= fun r27 =>
    if r27 = true then
     s_l00In (p0.Text.size : Int) 1 1200 >>= fun r32 =>
     some r32
    else
     some false
   else
    if p0.Kind = 4 then
     s_ValidValue_j2 p0 p0.Kind true >>= fun t =>
     match t with
     | .inl t =>
      some false
     | .inr t =>
      some t
    else
     if p0.Kind = 5 then
      s_ValidValue_j2 p0 p0.Kind true >>= fun t =>
      match t with
      | .inl t =>
       some false
      | .inr t =>
       some t
     else
      s_ValidValue_j2 p0 p0.Kind (decide (p0.Kind = 6)) >>= fun t =>
      match t with
      | .inl t =>
       some false
      | .inr t =>
       some t
noncomputable def s_l07ValidValues_l1 (s0 : List TValue) (s1 : Int) (s5 : Int) : Option (Unit ⊕ Bool) :=
 if s5 < (s0.length : Int) then
  idx s0 s5 >>= fun a18 =>
  s_ValidValue a18 >>= fun r20 =>
  if r20 = true then
   s_l07ValidValues_l1 s0 s1 (IntKind.wrap .i64 (s5 + 1))
  else
   some (.inr false)
 else
  some (.inl ())
 partial_fixpoint
noncomputable def s_l07ValidValues (p0 : List TValue) (p1 : Int) : Option Bool :=
 if (p0.length : Int) > p1 then
  some false
 else
  s_l07ValidValues_l1 p0 p1 0 >>= fun t =>
  match t with
  | .inl t =>
   some true
  | .inr t =>
   some t
noncomputable def s_SameValue (p0 : TValue) (p1 : TValue) : Option Bool :=
 some ((decide (p0.Kind = p1.Kind)) && ((decide (p0.Num = p1.Num)) && ((decide (p0.Text = p1.Text)) && (decide (p0.Ref = p1.Ref)))))
noncomputable def s_l07Distinct_l1 (s0 : List TValue) (s3 : Int) (s4 : Int) : Option (Unit ⊕ Bool) :=
 if s4 < s3 then
  idx s0 s3 >>= fun a18 =>
  idx s0 s4 >>= fun a22 =>
  s_SameValue a18 a22 >>= fun r24 =>
  if r24 = true then
   some (.inr false)
  else
   s_l07Distinct_l1 s0 s3 (IntKind.wrap .i64 (s4 + 1))
 else
  some (.inl ())
 partial_fixpoint
noncomputable def s_l07Distinct_l2 (s0 : List TValue) (s3 : Int) : Option (Unit ⊕ Bool) :=
 if s3 < (s0.length : Int) then
  s_l07Distinct_l1 s0 s3 0 >>= fun t =>
  match t with
  | .inl t =>
   s_l07Distinct_l2 s0 (IntKind.wrap .i64 (s3 + 1))
  | .inr t =>
   some (.inr t)
 else
  some (.inl ())
 partial_fixpoint
noncomputable def s_l07Distinct (p0 : List TValue) : Option Bool :=
 s_l07Distinct_l2 p0 0 >>= fun t =>
 match t with
 | .inl t =>
  some true
 | .inr t =>
  some t
noncomputable def s_l07FieldNames_l1 (s0 : List TValue) (s3 : Int) : Option (Unit ⊕ Bool) :=
 if s3 < (s0.length : Int) then
  idx s0 s3 >>= fun a12 =>
  if a12.Kind = 1 then
   s_IsName a12.Text >>= fun r22 =>
   if r22 = true then
    s_l07FieldNames_l1 s0 (IntKind.wrap .i64 (s3 + 1))
   else
    some (.inr false)
  else
   some (.inr false)
 else
  some (.inl ())
 partial_fixpoint
noncomputable def s_l07FieldNames (p0 : List TValue) : Option Bool :=
 s_l07FieldNames_l1 p0 0 >>= fun t =>
 match t with
 | .inl t =>
  if (p0.length : Int) ≥ 1 then
   s_l07ValidValues p0 6 >>= fun r30 =>
   if r30 = true then
    s_l07Distinct p0 >>= fun r34 =>
    some r34
   else
    some false
  else
   some false
 | .inr t =>
  some t
noncomputable def s_l09Fields_j1 (s0 : List ByteArray) (s4 : List TValue) (s5 : Int) : Option ((List TValue) × Int × Int × ByteArray × ByteArray × TValue × (List TValue)) :=
 idx s0 s5 >>= fun a20 =>
 app s4 ([TValue.mk 1 0 a20 0]) >>= fun c24 =>
 some (c24, IntKind.wrap .i64 (s5 + 1), IntKind.wrap .i64 (s5 + 1), a20, a20, TValue.mk 1 0 a20 0, [TValue.mk 1 0 a20 0])
noncomputable def s_l09Fields_l1 (s0 : List ByteArray) (s4 : List TValue) (s5 : Int) : Option ((List TValue)) :=
 if s5 < (s0.length : Int) then
  if s5 ≤ 6 then
   s_l09Fields_j1 s0 s4 s5 >>= fun t =>
   s_l09Fields_l1 s0 t.1 t.2.1
  else
   some s4
 else
  some s4
 partial_fixpoint
noncomputable def s_l09Fields (p0 : List ByteArray) : Option ((List TValue) × Bool) :=
 s_l09Fields_l1 p0 ([]) 0 >>= fun t =>
 s_l07FieldNames t >>= fun r27 =>
 some (t, r27)
noncomputable def s_l07Object_j1 (s1 : TObject) : Option Bool :=
 if s1.Kind = 1 then
  if s1.Name = ⟨#[]⟩ then
   s_l00In s1.Low (-1000) 1000 >>= fun r23 =>
   if r23 = true then
    if (s1.Keys.length : Int) = 0 then
     some ((decide (s1.Default.Kind = 0)) && ((decide (s1.Default.Num = 0)) && ((decide (s1.Default.Text = ByteArray.empty)) && (decide (s1.Default.Ref = 0)))))
    else
     some false
   else
    some false
  else
   some false
 else
  if s1.Kind = 2 then
   if s1.Name = ⟨#[]⟩ then
    if s1.Low = 0 then
     if (s1.Keys.length : Int) = (s1.Vals.length : Int) then
      s_l07ValidValues s1.Keys 30 >>= fun r59 =>
      if r59 = true then
       s_l07Distinct s1.Keys >>= fun r64 =>
       if r64 = true then
        s_ValidValue s1.Default >>= fun r69 =>
        some r69
       else
        some false
      else
       some false
     else
      some false
    else
     some false
   else
    some false
  else
   if s1.Kind = 3 then
    s_IsName s1.Name >>= fun r75 =>
    if r75 = true then
     if s1.Low = 0 then
      if (s1.Keys.length : Int) = (s1.Vals.length : Int) then
       s_l07FieldNames s1.Keys >>= fun r93 =>
       if r93 = true then
        some ((decide (s1.Default.Kind = 0)) && ((decide (s1.Default.Num = 0)) && ((decide (s1.Default.Text = ByteArray.empty)) && (decide (s1.Default.Ref = 0)))))
       else
        some false
      else
       some false
     else
      some false
    else
     some false
   else
    some false
noncomputable def s_l07Object (p0 : TObject) : Option Bool :=
 s_l00In p0.Id 1 1000000 >>= fun r5 =>
 if r5 = true then
  s_l07ValidValues p0.Vals 30 >>= fun r10 =>
  if r10 = true then
   s_l07Object_j1 p0
  else
   some false
 else
  some false
noncomputable def s_l07IsRef (p0 : TValue) : Option Bool :=
 s_l00In p0.Kind 4 6 >>= fun r5 =>
 some r5
noncomputable def s_l07Find_l1 (s1 : Int) (g0 : Int) (g0_1 : List TObject) (s5 : Int) : Option (Unit ⊕ Int) :=
 if s5 < (g0_1.length : Int) then
  idx g0_1 s5 >>= fun a20 =>
  if a20.Id = s1 then
   some (.inr s5)
  else
   s_l07Find_l1 s1 g0 g0_1 (IntKind.wrap .i64 (s5 + 1))
 else
  some (.inl ())
 partial_fixpoint
noncomputable def s_l07Find (p1 : Int) (g0 : Int) (g0_1 : List TObject) : Option Int :=
 s_l07Find_l1 p1 g0 g0_1 0 >>= fun t =>
 match t with
 | .inl t =>
  some (-1)
 | .inr t =>
  some t
noncomputable def s_l07ObjectKind (p0 : Int) : Option Int :=
 some (IntKind.wrap .i64 (IntKind.wrap .i64 (p0 - 4) + 1))
noncomputable def s_l07Fits (p1 : TValue) (g0 : Int) (g0_1 : List TObject) : Option Bool :=
 s_ValidValue p1 >>= fun r7 =>
 if r7 = true then
  s_l07IsRef p1 >>= fun r10 =>
  if r10 = true then
   s_l07Find p1.Ref g0 g0_1 >>= fun r15 =>
   if r15 ≥ 0 then
    idx g0_1 r15 >>= fun a24 =>
    s_l07ObjectKind p1.Kind >>= fun r29 =>
    some (decide (a24.Kind = r29))
   else
    some false
  else
   some true
 else
  some false
noncomputable def s_l07FitAll_l1 (s1 : List TValue) (g0 : Int) (g0_1 : List TObject) (s5 : Int) : Option (Unit ⊕ Bool) :=
 if s5 < (s1.length : Int) then
  idx s1 s5 >>= fun a15 =>
  s_l07Fits a15 g0 g0_1 >>= fun r17 =>
  if r17 = true then
   s_l07FitAll_l1 s1 g0 g0_1 (IntKind.wrap .i64 (s5 + 1))
  else
   some (.inr false)
 else
  some (.inl ())
 partial_fixpoint
noncomputable def s_l07FitAll (p1 : List TValue) (g0 : Int) (g0_1 : List TObject) : Option Bool :=
 s_l07FitAll_l1 p1 g0 g0_1 0 >>= fun t =>
 match t with
 | .inl t =>
  some true
 | .inr t =>
  some t
noncomputable def s_l07Refs (p1 : Int) (p1_1 : Int) (p1_2 : ByteArray) (p1_3 : Int) (p1_4 : List TValue) (p1_5 : List TValue) (p1_6 : Int) (p1_7 : Int) (p1_8 : ByteArray) (p1_9 : Int) (g0 : Int) (g0_1 : List TObject) : Option Bool :=
 s_l07FitAll p1_4 g0 g0_1 >>= fun r10 =>
 if r10 = true then
  s_l07FitAll p1_5 g0 g0_1 >>= fun r17 =>
  if r17 = true then
   if p1_1 = 2 then
    s_l07Fits (TValue.mk p1_6 p1_7 p1_8 p1_9) g0 g0_1 >>= fun r31 =>
    some r31
   else
    some true
  else
   some false
 else
  some false
noncomputable def s_l07Ok_l1 (g0 : Int) (g0_1 : List TObject) (s3 : Int) : Option (Unit ⊕ Bool) :=
 if s3 < (g0_1.length : Int) then
  idx g0_1 s3 >>= fun a34 =>
  s_l07Object a34 >>= fun r37 =>
  if r37 = true then
   if a34.Id > g0 then
    some (.inr false)
   else
    if s3 > 0 then
     idx g0_1 (IntKind.wrap .i64 (s3 - 1)) >>= fun a58 =>
     if a58.Id ≥ a34.Id then
      some (.inr false)
     else
      s_l07Ok_l1 g0 g0_1 (IntKind.wrap .i64 (s3 + 1))
    else
     s_l07Ok_l1 g0 g0_1 (IntKind.wrap .i64 (s3 + 1))
  else
   some (.inr false)
 else
  some (.inl ())
 partial_fixpoint
noncomputable def s_l07Ok_l2 (g0 : Int) (g0_1 : List TObject) (s5 : Int) : Option (Unit ⊕ Bool) :=
 if s5 < (g0_1.length : Int) then
  idx g0_1 s5 >>= fun a81 =>
  s_l07Refs a81.Id a81.Kind a81.Name a81.Low a81.Keys a81.Vals a81.Default.Kind a81.Default.Num a81.Default.Text a81.Default.Ref g0 g0_1 >>= fun r82 =>
  if r82 = true then
   s_l07Ok_l2 g0 g0_1 (IntKind.wrap .i64 (s5 + 1))
  else
   some (.inr false)
 else
  some (.inl ())
 partial_fixpoint
noncomputable def s_l07Ok_j1 (g0 : Int) (g0_1 : List TObject) : Option Bool :=
 s_l07Ok_l1 g0 g0_1 0 >>= fun t =>
 match t with
 | .inl t =>
  s_l07Ok_l2 g0 g0_1 0 >>= fun t_1 =>
  match t_1 with
  | .inl t_1 =>
   some true
  | .inr t_1 =>
   some t_1
 | .inr t =>
  some t
noncomputable def s_l07Ok (g0 : Int) (g0_1 : List TObject) : Option Bool :=
 s_l00In g0 0 1000000 >>= fun r10 =>
 if r10 = true then
  if (g0_1.length : Int) > 40 then
   some false
  else
   s_l07Ok_j1 g0 g0_1
 else
  some false
noncomputable def s_l09Fit (p1 : List TValue) (g0 : Int) (g0_1 : List TObject) : Option Bool :=
 s_l07Ok g0 g0_1 >>= fun r6 =>
 if r6 = true then
  s_l07FitAll p1 g0 g0_1 >>= fun r10 =>
  some r10
 else
  some false
noncomputable def s_l07OwnValues (p0 : List TValue) : Option ((List TValue)) :=
 chk (p0.length ≤ most) >>= fun _ =>
 some p0
noncomputable def s_l07OwnObject (p0 : TObject) : Option TObject :=
 s_l07OwnValues p0.Keys >>= fun r5 =>
 s_l07OwnValues p0.Vals >>= fun r9 =>
 some (TObject.mk p0.Id p0.Kind p0.Name p0.Low r5 r9 p0.Default)
noncomputable def s_l07Own_l1 (s2 : THeap) (g0 : Int) (g0_1 : List TObject) (s3 : THeap) (s4 : Int) : Option THeap :=
 if s4 < (g0_1.length : Int) then
  idx g0_1 s4 >>= fun a26 =>
  s_l07OwnObject a26 >>= fun r28 =>
  app s3.Objects ([r28]) >>= fun c30 =>
  s_l07Own_l1 s2 g0 g0_1 (THeap.mk s3.Next c30) (IntKind.wrap .i64 (s4 + 1))
 else
  some s3
 partial_fixpoint
noncomputable def s_l07Own (g0 : Int) (g0_1 : List TObject) : Option THeap :=
 s_l07Own_l1 (THeap.mk 0 ([])) g0 g0_1 (THeap.mk g0 ([])) 0 >>= fun t =>
 some t
noncomputable def s_l07Add_j1 (s3 : TObject) (s4 : THeap) (g0 : Int) (g0_1 : List TObject) : Option (THeap × Int × Int) :=
 s_l07Own g0 g0_1 >>= fun r23 =>
 s_l07OwnObject s3 >>= fun r31 =>
 app r23.Objects ([TObject.mk (IntKind.wrap .i64 (g0 + 1)) r31.Kind r31.Name r31.Low r31.Keys r31.Vals r31.Default]) >>= fun c39 =>
 some (THeap.mk (IntKind.wrap .i64 (g0 + 1)) c39, IntKind.wrap .i64 (g0 + 1), 0)
noncomputable def s_l07Add (p1 : TObject) (g0 : Int) (g0_1 : List TObject) : Option (THeap × Int × Int) :=
 if (g0_1.length : Int) ≥ 40 then
  some (THeap.mk 0 ([]), 0, 6)
 else
  if g0 ≥ 1000000 then
   some (THeap.mk 0 ([]), 0, 6)
  else
   s_l07Add_j1 p1 (THeap.mk 0 ([])) g0 g0_1
noncomputable def s_l09Created (p1 : TObject) (g0 : Int) (g0_1 : List TObject) : Option (THeap × TValue × Int) :=
 s_l07Add p1 g0 g0_1 >>= fun r13 =>
 if r13.2.2 = 0 then
  some (r13.1, TValue.mk (IntKind.wrap .i64 (IntKind.wrap .i64 (p1.Kind - 1) + 4)) 0 ByteArray.empty r13.2.1, 0)
 else
  some (THeap.mk 0 ([]), TValue.mk 0 0 ByteArray.empty 0, r13.2.2)
noncomputable def s_NewRecord_l1 (s1 : ByteArray) (s2 : List ByteArray) (s3 : List TValue) (s8 : THeap) (s9 : TValue) (s11 : Nat) (g0 : Int) (g0_1 : List TObject) (s13 : TObject) : Option TObject :=
 if (s13.Vals.length : Int) < (s11 : Int) then
  app s13.Vals ([TValue.mk 1 0 ByteArray.empty 0]) >>= fun c55 =>
  s_NewRecord_l1 s1 s2 s3 s8 s9 s11 g0 g0_1 (TObject.mk s13.Id s13.Kind s13.Name s13.Low s13.Keys c55 s13.Default)
 else
  some s13
 partial_fixpoint
noncomputable def s_NewRecord_j2 (s1 : ByteArray) (s2 : List ByteArray) (s3 : List TValue) (s8 : THeap) (s9 : TValue) (s11 : List TValue) (g0 : Int) (g0_1 : List TObject) : Option (THeap × TValue × Int) :=
 if (s3.length : Int) > (s2.length : Int) then
  some (THeap.mk 0 ([]), TValue.mk 0 0 ByteArray.empty 0, 3)
 else
  s_l07OwnValues s3 >>= fun r43 =>
  s_NewRecord_l1 s1 s2 s3 s8 s9 s11.length g0 g0_1 (TObject.mk 0 3 s1 0 s11 r43 (TValue.mk 0 0 ByteArray.empty 0)) >>= fun t =>
  s_l09Created t g0 g0_1 >>= fun r58 =>
  some (r58.1, r58.2.1, r58.2.2)
noncomputable def s_NewRecord_j1 (s1 : ByteArray) (s2 : List ByteArray) (s3 : List TValue) (s8 : THeap) (s9 : TValue) (g0 : Int) (g0_1 : List TObject) : Option (THeap × TValue × Int) :=
 some (THeap.mk 0 ([]), TValue.mk 0 0 ByteArray.empty 0, 1)
noncomputable def s_NewRecord (p0 : THeap) (p1 : ByteArray) (p2 : List ByteArray) (p3 : List TValue) : Option (THeap × TValue × Int) :=
 s_l09Fields p2 >>= fun r16 =>
 s_l09Fit p3 p0.Next p0.Objects >>= fun r20 =>
 if r20 = true then
  s_IsName p1 >>= fun r24 =>
  if r24 = true then
   if r16.2 = true then
    s_NewRecord_j2 p1 p2 p3 (THeap.mk 0 ([])) (TValue.mk 0 0 ByteArray.empty 0) r16.1 p0.Next p0.Objects
   else
    s_NewRecord_j1 p1 p2 p3 (THeap.mk 0 ([])) (TValue.mk 0 0 ByteArray.empty 0) p0.Next p0.Objects
  else
   s_NewRecord_j1 p1 p2 p3 (THeap.mk 0 ([])) (TValue.mk 0 0 ByteArray.empty 0) p0.Next p0.Objects
 else
  s_NewRecord_j1 p1 p2 p3 (THeap.mk 0 ([])) (TValue.mk 0 0 ByteArray.empty 0) p0.Next p0.Objects
noncomputable def i_isLetter (p0 : Int) : Option Bool :=
 if p0 ≥ 65 then
  if p0 ≤ 90 then
   some true
  else
   if p0 ≥ 97 then
    some (decide (p0 ≤ 122))
   else
    some false
 else
  if p0 ≥ 97 then
   some (decide (p0 ≤ 122))
  else
   some false
noncomputable def i_isDigit (p0 : Int) : Option Bool :=
 if p0 ≥ 48 then
  some (decide (p0 ≤ 57))
 else
  some false
noncomputable def i_isNameByte (p0 : Int) : Option Bool :=
 i_isLetter p0 >>= fun r4 =>
 if r4 = true then
  some true
 else
  i_isDigit p0 >>= fun r7 =>
  if r7 = true then
   some true
  else
   some (decide (p0 = 95))
noncomputable def i_areAll_byte_l1 (s0 : List Int) (s7 : List Int) (s8 : Int) (s9 : Int) : Option (Unit ⊕ Bool) :=
 if s9 < s8 then
  idx s7 s9 >>= fun a11 =>
  i_isNameByte a11 >>= fun r15 =>
  if r15 = true then
   i_areAll_byte_l1 s0 s7 s8 (IntKind.wrap .i64 (s9 + 1))
  else
   some (.inr false)
 else
  some (.inl ())
 partial_fixpoint
noncomputable def i_areAll_byte (p0 : List Int) : Option Bool :=
 i_areAll_byte_l1 p0 p0 (p0.length : Int) 0 >>= fun t =>
 match t with
 | .inl t =>
  some true
 | .inr t =>
  some t
noncomputable def i_IsName (p0 : ByteArray) : Option Bool :=
 if (p0.size : Int) ≥ 1 then
  if (p0.size : Int) ≤ 12 then
   idxBN p0 0 >>= fun b13 =>
   i_isLetter (b13.toNat : Int) >>= fun r14 =>
   if r14 = true then
    i_areAll_byte (strI p0) >>= fun r19 =>
    some r19
   else
    some false
  else
   some false
 else
  some false
noncomputable def i_areAll_string_l1 (s0 : List ByteArray) (s7 : List ByteArray) (s8 : Int) (s9 : Int) : Option (Unit ⊕ Bool) :=
 if s9 < s8 then
  idx s7 s9 >>= fun a11 =>
  i_IsName a11 >>= fun r15 =>
  if r15 = true then
   i_areAll_string_l1 s0 s7 s8 (IntKind.wrap .i64 (s9 + 1))
  else
   some (.inr false)
 else
  some (.inl ())
 partial_fixpoint
noncomputable def i_areAll_string (p0 : List ByteArray) : Option Bool :=
 i_areAll_string_l1 p0 p0 (p0.length : Int) 0 >>= fun t =>
 match t with
 | .inl t =>
  some true
 | .inr t =>
  some t
noncomputable def slices_Clone_string_string (p0 : List ByteArray) : Option (List ByteArray) := chk (p0.length ≤ most) >>= fun _ => some p0
noncomputable def slices_Sort_string_string (p0 : List ByteArray) : Option (List ByteArray) := chk (p0.length ≤ most) >>= fun _ => some (sortB p0)
noncomputable def slices_Compact_string_string (p0 : List ByteArray) : Option (List ByteArray) := chk (p0.length ≤ most) >>= fun _ => some (compactB p0)
noncomputable def i_sortedNames (p0 : List ByteArray) : Option ((List ByteArray)) :=
 slices_Sort_string_string p0 >>= fun r4 =>
 slices_Compact_string_string r4 >>= fun r6 =>
 some r6
noncomputable def i_areFields_j1 (s0 : List ByteArray) : Option Bool :=
 slices_Clone_string_string s0 >>= fun r17 =>
 i_sortedNames r17 >>= fun r18 =>
 some (decide ((r18.length : Int) = (s0.length : Int)))
noncomputable def i_areFields (p0 : List ByteArray) : Option Bool :=
 if (p0.length : Int) < 1 then
  some false
 else
  if (p0.length : Int) > 6 then
   some false
  else
   i_areAll_string p0 >>= fun r13 =>
   if r13 = true then
    i_areFields_j1 p0
   else
    some false
noncomputable def i_within (p0 : Int) (p1 : Int) (p2 : Int) : Option Bool :=
 if p0 ≥ p1 then
  some (decide (p0 ≤ p2))
 else
  some false
noncomputable def i_isObjectId (p0 : Int) : Option Bool :=
 i_within p0 1 1000000 >>= fun r4 =>
 some r4
noncomputable def i_ValidValue_j1 (s1 : TValue) (s65 : Bool) : Option (Bool ⊕ Bool) :=
 if s65 = true then
  if s1.Num = 0 then
   if s1.Ref = 0 then
    i_IsName s1.Text >>= fun r78 =>
    some (.inr r78)
   else
    some (.inr false)
  else
   some (.inr false)
 else
  some (.inl false)
noncomputable def i_ValidValue_j2 (s1 : TValue) (s4 : Int) (s49 : Bool) : Option (Bool ⊕ Bool) :=
 if s49 = true then
  if s1.Num = 0 then
   if s1.Text = ByteArray.empty then
    i_isObjectId s1.Ref >>= fun r63 =>
    some (.inr r63)
   else
    some (.inr false)
  else
   some (.inr false)
 else
  if s4 = 7 then
   i_ValidValue_j1 s1 true >>= fun t =>
   match t with
   | .inl t =>
    some (.inl t)
   | .inr t =>
    some (.inr t)
  else
   i_ValidValue_j1 s1 (decide (s4 = 8)) >>= fun t =>
   match t with
   | .inl t =>
    some (.inl t)
   | .inr t =>
    some (.inr t)
noncomputable def i_ValidValue (p0 : TValue) : Option Bool :=
 if p0.Kind = 1 then
  if p0.Num = 0 then
   if p0.Ref = 0 then
    some (decide ((p0.Text.size : Int) ≤ 200))
   else
    some false
  else
   some false
 else
  if p0.Kind = 2 then
   if p0.Text = ByteArray.empty then
    if p0.Ref = 0 then
     i_within p0.Num (-1000000000000) 1000000000000 >>= fun r28 =>
     some r28
    else
     some false
   else
    some false
  else
   if p0.Kind = 3 then
    if p0.Num = 0 then
     if p0.Ref = 0 then
      if (p0.Text.size : Int) ≥ 1 then
       some (decide ((p0.Text.size : Int) ≤ 1200))
      else
       some false
     else
      some false
    else
     some false
   else
    if p0.Kind = 4 then
     i_ValidValue_j2 p0 p0.Kind true >>= fun t =>
     match t with
     | .inl t =>
      some false
     | .inr t =>
      some t
    else
     if p0.Kind = 5 then
      i_ValidValue_j2 p0 p0.Kind true >>= fun t =>
      match t with
      | .inl t =>
       some false
      | .inr t =>
       some t
     else
      i_ValidValue_j2 p0 p0.Kind (decide (p0.Kind = 6)) >>= fun t =>
      match t with
      | .inl t =>
       some false
      | .inr t =>
       some t
noncomputable def i_areAll_Value_l1 (s0 : List TValue) (s7 : List TValue) (s8 : Int) (s9 : Int) : Option (Unit ⊕ Bool) :=
 if s9 < s8 then
  idx s7 s9 >>= fun a11 =>
  i_ValidValue a11 >>= fun r15 =>
  if r15 = true then
   i_areAll_Value_l1 s0 s7 s8 (IntKind.wrap .i64 (s9 + 1))
  else
   some (.inr false)
 else
  some (.inl ())
 partial_fixpoint
noncomputable def i_areAll_Value (p0 : List TValue) : Option Bool :=
 i_areAll_Value_l1 p0 p0 (p0.length : Int) 0 >>= fun t =>
 match t with
 | .inl t =>
  some true
 | .inr t =>
  some t
noncomputable def slices_Index_Value_Value_l1 (s0 : List TValue) (s3 : TValue) (s7 : Int) (s8 : Int) : Option (Unit ⊕ Int) :=
 if s8 < s7 then
  idx s0 s8 >>= fun a14 =>
  if s3.Kind = a14.Kind then
   if s3.Num = a14.Num then
    if s3.Text = a14.Text then
     if s3.Ref = a14.Ref then
      some (.inr s8)
     else
      slices_Index_Value_Value_l1 s0 s3 s7 (IntKind.wrap .i64 (s8 + 1))
    else
     slices_Index_Value_Value_l1 s0 s3 s7 (IntKind.wrap .i64 (s8 + 1))
   else
    slices_Index_Value_Value_l1 s0 s3 s7 (IntKind.wrap .i64 (s8 + 1))
  else
   slices_Index_Value_Value_l1 s0 s3 s7 (IntKind.wrap .i64 (s8 + 1))
 else
  some (.inl ())
 partial_fixpoint
noncomputable def slices_Index_Value_Value (p0 : List TValue) (p1 : TValue) : Option Int :=
 slices_Index_Value_Value_l1 p0 p1 (p0.length : Int) 0 >>= fun t =>
 match t with
 | .inl t =>
  some (-1)
 | .inr t =>
  some t
noncomputable def slices_Contains_Value_Value (p0 : List TValue) (p1 : TValue) : Option Bool :=
 slices_Index_Value_Value p0 p1 >>= fun r7 =>
 some (decide (r7 ≥ 0))
noncomputable def i_areDifferent_l1 (s0 : List TValue) (s5 : List TValue) (s6 : Int) (s7 : Int) : Option (Unit ⊕ Bool) :=
 if s7 < s6 then
  idx s5 s7 >>= fun a10 =>
  subH s0 s7 >>= fun c14 =>
  slices_Contains_Value_Value c14 a10 >>= fun r16 =>
  if r16 = true then
   some (.inr false)
  else
   i_areDifferent_l1 s0 s5 s6 (IntKind.wrap .i64 (s7 + 1))
 else
  some (.inl ())
 partial_fixpoint
noncomputable def i_areDifferent (p0 : List TValue) : Option Bool :=
 i_areDifferent_l1 p0 p0 (p0.length : Int) 0 >>= fun t =>
 match t with
 | .inl t =>
  some true
 | .inr t =>
  some t
noncomputable def i_textOf (p0 : ByteArray) : Option TValue :=
 some (TValue.mk 1 0 p0 0)
noncomputable def i_isField (p0 : TValue) : Option Bool :=
 i_textOf p0.Text >>= fun r6 =>
 if p0.Kind = r6.Kind then
  if p0.Num = r6.Num then
   if p0.Text = r6.Text then
    if p0.Ref = r6.Ref then
     i_IsName p0.Text >>= fun r11 =>
     some r11
    else
     some false
   else
    some false
  else
   some false
 else
  some false
noncomputable def i_areAll_Value_1_l1 (s0 : List TValue) (s7 : List TValue) (s8 : Int) (s9 : Int) : Option (Unit ⊕ Bool) :=
 if s9 < s8 then
  idx s7 s9 >>= fun a11 =>
  i_isField a11 >>= fun r15 =>
  if r15 = true then
   i_areAll_Value_1_l1 s0 s7 s8 (IntKind.wrap .i64 (s9 + 1))
  else
   some (.inr false)
 else
  some (.inl ())
 partial_fixpoint
noncomputable def i_areAll_Value_1 (p0 : List TValue) : Option Bool :=
 i_areAll_Value_1_l1 p0 p0 (p0.length : Int) 0 >>= fun t =>
 match t with
 | .inl t =>
  some true
 | .inr t =>
  some t
noncomputable def i_ValidObject_j1 (s1 : TObject) (s3 : Bool) : Option Bool :=
 if s1.Low = 0 then
  if s3 = true then
   i_ValidValue s1.Default >>= fun r74 =>
   if r74 = true then
    some (decide (s1.Name = ⟨#[]⟩))
   else
    some false
  else
   some false
 else
  some false
noncomputable def i_ValidObject_j2 (s1 : TObject) (s5 : Bool) : Option Bool :=
 if s1.Low = 0 then
  if s5 = true then
   if s1.Default.Kind = 0 then
    if s1.Default.Num = 0 then
     if s1.Default.Text = ByteArray.empty then
      if s1.Default.Ref = 0 then
       i_IsName s1.Name >>= fun r124 =>
       some r124
      else
       some false
     else
      some false
    else
     some false
   else
    some false
  else
   some false
 else
  some false
noncomputable def i_ValidObject_j3 (s1 : TObject) : Option Bool :=
 if s1.Kind = 1 then
  i_within s1.Low (-1000) 1000 >>= fun r28 =>
  if r28 = true then
   if (s1.Keys.length : Int) = 0 then
    if s1.Default.Kind = 0 then
     if s1.Default.Num = 0 then
      if s1.Default.Text = ByteArray.empty then
       if s1.Default.Ref = 0 then
        some (decide (s1.Name = ⟨#[]⟩))
       else
        some false
      else
       some false
     else
      some false
    else
     some false
   else
    some false
  else
   some false
 else
  if s1.Kind = 2 then
   if (s1.Keys.length : Int) = (s1.Vals.length : Int) then
    i_areAll_Value s1.Keys >>= fun r58 =>
    if r58 = true then
     i_areDifferent s1.Keys >>= fun r63 =>
     i_ValidObject_j1 s1 r63 >>= fun t =>
     some t
    else
     i_ValidObject_j1 s1 false >>= fun t =>
     some t
   else
    i_ValidObject_j1 s1 false >>= fun t =>
    some t
  else
   if s1.Kind = 3 then
    if (s1.Keys.length : Int) ≥ 1 then
     if (s1.Keys.length : Int) ≤ 6 then
      if (s1.Keys.length : Int) = (s1.Vals.length : Int) then
       i_areAll_Value_1 s1.Keys >>= fun r102 =>
       if r102 = true then
        i_areDifferent s1.Keys >>= fun r107 =>
        i_ValidObject_j2 s1 r107 >>= fun t =>
        some t
       else
        i_ValidObject_j2 s1 false >>= fun t =>
        some t
      else
       i_ValidObject_j2 s1 false >>= fun t =>
       some t
     else
      i_ValidObject_j2 s1 false >>= fun t =>
      some t
    else
     i_ValidObject_j2 s1 false >>= fun t =>
     some t
   else
    some false
noncomputable def i_ValidObject (p0 : TObject) : Option Bool :=
 i_isObjectId p0.Id >>= fun r8 =>
 if r8 = true then
  if (p0.Vals.length : Int) > 30 then
   some false
  else
   i_areAll_Value p0.Vals >>= fun r19 =>
   if r19 = true then
    i_ValidObject_j3 p0
   else
    some false
 else
  some false
noncomputable def i_areAll_Object_l1 (s0 : List TObject) (s7 : List TObject) (s8 : Int) (s9 : Int) : Option (Unit ⊕ Bool) :=
 if s9 < s8 then
  idx s7 s9 >>= fun a11 =>
  i_ValidObject a11 >>= fun r15 =>
  if r15 = true then
   i_areAll_Object_l1 s0 s7 s8 (IntKind.wrap .i64 (s9 + 1))
  else
   some (.inr false)
 else
  some (.inl ())
 partial_fixpoint
noncomputable def i_areAll_Object (p0 : List TObject) : Option Bool :=
 i_areAll_Object_l1 p0 p0 (p0.length : Int) 0 >>= fun t =>
 match t with
 | .inl t =>
  some true
 | .inr t =>
  some t
noncomputable def slices_Concat_Value_Value (a b : List TValue) : Option (List TValue) := chk (a.length + b.length ≤ most) >>= fun _ => some (a ++ b)
noncomputable def i_Object_values (p0 : TObject) : Option ((List TValue)) :=
 slices_Concat_Value_Value p0.Keys p0.Vals >>= fun r9 =>
 if p0.Kind = 2 then
  app r9 ([p0.Default]) >>= fun c17 =>
  some c17
 else
  some r9
noncomputable def i_refers (p0 : Int) : Option Bool :=
 i_within p0 4 6 >>= fun r4 =>
 some r4
noncomputable def cmp_isNaN_int64 (p0 : Int) : Option Bool :=
 some false
noncomputable def cmp_Compare_int64 (p0 : Int) (p1 : Int) : Option Int :=
 cmp_isNaN_int64 p0 >>= fun r8 =>
 cmp_isNaN_int64 p1 >>= fun r10 =>
 if r8 = true then
  if r10 = true then
   some 0
  else
   some (-1)
 else
  if r10 = true then
   some 1
  else
   if p0 < p1 then
    some (-1)
   else
    if p0 > p1 then
     some 1
    else
     some 0
noncomputable def i_Heap_find_1 (p0 : TObject) (p1 : Int) : Option Int :=
 cmp_Compare_int64 p0.Id p1 >>= fun r8 =>
 some r8
noncomputable def slices_BinarySearchFunc_Object_Object_int64_l1 (s0 : List TObject) (s1 : Int) (s8 : Int) (s9 : Int) (s10 : Int) : Option Int :=
 if s9 < s10 then
  idx s0 (IntKind.wrap .i64 ((IntKind.wrap .u64 (IntKind.wrap .i64 (s9 + s10))).fdiv (2 ^ (min 1 (IntKind.bits .u64))))) >>= fun a27 =>
  i_Heap_find_1 a27 s1 >>= fun r30 =>
  if r30 < 0 then
   slices_BinarySearchFunc_Object_Object_int64_l1 s0 s1 s8 (IntKind.wrap .i64 (IntKind.wrap .i64 ((IntKind.wrap .u64 (IntKind.wrap .i64 (s9 + s10))).fdiv (2 ^ (min 1 (IntKind.bits .u64)))) + 1)) s10
  else
   slices_BinarySearchFunc_Object_Object_int64_l1 s0 s1 s8 s9 (IntKind.wrap .i64 ((IntKind.wrap .u64 (IntKind.wrap .i64 (s9 + s10))).fdiv (2 ^ (min 1 (IntKind.bits .u64)))))
 else
  some s9
 partial_fixpoint
noncomputable def slices_BinarySearchFunc_Object_Object_int64 (p0 : List TObject) (p1 : Int) : Option (Int × Bool) :=
 slices_BinarySearchFunc_Object_Object_int64_l1 p0 p1 (p0.length : Int) 0 (p0.length : Int) >>= fun t =>
 if t < (p0.length : Int) then
  idx p0 t >>= fun a43 =>
  i_Heap_find_1 a43 p1 >>= fun r46 =>
  some (t, (decide (r46 = 0)))
 else
  some (t, false)
noncomputable def i_Heap_find (p0 : THeap) (p1 : Int) : Option Int :=
 slices_BinarySearchFunc_Object_Object_int64 p0.Objects p1 >>= fun r11 =>
 if r11.2 = true then
  some r11.1
 else
  some (-1)
noncomputable def i_objectKind (p0 : Int) : Option Int :=
 some (IntKind.wrap .i64 (IntKind.wrap .i64 (p0 - 4) + 1))
noncomputable def i_Heap_fits_j1 (s2 : THeap) (s3 : TValue) : Option Bool :=
 i_Heap_find s2 s3.Ref >>= fun r20 =>
 if r20 ≥ 0 then
  idx s2.Objects r20 >>= fun a27 =>
  i_objectKind s3.Kind >>= fun r32 =>
  some (decide (a27.Kind = r32))
 else
  some false
noncomputable def i_Heap_fits (p0 : THeap) (p1 : TValue) : Option Bool :=
 i_ValidValue p1 >>= fun r7 =>
 if r7 = true then
  i_refers p1.Kind >>= fun r12 =>
  if r12 = true then
   i_Heap_fits_j1 p0 p1
  else
   i_ValidValue p1 >>= fun r16 =>
   some r16
 else
  i_ValidValue p1 >>= fun r16 =>
  some r16
noncomputable def i_areAll_Value_2_l1 (s0 : List TValue) (s1 : THeap) (s7 : List TValue) (s8 : Int) (s9 : Int) : Option (Unit ⊕ Bool) :=
 if s9 < s8 then
  idx s7 s9 >>= fun a11 =>
  i_Heap_fits s1 a11 >>= fun r15 =>
  if r15 = true then
   i_areAll_Value_2_l1 s0 s1 s7 s8 (IntKind.wrap .i64 (s9 + 1))
  else
   some (.inr false)
 else
  some (.inl ())
 partial_fixpoint
noncomputable def i_areAll_Value_2 (p0 : List TValue) (p1 : THeap) : Option Bool :=
 i_areAll_Value_2_l1 p0 p1 p0 (p0.length : Int) 0 >>= fun t =>
 match t with
 | .inl t =>
  some true
 | .inr t =>
  some t
noncomputable def i_ValidHeap_1 (p0 : TObject) (g0 : Int) (g0_1 : List TObject) : Option Bool :=
 i_Object_values p0 >>= fun r5 =>
 i_areAll_Value_2 r5 (THeap.mk g0 g0_1) >>= fun r8 =>
 some r8
noncomputable def i_areAll_Object_1_l1 (s0 : List TObject) (s7 : List TObject) (s8 : Int) (g0 : Int) (g0_1 : List TObject) (s9 : Int) : Option (Unit ⊕ Bool) :=
 if s9 < s8 then
  idx s7 s9 >>= fun a11 =>
  i_ValidHeap_1 a11 g0 g0_1 >>= fun r15 =>
  if r15 = true then
   i_areAll_Object_1_l1 s0 s7 s8 g0 g0_1 (IntKind.wrap .i64 (s9 + 1))
  else
   some (.inr false)
 else
  some (.inl ())
 partial_fixpoint
noncomputable def i_areAll_Object_1 (p0 : List TObject) (g0 : Int) (g0_1 : List TObject) : Option Bool :=
 i_areAll_Object_1_l1 p0 p0 (p0.length : Int) g0 g0_1 0 >>= fun t =>
 match t with
 | .inl t =>
  some true
 | .inr t =>
  some t
noncomputable def i_ValidHeap_l1 (s1 : THeap) (s23 : List TObject) (s24 : Int) (s3 : Int) (s25 : Int) : Option (Unit ⊕ Bool) :=
 if s25 < s24 then
  idx s23 s25 >>= fun a27 =>
  if a27.Id ≤ s3 then
   some (.inr false)
  else
   if a27.Id > s1.Next then
    some (.inr false)
   else
    i_ValidHeap_l1 s1 s23 s24 a27.Id (IntKind.wrap .i64 (s25 + 1))
 else
  some (.inl ())
 partial_fixpoint
noncomputable def i_ValidHeap_j1 (s1 : THeap) : Option Bool :=
 i_ValidHeap_l1 s1 s1.Objects (s1.Objects.length : Int) 0 0 >>= fun t =>
 match t with
 | .inl t =>
  i_areAll_Object_1 s1.Objects s1.Next s1.Objects >>= fun r46 =>
  some r46
 | .inr t =>
  some t
noncomputable def i_ValidHeap (p0 : THeap) : Option Bool :=
 i_within p0.Next 0 1000000 >>= fun r8 =>
 if r8 = true then
  if (p0.Objects.length : Int) > 40 then
   some false
  else
   i_areAll_Object p0.Objects >>= fun r19 =>
   if r19 = true then
    i_ValidHeap_j1 p0
   else
    some false
 else
  some false
noncomputable def i_ValidRoots (p0 : THeap) (p1 : List TValue) : Option Bool :=
 i_ValidHeap p0 >>= fun r6 =>
 if r6 = true then
  i_areAll_Value_2 p1 p0 >>= fun r11 =>
  some r11
 else
  some false
noncomputable def i_unless (p0 : Bool) (p1 : Int) : Option Int :=
 if p0 = true then
  some 0
 else
  some p1
noncomputable def i_fitAll (p0 : THeap) (p1 : List TValue) : Option Int :=
 i_ValidRoots p0 p1 >>= fun r7 =>
 i_unless r7 1 >>= fun r8 =>
 some r8
noncomputable def i_first_l1 (s0 : List Int) (s5 : List Int) (s6 : Int) (s7 : Int) : Option (Unit ⊕ Int) :=
 if s7 < s6 then
  idx s5 s7 >>= fun a9 =>
  if a9 = 0 then
   i_first_l1 s0 s5 s6 (IntKind.wrap .i64 (s7 + 1))
  else
   some (.inr a9)
 else
  some (.inl ())
 partial_fixpoint
noncomputable def i_first (p0 : List Int) : Option Int :=
 i_first_l1 p0 p0 (p0.length : Int) 0 >>= fun t =>
 match t with
 | .inl t =>
  some 0
 | .inr t =>
  some t
noncomputable def slices_Clone_Value_Value (p0 : List TValue) : Option (List TValue) := chk (p0.length ≤ most) >>= fun _ => some p0
noncomputable def i_null : Option TValue :=
 i_textOf (⟨#[]⟩) >>= fun r1 =>
 some r1
noncomputable def i_Object_copied (p0 : TObject) : Option TObject :=
 slices_Clone_Value_Value p0.Keys >>= fun r5 =>
 slices_Clone_Value_Value p0.Vals >>= fun r8 =>
 some (TObject.mk p0.Id p0.Kind p0.Name p0.Low r5 r8 p0.Default)
noncomputable def i_Heap_copied_l1 (s1 : THeap) (s2 : THeap) (s10 : List TObject) (s11 : Int) (s3 : THeap) (s12 : Int) : Option THeap :=
 if s12 < s11 then
  idx s10 s12 >>= fun a14 =>
  i_Object_copied a14 >>= fun r19 =>
  app s3.Objects ([r19]) >>= fun c21 =>
  i_Heap_copied_l1 s1 s2 s10 s11 (THeap.mk s3.Next c21) (IntKind.wrap .i64 (s12 + 1))
 else
  some s3
 partial_fixpoint
noncomputable def i_Heap_copied (p0 : THeap) : Option THeap :=
 i_Heap_copied_l1 p0 (THeap.mk 0 ([])) p0.Objects (p0.Objects.length : Int) (THeap.mk p0.Next ([])) 0 >>= fun t =>
 some t
noncomputable def i_Heap_add_j1 (s2 : THeap) (s3 : TObject) (s4 : THeap) : Option (THeap × Int × Int) :=
 i_Heap_copied s2 >>= fun r19 =>
 i_Object_copied s3 >>= fun r25 =>
 app r19.Objects ([TObject.mk (IntKind.wrap .i64 (r19.Next + 1)) r25.Kind r25.Name r25.Low r25.Keys r25.Vals r25.Default]) >>= fun c33 =>
 some (THeap.mk (IntKind.wrap .i64 (r19.Next + 1)) c33, IntKind.wrap .i64 (r19.Next + 1), 0)
noncomputable def i_Heap_add (p0 : THeap) (p1 : TObject) : Option (THeap × Int × Int) :=
 if (p0.Objects.length : Int) = 40 then
  some (THeap.mk 0 ([]), 0, 6)
 else
  if p0.Next = 1000000 then
   some (THeap.mk 0 ([]), 0, 6)
  else
   i_Heap_add_j1 p0 p1 (THeap.mk 0 ([]))
noncomputable def i_Object_reference (p0 : TObject) : Option TValue :=
 some (TValue.mk (IntKind.wrap .i64 (IntKind.wrap .i64 (p0.Kind - 1) + 4)) 0 ByteArray.empty p0.Id)
noncomputable def i_Heap_create (p0 : THeap) (p1 : TObject) : Option (THeap × TValue × Int) :=
 i_Heap_add p0 p1 >>= fun r13 =>
 if r13.2.2 = 0 then
  i_Object_reference (TObject.mk r13.2.1 p1.Kind p1.Name p1.Low p1.Keys p1.Vals p1.Default) >>= fun r26 =>
  some (r13.1, r26, 0)
 else
  some (THeap.mk 0 ([]), TValue.mk 0 0 ByteArray.empty 0, r13.2.2)
noncomputable def i_NewRecord_l1 (s1 : ByteArray) (s2 : List ByteArray) (s3 : List TValue) (s4 : THeap) (s8 : THeap) (s9 : TValue) (s44 : List ByteArray) (s45 : Int) (s13 : TObject) (s46 : Int) : Option TObject :=
 if s46 < s45 then
  idx s44 s46 >>= fun a49 =>
  i_textOf a49 >>= fun r54 =>
  app s13.Keys ([r54]) >>= fun c56 =>
  if s46 ≥ (s3.length : Int) then
   i_null >>= fun r64 =>
   app s13.Vals ([r64]) >>= fun c66 =>
   i_NewRecord_l1 s1 s2 s3 s4 s8 s9 s44 s45 (TObject.mk s13.Id s13.Kind s13.Name s13.Low c56 c66 s13.Default) (IntKind.wrap .i64 (s46 + 1))
  else
   i_NewRecord_l1 s1 s2 s3 s4 s8 s9 s44 s45 (TObject.mk s13.Id s13.Kind s13.Name s13.Low c56 s13.Vals s13.Default) (IntKind.wrap .i64 (s46 + 1))
 else
  some s13
 partial_fixpoint
noncomputable def i_NewRecord_j1 (s1 : ByteArray) (s2 : List ByteArray) (s3 : List TValue) (s4 : THeap) (s8 : THeap) (s9 : TValue) (s11 : Bool) : Option (THeap × TValue × Int) :=
 i_fitAll s4 s3 >>= fun r24 =>
 i_unless s11 1 >>= fun r26 =>
 i_unless (decide ((s3.length : Int) ≤ (s2.length : Int))) 3 >>= fun r32 =>
 i_first ([r24, r26, r32]) >>= fun r34 =>
 if r34 = 0 then
  slices_Clone_Value_Value s3 >>= fun r42 =>
  i_NewRecord_l1 s1 s2 s3 s4 s8 s9 s2 (s2.length : Int) (TObject.mk 0 3 s1 0 ([]) r42 (TValue.mk 0 0 ByteArray.empty 0)) 0 >>= fun t =>
  i_Heap_create s4 t >>= fun r71 =>
  some (r71.1, r71.2.1, r71.2.2)
 else
  some (THeap.mk 0 ([]), TValue.mk 0 0 ByteArray.empty 0, r34)
noncomputable def i_NewRecord (p0 : THeap) (p1 : ByteArray) (p2 : List ByteArray) (p3 : List TValue) : Option (THeap × TValue × Int) :=
 i_IsName p1 >>= fun r17 =>
 if r17 = true then
  i_areFields p2 >>= fun r20 =>
  i_NewRecord_j1 p1 p2 p3 p0 (THeap.mk 0 ([])) (TValue.mk 0 0 ByteArray.empty 0) r20
 else
  i_NewRecord_j1 p1 p2 p3 p0 (THeap.mk 0 ([])) (TValue.mk 0 0 ByteArray.empty 0) false
end Go.Vx.NrZ
