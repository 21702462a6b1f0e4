/-
  The program's functions as plain functions.
-/

import Derived.Test.YthfkpkfcnnhkeaaGreatTypes
import Derived.Test.YthfkpkfcnnhkeaaGreatVxC
import Derived.Test.YthfkpkfcnnhkeaaGreatVxE
set_option linter.unusedVariables false
set_option linter.unusedSimpArgs false
namespace Go.Vx.FuZ
set_option linter.unusedVariables false
set_option linter.unusedSimpArgs false
set_option maxRecDepth 10000
set_option maxHeartbeats 2000000
-- spec.l18Find
noncomputable def s_l18Find_l1 (s1 : ByteArray) (s2 : TScope) (s5 : Int) : Option (Unit ⊕ Int) :=
  if s5 < (s2.Functions.length : Int) then
    idx s2.Functions s5 >>= fun a16 =>
    if a16.Name = s1 then
      some (.inr s5)
    else
      s_l18Find_l1 s1 s2 (IntKind.wrap .i64 (s5 + 1))
  else
    some (.inl ())
  partial_fixpoint
noncomputable def s_l18Find (p0 : TScope) (p1 : ByteArray) : Option Int :=
  s_l18Find_l1 p1 p0 0 >>= fun t =>
  match t with
  | .inl t =>
    some (-1)
  | .inr t =>
    some t
-- spec.l02Letter
noncomputable def s_l02Letter (p0 : Int) : Option Bool :=
  if p0 ≥ 65 then
    if p0 ≤ 90 then
      some true
    else
      if p0 ≥ 97 then
        some (decide (p0 ≤ 122))
      else
        some false
  else
    if p0 ≥ 97 then
      some (decide (p0 ≤ 122))
    else
      some false
-- spec.l02Digit
noncomputable def s_l02Digit (p0 : Int) : Option Bool :=
  if p0 ≥ 48 then
    some (decide (p0 ≤ 57))
  else
    some false
-- spec.l02NameEnd
noncomputable def s_l02NameEnd_l1 (s0 : ByteArray) (s1 : Int) : Option Int :=
  if s1 < (s0.size : Int) then
    idxB s0 s1 >>= fun b24 =>
    s_l02Letter (b24.toNat : Int) >>= fun r25 =>
    if r25 = true then
      s_l02NameEnd_l1 s0 (IntKind.wrap .i64 (s1 + 1))
    else
      s_l02Digit (b24.toNat : Int) >>= fun r30 =>
      if r30 = true then
        s_l02NameEnd_l1 s0 (IntKind.wrap .i64 (s1 + 1))
      else
        if (b24.toNat : Int) = 95 then
          s_l02NameEnd_l1 s0 (IntKind.wrap .i64 (s1 + 1))
        else
          some s1
  else
    some s1
  partial_fixpoint
noncomputable def s_l02NameEnd_j1 (s0 : ByteArray) (s1 : Int) : Option Int :=
  s_l02NameEnd_l1 s0 s1 >>= fun t =>
  some t
noncomputable def s_l02NameEnd (p0 : ByteArray) (p1 : Int) : Option Int :=
  if p1 ≥ (p0.size : Int) then
    some p1
  else
    idxB p0 p1 >>= fun b12 =>
    s_l02Letter (b12.toNat : Int) >>= fun r13 =>
    if r13 = true then
      s_l02NameEnd_j1 p0 p1
    else
      some p1
-- spec.IsName
noncomputable def s_IsName (p0 : ByteArray) : Option Bool :=
  if p0 = ⟨#[]⟩ then
    some false
  else
    if (p0.size : Int) ≤ 12 then
      s_l02NameEnd p0 0 >>= fun r12 =>
      some (decide (r12 = (p0.size : Int)))
    else
      some false
-- spec.l06Plain
noncomputable def s_l06Plain (p0 : TValue) (p1 : Bool) (p2 : Bool) (p3 : Bool) : Option Bool :=
  if p1 = true then
    if p2 = true then
      if p3 = true then
        some true
      else
        some (decide (p0.Ref = 0))
    else
      if p0.Text = ⟨#[]⟩ then
        if p3 = true then
          some true
        else
          some (decide (p0.Ref = 0))
      else
        some false
  else
    if p0.Num = 0 then
      if p2 = true then
        if p3 = true then
          some true
        else
          some (decide (p0.Ref = 0))
      else
        if p0.Text = ⟨#[]⟩ then
          if p3 = true then
            some true
          else
            some (decide (p0.Ref = 0))
        else
          some false
    else
      some false
-- spec.l00In
noncomputable def s_l00In (p0 : Int) (p1 : Int) (p2 : Int) : Option Bool :=
  if p0 ≥ p1 then
    some (decide (p0 ≤ p2))
  else
    some false
-- spec.ValidValue
noncomputable def s_ValidValue_j1 (s1 : TValue) (s45 : Bool) : Option (Bool ⊕ Bool) :=
  if s45 = true then
    s_l06Plain s1 false true false >>= fun r49 =>
    if r49 = true then
      s_IsName s1.Text >>= fun r53 =>
      some (.inr r53)
    else
      some (.inr false)
  else
    some (.inl false)
noncomputable def s_ValidValue_j2 (s1 : TValue) (s4 : Int) (s34 : Bool) : Option (Bool ⊕ Bool) :=
  if s34 = true then
    s_l06Plain s1 false false true >>= fun r39 =>
    if r39 = true then
      s_l00In s1.Ref 1 1000000 >>= fun r43 =>
      some (.inr r43)
    else
      some (.inr false)
  else
    if s4 = 7 then
      s_ValidValue_j1 s1 true >>= fun t =>
      match t with
      | .inl t =>
        some (.inl t)
      | .inr t =>
        some (.inr t)
    else
      s_ValidValue_j1 s1 (decide (s4 = 8)) >>= fun t =>
      match t with
      | .inl t =>
        some (.inl t)
      | .inr t =>
        some (.inr t)
noncomputable def s_ValidValue (p0 : TValue) : Option Bool :=
  if p0.Kind = 1 then
    s_l06Plain p0 false true false >>= fun r8 =>
    if r8 = true then
      some (decide ((p0.Text.size : Int) ≤ 200))
    else
      some false
  else
    if p0.Kind = 2 then
      s_l06Plain p0 true false false >>= fun r18 =>
      if r18 = true then
        s_l00In p0.Num (-1000000000000) 1000000000000 >>= fun r22 =>
        some r22
      else
        some false
    else
      if p0.Kind = 3 then
        s_l06Plain p0 false true false >>= fun r27 =>
        if r27 = true then
          s_l00In (p0.Text.size : Int) 1 1200 >>= fun r32 =>
          some r32
        else
          some false
      else
        if p0.Kind = 4 then
          s_ValidValue_j2 p0 p0.Kind true >>= fun t =>
          match t with
          | .inl t =>
            some false
          | .inr t =>
            some t
        else
          if p0.Kind = 5 then
            s_ValidValue_j2 p0 p0.Kind true >>= fun t =>
            match t with
            | .inl t =>
              some false
            | .inr t =>
              some t
          else
            s_ValidValue_j2 p0 p0.Kind (decide (p0.Kind = 6)) >>= fun t =>
            match t with
            | .inl t =>
              some false
            | .inr t =>
              some t
-- spec.IsNull
noncomputable def s_IsNull (p0 : TValue) : Option Bool :=
  some ((decide (p0.Kind = 1)) && ((decide (p0.Num = 0)) && ((decide (p0.Text = ByteArray.empty)) && (decide (p0.Ref = 0)))))
-- spec.l17At
noncomputable def s_l17At_l1 (s0 : List ByteArray) (s1 : ByteArray) (s5 : Int) : Option (Unit ⊕ Int) :=
  if s5 < (s0.length : Int) then
    idx s0 s5 >>= fun a14 =>
    if a14 = s1 then
      some (.inr s5)
    else
      s_l17At_l1 s0 s1 (IntKind.wrap .i64 (s5 + 1))
  else
    some (.inl ())
  partial_fixpoint
noncomputable def s_l17At (p0 : List ByteArray) (p1 : ByteArray) : Option Int :=
  s_l17At_l1 p0 p1 0 >>= fun t =>
  match t with
  | .inl t =>
    some (-1)
  | .inr t =>
    some t
-- spec.l18Names
noncomputable def s_l18Names_l1 (s0 : List ByteArray) (s3 : Int) : Option (Unit ⊕ Bool) :=
  if s3 < (s0.length : Int) then
    idx s0 s3 >>= fun a12 =>
    s_IsName a12 >>= fun r14 =>
    if r14 = true then
      s_l17At s0 a12 >>= fun r22 =>
      if r22 = s3 then
        s_l18Names_l1 s0 (IntKind.wrap .i64 (s3 + 1))
      else
        some (.inr false)
    else
      some (.inr false)
  else
    some (.inl ())
  partial_fixpoint
noncomputable def s_l18Names (p0 : List ByteArray) : Option Bool :=
  s_l18Names_l1 p0 0 >>= fun t =>
  match t with
  | .inl t =>
    some true
  | .inr t =>
    some t
-- spec.l18Function
noncomputable def s_l18Function_j1 (s1 : TFunction) : Option Bool :=
  chk (s1.Params.length ≤ most) >>= fun _ =>
  app s1.Params s1.Locals >>= fun c31 =>
  s_l18Names c31 >>= fun r32 =>
  some r32
noncomputable def s_l18Function (p0 : TFunction) : Option Bool :=
  s_IsName p0.Name >>= fun r5 =>
  if r5 = true then
    s_IsName p0.Label >>= fun r10 =>
    if r10 = true then
      if (p0.Params.length : Int) > 6 then
        some false
      else
        if (p0.Locals.length : Int) > 6 then
          some false
        else
          s_l18Function_j1 p0
    else
      some false
  else
    some false
-- spec.l18Type
noncomputable def s_l18Type (p0 : TRecordType) : Option Bool :=
  s_IsName p0.Name >>= fun r5 =>
  if r5 = true then
    s_l00In (p0.Fields.length : Int) 1 6 >>= fun r10 =>
    if r10 = true then
      s_l18Names p0.Fields >>= fun r15 =>
      some r15
    else
      some false
  else
    some false
-- spec.ValidScope
noncomputable def s_ValidScope_l1 (s1 : TScope) (s3 : Int) : Option (Unit ⊕ Bool) :=
  if s3 < (s1.Vars.length : Int) then
    idx s1.Vars s3 >>= fun a33 =>
    s_IsName a33.Name >>= fun r37 =>
    if r37 = true then
      s_ValidValue a33.Value >>= fun r42 =>
      if r42 = true then
        s_IsNull a33.Value >>= fun r48 =>
        if r48 = true then
          some (.inr false)
        else
          if s3 > 0 then
            idx s1.Vars (IntKind.wrap .i64 (s3 - 1)) >>= fun a58 =>
            if (Op.bytesLess a58.Name.toList a33.Name.toList) = true then
              s_ValidScope_l1 s1 (IntKind.wrap .i64 (s3 + 1))
            else
              some (.inr false)
          else
            s_ValidScope_l1 s1 (IntKind.wrap .i64 (s3 + 1))
      else
        some (.inr false)
    else
      some (.inr false)
  else
    some (.inl ())
  partial_fixpoint
noncomputable def s_ValidScope_l2 (s1 : TScope) (s5 : Int) : Option (Unit ⊕ Bool) :=
  if s5 < (s1.Functions.length : Int) then
    idx s1.Functions s5 >>= fun a76 =>
    s_l18Function a76 >>= fun r78 =>
    if r78 = true then
      if s5 > 0 then
        idx s1.Functions (IntKind.wrap .i64 (s5 - 1)) >>= fun a88 =>
        if (Op.bytesLess a88.Name.toList a76.Name.toList) = true then
          s_ValidScope_l2 s1 (IntKind.wrap .i64 (s5 + 1))
        else
          some (.inr false)
      else
        s_ValidScope_l2 s1 (IntKind.wrap .i64 (s5 + 1))
    else
      some (.inr false)
  else
    some (.inl ())
  partial_fixpoint
noncomputable def s_ValidScope_l3 (s1 : TScope) (s6 : Int) : Option (Unit ⊕ Bool) :=
  if s6 < (s1.Types.length : Int) then
    idx s1.Types s6 >>= fun a110 =>
    s_l18Type a110 >>= fun r112 =>
    if r112 = true then
      if s6 > 0 then
        idx s1.Types (IntKind.wrap .i64 (s6 - 1)) >>= fun a122 =>
        if (Op.bytesLess a122.Name.toList a110.Name.toList) = true then
          s_ValidScope_l3 s1 (IntKind.wrap .i64 (s6 + 1))
        else
          some (.inr false)
      else
        s_ValidScope_l3 s1 (IntKind.wrap .i64 (s6 + 1))
    else
      some (.inr false)
  else
    some (.inl ())
  partial_fixpoint
noncomputable def s_ValidScope_j1 (s1 : TScope) : Option Bool :=
  s_ValidScope_l1 s1 0 >>= fun t =>
  match t with
  | .inl t =>
    s_ValidScope_l2 s1 0 >>= fun t_1 =>
    match t_1 with
    | .inl t_1 =>
      s_ValidScope_l3 s1 0 >>= fun t_2 =>
      match t_2 with
      | .inl t_2 =>
        some true
      | .inr t_2 =>
        some t_2
    | .inr t_1 =>
      some t_1
  | .inr t =>
    some t
noncomputable def s_ValidScope (p0 : TScope) : Option Bool :=
  if (p0.Vars.length : Int) > 40 then
    some false
  else
    if (p0.Functions.length : Int) > 12 then
      some false
    else
      if (p0.Types.length : Int) > 8 then
        some false
      else
        s_ValidScope_j1 p0
-- spec.l18OwnFunction
noncomputable def s_l18OwnFunction (p0 : TFunction) : Option TFunction :=
  chk (p0.Params.length ≤ most) >>= fun _ =>
  chk (p0.Locals.length ≤ most) >>= fun _ =>
  some p0
-- spec.FunctionOf
noncomputable def s_FunctionOf_j1 (s1 : ByteArray) (s2 : TScope) (s4 : TFunction) (s6 : Int) : Option (TFunction × Bool) :=
  idx s2.Functions s6 >>= fun a21 =>
  s_l18OwnFunction a21 >>= fun r23 =>
  some (r23, true)
noncomputable def s_FunctionOf (p0 : TScope) (p1 : ByteArray) : Option (TFunction × Bool) :=
  s_l18Find p0 p1 >>= fun r9 =>
  s_ValidScope p0 >>= fun r11 =>
  if r11 = true then
    if r9 < 0 then
      some (TFunction.mk ByteArray.empty ([]) ([]) ByteArray.empty, false)
    else
      s_FunctionOf_j1 p1 p0 (TFunction.mk ByteArray.empty ([]) ([]) ByteArray.empty) r9
  else
    some (TFunction.mk ByteArray.empty ([]) ([]) ByteArray.empty, false)
-- impl.nameOfBinding
noncomputable def i_nameOfBinding (p0 : TBinding) : Option ByteArray :=
  some p0.Name
-- impl.isSorted[impl.Binding]
noncomputable def i_isSorted_Binding_l1 (s0 : List TBinding) (s5 : Int) : Option (Unit ⊕ Bool) :=
  if s5 < (s0.length : Int) then
    idx s0 (IntKind.wrap .i64 (s5 - 1)) >>= fun a16 =>
    i_nameOfBinding a16 >>= fun r18 =>
    idx s0 s5 >>= fun a22 =>
    i_nameOfBinding a22 >>= fun r24 =>
    if (Op.bytesLess r18.toList r24.toList) = true then
      i_isSorted_Binding_l1 s0 (IntKind.wrap .i64 (s5 + 1))
    else
      some (.inr false)
  else
    some (.inl ())
  partial_fixpoint
noncomputable def i_isSorted_Binding (p0 : List TBinding) : Option Bool :=
  i_isSorted_Binding_l1 p0 1 >>= fun t =>
  match t with
  | .inl t =>
    some true
  | .inr t =>
    some t
-- impl.nameOfFunction
noncomputable def i_nameOfFunction (p0 : TFunction) : Option ByteArray :=
  some p0.Name
-- impl.isSorted[impl.Function]
noncomputable def i_isSorted_Function_l1 (s0 : List TFunction) (s5 : Int) : Option (Unit ⊕ Bool) :=
  if s5 < (s0.length : Int) then
    idx s0 (IntKind.wrap .i64 (s5 - 1)) >>= fun a16 =>
    i_nameOfFunction a16 >>= fun r18 =>
    idx s0 s5 >>= fun a22 =>
    i_nameOfFunction a22 >>= fun r24 =>
    if (Op.bytesLess r18.toList r24.toList) = true then
      i_isSorted_Function_l1 s0 (IntKind.wrap .i64 (s5 + 1))
    else
      some (.inr false)
  else
    some (.inl ())
  partial_fixpoint
noncomputable def i_isSorted_Function (p0 : List TFunction) : Option Bool :=
  i_isSorted_Function_l1 p0 1 >>= fun t =>
  match t with
  | .inl t =>
    some true
  | .inr t =>
    some t
-- impl.nameOfType
noncomputable def i_nameOfType (p0 : TRecordType) : Option ByteArray :=
  some p0.Name
-- impl.isSorted[impl.RecordType]
noncomputable def i_isSorted_RecordType_l1 (s0 : List TRecordType) (s5 : Int) : Option (Unit ⊕ Bool) :=
  if s5 < (s0.length : Int) then
    idx s0 (IntKind.wrap .i64 (s5 - 1)) >>= fun a16 =>
    i_nameOfType a16 >>= fun r18 =>
    idx s0 s5 >>= fun a22 =>
    i_nameOfType a22 >>= fun r24 =>
    if (Op.bytesLess r18.toList r24.toList) = true then
      i_isSorted_RecordType_l1 s0 (IntKind.wrap .i64 (s5 + 1))
    else
      some (.inr false)
  else
    some (.inl ())
  partial_fixpoint
noncomputable def i_isSorted_RecordType (p0 : List TRecordType) : Option Bool :=
  i_isSorted_RecordType_l1 p0 1 >>= fun t =>
  match t with
  | .inl t =>
    some true
  | .inr t =>
    some t
-- impl.isLetter
noncomputable def i_isLetter (p0 : Int) : Option Bool :=
  if p0 ≥ 65 then
    if p0 ≤ 90 then
      some true
    else
      if p0 ≥ 97 then
        some (decide (p0 ≤ 122))
      else
        some false
  else
    if p0 ≥ 97 then
      some (decide (p0 ≤ 122))
    else
      some false
-- impl.isDigit
noncomputable def i_isDigit (p0 : Int) : Option Bool :=
  if p0 ≥ 48 then
    some (decide (p0 ≤ 57))
  else
    some false
-- impl.isNameByte
noncomputable def i_isNameByte (p0 : Int) : Option Bool :=
  i_isLetter p0 >>= fun r4 =>
  if r4 = true then
    some true
  else
    i_isDigit p0 >>= fun r7 =>
    if r7 = true then
      some true
    else
      some (decide (p0 = 95))
-- impl.areAll[byte]
noncomputable def i_areAll_byte_l1 (s0 : List Int) (s7 : List Int) (s8 : Int) (s9 : Int) : Option (Unit ⊕ Bool) :=
  if s9 < s8 then
    idx s7 s9 >>= fun a11 =>
    i_isNameByte a11 >>= fun r15 =>
    if r15 = true then
      i_areAll_byte_l1 s0 s7 s8 (IntKind.wrap .i64 (s9 + 1))
    else
      some (.inr false)
  else
    some (.inl ())
  partial_fixpoint
noncomputable def i_areAll_byte (p0 : List Int) : Option Bool :=
  i_areAll_byte_l1 p0 p0 (p0.length : Int) 0 >>= fun t =>
  match t with
  | .inl t =>
    some true
  | .inr t =>
    some t
-- impl.IsName
noncomputable def i_IsName (p0 : ByteArray) : Option Bool :=
  if (p0.size : Int) ≥ 1 then
    if (p0.size : Int) ≤ 12 then
      idxBN p0 0 >>= fun b13 =>
      i_isLetter (b13.toNat : Int) >>= fun r14 =>
      if r14 = true then
        i_areAll_byte (strI p0) >>= fun r19 =>
        some r19
      else
        some false
    else
      some false
  else
    some false
-- impl.within
noncomputable def i_within (p0 : Int) (p1 : Int) (p2 : Int) : Option Bool :=
  if p0 ≥ p1 then
    some (decide (p0 ≤ p2))
  else
    some false
-- impl.isObjectId
noncomputable def i_isObjectId (p0 : Int) : Option Bool :=
  i_within p0 1 1000000 >>= fun r4 =>
  some r4
-- impl.ValidValue
noncomputable def i_ValidValue_j1 (s1 : TValue) (s65 : Bool) : Option (Bool ⊕ Bool) :=
  if s65 = true then
    if s1.Num = 0 then
      if s1.Ref = 0 then
        i_IsName s1.Text >>= fun r78 =>
        some (.inr r78)
      else
        some (.inr false)
    else
      some (.inr false)
  else
    some (.inl false)
noncomputable def i_ValidValue_j2 (s1 : TValue) (s4 : Int) (s49 : Bool) : Option (Bool ⊕ Bool) :=
  if s49 = true then
    if s1.Num = 0 then
      if s1.Text = ByteArray.empty then
        i_isObjectId s1.Ref >>= fun r63 =>
        some (.inr r63)
      else
        some (.inr false)
    else
      some (.inr false)
  else
    if s4 = 7 then
      i_ValidValue_j1 s1 true >>= fun t =>
      match t with
      | .inl t =>
        some (.inl t)
      | .inr t =>
        some (.inr t)
    else
      i_ValidValue_j1 s1 (decide (s4 = 8)) >>= fun t =>
      match t with
      | .inl t =>
        some (.inl t)
      | .inr t =>
        some (.inr t)
noncomputable def i_ValidValue (p0 : TValue) : Option Bool :=
  if p0.Kind = 1 then
    if p0.Num = 0 then
      if p0.Ref = 0 then
        some (decide ((p0.Text.size : Int) ≤ 200))
      else
        some false
    else
      some false
  else
    if p0.Kind = 2 then
      if p0.Text = ByteArray.empty then
        if p0.Ref = 0 then
          i_within p0.Num (-1000000000000) 1000000000000 >>= fun r28 =>
          some r28
        else
          some false
      else
        some false
    else
      if p0.Kind = 3 then
        if p0.Num = 0 then
          if p0.Ref = 0 then
            if (p0.Text.size : Int) ≥ 1 then
              some (decide ((p0.Text.size : Int) ≤ 1200))
            else
              some false
          else
            some false
        else
          some false
      else
        if p0.Kind = 4 then
          i_ValidValue_j2 p0 p0.Kind true >>= fun t =>
          match t with
          | .inl t =>
            some false
          | .inr t =>
            some t
        else
          if p0.Kind = 5 then
            i_ValidValue_j2 p0 p0.Kind true >>= fun t =>
            match t with
            | .inl t =>
              some false
            | .inr t =>
              some t
          else
            i_ValidValue_j2 p0 p0.Kind (decide (p0.Kind = 6)) >>= fun t =>
            match t with
            | .inl t =>
              some false
            | .inr t =>
              some t
-- impl.textOf
noncomputable def i_textOf (p0 : ByteArray) : Option TValue :=
  some (TValue.mk 1 0 p0 0)
-- impl.null
noncomputable def i_null : Option TValue :=
  i_textOf (⟨#[]⟩) >>= fun r1 =>
  some r1
-- impl.IsNull
noncomputable def i_IsNull (p0 : TValue) : Option Bool :=
  i_null >>= fun r4 =>
  some ((decide (p0.Kind = r4.Kind)) && ((decide (p0.Num = r4.Num)) && ((decide (p0.Text = r4.Text)) && (decide (p0.Ref = r4.Ref)))))
-- (impl.Binding).isValid
noncomputable def i_Binding_isValid (p0 : TBinding) : Option Bool :=
  i_IsName p0.Name >>= fun r5 =>
  if r5 = true then
    i_ValidValue p0.Value >>= fun r9 =>
    if r9 = true then
      i_IsNull p0.Value >>= fun r14 =>
      some (!r14)
    else
      some false
  else
    some false
-- impl.areAll[impl.Binding]
noncomputable def i_areAll_Binding_l1 (s0 : List TBinding) (s7 : List TBinding) (s8 : Int) (s9 : Int) : Option (Unit ⊕ Bool) :=
  if s9 < s8 then
    idx s7 s9 >>= fun a11 =>
    i_Binding_isValid a11 >>= fun r15 =>
    if r15 = true then
      i_areAll_Binding_l1 s0 s7 s8 (IntKind.wrap .i64 (s9 + 1))
    else
      some (.inr false)
  else
    some (.inl ())
  partial_fixpoint
noncomputable def i_areAll_Binding (p0 : List TBinding) : Option Bool :=
  i_areAll_Binding_l1 p0 p0 (p0.length : Int) 0 >>= fun t =>
  match t with
  | .inl t =>
    some true
  | .inr t =>
    some t
-- slices.Concat[[]string,string]
noncomputable def slices_Concat_string_string (a b : List ByteArray) : Option (List ByteArray) := chk (a.length + b.length ≤ most) >>= fun _ => some (a ++ b)
-- impl.areAll[string]
noncomputable def i_areAll_string_l1 (s0 : List ByteArray) (s7 : List ByteArray) (s8 : Int) (s9 : Int) : Option (Unit ⊕ Bool) :=
  if s9 < s8 then
    idx s7 s9 >>= fun a11 =>
    i_IsName a11 >>= fun r15 =>
    if r15 = true then
      i_areAll_string_l1 s0 s7 s8 (IntKind.wrap .i64 (s9 + 1))
    else
      some (.inr false)
  else
    some (.inl ())
  partial_fixpoint
noncomputable def i_areAll_string (p0 : List ByteArray) : Option Bool :=
  i_areAll_string_l1 p0 p0 (p0.length : Int) 0 >>= fun t =>
  match t with
  | .inl t =>
    some true
  | .inr t =>
    some t
-- slices.Clone[[]string,string]
noncomputable def slices_Clone_string_string (p0 : List ByteArray) : Option (List ByteArray) := chk (p0.length ≤ most) >>= fun _ => some p0
-- slices.Sort[[]string,string]
noncomputable def slices_Sort_string_string (p0 : List ByteArray) : Option (List ByteArray) := chk (p0.length ≤ most) >>= fun _ => some (sortB p0)
-- slices.Compact[[]string,string]
noncomputable def slices_Compact_string_string (p0 : List ByteArray) : Option (List ByteArray) := chk (p0.length ≤ most) >>= fun _ => some (compactB p0)
-- impl.sortedNames
noncomputable def i_sortedNames (p0 : List ByteArray) : Option ((List ByteArray)) :=
  slices_Sort_string_string p0 >>= fun r4 =>
  slices_Compact_string_string r4 >>= fun r6 =>
  some r6
-- (impl.Function).isValid
noncomputable def i_Function_isValid_j1 (s1 : TFunction) (s3 : List ByteArray) (s4 : Bool) : Option Bool :=
  i_IsName s1.Name >>= fun r23 =>
  if r23 = true then
    i_IsName s1.Label >>= fun r27 =>
    if r27 = true then
      if s4 = true then
        i_areAll_string s3 >>= fun r34 =>
        if r34 = true then
          slices_Clone_string_string s3 >>= fun r38 =>
          i_sortedNames r38 >>= fun r39 =>
          some (decide ((r39.length : Int) = (s3.length : Int)))
        else
          some false
      else
        some false
    else
      some false
  else
    some false
noncomputable def i_Function_isValid (p0 : TFunction) : Option Bool :=
  slices_Concat_string_string p0.Params p0.Locals >>= fun r10 =>
  if (p0.Params.length : Int) ≤ 6 then
    i_Function_isValid_j1 p0 r10 (decide ((p0.Locals.length : Int) ≤ 6))
  else
    i_Function_isValid_j1 p0 r10 false
-- impl.areAll[impl.Function]
noncomputable def i_areAll_Function_l1 (s0 : List TFunction) (s7 : List TFunction) (s8 : Int) (s9 : Int) : Option (Unit ⊕ Bool) :=
  if s9 < s8 then
    idx s7 s9 >>= fun a11 =>
    i_Function_isValid a11 >>= fun r15 =>
    if r15 = true then
      i_areAll_Function_l1 s0 s7 s8 (IntKind.wrap .i64 (s9 + 1))
    else
      some (.inr false)
  else
    some (.inl ())
  partial_fixpoint
noncomputable def i_areAll_Function (p0 : List TFunction) : Option Bool :=
  i_areAll_Function_l1 p0 p0 (p0.length : Int) 0 >>= fun t =>
  match t with
  | .inl t =>
    some true
  | .inr t =>
    some t
-- impl.areFields
noncomputable def i_areFields_j1 (s0 : List ByteArray) : Option Bool :=
  slices_Clone_string_string s0 >>= fun r17 =>
  i_sortedNames r17 >>= fun r18 =>
  some (decide ((r18.length : Int) = (s0.length : Int)))
noncomputable def i_areFields (p0 : List ByteArray) : Option Bool :=
  if (p0.length : Int) < 1 then
    some false
  else
    if (p0.length : Int) > 6 then
      some false
    else
      i_areAll_string p0 >>= fun r13 =>
      if r13 = true then
        i_areFields_j1 p0
      else
        some false
-- (impl.RecordType).isValid
noncomputable def i_RecordType_isValid (p0 : TRecordType) : Option Bool :=
  i_IsName p0.Name >>= fun r5 =>
  if r5 = true then
    i_areFields p0.Fields >>= fun r9 =>
    some r9
  else
    some false
-- impl.areAll[impl.RecordType]
noncomputable def i_areAll_RecordType_l1 (s0 : List TRecordType) (s7 : List TRecordType) (s8 : Int) (s9 : Int) : Option (Unit ⊕ Bool) :=
  if s9 < s8 then
    idx s7 s9 >>= fun a11 =>
    i_RecordType_isValid a11 >>= fun r15 =>
    if r15 = true then
      i_areAll_RecordType_l1 s0 s7 s8 (IntKind.wrap .i64 (s9 + 1))
    else
      some (.inr false)
  else
    some (.inl ())
  partial_fixpoint
noncomputable def i_areAll_RecordType (p0 : List TRecordType) : Option Bool :=
  i_areAll_RecordType_l1 p0 p0 (p0.length : Int) 0 >>= fun t =>
  match t with
  | .inl t =>
    some true
  | .inr t =>
    some t
-- impl.ValidScope
noncomputable def i_ValidScope_j1 (s1 : TScope) (s3 : Bool) : Option Bool :=
  if s3 = true then
    i_areAll_Binding s1.Vars >>= fun r37 =>
    if r37 = true then
      i_areAll_Function s1.Functions >>= fun r42 =>
      if r42 = true then
        i_areAll_RecordType s1.Types >>= fun r47 =>
        some r47
      else
        some false
    else
      some false
  else
    some false
noncomputable def i_ValidScope_j2 (s1 : TScope) : Option Bool :=
  i_isSorted_Binding s1.Vars >>= fun r22 =>
  if r22 = true then
    i_isSorted_Function s1.Functions >>= fun r26 =>
    if r26 = true then
      i_isSorted_RecordType s1.Types >>= fun r31 =>
      i_ValidScope_j1 s1 r31 >>= fun t =>
      some t
    else
      i_ValidScope_j1 s1 false >>= fun t =>
      some t
  else
    i_ValidScope_j1 s1 false >>= fun t =>
    some t
noncomputable def i_ValidScope (p0 : TScope) : Option Bool :=
  if (p0.Vars.length : Int) > 40 then
    some false
  else
    if (p0.Functions.length : Int) > 12 then
      some false
    else
      if (p0.Types.length : Int) > 8 then
        some false
      else
        i_ValidScope_j2 p0
-- slices.Clone[[]impl.Binding,impl.Binding]
noncomputable def slices_Clone_Binding_Binding (p0 : List TBinding) : Option (List TBinding) := chk (p0.length ≤ most) >>= fun _ => some p0
-- (impl.Scope).copied
noncomputable def i_Scope_copied_l1 (s1 : TScope) (s2 : TScope) (s13 : List TFunction) (s14 : Int) (s3 : TScope) (s15 : Int) : Option TScope :=
  if s15 < s14 then
    idx s13 s15 >>= fun a17 =>
    slices_Clone_string_string a17.Params >>= fun r21 =>
    slices_Clone_string_string a17.Locals >>= fun r24 =>
    app s3.Functions ([TFunction.mk a17.Name r21 r24 a17.Label]) >>= fun c31 =>
    i_Scope_copied_l1 s1 s2 s13 s14 (TScope.mk s3.Vars c31 s3.Types) (IntKind.wrap .i64 (s15 + 1))
  else
    some s3
  partial_fixpoint
noncomputable def i_Scope_copied_l2 (s1 : TScope) (s2 : TScope) (s35 : List TRecordType) (s36 : Int) (s3 : TScope) (s37 : Int) : Option TScope :=
  if s37 < s36 then
    idx s35 s37 >>= fun a39 =>
    slices_Clone_string_string a39.Fields >>= fun r43 =>
    app s3.Types ([TRecordType.mk a39.Name r43]) >>= fun c49 =>
    i_Scope_copied_l2 s1 s2 s35 s36 (TScope.mk s3.Vars s3.Functions c49) (IntKind.wrap .i64 (s37 + 1))
  else
    some s3
  partial_fixpoint
noncomputable def i_Scope_copied (p0 : TScope) : Option TScope :=
  slices_Clone_Binding_Binding p0.Vars >>= fun r10 =>
  i_Scope_copied_l1 p0 (TScope.mk ([]) ([]) ([])) p0.Functions (p0.Functions.length : Int) (TScope.mk r10 ([]) ([])) 0 >>= fun t =>
  i_Scope_copied_l2 p0 (TScope.mk ([]) ([]) ([])) p0.Types (p0.Types.length : Int) t 0 >>= fun t_1 =>
  some t_1
-- cmp.isNaN[string]
noncomputable def cmp_isNaN_string (p0 : ByteArray) : Option Bool :=
  some false
-- cmp.Compare[string]
noncomputable def cmp_Compare_string (p0 : ByteArray) (p1 : ByteArray) : Option Int :=
  cmp_isNaN_string p0 >>= fun r8 =>
  cmp_isNaN_string p1 >>= fun r10 =>
  if r8 = true then
    if r10 = true then
      some 0
    else
      some (-1)
  else
    if r10 = true then
      some 1
    else
      if (Op.bytesLess p0.toList p1.toList) = true then
        some (-1)
      else
        if p0 = p1 then
          some 0
        else
          some 1
-- impl.find[impl.Function].1
noncomputable def i_find_Function_1 (p0 : TFunction) (p1 : ByteArray) : Option Int :=
  i_nameOfFunction p0 >>= fun r8 =>
  cmp_Compare_string r8 p1 >>= fun r10 =>
  some r10
-- slices.BinarySearchFunc[[]impl.Function,impl.Function,string]
noncomputable def slices_BinarySearchFunc_Function_Function_string_l1 (s0 : List TFunction) (s1 : ByteArray) (s8 : Int) (s9 : Int) (s10 : Int) : Option Int :=
  if s9 < s10 then
    idx s0 (IntKind.wrap .i64 ((IntKind.wrap .u64 (IntKind.wrap .i64 (s9 + s10))).fdiv (2 ^ (min 1 (IntKind.bits .u64))))) >>= fun a27 =>
    i_find_Function_1 a27 s1 >>= fun r30 =>
    if r30 < 0 then
      slices_BinarySearchFunc_Function_Function_string_l1 s0 s1 s8 (IntKind.wrap .i64 (IntKind.wrap .i64 ((IntKind.wrap .u64 (IntKind.wrap .i64 (s9 + s10))).fdiv (2 ^ (min 1 (IntKind.bits .u64)))) + 1)) s10
    else
      slices_BinarySearchFunc_Function_Function_string_l1 s0 s1 s8 s9 (IntKind.wrap .i64 ((IntKind.wrap .u64 (IntKind.wrap .i64 (s9 + s10))).fdiv (2 ^ (min 1 (IntKind.bits .u64)))))
  else
    some s9
  partial_fixpoint
noncomputable def slices_BinarySearchFunc_Function_Function_string (p0 : List TFunction) (p1 : ByteArray) : Option (Int × Bool) :=
  slices_BinarySearchFunc_Function_Function_string_l1 p0 p1 (p0.length : Int) 0 (p0.length : Int) >>= fun t =>
  if t < (p0.length : Int) then
    idx p0 t >>= fun a43 =>
    i_find_Function_1 a43 p1 >>= fun r46 =>
    some (t, (decide (r46 = 0)))
  else
    some (t, false)
-- impl.find[impl.Function]
noncomputable def i_find_Function (p0 : List TFunction) (p1 : ByteArray) : Option (Int × Bool) :=
  slices_BinarySearchFunc_Function_Function_string p0 p1 >>= fun r11 =>
  some (r11.1, r11.2)
-- (impl.Scope).function
noncomputable def i_Scope_function (p0 : TScope) (p1 : ByteArray) : Option (TFunction × Bool) :=
  i_find_Function p0.Functions p1 >>= fun r12 =>
  if r12.2 = true then
    idx p0.Functions r12.1 >>= fun a21 =>
    some (a21, true)
  else
    some (TFunction.mk ByteArray.empty ([]) ([]) ByteArray.empty, false)
-- impl.FunctionOf
noncomputable def i_FunctionOf (p0 : TScope) (p1 : ByteArray) : Option (TFunction × Bool) :=
  i_ValidScope p0 >>= fun r7 =>
  if r7 = true then
    i_Scope_copied p0 >>= fun r11 =>
    i_Scope_function r11 p1 >>= fun r13 =>
    some (r13.1, r13.2)
  else
    some (TFunction.mk ByteArray.empty ([]) ([]) ByteArray.empty, false)
end Go.Vx.FuZ
