/-
  What the plain functions give, the program gives too.
-/
import Derived.Test.YtdhpbbopmlppfaaGreatAu
set_option linter.unusedVariables false
set_option linter.unusedSimpArgs false
namespace Go.Vx.CmZ
set_option linter.unusedVariables false
set_option linter.unusedSimpArgs false
set_option maxRecDepth 10000
set_option maxHeartbeats 2000000
attribute [local irreducible] go bk exi got
instance g_i_within (p0 p1 p2:Int):Lw (PV D.bool) (zdI p0 p1 p2) (zab T 100 [dI p0,dI p1,dI p2] []):=⟨E (zdI.eq_def ..)⟩
instance g_i_isObjectId (p0:Int):Lw (PV D.bool) (zem p0) (zab T 160 [dI p0] []):=⟨E (zem.eq_def ..)⟩
instance g_i_isLetter (p0:Int):Lw (PV D.bool) (zfO p0) (zab T 194 [D.int .u8 p0] []):=⟨E (zfO.eq_def ..)⟩
instance g_i_isDigit (p0:Int):Lw (PV D.bool) (zhS p0) (zab T 206 [D.int .u8 p0] []):=⟨E (zhS.eq_def ..)⟩
instance g_i_isNameByte (p0:Int):Lw (PV D.bool) (zen p0) (zab T 196 [D.int .u8 p0] []):=⟨E (zen.eq_def ..)⟩
instance p_i_areAll_byte_l1 (s0 s7:List Int) (s8:Int):∀ (s9:Int),Lp (kS (kN T (enF [.tmp 4] []) fun t=>⟨sL false 1 (D.int .u8) s0::.d (D.fn 196 [])::zs 16 [],[]⟩) (kR (PV D.bool))) (zdi s0 s7 s8 s9) fun k=>go T (enF [.tmp 4] []) zsz (.lp zsA::.bl 0::.sq (.clr [4,6,7,8,9,10,11,12,13,14,15,16,17])::k) ⟨sL false 1 (D.int .u8) s0::.d (D.fn 196 [])::zs 5 (sL false 1 (D.int .u8) s7::sI s8::sI s9::zs 8 []),[]⟩:=Lp1 (zdi.partial_correctness s0 s7 s8) (by exact fun _ _ _ _=>G zsz.eq_def)
instance g_i_areAll_byte (p0:List Int):Lw (PV D.bool) (zeE p0) (zab T 195 [D.sl false 1 (List.map (D.int .u8) p0),D.fn 196 []] []):=⟨E (zeE.eq_def ..)⟩
instance g_i_IsName (p0:ByteArray):Lw (PV D.bool) (zcK p0) (zab T 163 [D.str p0] []):=⟨E (zcK.eq_def ..)⟩
instance p_i_ValidValue_j1 (s1:TValue) (s65:Bool):Lp (kS (kN T (enF [.tmp 2] []) fun t=>⟨Z::.box (TValue.c false s1)::zs 63 (sB t::zs 14 []),[]⟩) (kR (PV D.bool))) (zdJ s1 s65) fun k=>go T (enF [.tmp 2] []) zrj k ⟨Z::.box (TValue.c false s1)::zs 63 (sB s65::zs 14 []),[]⟩:=⟨fun k=>GG (zdJ.eq_def ..) zrj.eq_def⟩
instance p_i_ValidValue_j2 (s1:TValue) (s4:Int) (s49:Bool):Lp (kS (kN T (enF [.tmp 2] []) fun t=>⟨Z::.box (TValue.c false s1)::zs 78 [],[]⟩) (kR (PV D.bool))) (zcx s1 s4 s49) fun k=>go T (enF [.tmp 2] []) zrk k ⟨Z::.box (TValue.c false s1)::Z::Z::sI s4::zs 44 (sB s49::zs 30 []),[]⟩:=⟨fun k=>GG (zcx.eq_def ..) zrk.eq_def⟩
instance g_i_ValidValue (p0:TValue):Lw (PV D.bool) (zbl p0) (zab T 124 [TValue.e false p0] []):=⟨E (zbl.eq_def ..)⟩
instance p_i_areAll_Value_l1 (s0 s7:List TValue) (s8:Int):∀ (s9:Int),Lp (kS (kN T (enF [.tmp 4] []) fun t=>⟨sL false 4 (TValue.e false) s0::.d (D.fn 124 [])::zs 16 [],[]⟩) (kR (PV D.bool))) (zcL s0 s7 s8 s9) fun k=>go T (enF [.tmp 4] []) zow (.lp zox::.bl 0::.sq (.clr [4,6,7,8,9,10,11,12,13,14,15,16,17])::k) ⟨sL false 4 (TValue.e false) s0::.d (D.fn 124 [])::zs 5 (sL false 4 (TValue.e false) s7::sI s8::sI s9::zs 8 []),[]⟩:=Lp1 (zcL.partial_correctness s0 s7 s8) (by exact fun _ _ _ _=>G zow.eq_def)
instance g_i_areAll_Value (p0:List TValue):Lw (PV D.bool) (zcZ p0) (zab T 53 [D.sl false 4 (List.map (TValue.e false) p0),D.fn 124 []] []):=⟨E (zcZ.eq_def ..)⟩
instance p_slices_Index_Value_Value_l1 (s0:List TValue) (s3:TValue) (s7:Int):∀ (s8:Int),Lp (kS (kN T (enF [.tmp 4] []) fun t=>⟨sL false 4 (TValue.e false) s0::zs 18 [],[]⟩) (kR (PV dI))) (zal s0 s3 s7 s8) fun k=>go T (enF [.tmp 4] []) zsF (.lp zsG::.bl 0::.sq (.clr [1,3,4,5,6,7,8,9,10,11,12,13,14,15,16,17,18])::k) ⟨sL false 4 (TValue.e false) s0::Z::Z::.box (TValue.c false s3)::Z::Z::Z::sI s7::sI s8::zs 10 [],[]⟩:=Lp1 (zal.partial_correctness s0 s3 s7) (by exact fun _ _ _ _=>G zsF.eq_def)
instance g_slices_Index_Value_Value (p0:List TValue) (p1:TValue):Lw (PV dI) (zbO p0 p1) (zab T 205 [D.sl false 4 (List.map (TValue.e false) p0),TValue.e false p1] []):=⟨E (zbO.eq_def ..)⟩
instance g_slices_Contains_Value_Value (p0:List TValue) (p1:TValue):Lw (PV D.bool) (zay p0 p1) (zab T 192 [D.sl false 4 (List.map (TValue.e false) p0),TValue.e false p1] []):=⟨E (zay.eq_def ..)⟩
instance p_i_areDifferent_l1 (s0 s5:List TValue) (s6:Int):∀ (s7:Int),Lp (kS (kN T (enF [.tmp 2] []) fun t=>⟨sL false 4 (TValue.e false) s0::zs 17 [],[]⟩) (kR (PV D.bool))) (zcM s0 s5 s6 s7) fun k=>go T (enF [.tmp 2] []) zrR (.lp zrS::.bl 0::.sq (.clr (rg 2 16))::k) ⟨sL false 4 (TValue.e false) s0::zs 4 (sL false 4 (TValue.e false) s5::sI s6::sI s7::zs 10 []),[]⟩:=Lp1 (zcM.partial_correctness s0 s5 s6) (by
 intro rec _ s7 k
 refine G0 zrR.eq_def ?_
 try conv=>arg 3;simp (maxSteps:=999999) only [push_cast,↓reduceIte,seval, *]
 refine Le.itq (fun h=>?_) (fun h=>?_)
 ·try conv=>arg 3;simp (maxSteps:=999999) only [push_cast,↓reduceIte,seval, *]
  refine Le.idx fun a10 h_1 h_2 h_3=>?_
  try conv=>arg 3;simp (maxSteps:=999999) only [push_cast,↓reduceIte,seval, *]
  refine Le.subH fun c14 h_4 h_5 h_6=>?_
  replace h_4:List.take s7.toNat (List.map (TValue.e false) s0)=List.map (TValue.e false) c14:=by rw [h_4];exact zqJ ..
  exact A
 ·exact A)
instance g_i_areDifferent (p0:List TValue):Lw (PV D.bool) (zda p0) (zab T 161 [D.sl false 4 (List.map (TValue.e false) p0)] []):=⟨E (zda.eq_def ..)⟩
instance g_i_textOf (p0:ByteArray):Lw (PV (TValue.e false)) (ziM p0) (zab T 193 [D.str p0] []):=⟨E (ziM.eq_def ..)⟩
instance g_i_isField (p0:TValue):Lw (PV D.bool) (zgK p0) (zab T 162 [TValue.e false p0] []):=⟨E (zgK.eq_def ..)⟩
instance p_i_areAll_Value_1_l1 (s0 s7:List TValue) (s8:Int):∀ (s9:Int),Lp (kS (kN T (enF [.tmp 4] []) fun t=>⟨sL false 4 (TValue.e false) s0::.d (D.fn 162 [])::zs 16 [],[]⟩) (kR (PV D.bool))) (zbY s0 s7 s8 s9) fun k=>go T (enF [.tmp 4] []) zow (.lp zox::.bl 0::.sq (.clr [4,6,7,8,9,10,11,12,13,14,15,16,17])::k) ⟨sL false 4 (TValue.e false) s0::.d (D.fn 162 [])::zs 5 (sL false 4 (TValue.e false) s7::sI s8::sI s9::zs 8 []),[]⟩:=Lp1 (zbY.partial_correctness s0 s7 s8) (by exact fun _ _ _ _=>G zow.eq_def)
instance g_i_areAll_Value_1 (p0:List TValue):Lw (PV D.bool) (zdj p0) (zab T 53 [D.sl false 4 (List.map (TValue.e false) p0),D.fn 162 []] []):=⟨E (zdj.eq_def ..)⟩
instance p_i_ValidObject_j1 (s1:TObject) (s3:Bool):Lp (kR (PV D.bool)) (zch s1 s3) fun k=>go T (enF [.tmp 2] []) zqN k ⟨Z::.box (TObject.c false s1)::Z::sB s3::zs 122 [],[]⟩:=⟨fun k=>GG (zch.eq_def ..) zqN.eq_def⟩
instance p_i_ValidObject_j2 (s1:TObject) (s5:Bool):Lp (kR (PV D.bool)) (zbj s1 s5) fun k=>go T (enF [.tmp 2] []) zqO k ⟨Z::.box (TObject.c false s1)::Z::Z::Z::sB s5::zs 120 [],[]⟩:=⟨fun k=>GG (zbj.eq_def ..) zqO.eq_def⟩
instance p_i_ValidObject_j3 (s1:TObject):Lp (kR (PV D.bool)) (zdk s1) fun k=>go T (enF [.tmp 2] []) zqP k ⟨Z::.box (TObject.c false s1)::zs 124 [],[]⟩:=⟨fun k=>GG (zdk.eq_def ..) zqP.eq_def⟩
instance g_i_ValidObject (p0:TObject):Lw (PV D.bool) (zdK p0) (zab T 102 [TObject.e false p0] []):=⟨E (zdK.eq_def ..)⟩
instance p_i_areAll_Object_l1 (s0 s7:List TObject) (s8:Int):∀ (s9:Int),Lp (kS (kN T (enF [.tmp 4] []) fun t=>⟨sL false 10 (TObject.e false) s0::.d (D.fn 102 [])::zs 16 [],[]⟩) (kR (PV D.bool))) (zcn s0 s7 s8 s9) fun k=>go T (enF [.tmp 4] []) zna (.lp znb::.bl 0::.sq (.clr [4,6,7,8,9,10,11,12,13,14,15,16,17])::k) ⟨sL false 10 (TObject.e false) s0::.d (D.fn 102 [])::zs 5 (sL false 10 (TObject.e false) s7::sI s8::sI s9::zs 8 []),[]⟩:=Lp1 (zcn.partial_correctness s0 s7 s8) (by exact fun _ _ _ _=>G zna.eq_def)
instance g_i_areAll_Object (p0:List TObject):Lw (PV D.bool) (zdL p0) (zab T 101 [D.sl false 10 (List.map (TObject.e false) p0),D.fn 102 []] []):=⟨E (zdL.eq_def ..)⟩
theorem zeo (sto:List (List D)):zab T 197 [.nils 4,.int .i64 0] sto=some (.nils 4,[],sto):=by
 rw [zac T (g:=v197) rfl rfl rfl _ _ rfl]
 simp (maxSteps:=9999999) (disch:=omega) only [vx,px,ty,↓reduceIte,seval,fx,vxd,Nat.reduceBNe,most,ifT,ifF,v197,zsB,Int.reduceToNat,Int.toNat_zero,zdw.eq_3]
theorem zep (n:Int) (sto:List (List D)) (h:0<n) (h2:n≤2147483648):zab T 197 [.nils 4,.int .i64 n] sto=some (.sl true 4 [],[],sto):=by
 rw [zac T (g:=v197) rfl rfl rfl _ _ rfl]
 simp (maxSteps:=9999999) (disch:=omega) only [vx,px,ty,↓reduceIte,seval,fx,vxd,Nat.reduceBNe,most,ifT,ifF,v197,zsB,Int.reduceToNat,Int.toNat_zero,zdw.eq_3,zko,Int.sub_zero]
theorem zfj (a b:List TValue) (sto:List (List D)) (h:a.length + b.length≤2147483648):zab T 164 [.sl false 1 [.sl false 4 (a.map (TValue.e false)),.sl false 4 (b.map (TValue.e false))]] sto=some (.sl true 4 ((a++b).map (TValue.e false)),[],sto):=by
 by_cases h0:a.length + b.length=0
 ·obtain rfl:a=[]:=List.length_eq_zero_iff.1 (by omega)
  obtain rfl:b=[]:=List.length_eq_zero_iff.1 (by omega)
  have e0:((0:Nat):Int) + ((0:Nat):Int)=0:=rfl
  rw [zac T (g:=v164) rfl rfl rfl _ _ rfl]
  simp (maxSteps:=9999999) (disch:=omega) only [vx,px,ty,↓reduceIte,seval,fx,vxd,Nat.reduceBNe,most,ifT,ifF,v164,zrT,go_lpc,znc,go_lpc,znd,List.length_map,zeo,Int.reduceToNat,Int.toNat_zero,zdw.eq_3,Int.add_zero,Int.zero_add,Int.reduceAdd,e0]
 ·rw [List.map_append]
  have e1:=fun sto=>zep ((a.length:Int) + (b.length:Int)) sto (by omega) (by omega)
  rw [zac T (g:=v164) rfl rfl rfl _ _ rfl]
  simp (maxSteps:=9999999) (disch:=omega) only [vx,px,ty,↓reduceIte,seval,fx,vxd,Nat.reduceBNe,most,ifT,ifF,v164,zrT,go_lpc,znc,go_lpc,znd,List.length_map,e1,Int.reduceToNat,Int.reduceAdd,Int.zero_add,Int.toNat_zero,zdw.eq_3]
instance g_slices_Concat_Value_Value (a b:List TValue):Lw (fun r x=>Pu (D.sl true 4 (List.map (TValue.e false) r)) [] x) (zaX a b) (zab T 164 [D.sl false 1 [D.sl false 4 (List.map (TValue.e false) a),D.sl false 4 (List.map (TValue.e false) b)]] []):=⟨by
 unfold zaX
 refine Le.chk fun h=>Le.ret ?_
 exact ⟨_,zfj a b [] h⟩⟩
instance g_i_Object_values (p0:TObject):Lw (PV (dL true 4 (TValue.e false))) (zfe p0) (zab T 104 [TObject.e false p0] []):=⟨by
 refine E0 (h:=?_) (zfe.eq_def ..)
 try conv=>arg 3;simp (maxSteps:=999999) only [push_cast,↓reduceIte,seval, *]
 refine Le.call ((g_slices_Concat_Value_Value p0.Keys p0.Vals).h) fun r9 h _ hy=>?_
 first|subst hy|obtain ⟨_,rfl⟩:=hy
 try conv=>arg 3;simp (maxSteps:=999999) only [push_cast,↓reduceIte,seval, *]
 refine Le.itq (fun h_1=>?_) (fun h_1=>?_)
 ·try conv=>arg 3;simp (maxSteps:=999999) only [push_cast,↓reduceIte,seval, *]
  refine Le.app fun c17 h_2 h_3=>?_
  replace h_2:List.map (TValue.e false) r9++[D.agg [D.int .i64 p0.Default.Kind,D.int .i64 p0.Default.Num,D.str p0.Default.Text,D.int .i64 p0.Default.Ref]]=List.map (TValue.e false) c17:=by rw [h_2,List.map_append] <;> rfl
  replace h_3:r9.length + 1≤most:=h_3
  exact A
 ·exact A⟩
instance g_i_refers (p0:Int):Lw (PV D.bool) (zgf p0) (zab T 125 [dI p0] []):=⟨E (zgf.eq_def ..)⟩
instance g_cmp_isNaN_int64 (p0:Int):Lw (PV D.bool) (zcy p0) (zab T 202 [dI p0] []):=⟨E (zcy.eq_def ..)⟩
instance g_cmp_Compare_int64 (p0 p1:Int):Lw (PV dI) (zcN p0 p1) (zab T 172 [dI p0,dI p1] []):=⟨E (zcN.eq_def ..)⟩
instance g_i_Heap_find_1 (p0:TObject) (p1:Int):Lw (PV dI) (zbZ p0 p1) (zab T 171 [TObject.e false p0,dI p1] []):=⟨E (zbZ.eq_def ..)⟩
instance p_slices_BinarySearchFunc_Object_Object_int64_l1 (s0:List TObject) (s1 s8:Int):∀ (s9 s10:Int),Lp (kN T (enF [.tmp 6,.tmp 7] []) fun t=>⟨sL false 10 (TObject.e false) s0::sI s1::.d (D.fn 171 [])::zs 5 (sI s8::sI t::zs 39 []),[]⟩) (zag s0 s1 s8 s9 s10) fun k=>go T (enF [.tmp 6,.tmp 7] []) zrW (.lp zrX::.bl 0::.sq (.clr [6,7,10,11,12,13,14,15,16,17,18,19,20,21,22,23,24,25,26,27,28,29,30,31,32,33,34])::k) ⟨sL false 10 (TObject.e false) s0::sI s1::.d (D.fn 171 [])::zs 5 (sI s8::sI s9::sI s10::zs 38 []),[]⟩:=Lp2 (zag.partial_correctness s0 s1 s8) (by exact fun _ _ _ _ _=>G zrW.eq_def)
instance g_slices_BinarySearchFunc_Object_Object_int64 (p0:List TObject) (p1:Int):Lw (PV fun (r:Int × Bool)=>D.tup [dI r.1,D.bool r.2]) (zan p0 p1) (zab T 170 [D.sl false 10 (List.map (TObject.e false) p0),dI p1,D.fn 171 []] []):=⟨E (zan.eq_def ..)⟩
instance g_i_Heap_find (p0:THeap) (p1:Int):Lw (PV dI) (zca p0 p1) (zab T 126 [THeap.e false p0,dI p1] []):=⟨E (zca.eq_def ..)⟩
instance g_i_objectKind (p0:Int):Lw (PV dI) (zgL p0) (zab T 127 [dI p0] []):=⟨E (zgL.eq_def ..)⟩
instance p_i_Heap_fits_j1 (s2:THeap) (s3:TValue):Lp (kR (PV D.bool)) (zfA s2 s3) fun k=>go T (enF [.tmp 4] []) zvv k ⟨Z::Z::.box (THeap.c false s2)::.box (TValue.c false s3)::zs 31 [],[]⟩:=⟨fun k=>GG (zfA.eq_def ..) zvv.eq_def⟩
instance g_i_Heap_fits (p0:THeap) (p1:TValue):Lw (PV D.bool) (zff p0 p1) (zab T 55 [THeap.e false p0,TValue.e false p1] []):=⟨E (zff.eq_def ..)⟩
instance p_i_areAll_Value_2_l1 (s0:List TValue) (s1:THeap) (s7:List TValue) (s8:Int):∀ (s9:Int),Lp (kS (kN T (enF [.tmp 4] []) fun t=>⟨sL false 4 (TValue.e false) s0::.d (D.bf 55 [THeap.e false s1])::zs 16 [],[]⟩) (kR (PV D.bool))) (zcb s0 s1 s7 s8 s9) fun k=>go T (enF [.tmp 4] []) zow (.lp zox::.bl 0::.sq (.clr [4,6,7,8,9,10,11,12,13,14,15,16,17])::k) ⟨sL false 4 (TValue.e false) s0::.d (D.bf 55 [THeap.e false s1])::zs 5 (sL false 4 (TValue.e false) s7::sI s8::sI s9::zs 8 []),[]⟩:=Lp1 (zcb.partial_correctness s0 s1 s7 s8) (by exact fun _ _ _ _=>G zow.eq_def)
instance g_i_areAll_Value_2 (p0:List TValue) (p1:THeap):Lw (PV D.bool) (zci p0 p1) (zab T 53 [D.sl false 4 (List.map (TValue.e false) p0),D.bf 55 [THeap.e false p1]] []):=⟨E (zci.eq_def ..)⟩
instance g_i_ValidHeap_1 (p0:TObject) (g0:THeap):Lw (fun (r:Bool) x=>x=some (D.bool r,[],[(THeap.c false g0)])) (zdM p0 g0) (zab T 103 [TObject.e false p0,D.ref 0 0] [(THeap.c false g0)]):=⟨E (zdM.eq_def ..)⟩
instance p_i_areAll_Object_1_l1 (s0 s7:List TObject) (s8:Int) (g0:THeap):∀ (s9:Int),Lp (kS (kN T (enF [.tmp 4] []) fun t=>⟨sL false 10 (TObject.e false) s0::.d (D.fn 103 [D.ref 0 0])::zs 16 [],[(THeap.c false g0)]⟩) (kR (fun (r:Bool) x=>x=some (D.bool r,[],[(THeap.c false g0)])))) (zbD s0 s7 s8 g0 s9) fun k=>go T (enF [.tmp 4] []) zna (.lp znb::.bl 0::.sq (.clr [4,6,7,8,9,10,11,12,13,14,15,16,17])::k) ⟨sL false 10 (TObject.e false) s0::.d (D.fn 103 [D.ref 0 0])::zs 5 (sL false 10 (TObject.e false) s7::sI s8::sI s9::zs 8 []),[(THeap.c false g0)]⟩:=Lp1 (zbD.partial_correctness s0 s7 s8 g0) (by exact fun _ _ _ _=>G zna.eq_def)
instance g_i_areAll_Object_1 (p0:List TObject) (g0:THeap):Lw (fun (r:Bool) x=>x=some (D.bool r,[],[(THeap.c false g0)])) (zcO p0 g0) (zab T 101 [D.sl false 10 (List.map (TObject.e false) p0),D.fn 103 [D.ref 0 0]] [(THeap.c false g0)]):=⟨E (zcO.eq_def ..)⟩
instance p_i_ValidHeap_l1 (s1:THeap) (s23:List TObject) (s24:Int):∀ (s3 s25:Int),Lp (kS (kN T (enF [.tmp 2] []) fun t=>⟨Z::.box (THeap.c false s1)::zs 45 [],[]⟩) (kR (PV D.bool))) (zdb s1 s23 s24 s3 s25) fun k=>go T (enF [.tmp 2] []) zvm (.lp zvn::.bl 0::.sq (.clr [0,2,3,5,6,7,8,9,10,11,12,13,14,15,16,17,18,19,20,21,22,23,24,25,26,27,28,29,30,31,32,33,34,35,36,37,38,39,40,41,42])::k) ⟨Z::.box (THeap.c false s1)::Z::sI s3::zs 18 (.ptr ⟨.slot 1,[],1⟩::sL false 10 (TObject.e false) s23::sI s24::sI s25::zs 21 []),[]⟩:=Lp2 (zdb.partial_correctness s1 s23 s24) (by exact fun _ _ _ _ _=>G zvm.eq_def)
instance p_i_ValidHeap_j1 (s1:THeap):Lp (kR (PV D.bool)) (zfB s1) fun k=>go T (enF [.tmp 2] []) zvo k ⟨Z::.box (THeap.c false s1)::zs 45 [],[]⟩:=⟨fun k=>GG (zfB.eq_def ..) zvo.eq_def⟩
instance g_i_ValidHeap (p0:THeap):Lw (PV D.bool) (zgg p0) (zab T 50 [THeap.e false p0] []):=⟨E (zgg.eq_def ..)⟩
instance g_i_nameOfBinding (p0:TBinding):Lw (PV D.str) (zfg p0) (zab T 106 [TBinding.e false p0] []):=⟨E (zfg.eq_def ..)⟩
instance p_i_isSorted_Binding_l1 (s0:List TBinding):∀ (s5:Int),Lp (kS (kN T (enF [.tmp 4] []) fun t=>⟨sL false 5 (TBinding.e false) s0::.d (D.fn 106 [])::zs 24 [],[]⟩) (kR (PV D.bool))) (zbw s0 s5) fun k=>go T (enF [.tmp 4] []) zqQ (.lp zqR::.bl 0::.sq (.clr (rg 4 22))::k) ⟨sL false 5 (TBinding.e false) s0::.d (D.fn 106 [])::Z::Z::Z::sI s5::zs 20 [],[]⟩:=Lp1 (zbw.partial_correctness s0) (by exact fun _ _ _ _=>G zqQ.eq_def)
instance g_i_isSorted_Binding (p0:List TBinding):Lw (PV D.bool) (zco p0) (zab T 105 [D.sl false 5 (List.map (TBinding.e false) p0),D.fn 106 []] []):=⟨E (zco.eq_def ..)⟩
instance g_i_nameOfFunction (p0:TFunction):Lw (PV D.str) (zes p0) (zab T 108 [TFunction.e false p0] []):=⟨E (zes.eq_def ..)⟩
instance p_i_isSorted_Function_l1 (s0:List TFunction):∀ (s5:Int),Lp (kS (kN T (enF [.tmp 4] []) fun t=>⟨sL false 4 (TFunction.e false) s0::.d (D.fn 108 [])::zs 24 [],[]⟩) (kR (PV D.bool))) (zbr s0 s5) fun k=>go T (enF [.tmp 4] []) zqS (.lp zqT::.bl 0::.sq (.clr (rg 4 22))::k) ⟨sL false 4 (TFunction.e false) s0::.d (D.fn 108 [])::Z::Z::Z::sI s5::zs 20 [],[]⟩:=Lp1 (zbr.partial_correctness s0) (by exact fun _ _ _ _=>G zqS.eq_def)
instance g_i_isSorted_Function (p0:List TFunction):Lw (PV D.bool) (zcc p0) (zab T 107 [D.sl false 4 (List.map (TFunction.e false) p0),D.fn 108 []] []):=⟨E (zcc.eq_def ..)⟩
instance g_i_nameOfType (p0:TRecordType):Lw (PV D.str) (zgM p0) (zab T 110 [TRecordType.e false p0] []):=⟨E (zgM.eq_def ..)⟩
instance p_i_isSorted_RecordType_l1 (s0:List TRecordType):∀ (s5:Int),Lp (kS (kN T (enF [.tmp 4] []) fun t=>⟨sL false 2 (TRecordType.e false) s0::.d (D.fn 110 [])::zs 24 [],[]⟩) (kR (PV D.bool))) (zbe s0 s5) fun k=>go T (enF [.tmp 4] []) zqU (.lp zqV::.bl 0::.sq (.clr (rg 4 22))::k) ⟨sL false 2 (TRecordType.e false) s0::.d (D.fn 110 [])::Z::Z::Z::sI s5::zs 20 [],[]⟩:=Lp1 (zbe.partial_correctness s0) (by exact fun _ _ _ _=>G zqU.eq_def)
instance g_i_isSorted_RecordType (p0:List TRecordType):Lw (PV D.bool) (zbx p0) (zab T 109 [D.sl false 2 (List.map (TRecordType.e false) p0),D.fn 110 []] []):=⟨E (zbx.eq_def ..)⟩
instance g_i_null:Lw (PV (TValue.e false)) (zyi) (zab T 198 [] []):=⟨E (zyi.eq_def ..)⟩
instance g_i_IsNull (p0:TValue):Lw (PV D.bool) (zla p0) (zab T 165 [TValue.e false p0] []):=⟨E (zla.eq_def ..)⟩
instance g_i_Binding_isValid (p0:TBinding):Lw (PV D.bool) (zbP p0) (zab T 112 [TBinding.e false p0] []):=⟨E (zbP.eq_def ..)⟩
instance p_i_areAll_Binding_l1 (s0 s7:List TBinding) (s8:Int):∀ (s9:Int),Lp (kS (kN T (enF [.tmp 4] []) fun t=>⟨sL false 5 (TBinding.e false) s0::.d (D.fn 112 [])::zs 16 [],[]⟩) (kR (PV D.bool))) (zcd s0 s7 s8 s9) fun k=>go T (enF [.tmp 4] []) zqW (.lp zqX::.bl 0::.sq (.clr [4,6,7,8,9,10,11,12,13,14,15,16,17])::k) ⟨sL false 5 (TBinding.e false) s0::.d (D.fn 112 [])::zs 5 (sL false 5 (TBinding.e false) s7::sI s8::sI s9::zs 8 []),[]⟩:=Lp1 (zcd.partial_correctness s0 s7 s8) (by exact fun _ _ _ _=>G zqW.eq_def)
instance g_i_areAll_Binding (p0:List TBinding):Lw (PV D.bool) (zdl p0) (zab T 111 [D.sl false 5 (List.map (TBinding.e false) p0),D.fn 112 []] []):=⟨E (zdl.eq_def ..)⟩
theorem zdV (sto:List (List D)):zab T 199 [.nils 1,.int .i64 0] sto=some (.nils 1,[],sto):=by
 rw [zac T (g:=v199) rfl rfl rfl _ _ rfl]
 simp (maxSteps:=9999999) (disch:=omega) only [vx,px,ty,↓reduceIte,seval,fx,vxd,Nat.reduceBNe,most,ifT,ifF,v199,zsC,Int.reduceToNat,Int.toNat_zero,zdw.eq_3]
theorem zdW (n:Int) (sto:List (List D)) (h:0<n) (h2:n≤2147483648):zab T 199 [.nils 1,.int .i64 n] sto=some (.sl true 1 [],[],sto):=by
 rw [zac T (g:=v199) rfl rfl rfl _ _ rfl]
 simp (maxSteps:=9999999) (disch:=omega) only [vx,px,ty,↓reduceIte,seval,fx,vxd,Nat.reduceBNe,most,ifT,ifF,v199,zsC,Int.reduceToNat,Int.toNat_zero,zdw.eq_3,zko,Int.sub_zero]
theorem zeu (a b:List ByteArray) (sto:List (List D)) (h:a.length + b.length≤2147483648):zab T 166 [.sl false 1 [.sl false 1 (a.map D.str),.sl false 1 (b.map D.str)]] sto=some (.sl true 1 ((a++b).map D.str),[],sto):=by
 by_cases h0:a.length + b.length=0
 ·obtain rfl:a=[]:=List.length_eq_zero_iff.1 (by omega)
  obtain rfl:b=[]:=List.length_eq_zero_iff.1 (by omega)
  have e0:((0:Nat):Int) + ((0:Nat):Int)=0:=rfl
  rw [zac T (g:=v166) rfl rfl rfl _ _ rfl]
  simp (maxSteps:=9999999) (disch:=omega) only [vx,px,ty,↓reduceIte,seval,fx,vxd,Nat.reduceBNe,most,ifT,ifF,v166,zrU,go_lpc,zne,go_lpc,znf,List.length_map,zdV,Int.reduceToNat,Int.toNat_zero,zdw.eq_3,Int.add_zero,Int.zero_add,Int.reduceAdd,e0]
 ·rw [List.map_append]
  have e1:=fun sto=>zdW ((a.length:Int) + (b.length:Int)) sto (by omega) (by omega)
  rw [zac T (g:=v166) rfl rfl rfl _ _ rfl]
  simp (maxSteps:=9999999) (disch:=omega) only [vx,px,ty,↓reduceIte,seval,fx,vxd,Nat.reduceBNe,most,ifT,ifF,v166,zrU,go_lpc,zne,go_lpc,znf,List.length_map,e1,Int.reduceToNat,Int.reduceAdd,Int.zero_add,Int.toNat_zero,zdw.eq_3]
instance g_slices_Concat_string_string (a b:List ByteArray):Lw (fun r x=>Pu (D.sl true 1 (List.map D.str r)) [] x) (zaP a b) (zab T 166 [D.sl false 1 [D.sl false 1 (List.map D.str a),D.sl false 1 (List.map D.str b)]] []):=⟨by
 unfold zaP
 refine Le.chk fun h=>Le.ret ?_
 exact ⟨_,zeu a b [] h⟩⟩
instance p_i_areAll_string_l1 (s0 s7:List ByteArray) (s8:Int):∀ (s9:Int),Lp (kS (kN T (enF [.tmp 4] []) fun t=>⟨sL false 1 D.str s0::.d (D.fn 163 [])::zs 16 [],[]⟩) (kR (PV D.bool))) (zcp s0 s7 s8 s9) fun k=>go T (enF [.tmp 4] []) zkQ (.lp zkR::.bl 0::.sq (.clr [4,6,7,8,9,10,11,12,13,14,15,16,17])::k) ⟨sL false 1 D.str s0::.d (D.fn 163 [])::zs 5 (sL false 1 D.str s7::sI s8::sI s9::zs 8 []),[]⟩:=Lp1 (zcp.partial_correctness s0 s7 s8) (by exact fun _ _ _ _=>G zkQ.eq_def)
instance g_i_areAll_string (p0:List ByteArray):Lw (PV D.bool) (zcz p0) (zab T 118 [D.sl false 1 (List.map D.str p0),D.fn 163 []] []):=⟨E (zcz.eq_def ..)⟩
theorem zeH (xs:List ByteArray) (h:xs.length≤2147483648):zab T 131 [.sl false 1 (xs.map D.str)] []=some (.sl true 1 (xs.map D.str),[],[]):=by
 cases xs with
 | nil =>
  rw [zac T (g:=v131) rfl rfl rfl _ _ rfl]
  simp (maxSteps:=9999999) (disch:=omega) only [vx,px,ty,↓reduceIte,seval,fx,vxd,Nat.reduceBNe,most,ifT,ifF,v131,zrt]
 | cons x xs =>
  rw [List.length_cons] at h
  rw [zac T (g:=v131) rfl rfl rfl _ _ rfl]
  simp (maxSteps:=9999999) (disch:=omega) only [vx,px,ty,↓reduceIte,seval,fx,vxd,Nat.reduceBNe,most,ifT,ifF,v131,zrt]
instance g_slices_Clone_string_string (p0:List ByteArray):Lw (fun r x=>Pu (D.sl true 1 (List.map D.str r)) [] x) (zad p0) (zab T 131 [D.sl false 1 (List.map D.str p0)] []):=⟨by
 unfold zad
 refine Le.chk fun h=>Le.ret ?_
 exact ⟨_,zeH p0 h⟩⟩
instance g_slices_Sort_string_string (p0:List ByteArray):Lw (fun r x=>Pu (D.tup []) [D.sl true 1 (List.map D.str r)] x) (zaY p0) (zab T 200 [D.sl true 1 (List.map D.str p0)] []):=⟨by
 unfold zaY
 refine Le.chk fun h=>Le.ret ?_
 exact ⟨_,by rw [zjZ (g:=zpm) T rfl,zmZ p0 h];rfl⟩⟩
instance g_slices_Compact_string_string (p0:List ByteArray):Lw (fun r x=>Pu (D.sl true 1 (List.map D.str r)) [] x) (zaJ p0) (zab T 201 [D.sl true 1 (List.map D.str p0)] []):=⟨by
 unfold zaJ
 refine Le.chk fun h=>Le.ret ?_
 exact ⟨_,by rw [zjZ (g:=zhc) T rfl,zjN p0 h];rfl⟩⟩
instance g_i_sortedNames (p0:List ByteArray):Lw (PV (dL true 1 D.str)) (zdN p0) (zab T 167 [D.sl true 1 (List.map D.str p0)] []):=⟨E (zdN.eq_def ..)⟩
instance p_i_Function_isValid_j1 (s1:TFunction) (s3:List ByteArray) (s4:Bool):Lp (kR (PV D.bool)) (zby s1 s3 s4) fun k=>go T (enF [.tmp 2] []) zra k ⟨Z::.box (TFunction.c false s1)::Z::sL true 1 D.str s3::sB s4::zs 40 [],[]⟩:=⟨fun k=>GG (zby.eq_def ..) zra.eq_def⟩
instance g_i_Function_isValid (p0:TFunction):Lw (PV D.bool) (zbz p0) (zab T 114 [TFunction.e false p0] []):=⟨E (zbz.eq_def ..)⟩
instance p_i_areAll_Function_l1 (s0 s7:List TFunction) (s8:Int):∀ (s9:Int),Lp (kS (kN T (enF [.tmp 4] []) fun t=>⟨sL false 4 (TFunction.e false) s0::.d (D.fn 114 [])::zs 16 [],[]⟩) (kR (PV D.bool))) (zbE s0 s7 s8 s9) fun k=>go T (enF [.tmp 4] []) zqY (.lp zqZ::.bl 0::.sq (.clr [4,6,7,8,9,10,11,12,13,14,15,16,17])::k) ⟨sL false 4 (TFunction.e false) s0::.d (D.fn 114 [])::zs 5 (sL false 4 (TFunction.e false) s7::sI s8::sI s9::zs 8 []),[]⟩:=Lp1 (zbE.partial_correctness s0 s7 s8) (by exact fun _ _ _ _=>G zqY.eq_def)
instance g_i_areAll_Function (p0:List TFunction):Lw (PV D.bool) (zcP p0) (zab T 113 [D.sl false 4 (List.map (TFunction.e false) p0),D.fn 114 []] []):=⟨E (zcP.eq_def ..)⟩
instance p_i_areFields_j1 (s0:List ByteArray):Lp (kR (PV D.bool)) (zfC s0) fun k=>go T (enF [.tmp 2] []) zrV k ⟨sL false 1 D.str s0::zs 22 [],[]⟩:=⟨fun k=>GG (zfC.eq_def ..) zrV.eq_def⟩
instance g_i_areFields (p0:List ByteArray):Lw (PV D.bool) (zhu p0) (zab T 168 [D.sl false 1 (List.map D.str p0)] []):=⟨E (zhu.eq_def ..)⟩
instance g_i_RecordType_isValid (p0:TRecordType):Lw (PV D.bool) (zbk p0) (zab T 116 [TRecordType.e false p0] []):=⟨E (zbk.eq_def ..)⟩
instance p_i_areAll_RecordType_l1 (s0 s7:List TRecordType) (s8:Int):∀ (s9:Int),Lp (kS (kN T (enF [.tmp 4] []) fun t=>⟨sL false 2 (TRecordType.e false) s0::.d (D.fn 116 [])::zs 16 [],[]⟩) (kR (PV D.bool))) (zbs s0 s7 s8 s9) fun k=>go T (enF [.tmp 4] []) zrb (.lp zrc::.bl 0::.sq (.clr [4,6,7,8,9,10,11,12,13,14,15,16,17])::k) ⟨sL false 2 (TRecordType.e false) s0::.d (D.fn 116 [])::zs 5 (sL false 2 (TRecordType.e false) s7::sI s8::sI s9::zs 8 []),[]⟩:=Lp1 (zbs.partial_correctness s0 s7 s8) (by exact fun _ _ _ _=>G zrb.eq_def)
instance g_i_areAll_RecordType (p0:List TRecordType):Lw (PV D.bool) (zce p0) (zab T 115 [D.sl false 2 (List.map (TRecordType.e false) p0),D.fn 116 []] []):=⟨E (zce.eq_def ..)⟩
instance p_i_ValidScope_j1 (s1:TScope) (s3:Bool):Lp (kR (PV D.bool)) (zcA s1 s3) fun k=>go T (enF [.tmp 2] []) zvp k ⟨Z::.box (TScope.c false s1)::Z::sB s3::zs 45 [],[]⟩:=⟨fun k=>GG (zcA.eq_def ..) zvp.eq_def⟩
instance p_i_ValidScope_j2 (s1:TScope):Lp (kR (PV D.bool)) (zfh s1) fun k=>go T (enF [.tmp 2] []) zvq k ⟨Z::.box (TScope.c false s1)::zs 47 [],[]⟩:=⟨fun k=>GG (zfh.eq_def ..) zvq.eq_def⟩
instance g_i_ValidScope (p0:TScope):Lw (PV D.bool) (zfs p0) (zab T 51 [TScope.e false p0] []):=⟨E (zfs.eq_def ..)⟩
instance g_i_isShort (p0:ByteArray):Lw (PV D.bool) (zjo p0) (zab T 119 [D.str p0] []):=⟨E (zjo.eq_def ..)⟩
instance p_i_areAll_string_1_l1 (s0 s7:List ByteArray) (s8:Int):∀ (s9:Int),Lp (kS (kN T (enF [.tmp 4] []) fun t=>⟨sL false 1 D.str s0::.d (D.fn 119 [])::zs 16 [],[]⟩) (kR (PV D.bool))) (zbF s0 s7 s8 s9) fun k=>go T (enF [.tmp 4] []) zkQ (.lp zkR::.bl 0::.sq (.clr [4,6,7,8,9,10,11,12,13,14,15,16,17])::k) ⟨sL false 1 D.str s0::.d (D.fn 119 [])::zs 5 (sL false 1 D.str s7::sI s8::sI s9::zs 8 []),[]⟩:=Lp1 (zbF.partial_correctness s0 s7 s8) (by exact fun _ _ _ _=>G zkQ.eq_def)
instance g_i_areAll_string_1 (p0:List ByteArray):Lw (PV D.bool) (zbm p0) (zab T 118 [D.sl false 1 (List.map D.str p0),D.fn 119 []] []):=⟨E (zbm.eq_def ..)⟩
instance g_i_ValidConsole_1 (p0:ByteArray):Lw (PV D.bool) (zet p0) (zab T 117 [D.str p0] []):=⟨E (zet.eq_def ..)⟩
instance p_i_areAll_string_2_l1 (s0 s7:List ByteArray) (s8:Int):∀ (s9:Int),Lp (kS (kN T (enF [.tmp 4] []) fun t=>⟨sL false 1 D.str s0::.d (D.fn 117 [])::zs 16 [],[]⟩) (kR (PV D.bool))) (zbG s0 s7 s8 s9) fun k=>go T (enF [.tmp 4] []) zkQ (.lp zkR::.bl 0::.sq (.clr [4,6,7,8,9,10,11,12,13,14,15,16,17])::k) ⟨sL false 1 D.str s0::.d (D.fn 117 [])::zs 5 (sL false 1 D.str s7::sI s8::sI s9::zs 8 []),[]⟩:=Lp1 (zbG.partial_correctness s0 s7 s8) (by exact fun _ _ _ _=>G zkQ.eq_def)
instance g_i_areAll_string_2 (p0:List ByteArray):Lw (PV D.bool) (zcQ p0) (zab T 118 [D.sl false 1 (List.map D.str p0),D.fn 117 []] []):=⟨E (zcQ.eq_def ..)⟩
instance g_i_isMode (p0:Int):Lw (PV D.bool) (zlb p0) (zab T 169 [dI p0] []):=⟨E (zlb.eq_def ..)⟩
instance p_i_File_isValid_j1 (s1:TFile) (s3 s4:Bool):Lp (kR (PV D.bool)) (zbQ s1 s3 s4) fun k=>go T (enF [.tmp 2] []) zrf k ⟨Z::.box (TFile.c false s1)::Z::sB s3::sB s4::zs 44 [],[]⟩:=⟨fun k=>GG (zbQ.eq_def ..) zrf.eq_def⟩
instance p_i_File_isValid_j2 (s1:TFile) (s3:Bool):Lp (kR (PV D.bool)) (zcR s1 s3) fun k=>go T (enF [.tmp 2] []) zrg k ⟨Z::.box (TFile.c false s1)::Z::sB s3::zs 45 [],[]⟩:=⟨fun k=>GG (zcR.eq_def ..) zrg.eq_def⟩
instance g_i_File_isValid (p0:TFile):Lw (PV D.bool) (zdc p0) (zab T 121 [TFile.e false p0] []):=⟨E (zdc.eq_def ..)⟩
instance p_i_areAll_File_l1 (s0 s7:List TFile) (s8:Int):∀ (s9:Int),Lp (kS (kN T (enF [.tmp 4] []) fun t=>⟨sL false 4 (TFile.e false) s0::.d (D.fn 121 [])::zs 16 [],[]⟩) (kR (PV D.bool))) (zdm s0 s7 s8 s9) fun k=>go T (enF [.tmp 4] []) zrd (.lp zre::.bl 0::.sq (.clr [4,6,7,8,9,10,11,12,13,14,15,16,17])::k) ⟨sL false 4 (TFile.e false) s0::.d (D.fn 121 [])::zs 5 (sL false 4 (TFile.e false) s7::sI s8::sI s9::zs 8 []),[]⟩:=Lp1 (zdm.partial_correctness s0 s7 s8) (by exact fun _ _ _ _=>G zrd.eq_def)
instance g_i_areAll_File (p0:List TFile):Lw (PV D.bool) (zeF p0) (zab T 120 [D.sl false 4 (List.map (TFile.e false) p0),D.fn 121 []] []):=⟨E (zeF.eq_def ..)⟩
instance g_i_nameOfFile (p0:TFile):Lw (PV D.str) (zgN p0) (zab T 123 [TFile.e false p0] []):=⟨E (zgN.eq_def ..)⟩
instance p_i_isSorted_File_l1 (s0:List TFile):∀ (s5:Int),Lp (kS (kN T (enF [.tmp 4] []) fun t=>⟨sL false 4 (TFile.e false) s0::.d (D.fn 123 [])::zs 24 [],[]⟩) (kR (PV D.bool))) (zcq s0 s5) fun k=>go T (enF [.tmp 4] []) zrh (.lp zri::.bl 0::.sq (.clr (rg 4 22))::k) ⟨sL false 4 (TFile.e false) s0::.d (D.fn 123 [])::Z::Z::Z::sI s5::zs 20 [],[]⟩:=Lp1 (zcq.partial_correctness s0) (by exact fun _ _ _ _=>G zrh.eq_def)
instance g_i_isSorted_File (p0:List TFile):Lw (PV D.bool) (zdO p0) (zab T 122 [D.sl false 4 (List.map (TFile.e false) p0),D.fn 123 []] []):=⟨E (zdO.eq_def ..)⟩
instance p_i_ValidConsole_j1 (s1:TConsole) (s4:Bool):Lp (kR (PV D.bool)) (zbR s1 s4) fun k=>go T (enF [.tmp 2] []) zvr k ⟨Z::.box (TConsole.c false s1)::Z::Z::sB s4::zs 55 [],[]⟩:=⟨fun k=>GG (zbR.eq_def ..) zvr.eq_def⟩
instance p_i_ValidConsole_j2 (s1:TConsole):Lp (kR (PV D.bool)) (zec s1) fun k=>go T (enF [.tmp 2] []) zvs k ⟨Z::.box (TConsole.c false s1)::Z::.d (D.fn 117 [])::zs 56 [],[]⟩:=⟨fun k=>GG (zec.eq_def ..) zvs.eq_def⟩
instance g_i_ValidConsole (p0:TConsole):Lw (PV D.bool) (zeg p0) (zab T 52 [TConsole.e false p0] []):=⟨E (zeg.eq_def ..)⟩
instance p_i_Scope_roots_l1 (s1:TScope) (s8:List TBinding) (s9:Int):∀ (s3:List TValue) (s10:Int),Lp (kN T (enF [.tmp 2] []) fun t=>⟨Z::Z::Z::sL true 4 (TValue.e false) t::zs 17 [],[]⟩) (zdn s1 s8 s9 s3 s10) fun k=>go T (enF [.tmp 2] []) zvt (.lp zvu::.bl 0::.sq (.clr [0,1,2,5,6,7,8,9,10,11,12,13,14,15,16,17,18,19])::k) ⟨Z::.box (TScope.c false s1)::Z::sL true 4 (TValue.e false) s3::Z::Z::Z::.ptr ⟨.slot 1,[],0⟩::sL false 5 (TBinding.e false) s8::sI s9::sI s10::zs 10 [],[]⟩:=Lp2 (zdn.partial_correctness s1 s8 s9) (by
 intro rec _ s3 s10 k
 refine G0 zvt.eq_def ?_
 try conv=>arg 3;simp (maxSteps:=999999) only [push_cast,↓reduceIte,seval, *]
 refine Le.itq (fun h=>?_) (fun h=>?_)
 ·try conv=>arg 3;simp (maxSteps:=999999) only [push_cast,↓reduceIte,seval, *]
  refine Le.idx fun a12 h_1 h_2 h_3=>?_
  try conv=>arg 3;simp (maxSteps:=999999) only [push_cast,↓reduceIte,seval, *]
  refine Le.app fun c18 h_4 h_5=>?_
  replace h_4:List.map (TValue.e false) s3++[D.agg [D.int .i64 a12.Value.Kind,D.int .i64 a12.Value.Num,D.str a12.Value.Text,D.int .i64 a12.Value.Ref]]=List.map (TValue.e false) c18:=by rw [h_4,List.map_append] <;> rfl
  replace h_5:s3.length + 1≤most:=h_5
  exact A
 ·exact A)
instance g_i_Scope_roots (p0:TScope):Lw (PV (dL true 4 (TValue.e false))) (zdP p0) (zab T 54 [TScope.e false p0] []):=⟨E (zdP.eq_def ..)⟩
instance g_i_ValidMemory (p0:TMemory):Lw (PV D.bool) (zeG p0) (zab T 19 [TMemory.e false p0] []):=⟨E (zeG.eq_def ..)⟩
instance p_slices_Index_int64_int64_l1 (s0:List Int) (s1 s7:Int):∀ (s8:Int),Lp (kS (kN T (enF [.tmp 4] []) fun t=>⟨sL false 1 dI s0::sI s1::zs 17 [],[]⟩) (kR (PV dI))) (zaQ s0 s1 s7 s8) fun k=>go T (enF [.tmp 4] []) zse (.lp zsf::.bl 0::.sq (.clr (rg 4 15))::k) ⟨sL false 1 dI s0::sI s1::zs 5 (sI s7::sI s8::zs 10 []),[]⟩:=Lp1 (zaQ.partial_correctness s0 s1 s7) (by exact fun _ _ _ _=>G zse.eq_def)
instance g_slices_Index_int64_int64 (p0:List Int) (p1:Int):Lw (PV dI) (zaG p0 p1) (zab T 177 [D.sl false 1 (List.map dI p0),dI p1] []):=⟨E (zaG.eq_def ..)⟩
instance g_slices_Contains_int64_int64 (p0:List Int) (p1:Int):Lw (PV D.bool) (zaR p0 p1) (zab T 174 [D.sl false 1 (List.map dI p0),dI p1] []):=⟨E (zaR.eq_def ..)⟩
instance p_i_Heap_reachable_1_j1 (s0:List TValue) (s4:TValue) (s5:List TValue) (s6 s7:Int) (g0:List Int):Lp (kN T (enF [] []) fun t=>⟨sL false 4 (TValue.e false) s0::.d (D.ref 0 0)::Z::Z::.box (TValue.c false s4)::sL false 4 (TValue.e false) s5::sI s6::sI s7::zs 14 ([.ptr ⟨.slot 4,[],3⟩,sI t.1,sL true 1 dI t.2.1,Z,Z]),[[D.sl true 1 (List.map dI t.2.2)]]⟩) (zcB s0 s4 s5 s6 s7 g0) fun k=>go T (enF [] []) zrY k ⟨sL false 4 (TValue.e false) s0::.d (D.ref 0 0)::Z::Z::.box (TValue.c false s4)::sL false 4 (TValue.e false) s5::sI s6::sI s7::zs 19 [],[[D.sl true 1 (List.map dI g0)]]⟩:=⟨fun k=>by
 refine G1 (zcB.eq_def ..) zrY.eq_def ?_
 try conv=>arg 3;simp (maxSteps:=999999) only [push_cast,↓reduceIte,seval, *]
 refine Le.app fun c25 h h_1=>?_
 replace h:List.map (D.int .i64) g0++[D.int .i64 s4.Ref]=List.map (D.int .i64) c25:=by rw [h,List.map_append] <;> rfl
 replace h_1:g0.length + 1≤most:=h_1
 exact A⟩
instance p_i_Heap_reachable_1_l1 (s0 s5:List TValue) (s6:Int):∀ (s7:Int) (g0:List Int),Lp (kN T (enF [] []) fun t=>⟨sL false 4 (TValue.e false) s0::.d (D.ref 0 0)::zs 25 [],[[D.sl true 1 (List.map dI t)]]⟩) (zaH s0 s5 s6 s7 g0) fun k=>go T (enF [] []) zrZ (.lp zsa::.bl 0::.sq (.clr (rg 4 23))::k) ⟨sL false 4 (TValue.e false) s0::.d (D.ref 0 0)::Z::Z::Z::sL false 4 (TValue.e false) s5::sI s6::sI s7::zs 19 [],[[D.sl true 1 (List.map dI g0)]]⟩:=Lp2 (zaH.partial_correctness s0 s5 s6) (by exact fun _ _ _ _ _=>G zrZ.eq_def)
instance g_i_Heap_reachable_1 (p0:List TValue) (g0:List Int):Lw (fun (r:(List Int)) x=>x=some (D.tup [],[],[[D.sl true 1 (List.map dI r)]])) (zbf p0 g0) (zab T 173 [D.sl false 4 (List.map (TValue.e false) p0),D.ref 0 0] [[D.sl true 1 (List.map dI g0)]]):=⟨E (zbf.eq_def ..)⟩
instance p_i_Object_traced_l1 (s1:TObject) (s13:List TValue) (s14:Int):∀ (s3:List TValue) (s15:Int),Lp (kN T (enF [.tmp 2] []) fun t=>⟨Z::.box (TObject.c false s1)::Z::sL true 4 (TValue.e false) t::zs 31 [],[]⟩) (zcr s1 s13 s14 s3 s15) fun k=>go T (enF [.tmp 2] []) zsb (.lp zsc::.bl 0::.sq (.clr [0,2,4,5,6,7,8,9,10,11,12,13,14,15,16,17,18,19,20,21,22,23,24,25,26,27,28,29])::k) ⟨Z::.box (TObject.c false s1)::Z::sL true 4 (TValue.e false) s3::zs 8 (.ptr ⟨.slot 1,[],4⟩::sL false 4 (TValue.e false) s13::sI s14::sI s15::zs 19 []),[]⟩:=Lp2 (zcr.partial_correctness s1 s13 s14) (by
 intro rec _ s3 s15 k
 refine G0 zsb.eq_def ?_
 try conv=>arg 3;simp (maxSteps:=999999) only [push_cast,↓reduceIte,seval, *]
 refine Le.itq (fun h=>?_) (fun h=>?_)
 ·try conv=>arg 3;simp (maxSteps:=999999) only [push_cast,↓reduceIte,seval, *]
  refine Le.idx fun a18 h_1 h_2 h_3=>?_
  try conv=>arg 3;simp (maxSteps:=999999) only [push_cast,↓reduceIte,seval, *]
  refine Le.idx fun a25 h_4 h_5 h_6=>?_
  try conv=>arg 3;simp (maxSteps:=999999) only [push_cast,↓reduceIte,seval, *]
  refine Le.app fun c28 h_7 h_8=>?_
  replace h_7:List.map (TValue.e false) s3++[D.agg [D.int .i64 a18.Kind,D.int .i64 a18.Num,D.str a18.Text,D.int .i64 a18.Ref],D.agg [D.int .i64 a25.Kind,D.int .i64 a25.Num,D.str a25.Text,D.int .i64 a25.Ref]]=List.map (TValue.e false) c28:=by rw [h_7,List.map_append] <;> rfl
  replace h_8:s3.length + 2≤most:=h_8
  exact A
 ·exact A)
instance g_i_Object_traced (p0:TObject):Lw (kT (PV (dL true 4 (TValue.e false))) (PV (dL false 4 (TValue.e false)))) (zdQ p0) (zab T 175 [TObject.e false p0] []):=⟨by
 refine E0 (h:=?_) (zdQ.eq_def ..)
 try conv=>arg 3;simp (maxSteps:=999999) only [push_cast,↓reduceIte,seval, *]
 refine Le.itq (fun h=>?_) (fun h=>?_)
 ·try conv=>arg 3;simp (maxSteps:=999999) only [push_cast,↓reduceIte,seval, *]
  refine Le.via ((p_i_Object_traced_l1 p0 p0.Keys (p0.Keys.length:Int) ([]) 0).h _) fun t h_1 _ hy=>?_
  try dsimp only [kS,kT,kN,kX,kR] at hy;first|subst hy|obtain ⟨_,rfl⟩:=hy
  try conv=>arg 3;simp (maxSteps:=999999) only [push_cast,↓reduceIte,seval, *]
  refine Le.app fun c34 h_2 h_3=>?_
  replace h_2:List.map (TValue.e false) t++[D.agg [D.int .i64 p0.Default.Kind,D.int .i64 p0.Default.Num,D.str p0.Default.Text,D.int .i64 p0.Default.Ref]]=List.map (TValue.e false) c34:=by rw [h_2,List.map_append] <;> rfl
  replace h_3:t.length + 1≤most:=h_3
  exact A
 ·exact A⟩
instance p_i_Heap_reachable_l1 (s1:List TValue) (s2:THeap):∀ (s7:Int) (g0:List Int),Lp (kN T (enF [.tmp 4] []) fun t=>⟨Z::sL false 4 (TValue.e false) s1::Z::Z::Z::.d (D.ref 0 0)::zs 27 [],[[D.sl true 1 (List.map dI t)]]⟩) (zaT s1 s2 s7 g0) fun k=>go T (enF [.tmp 4] []) zrl (.lp zrm::.bl 0::.sq (.clr [0,2,4,6,7,8,9,10,11,12,13,14,15,16,17,18,19,20,21,22,23,24,25,26,27,28,29,30,31])::k) ⟨Z::sL false 4 (TValue.e false) s1::.box (THeap.c false s2)::Z::Z::.d (D.ref 0 0)::.d (D.fn 173 [D.ref 0 0])::sI s7::zs 25 [],[[D.sl true 1 (List.map dI g0)]]⟩:=Lp2 (zaT.partial_correctness s1 s2) (by exact fun _ _ _ _ _=>G zrl.eq_def)
instance g_i_Heap_reachable (p0:THeap) (p1:List TValue):Lw (PV (dL true 1 dI)) (zdo p0 p1) (zab T 128 [THeap.e false p0,D.sl false 4 (List.map (TValue.e false) p1)] []):=⟨E (zdo.eq_def ..)⟩
theorem zfl (xs:List TValue) (h:xs.length≤2147483648):zab T 176 [.sl false 4 (xs.map (TValue.e false))] []=some (.sl true 4 (xs.map (TValue.e false)),[],[]):=by
 cases xs with
 | nil =>
  rw [zac T (g:=v176) rfl rfl rfl _ _ rfl]
  simp (maxSteps:=9999999) (disch:=omega) only [vx,px,ty,↓reduceIte,seval,fx,vxd,Nat.reduceBNe,most,ifT,ifF,v176,zsd]
 | cons x xs =>
  rw [List.length_cons] at h
  rw [zac T (g:=v176) rfl rfl rfl _ _ rfl]
  simp (maxSteps:=9999999) (disch:=omega) only [vx,px,ty,↓reduceIte,seval,fx,vxd,Nat.reduceBNe,most,ifT,ifF,v176,zsd]
instance g_slices_Clone_Value_Value (p0:List TValue):Lw (fun r x=>Pu (D.sl true 4 (List.map (TValue.e false) r)) [] x) (zbg p0) (zab T 176 [D.sl false 4 (List.map (TValue.e false) p0)] []):=⟨by
 unfold zbg
 refine Le.chk fun h=>Le.ret ?_
 exact ⟨_,zfl p0 h⟩⟩
instance p_i_renumbered_l1 (s0:List TValue) (s1:List Int) (s11:Int):∀ (s5:List TValue) (s12:Int),Lp (kN T (enF [.tmp 4] []) fun t=>⟨sL false 4 (TValue.e false) s0::sL false 1 dI s1::Z::Z::Z::sL true 4 (TValue.e false) t::zs 25 [],[]⟩) (zcC s0 s1 s11 s5 s12) fun k=>go T (enF [.tmp 4] []) zrn (.lp zro::.bl 0::.sq (.clr [4,6,7,8,9,10,11,12,13,14,15,16,17,18,19,20,21,22,23,24,25,26,27,28,29])::k) ⟨sL false 4 (TValue.e false) s0::sL false 1 dI s1::Z::Z::Z::sL true 4 (TValue.e false) s5::zs 4 (.bor ⟨.slot 5,[],0⟩ .one::sI s11::sI s12::zs 18 []),[]⟩:=Lp2 (zcC.partial_correctness s0 s1 s11) (by
 intro rec _ s5 s12 k
 refine G0 zrn.eq_def ?_
 try conv=>arg 3;simp (maxSteps:=999999) only [push_cast,↓reduceIte,seval, *]
 refine Le.itq (fun h=>?_) (fun h=>?_)
 ·try conv=>arg 3;simp (maxSteps:=999999) only [push_cast,↓reduceIte,seval, *]
  refine Le.idx fun a15 h_1 h_2 h_3=>?_
  try conv=>arg 3;simp (maxSteps:=999999) only [push_cast,↓reduceIte,seval, *]
  refine Le.call ((g_i_refers a15.Kind).h) fun r19 h_4 _ hy=>?_
  first|subst hy|obtain ⟨_,rfl⟩:=hy
  try conv=>arg 3;simp (maxSteps:=999999) only [push_cast,↓reduceIte,seval, *]
  refine Le.bool (fun h_5=>?_) (fun h_5=>?_)
  ·try conv=>arg 3;simp (maxSteps:=999999) only [push_cast,↓reduceIte,seval, *]
   refine Le.call ((g_slices_Index_int64_int64 s1 a15.Ref).h) fun r25 h_6 _ hy=>?_
   first|subst hy|obtain ⟨_,rfl⟩:=hy
   try conv=>arg 3;simp (maxSteps:=999999) only [push_cast,↓reduceIte,seval, *]
   have f:List.set (List.map (TValue.e false) s5) s12.toNat (D.agg [D.int .i64 a15.Kind,D.int .i64 a15.Num,D.str a15.Text,D.int .i64 (IntKind.wrap .i64 (r25 + 1))])=List.map (TValue.e false) (setN s5 s12.toNat (TValue.mk a15.Kind a15.Num a15.Text (IntKind.wrap .i64 (r25 + 1)))):=zgB _ _ _ _ rfl
   exact A
  ·exact A
 ·exact A)
instance g_i_renumbered (p0:List TValue) (p1:List Int):Lw (PV (dL true 4 (TValue.e false))) (zcD p0 p1) (zab T 129 [D.sl false 4 (List.map (TValue.e false) p0),D.sl false 1 (List.map dI p1)] []):=⟨E (zcD.eq_def ..)⟩
instance p_i_Heap_collect_l1 (s1:List TValue) (s2 s4:THeap) (s6:List Int) (s18:Int):∀ (s7:THeap) (s19:Int),Lp (kN T (enF [.cell 4 (.many 2),.tmp 5] []) fun t=>⟨Z::sL false 4 (TValue.e false) s1::Z::Z::.box (THeap.c true s4)::Z::sL true 1 dI s6::.box (THeap.c true t)::zs 55 [],[]⟩) (zbS s1 s2 s4 s6 s18 s7 s19) fun k=>go T (enF [.cell 4 (.many 2),.tmp 5] []) zvw (.lp zvx::.bl 0::.sq (.clr [0,2,5,8,9,10,11,12,13,14,15,16,17,18,19,20,21,22,23,24,25,26,27,28,29,30,31,32,33,34,35,36,37,38,39,40,41,42,43,44,45,46,47,48,49,50,51,52,53,54,55,56,57,58])::k) ⟨Z::sL false 4 (TValue.e false) s1::.box (THeap.c false s2)::Z::.box (THeap.c true s4)::Z::sL true 1 dI s6::.box (THeap.c true s7)::zs 9 (.bor ⟨.slot 6,[],0⟩ .one::sI s18::sI s19::zs 43 []),[]⟩:=Lp2 (zbS.partial_correctness s1 s2 s4 s6 s18) (by
 intro rec _ s7 s19 k
 refine G0 zvw.eq_def ?_
 try conv=>arg 3;simp (maxSteps:=999999) only [push_cast,↓reduceIte,seval, *]
 refine Le.itq (fun h=>?_) (fun h=>?_)
 ·try conv=>arg 3;simp (maxSteps:=999999) only [push_cast,↓reduceIte,seval, *]
  refine Le.idx fun a22 h_1 h_2 h_3=>?_
  try conv=>arg 3;simp (maxSteps:=999999) only [push_cast,↓reduceIte,seval, *]
  refine Le.dcall ((g_i_Heap_find s2 a22).h) fun r28 h_4 _ hy=>?_
  first|subst hy|obtain ⟨_,rfl⟩:=hy
  try conv=>arg 3;simp (maxSteps:=999999) only [push_cast,↓reduceIte,seval, *]
  refine Le.idx fun a29 h_5 h_6 h_7=>?_
  try conv=>arg 3;simp (maxSteps:=999999) only [push_cast,↓reduceIte,seval, *]
  refine Le.dcall ((g_i_renumbered a29.Keys s6).h) fun r37 h_8 _ hy=>?_
  first|subst hy|obtain ⟨_,rfl⟩:=hy
  try conv=>arg 3;simp (maxSteps:=999999) only [push_cast,↓reduceIte,seval, *]
  refine Le.dcall ((g_i_renumbered a29.Vals s6).h) fun r41 h_9 _ hy=>?_
  first|subst hy|obtain ⟨_,rfl⟩:=hy
  try conv=>arg 3;simp (maxSteps:=999999) only [push_cast,↓reduceIte,seval, *]
  refine Le.call ((g_i_renumbered ([a29.Default]) s6).h) fun r48 h_10 _ hy=>?_
  first|subst hy|obtain ⟨_,rfl⟩:=hy
  try conv=>arg 3;simp (maxSteps:=999999) only [push_cast,↓reduceIte,seval, *]
  refine Le.idxN fun a49 h_11 h_12=>?_
  try conv=>arg 3;simp (maxSteps:=999999) only [push_cast,↓reduceIte,seval, *]
  refine Le.app fun c56 h_13 h_14=>?_
  replace h_13:List.map (TObject.e true) s7.Objects++[D.agg [D.int .i64 (IntKind.wrap .i64 (s19 + 1)),D.int .i64 a29.Kind,D.str a29.Name,D.int .i64 a29.Low,D.sl true 4 (List.map (TValue.e false) r37),D.sl true 4 (List.map (TValue.e false) r41),D.int .i64 a49.Kind,D.int .i64 a49.Num,D.str a49.Text,D.int .i64 a49.Ref]]=List.map (TObject.e true) c56:=by rw [h_13,List.map_append] <;> rfl
  replace h_14:s7.Objects.length + 1≤most:=h_14
  exact A
 ·exact A)
instance g_i_Heap_collect (p0:THeap) (p1:List TValue):Lw (PV fun (r:THeap × (List TValue))=>D.tup [THeap.e true r.1,D.sl true 4 (List.map (TValue.e false) r.2)]) (zeh p0 p1) (zab T 56 [THeap.e false p0,D.sl false 4 (List.map (TValue.e false) p1)] []):=⟨E (zeh.eq_def ..)⟩
theorem zeq (xs:List TBinding) (h:xs.length≤2147483648):zab T 178 [.sl false 5 (xs.map (TBinding.e false))] []=some (.sl true 5 (xs.map (TBinding.e false)),[],[]):=by
 cases xs with
 | nil =>
  rw [zac T (g:=v178) rfl rfl rfl _ _ rfl]
  simp (maxSteps:=9999999) (disch:=omega) only [vx,px,ty,↓reduceIte,seval,fx,vxd,Nat.reduceBNe,most,ifT,ifF,v178,zsg]
 | cons x xs =>
  rw [List.length_cons] at h
  rw [zac T (g:=v178) rfl rfl rfl _ _ rfl]
  simp (maxSteps:=9999999) (disch:=omega) only [vx,px,ty,↓reduceIte,seval,fx,vxd,Nat.reduceBNe,most,ifT,ifF,v178,zsg]
instance g_slices_Clone_Binding_Binding (p0:List TBinding):Lw (fun r x=>Pu (D.sl true 5 (List.map (TBinding.e false) r)) [] x) (zaK p0) (zab T 178 [D.sl false 5 (List.map (TBinding.e false) p0)] []):=⟨by
 unfold zaK
 refine Le.chk fun h=>Le.ret ?_
 exact ⟨_,zeq p0 h⟩⟩
instance p_i_Scope_copied_l1 (s1 s2:TScope) (s13:List TFunction) (s14:Int):∀ (s3:TScope) (s15:Int),Lp (kN T (enF [.cell 2 (.many 3)] []) fun t=>⟨Z::.box (TScope.c false s1)::.box (TScope.c true s2)::.box (TScope.c true t)::zs 49 [],[]⟩) (zbT s1 s2 s13 s14 s3 s15) fun k=>go T (enF [.cell 2 (.many 3)] []) zrp (.lp zrq::.bl 0::.sq (.clr [0,5,8,9,10,11,12,13,14,15,16,17,18,19,20,21,22,23,24,25,26,27,28,29,30,31,32,33])::k) ⟨Z::.box (TScope.c false s1)::.box (TScope.c true s2)::.box (TScope.c true s3)::zs 8 (.ptr ⟨.slot 1,[],1⟩::sL false 4 (TFunction.e false) s13::sI s14::sI s15::zs 37 []),[]⟩:=Lp2 (zbT.partial_correctness s1 s2 s13 s14) (by
 intro rec _ s3 s15 k
 refine G0 zrp.eq_def ?_
 try conv=>arg 3;simp (maxSteps:=999999) only [push_cast,↓reduceIte,seval, *]
 refine Le.itq (fun h=>?_) (fun h=>?_)
 ·try conv=>arg 3;simp (maxSteps:=999999) only [push_cast,↓reduceIte,seval, *]
  refine Le.idx fun a17 h_1 h_2 h_3=>?_
  try conv=>arg 3;simp (maxSteps:=999999) only [push_cast,↓reduceIte,seval, *]
  refine Le.dcall ((g_slices_Clone_string_string a17.Params).h) fun r21 h_4 _ hy=>?_
  first|subst hy|obtain ⟨_,rfl⟩:=hy
  try conv=>arg 3;simp (maxSteps:=999999) only [push_cast,↓reduceIte,seval, *]
  refine Le.dcall ((g_slices_Clone_string_string a17.Locals).h) fun r24 h_5 _ hy=>?_
  first|subst hy|obtain ⟨_,rfl⟩:=hy
  try conv=>arg 3;simp (maxSteps:=999999) only [push_cast,↓reduceIte,seval, *]
  refine Le.app fun c31 h_6 h_7=>?_
  replace h_6:List.map (TFunction.e true) s3.Functions++[D.agg [D.str a17.Name,D.sl true 1 (List.map D.str r21),D.sl true 1 (List.map D.str r24),D.str a17.Label]]=List.map (TFunction.e true) c31:=by rw [h_6,List.map_append] <;> rfl
  replace h_7:s3.Functions.length + 1≤most:=h_7
  exact A
 ·exact A)
instance p_i_Scope_copied_l2 (s1 s2:TScope) (s35:List TRecordType) (s36:Int):∀ (s3:TScope) (s37:Int),Lp (kN T (enF [.cell 2 (.many 3)] []) fun t=>⟨Z::Z::.box (TScope.c true s2)::.box (TScope.c true t)::zs 49 [],[]⟩) (zbU s1 s2 s35 s36 s3 s37) fun k=>go T (enF [.cell 2 (.many 3)] []) zrr (.lp zrs::.bl 2::.sq (.clr [0,1,5,7,8,9,10,11,12,13,14,15,16,17,18,19,20,21,22,23,24,25,26,27,28,29,30,31,32,33,34,35,36,37,38,39,40,41,42,43,44,45,46,47,48,49,50,51])::k) ⟨Z::.box (TScope.c false s1)::.box (TScope.c true s2)::.box (TScope.c true s3)::zs 30 (.ptr ⟨.slot 1,[],2⟩::sL false 2 (TRecordType.e false) s35::sI s36::sI s37::zs 15 []),[]⟩:=Lp2 (zbU.partial_correctness s1 s2 s35 s36) (by
 intro rec _ s3 s37 k
 refine G0 zrr.eq_def ?_
 try conv=>arg 3;simp (maxSteps:=999999) only [push_cast,↓reduceIte,seval, *]
 refine Le.itq (fun h=>?_) (fun h=>?_)
 ·try conv=>arg 3;simp (maxSteps:=999999) only [push_cast,↓reduceIte,seval, *]
  refine Le.idx fun a39 h_1 h_2 h_3=>?_
  try conv=>arg 3;simp (maxSteps:=999999) only [push_cast,↓reduceIte,seval, *]
  refine Le.call ((g_slices_Clone_string_string a39.Fields).h) fun r43 h_4 _ hy=>?_
  first|subst hy|obtain ⟨_,rfl⟩:=hy
  try conv=>arg 3;simp (maxSteps:=999999) only [push_cast,↓reduceIte,seval, *]
  refine Le.app fun c49 h_5 h_6=>?_
  replace h_5:List.map (TRecordType.e true) s3.Types++[D.agg [D.str a39.Name,D.sl true 1 (List.map D.str r43)]]=List.map (TRecordType.e true) c49:=by rw [h_5,List.map_append] <;> rfl
  replace h_6:s3.Types.length + 1≤most:=h_6
  exact A
 ·exact A)
instance g_i_Scope_copied (p0:TScope):Lw (PV (TScope.e true)) (zei p0) (zab T 130 [TScope.e false p0] []):=⟨E (zei.eq_def ..)⟩
instance p_i_Scope_withRoots_l1 (s1:List TValue) (s4:TScope) (s10:List TValue) (s11:Int):∀ (s5:TScope) (s12:Int),Lp (kN T (enF [.cell 4 (.many 3)] []) fun t=>⟨Z::sL false 4 (TValue.e false) s1::Z::Z::.box (TScope.c true s4)::.box (TScope.c true t)::zs 19 [],[]⟩) (zbH s1 s4 s10 s11 s5 s12) fun k=>go T (enF [.cell 4 (.many 3)] []) zvy (.lp zvz::.bl 0::.sq (.clr [0,2,6,7,8,9,10,11,12,13,14,15,16,17,18,19,20,21,22,23])::k) ⟨Z::sL false 4 (TValue.e false) s1::Z::Z::.box (TScope.c true s4)::.box (TScope.c true s5)::zs 4 (sL false 4 (TValue.e false) s10::sI s11::sI s12::zs 12 []),[]⟩:=Lp2 (zbH.partial_correctness s1 s4 s10 s11) (by
 intro rec _ s5 s12 k
 refine G0 zvy.eq_def ?_
 try conv=>arg 3;simp (maxSteps:=999999) only [push_cast,↓reduceIte,seval, *]
 refine Le.itq (fun h=>?_) (fun h=>?_)
 ·try conv=>arg 3;simp (maxSteps:=999999) only [push_cast,↓reduceIte,seval, *]
  refine Le.idx fun a15 h_1 h_2 h_3=>?_
  try conv=>arg 3;simp (maxSteps:=999999) only [push_cast,↓reduceIte,seval, *]
  refine Le.idx fun a21 h_4 h_5 h_6=>?_
  try conv=>arg 3;simp (maxSteps:=999999) only [push_cast,↓reduceIte,seval, *]
  have f:List.set (List.map (TBinding.e false) s5.Vars) s12.toNat (D.agg [D.str a21.Name,D.int .i64 a15.Kind,D.int .i64 a15.Num,D.str a15.Text,D.int .i64 a15.Ref])=List.map (TBinding.e false) (setN s5.Vars s12.toNat (TBinding.mk a21.Name a15)):=zgB _ _ _ _ rfl
  exact A
 ·exact A)
instance g_i_Scope_withRoots (p0:TScope) (p1:List TValue):Lw (PV (TScope.e true)) (zcS p0 p1) (zab T 57 [TScope.e false p0,D.sl false 4 (List.map (TValue.e false) p1)] []):=⟨E (zcS.eq_def ..)⟩
instance p_i_Console_copied_l1 (s1 s2:TConsole) (s19:List TFile) (s20:Int):∀ (s3:TConsole) (s21:Int),Lp (kN T (enF [.cell 2 (.many 5)] []) fun t=>⟨Z::Z::.box (TConsole.c true s2)::.box (TConsole.c true t)::zs 33 [],[]⟩) (zcf s1 s2 s19 s20 s3 s21) fun k=>go T (enF [.cell 2 (.many 5)] []) zvA (.lp zvB::.bl 0::.sq (.clr [0,1,5,6,7,8,9,10,11,12,13,14,15,16,17,18,19,20,21,22,23,24,25,26,27,28,29,30,31,32,33,34,35])::k) ⟨Z::.box (TConsole.c false s1)::.box (TConsole.c true s2)::.box (TConsole.c true s3)::zs 14 (.ptr ⟨.slot 1,[],3⟩::sL false 4 (TFile.e false) s19::sI s20::sI s21::zs 15 []),[]⟩:=Lp2 (zcf.partial_correctness s1 s2 s19 s20) (by
 intro rec _ s3 s21 k
 refine G0 zvA.eq_def ?_
 try conv=>arg 3;simp (maxSteps:=999999) only [push_cast,↓reduceIte,seval, *]
 refine Le.itq (fun h=>?_) (fun h=>?_)
 ·try conv=>arg 3;simp (maxSteps:=999999) only [push_cast,↓reduceIte,seval, *]
  refine Le.idx fun a23 h_1 h_2 h_3=>?_
  try conv=>arg 3;simp (maxSteps:=999999) only [push_cast,↓reduceIte,seval, *]
  refine Le.call ((g_slices_Clone_string_string a23.Lines).h) fun r27 h_4 _ hy=>?_
  first|subst hy|obtain ⟨_,rfl⟩:=hy
  try conv=>arg 3;simp (maxSteps:=999999) only [push_cast,↓reduceIte,seval, *]
  refine Le.app fun c33 h_5 h_6=>?_
  replace h_5:List.map (TFile.e true) s3.Files++[D.agg [D.str a23.Name,D.sl true 1 (List.map D.str r27),D.int .i64 a23.Mode,D.int .i64 a23.At]]=List.map (TFile.e true) c33:=by rw [h_5,List.map_append] <;> rfl
  replace h_6:s3.Files.length + 1≤most:=h_6
  exact A
 ·exact A)
instance g_i_Console_copied (p0:TConsole):Lw (PV (TConsole.e true)) (zdp p0) (zab T 58 [TConsole.e false p0] []):=⟨E (zdp.eq_def ..)⟩
instance g_i_Memory_collected (p0:TMemory):Lw (PV (TMemory.e true)) (zdR p0) (zab T 20 [TMemory.e false p0] []):=⟨E (zdR.eq_def ..)⟩
instance g_i_CollectMemory (p0:TMemory):Lw (PV fun (r:TMemory × Int)=>D.tup [TMemory.e true r.1,dI r.2]) (zfi p0) (zab T 7 [TMemory.e false p0] []):=⟨E (zfi.eq_def ..)⟩
end Go.Vx.CmZ
