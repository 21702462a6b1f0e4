/-
  What the plain functions give, the program gives too.
-/
import Derived.Test.YtnaaflejkfaiaaaGreatAu
set_option linter.unusedVariables false
set_option linter.unusedSimpArgs false
namespace Go.Vx.CpZ
set_option linter.unusedVariables false
set_option linter.unusedSimpArgs false
set_option maxRecDepth 10000
set_option maxHeartbeats 2000000
attribute [local irreducible] go bk exi got
instance g_i_GenScope_findCo_1 (p0:TCoexpr) (g0:Int):Lw (fun (r:Bool) x=>x=some (D.bool r,[],[[dI g0]])) (zdL p0 g0) (zaa T 129 [TCoexpr.e false p0,D.ref 0 0] [[dI g0]]):=⟨E (zdL.eq_def ..)⟩
instance p_slices_IndexFunc_Coexpr_Coexpr_l1 (s0:List TCoexpr) (s7 g0:Int):∀ (s8:Int),Lp (kS (kN T (enF [.tmp 4] []) fun t=>⟨sL false 17 (TCoexpr.e false) s0::.d (D.fn 129 [D.ref 0 0])::zs 17 [],[[dI g0]]⟩) (kR (fun (r:Int) x=>x=some (dI r,[],[[dI g0]])))) (zaA s0 s7 g0 s8) fun k=>go T (enF [.tmp 4] []) zqm (.lp zqn::.bl 0::.sq (.clr (rg 4 15))::k) ⟨sL false 17 (TCoexpr.e false) s0::.d (D.fn 129 [D.ref 0 0])::zs 5 (sI s7::sI s8::zs 10 []),[[dI g0]]⟩:=Lp1 (zaA.partial_correctness s0 s7 g0) (by exact fun _ _ _ _=>G zqm.eq_def)
instance g_slices_IndexFunc_Coexpr_Coexpr (p0:List TCoexpr) (g0:Int):Lw (fun (r:Int) x=>x=some (dI r,[],[[dI g0]])) (zbm p0 g0) (zaa T 128 [D.sl false 17 (List.map (TCoexpr.e false) p0),D.fn 129 [D.ref 0 0]] [[dI g0]]):=⟨E (zbm.eq_def ..)⟩
instance g_i_GenScope_findCo (p0:TGenScope) (p1:Int):Lw (PV dI) (zdm p0 p1) (zaa T 59 [TGenScope.e false p0,dI p1] []):=⟨E (zdm.eq_def ..)⟩
instance g_i_within (p0 p1 p2:Int):Lw (PV D.bool) (zbY p0 p1 p2) (zaa T 133 [dI p0,dI p1,dI p2] []):=⟨E (zbY.eq_def ..)⟩
instance g_i_isObjectId (p0:Int):Lw (PV D.bool) (zeO p0) (zaa T 219 [dI p0] []):=⟨E (zeO.eq_def ..)⟩
instance g_i_isLetter (p0:Int):Lw (PV D.bool) (zga p0) (zaa T 252 [D.int .u8 p0] []):=⟨E (zga.eq_def ..)⟩
instance g_i_isDigit (p0:Int):Lw (PV D.bool) (zhQ p0) (zaa T 268 [D.int .u8 p0] []):=⟨E (zhQ.eq_def ..)⟩
instance g_i_isNameByte (p0:Int):Lw (PV D.bool) (zeP p0) (zaa T 254 [D.int .u8 p0] []):=⟨E (zeP.eq_def ..)⟩
instance p_i_areAll_byte_l1 (s0 s7:List Int) (s8:Int):∀ (s9:Int),Lp (kS (kN T (enF [.tmp 4] []) fun t=>⟨sL false 1 (D.int .u8) s0::.d (D.fn 254 [])::zs 16 [],[]⟩) (kR (PV D.bool))) (zdH s0 s7 s8 s9) fun k=>go T (enF [.tmp 4] []) zrW (.lp zrX::.bl 0::.sq (.clr [4,6,7,8,9,10,11,12,13,14,15,16,17])::k) ⟨sL false 1 (D.int .u8) s0::.d (D.fn 254 [])::zs 5 (sL false 1 (D.int .u8) s7::sI s8::sI s9::zs 8 []),[]⟩:=Lp1 (zdH.partial_correctness s0 s7 s8) (by exact fun _ _ _ _=>G zrW.eq_def)
instance g_i_areAll_byte (p0:List Int):Lw (PV D.bool) (zfa p0) (zaa T 253 [D.sl false 1 (List.map (D.int .u8) p0),D.fn 254 []] []):=⟨E (zfa.eq_def ..)⟩
instance g_i_IsName (p0:ByteArray):Lw (PV D.bool) (zfA p0) (zaa T 222 [D.str p0] []):=⟨E (zfA.eq_def ..)⟩
instance p_i_ValidValue_j1 (s1:TValue) (s65:Bool):Lp (kS (kN T (enF [.tmp 2] []) fun t=>⟨Z::.box (TValue.c false s1)::zs 63 (sB t::zs 14 []),[]⟩) (kR (PV D.bool))) (zeh s1 s65) fun k=>go T (enF [.tmp 2] []) zqY k ⟨Z::.box (TValue.c false s1)::zs 63 (sB s65::zs 14 []),[]⟩:=⟨fun k=>GG (zeh.eq_def ..) zqY.eq_def⟩
instance p_i_ValidValue_j2 (s1:TValue) (s4:Int) (s49:Bool):Lp (kS (kN T (enF [.tmp 2] []) fun t=>⟨Z::.box (TValue.c false s1)::zs 78 [],[]⟩) (kR (PV D.bool))) (zdb s1 s4 s49) fun k=>go T (enF [.tmp 2] []) zqZ k ⟨Z::.box (TValue.c false s1)::Z::Z::sI s4::zs 44 (sB s49::zs 30 []),[]⟩:=⟨fun k=>GG (zdb.eq_def ..) zqZ.eq_def⟩
instance g_i_ValidValue (p0:TValue):Lw (PV D.bool) (zbn p0) (zaa T 184 [TValue.e false p0] []):=⟨E (zbn.eq_def ..)⟩
instance p_i_areAll_Value_l1 (s0 s7:List TValue) (s8:Int):∀ (s9:Int),Lp (kS (kN T (enF [.tmp 4] []) fun t=>⟨sL false 4 (TValue.e false) s0::.d (D.fn 184 [])::zs 16 [],[]⟩) (kR (PV D.bool))) (zdn s0 s7 s8 s9) fun k=>go T (enF [.tmp 4] []) zod (.lp zoe::.bl 0::.sq (.clr [4,6,7,8,9,10,11,12,13,14,15,16,17])::k) ⟨sL false 4 (TValue.e false) s0::.d (D.fn 184 [])::zs 5 (sL false 4 (TValue.e false) s7::sI s8::sI s9::zs 8 []),[]⟩:=Lp1 (zdn.partial_correctness s0 s7 s8) (by exact fun _ _ _ _=>G zod.eq_def)
instance g_i_areAll_Value (p0:List TValue):Lw (PV D.bool) (zdw p0) (zaa T 96 [D.sl false 4 (List.map (TValue.e false) p0),D.fn 184 []] []):=⟨E (zdw.eq_def ..)⟩
instance p_slices_Index_Value_Value_l1 (s0:List TValue) (s3:TValue) (s7:Int):∀ (s8:Int),Lp (kS (kN T (enF [.tmp 4] []) fun t=>⟨sL false 4 (TValue.e false) s0::zs 18 [],[]⟩) (kR (PV dI))) (zam s0 s3 s7 s8) fun k=>go T (enF [.tmp 4] []) zsd (.lp zse::.bl 0::.sq (.clr [1,3,4,5,6,7,8,9,10,11,12,13,14,15,16,17,18])::k) ⟨sL false 4 (TValue.e false) s0::Z::Z::.box (TValue.c false s3)::Z::Z::Z::sI s7::sI s8::zs 10 [],[]⟩:=Lp1 (zam.partial_correctness s0 s3 s7) (by exact fun _ _ _ _=>G zsd.eq_def)
instance g_slices_Index_Value_Value (p0:List TValue) (p1:TValue):Lw (PV dI) (zcf p0 p1) (zaa T 267 [D.sl false 4 (List.map (TValue.e false) p0),TValue.e false p1] []):=⟨E (zcf.eq_def ..)⟩
instance g_slices_Contains_Value_Value (p0:List TValue) (p1:TValue):Lw (PV D.bool) (zaE p0 p1) (zaa T 250 [D.sl false 4 (List.map (TValue.e false) p0),TValue.e false p1] []):=⟨E (zaE.eq_def ..)⟩
instance p_i_areDifferent_l1 (s0 s5:List TValue) (s6:Int):∀ (s7:Int),Lp (kS (kN T (enF [.tmp 2] []) fun t=>⟨sL false 4 (TValue.e false) s0::zs 17 [],[]⟩) (kR (PV D.bool))) (zdo s0 s5 s6 s7) fun k=>go T (enF [.tmp 2] []) zrt (.lp zru::.bl 0::.sq (.clr (rg 2 16))::k) ⟨sL false 4 (TValue.e false) s0::zs 4 (sL false 4 (TValue.e false) s5::sI s6::sI s7::zs 10 []),[]⟩:=Lp1 (zdo.partial_correctness s0 s5 s6) (by
 intro rec _ s7 k
 refine G0 zrt.eq_def ?_
 try conv=>arg 3;simp (maxSteps:=999999) only [push_cast,↓reduceIte,seval, *]
 refine Le.itq (fun h=>?_) (fun h=>?_)
 ·try conv=>arg 3;simp (maxSteps:=999999) only [push_cast,↓reduceIte,seval, *]
  refine Le.idx fun a10 h_1 h_2 h_3=>?_
  try conv=>arg 3;simp (maxSteps:=999999) only [push_cast,↓reduceIte,seval, *]
  refine Le.subH fun c14 h_4 h_5 h_6=>?_
  replace h_4:List.take s7.toNat (List.map (TValue.e false) s0)=List.map (TValue.e false) c14:=by rw [h_4];exact zpS ..
  exact A
 ·exact A)
instance g_i_areDifferent (p0:List TValue):Lw (PV D.bool) (zdx p0) (zaa T 220 [D.sl false 4 (List.map (TValue.e false) p0)] []):=⟨E (zdx.eq_def ..)⟩
instance g_i_textOf (p0:ByteArray):Lw (PV (TValue.e false)) (ziW p0) (zaa T 251 [D.str p0] []):=⟨E (ziW.eq_def ..)⟩
instance g_i_isField (p0:TValue):Lw (PV D.bool) (zgO p0) (zaa T 221 [TValue.e false p0] []):=⟨E (zgO.eq_def ..)⟩
instance p_i_areAll_Value_1_l1 (s0 s7:List TValue) (s8:Int):∀ (s9:Int),Lp (kS (kN T (enF [.tmp 4] []) fun t=>⟨sL false 4 (TValue.e false) s0::.d (D.fn 221 [])::zs 16 [],[]⟩) (kR (PV D.bool))) (zcq s0 s7 s8 s9) fun k=>go T (enF [.tmp 4] []) zod (.lp zoe::.bl 0::.sq (.clr [4,6,7,8,9,10,11,12,13,14,15,16,17])::k) ⟨sL false 4 (TValue.e false) s0::.d (D.fn 221 [])::zs 5 (sL false 4 (TValue.e false) s7::sI s8::sI s9::zs 8 []),[]⟩:=Lp1 (zcq.partial_correctness s0 s7 s8) (by exact fun _ _ _ _=>G zod.eq_def)
instance g_i_areAll_Value_1 (p0:List TValue):Lw (PV D.bool) (zdI p0) (zaa T 96 [D.sl false 4 (List.map (TValue.e false) p0),D.fn 221 []] []):=⟨E (zdI.eq_def ..)⟩
instance p_i_ValidObject_j1 (s1:TObject) (s3:Bool):Lp (kR (PV D.bool)) (zcG s1 s3) fun k=>go T (enF [.tmp 2] []) zqR k ⟨Z::.box (TObject.c false s1)::Z::sB s3::zs 122 [],[]⟩:=⟨fun k=>GG (zcG.eq_def ..) zqR.eq_def⟩
instance p_i_ValidObject_j2 (s1:TObject) (s5:Bool):Lp (kR (PV D.bool)) (zbq s1 s5) fun k=>go T (enF [.tmp 2] []) zqS k ⟨Z::.box (TObject.c false s1)::Z::Z::Z::sB s5::zs 120 [],[]⟩:=⟨fun k=>GG (zbq.eq_def ..) zqS.eq_def⟩
instance p_i_ValidObject_j3 (s1:TObject):Lp (kR (PV D.bool)) (zdJ s1) fun k=>go T (enF [.tmp 2] []) zqT k ⟨Z::.box (TObject.c false s1)::zs 124 [],[]⟩:=⟨fun k=>GG (zdJ.eq_def ..) zqT.eq_def⟩
instance g_i_ValidObject (p0:TObject):Lw (PV D.bool) (zei p0) (zaa T 162 [TObject.e false p0] []):=⟨E (zei.eq_def ..)⟩
instance p_i_areAll_Object_l1 (s0 s7:List TObject) (s8:Int):∀ (s9:Int),Lp (kS (kN T (enF [.tmp 4] []) fun t=>⟨sL false 10 (TObject.e false) s0::.d (D.fn 162 [])::zs 16 [],[]⟩) (kR (PV D.bool))) (zcQ s0 s7 s8 s9) fun k=>go T (enF [.tmp 4] []) zmN (.lp zmO::.bl 0::.sq (.clr [4,6,7,8,9,10,11,12,13,14,15,16,17])::k) ⟨sL false 10 (TObject.e false) s0::.d (D.fn 162 [])::zs 5 (sL false 10 (TObject.e false) s7::sI s8::sI s9::zs 8 []),[]⟩:=Lp1 (zcQ.partial_correctness s0 s7 s8) (by exact fun _ _ _ _=>G zmN.eq_def)
instance g_i_areAll_Object (p0:List TObject):Lw (PV D.bool) (zej p0) (zaa T 161 [D.sl false 10 (List.map (TObject.e false) p0),D.fn 162 []] []):=⟨E (zej.eq_def ..)⟩
theorem zeQ (sto:List (List D)):zaa T 255 [.nils 4,.int .i64 0] sto=some (.nils 4,[],sto):=by
 rw [zad T (g:=v255) rfl rfl rfl _ _ rfl]
 simp (maxSteps:=9999999) (disch:=omega) only [vx,px,ty,↓reduceIte,seval,fx,vxd,Nat.reduceBNe,most,ifT,ifF,v255,zrY,Int.reduceToNat,Int.toNat_zero,zdW.eq_3]
theorem zeR (n:Int) (sto:List (List D)) (h:0<n) (h2:n≤2147483648):zaa T 255 [.nils 4,.int .i64 n] sto=some (.sl true 4 [],[],sto):=by
 rw [zad T (g:=v255) rfl rfl rfl _ _ rfl]
 simp (maxSteps:=9999999) (disch:=omega) only [vx,px,ty,↓reduceIte,seval,fx,vxd,Nat.reduceBNe,most,ifT,ifF,v255,zrY,Int.reduceToNat,Int.toNat_zero,zdW.eq_3,zoC,Int.sub_zero]
theorem zft (a b:List TValue) (sto:List (List D)) (h:a.length + b.length≤2147483648):zaa T 223 [.sl false 1 [.sl false 4 (a.map (TValue.e false)),.sl false 4 (b.map (TValue.e false))]] sto=some (.sl true 4 ((a++b).map (TValue.e false)),[],sto):=by
 by_cases h0:a.length + b.length=0
 ·obtain rfl:a=[]:=List.length_eq_zero_iff.1 (by omega)
  obtain rfl:b=[]:=List.length_eq_zero_iff.1 (by omega)
  have e0:((0:Nat):Int) + ((0:Nat):Int)=0:=rfl
  rw [zad T (g:=v223) rfl rfl rfl _ _ rfl]
  simp (maxSteps:=9999999) (disch:=omega) only [vx,px,ty,↓reduceIte,seval,fx,vxd,Nat.reduceBNe,most,ifT,ifF,v223,zrv,go_lpc,zmP,go_lpc,zmQ,List.length_map,zeQ,Int.reduceToNat,Int.toNat_zero,zdW.eq_3,Int.add_zero,Int.zero_add,Int.reduceAdd,e0]
 ·rw [List.map_append]
  have e1:=fun sto=>zeR ((a.length:Int) + (b.length:Int)) sto (by omega) (by omega)
  rw [zad T (g:=v223) rfl rfl rfl _ _ rfl]
  simp (maxSteps:=9999999) (disch:=omega) only [vx,px,ty,↓reduceIte,seval,fx,vxd,Nat.reduceBNe,most,ifT,ifF,v223,zrv,go_lpc,zmP,go_lpc,zmQ,List.length_map,e1,Int.reduceToNat,Int.reduceAdd,Int.zero_add,Int.toNat_zero,zdW.eq_3]
instance g_slices_Concat_Value_Value (a b:List TValue):Lw (fun r x=>Pu (D.sl true 4 (List.map (TValue.e false) r)) [] x) (zbi a b) (zaa T 223 [D.sl false 1 [D.sl false 4 (List.map (TValue.e false) a),D.sl false 4 (List.map (TValue.e false) b)]] []):=⟨by
 unfold zbi
 refine Le.chk fun h=>Le.ret ?_
 exact ⟨_,zft a b [] h⟩⟩
instance g_i_Object_values (p0:TObject):Lw (PV (dL true 4 (TValue.e false))) (zfr p0) (zaa T 164 [TObject.e false p0] []):=⟨by
 refine E0 (h:=?_) (zfr.eq_def ..)
 try conv=>arg 3;simp (maxSteps:=999999) only [push_cast,↓reduceIte,seval, *]
 refine Le.call ((g_slices_Concat_Value_Value p0.Keys p0.Vals).h) fun r9 h _ hy=>?_
 first|subst hy|obtain ⟨_,rfl⟩:=hy
 try conv=>arg 3;simp (maxSteps:=999999) only [push_cast,↓reduceIte,seval, *]
 refine Le.itq (fun h_1=>?_) (fun h_1=>?_)
 ·try conv=>arg 3;simp (maxSteps:=999999) only [push_cast,↓reduceIte,seval, *]
  refine Le.app fun c17 h_2 h_3=>?_
  replace h_2:List.map (TValue.e false) r9++[D.agg [D.int .i64 p0.Default.Kind,D.int .i64 p0.Default.Num,D.str p0.Default.Text,D.int .i64 p0.Default.Ref]]=List.map (TValue.e false) c17:=by rw [h_2,List.map_append] <;> first|rfl|simp only [eqs]
  replace h_3:r9.length + 1≤most:=h_3
  exact A
 ·exact A⟩
instance g_i_refers (p0:Int):Lw (PV D.bool) (zhg p0) (zaa T 185 [dI p0] []):=⟨E (zhg.eq_def ..)⟩
instance g_cmp_isNaN_int64 (p0:Int):Lw (PV D.bool) (zek p0) (zaa T 260 [dI p0] []):=⟨E (zek.eq_def ..)⟩
instance g_cmp_Compare_int64 (p0 p1:Int):Lw (PV dI) (zeA p0 p1) (zaa T 231 [dI p0,dI p1] []):=⟨E (zeA.eq_def ..)⟩
instance g_i_Heap_find_1 (p0:TObject) (p1:Int):Lw (PV dI) (zel p0 p1) (zaa T 230 [TObject.e false p0,dI p1] []):=⟨E (zel.eq_def ..)⟩
instance p_slices_BinarySearchFunc_Object_Object_int64_l1 (s0:List TObject) (s1 s8:Int):∀ (s9 s10:Int),Lp (kN T (enF [.tmp 6,.tmp 7] []) fun t=>⟨sL false 10 (TObject.e false) s0::sI s1::.d (D.fn 230 [])::zs 5 (sI s8::sI t::zs 39 []),[]⟩) (zah s0 s1 s8 s9 s10) fun k=>go T (enF [.tmp 6,.tmp 7] []) zrw (.lp zrx::.bl 0::.sq (.clr [6,7,10,11,12,13,14,15,16,17,18,19,20,21,22,23,24,25,26,27,28,29,30,31,32,33,34])::k) ⟨sL false 10 (TObject.e false) s0::sI s1::.d (D.fn 230 [])::zs 5 (sI s8::sI s9::sI s10::zs 38 []),[]⟩:=Lp2 (zah.partial_correctness s0 s1 s8) (by exact fun _ _ _ _ _=>G zrw.eq_def)
instance g_slices_BinarySearchFunc_Object_Object_int64 (p0:List TObject) (p1:Int):Lw (PV fun (r:Int × Bool)=>D.tup [dI r.1,D.bool r.2]) (zay p0 p1) (zaa T 229 [D.sl false 10 (List.map (TObject.e false) p0),dI p1,D.fn 230 []] []):=⟨E (zay.eq_def ..)⟩
instance g_i_Heap_find (p0:THeap) (p1:Int):Lw (PV dI) (zgr p0 p1) (zaa T 186 [THeap.e false p0,dI p1] []):=⟨E (zgr.eq_def ..)⟩
instance g_i_objectKind (p0:Int):Lw (PV dI) (zgP p0) (zaa T 187 [dI p0] []):=⟨E (zgP.eq_def ..)⟩
instance p_i_Heap_fits_j1 (s2:THeap) (s3:TValue):Lp (kR (PV D.bool)) (zfI s2 s3) fun k=>go T (enF [.tmp 4] []) zuB k ⟨Z::Z::.box (THeap.c false s2)::.box (TValue.c false s3)::zs 31 [],[]⟩:=⟨fun k=>GG (zfI.eq_def ..) zuB.eq_def⟩
instance g_i_Heap_fits (p0:THeap) (p1:TValue):Lw (PV D.bool) (zdM p0 p1) (zaa T 98 [THeap.e false p0,TValue.e false p1] []):=⟨E (zdM.eq_def ..)⟩
instance p_i_areAll_Value_2_l1 (s0:List TValue) (s1:THeap) (s7:List TValue) (s8:Int):∀ (s9:Int),Lp (kS (kN T (enF [.tmp 4] []) fun t=>⟨sL false 4 (TValue.e false) s0::.d (D.bf 98 [THeap.e false s1])::zs 16 [],[]⟩) (kR (PV D.bool))) (zcr s0 s1 s7 s8 s9) fun k=>go T (enF [.tmp 4] []) zod (.lp zoe::.bl 0::.sq (.clr [4,6,7,8,9,10,11,12,13,14,15,16,17])::k) ⟨sL false 4 (TValue.e false) s0::.d (D.bf 98 [THeap.e false s1])::zs 5 (sL false 4 (TValue.e false) s7::sI s8::sI s9::zs 8 []),[]⟩:=Lp1 (zcr.partial_correctness s0 s1 s7 s8) (by exact fun _ _ _ _=>G zod.eq_def)
instance g_i_areAll_Value_2 (p0:List TValue) (p1:THeap):Lw (PV D.bool) (zbO p0 p1) (zaa T 96 [D.sl false 4 (List.map (TValue.e false) p0),D.bf 98 [THeap.e false p1]] []):=⟨E (zbO.eq_def ..)⟩
instance g_i_ValidHeap_1 (p0:TObject) (g0:Int) (g0_1:List TObject):Lw (fun (r:Bool) x=>x=some (D.bool r,[],[[dI g0,D.sl false 10 (List.map (TObject.e false) g0_1)]])) (zem p0 g0 g0_1) (zaa T 163 [TObject.e false p0,D.ref 0 0] [[dI g0,D.sl false 10 (List.map (TObject.e false) g0_1)]]):=⟨E (zem.eq_def ..)⟩
instance p_i_areAll_Object_1_l1 (s0 s7:List TObject) (s8 g0:Int) (g0_1:List TObject):∀ (s9:Int),Lp (kS (kN T (enF [.tmp 4] []) fun t=>⟨sL false 10 (TObject.e false) s0::.d (D.fn 163 [D.ref 0 0])::zs 16 [],[[dI g0,D.sl false 10 (List.map (TObject.e false) g0_1)]]⟩) (kR (fun (r:Bool) x=>x=some (D.bool r,[],[[dI g0,D.sl false 10 (List.map (TObject.e false) g0_1)]])))) (zbZ s0 s7 s8 g0 g0_1 s9) fun k=>go T (enF [.tmp 4] []) zmN (.lp zmO::.bl 0::.sq (.clr [4,6,7,8,9,10,11,12,13,14,15,16,17])::k) ⟨sL false 10 (TObject.e false) s0::.d (D.fn 163 [D.ref 0 0])::zs 5 (sL false 10 (TObject.e false) s7::sI s8::sI s9::zs 8 []),[[dI g0,D.sl false 10 (List.map (TObject.e false) g0_1)]]⟩:=Lp1 (zbZ.partial_correctness s0 s7 s8 g0 g0_1) (by exact fun _ _ _ _=>G zmN.eq_def)
instance g_i_areAll_Object_1 (p0:List TObject) (g0:Int) (g0_1:List TObject):Lw (fun (r:Bool) x=>x=some (D.bool r,[],[[dI g0,D.sl false 10 (List.map (TObject.e false) g0_1)]])) (zdp p0 g0 g0_1) (zaa T 161 [D.sl false 10 (List.map (TObject.e false) p0),D.fn 163 [D.ref 0 0]] [[dI g0,D.sl false 10 (List.map (TObject.e false) g0_1)]]):=⟨E (zdp.eq_def ..)⟩
instance p_i_ValidHeap_l1 (s1:THeap) (s23:List TObject) (s24:Int):∀ (s3 s25:Int),Lp (kS (kN T (enF [.tmp 2] []) fun t=>⟨Z::.box (THeap.c false s1)::zs 45 [],[]⟩) (kR (PV D.bool))) (zdy s1 s23 s24 s3 s25) fun k=>go T (enF [.tmp 2] []) zuy (.lp zuz::.bl 0::.sq (.clr [0,2,3,5,6,7,8,9,10,11,12,13,14,15,16,17,18,19,20,21,22,23,24,25,26,27,28,29,30,31,32,33,34,35,36,37,38,39,40,41,42])::k) ⟨Z::.box (THeap.c false s1)::Z::sI s3::zs 18 (.ptr ⟨.slot 1,[],1⟩::sL false 10 (TObject.e false) s23::sI s24::sI s25::zs 21 []),[]⟩:=Lp2 (zdy.partial_correctness s1 s23 s24) (by exact fun _ _ _ _ _=>G zuy.eq_def)
instance p_i_ValidHeap_j1 (s1:THeap):Lp (kR (PV D.bool)) (zfJ s1) fun k=>go T (enF [.tmp 2] []) zuA k ⟨Z::.box (THeap.c false s1)::zs 45 [],[]⟩:=⟨fun k=>GG (zfJ.eq_def ..) zuA.eq_def⟩
instance g_i_ValidHeap (p0:THeap):Lw (PV D.bool) (zgs p0) (zaa T 93 [THeap.e false p0] []):=⟨E (zgs.eq_def ..)⟩
instance g_i_nameOfBinding (p0:TBinding):Lw (PV D.str) (zfs p0) (zaa T 166 [TBinding.e false p0] []):=⟨E (zfs.eq_def ..)⟩
instance p_i_isSorted_Binding_l1 (s0:List TBinding):∀ (s5:Int),Lp (kS (kN T (enF [.tmp 4] []) fun t=>⟨sL false 5 (TBinding.e false) s0::.d (D.fn 166 [])::zs 24 [],[]⟩) (kR (PV D.bool))) (zbU s0 s5) fun k=>go T (enF [.tmp 4] []) zqU (.lp zqV::.bl 0::.sq (.clr (rg 4 22))::k) ⟨sL false 5 (TBinding.e false) s0::.d (D.fn 166 [])::Z::Z::Z::sI s5::zs 20 [],[]⟩:=Lp1 (zbU.partial_correctness s0) (by exact fun _ _ _ _=>G zqU.eq_def)
instance g_i_isSorted_Binding (p0:List TBinding):Lw (PV D.bool) (zcR p0) (zaa T 165 [D.sl false 5 (List.map (TBinding.e false) p0),D.fn 166 []] []):=⟨E (zcR.eq_def ..)⟩
instance g_i_null:Lw (PV (TValue.e false)) (zwN) (zaa T 256 [] []):=⟨E (zwN.eq_def ..)⟩
instance g_i_IsNull (p0:TValue):Lw (PV D.bool) (zkZ p0) (zaa T 224 [TValue.e false p0] []):=⟨E (zkZ.eq_def ..)⟩
instance g_i_Binding_isValid (p0:TBinding):Lw (PV D.bool) (zdq p0) (zaa T 172 [TBinding.e false p0] []):=⟨E (zdq.eq_def ..)⟩
instance g_i_areVars_1 (p0:TBinding) (g0:Int) (g0_1:List TObject):Lw (fun (r:Bool) x=>x=some (D.bool r,[],[[dI g0,D.sl false 10 (List.map (TObject.e false) g0_1)]])) (zgt p0 g0 g0_1) (zaa T 202 [TBinding.e false p0,D.ref 0 0] [[dI g0,D.sl false 10 (List.map (TObject.e false) g0_1)]]):=⟨E (zgt.eq_def ..)⟩
instance p_i_areAll_Binding_l1 (s0 s7:List TBinding) (s8 g0:Int) (g0_1:List TObject):∀ (s9:Int),Lp (kS (kN T (enF [.tmp 4] []) fun t=>⟨sL false 5 (TBinding.e false) s0::.d (D.fn 202 [D.ref 0 0])::zs 16 [],[[dI g0,D.sl false 10 (List.map (TObject.e false) g0_1)]]⟩) (kR (fun (r:Bool) x=>x=some (D.bool r,[],[[dI g0,D.sl false 10 (List.map (TObject.e false) g0_1)]])))) (zcs s0 s7 s8 g0 g0_1 s9) fun k=>go T (enF [.tmp 4] []) zqW (.lp zqX::.bl 0::.sq (.clr [4,6,7,8,9,10,11,12,13,14,15,16,17])::k) ⟨sL false 5 (TBinding.e false) s0::.d (D.fn 202 [D.ref 0 0])::zs 5 (sL false 5 (TBinding.e false) s7::sI s8::sI s9::zs 8 []),[[dI g0,D.sl false 10 (List.map (TObject.e false) g0_1)]]⟩:=Lp1 (zcs.partial_correctness s0 s7 s8 g0 g0_1) (by exact fun _ _ _ _=>G zqW.eq_def)
instance g_i_areAll_Binding (p0:List TBinding) (g0:Int) (g0_1:List TObject):Lw (fun (r:Bool) x=>x=some (D.bool r,[],[[dI g0,D.sl false 10 (List.map (TObject.e false) g0_1)]])) (zeU p0 g0 g0_1) (zaa T 171 [D.sl false 5 (List.map (TBinding.e false) p0),D.fn 202 [D.ref 0 0]] [[dI g0,D.sl false 10 (List.map (TObject.e false) g0_1)]]):=⟨E (zeU.eq_def ..)⟩
instance g_i_areVars (p0:List TBinding) (p1:THeap):Lw (PV D.bool) (zgb p0 p1) (zaa T 130 [D.sl false 5 (List.map (TBinding.e false) p0),THeap.e false p1] []):=⟨E (zgb.eq_def ..)⟩
instance g_i_isData (p0:TValue):Lw (PV D.bool) (ziX p0) (zaa T 264 [TValue.e false p0] []):=⟨E (ziX.eq_def ..)⟩
instance p_i_genKids_j1 (s0 s3:Int) (s10:Bool):Lp (kS (kN T (enF [.tmp 2] []) fun t=>⟨sI s0::Z::Z::sI s3::zs 6 ([sB t.1,Z,Z,Z,sB t.2.1,sB t.2.2.1,sB t.2.2.2.1,sB t.2.2.2.2]),[]⟩) (kR (PV dI))) (zfB s0 s3 s10) fun k=>go T (enF [.tmp 2] []) zsb k ⟨sI s0::Z::Z::sI s3::zs 6 (sB s10::zs 7 []),[]⟩:=⟨fun k=>GG (zfB.eq_def ..) zsb.eq_def⟩
instance p_i_genKids_j2 (s0 s3:Int) (s4:Bool):Lp (kS (kN T (enF [.tmp 2] []) fun t=>⟨sI s0::Z::Z::sI s3::zs 6 ([sB t.1,Z,Z,Z,sB t.2.1,sB t.2.2.1,sB t.2.2.2.1,sB t.2.2.2.2]),[]⟩) (kR (PV dI))) (zdS s0 s3 s4) fun k=>go T (enF [.tmp 2] []) zsc k ⟨sI s0::Z::Z::sI s3::sB s4::zs 13 [],[]⟩:=⟨fun k=>GG (zdS.eq_def ..) zsc.eq_def⟩
instance g_i_genKids (p0:Int):Lw (PV dI) (zgc p0) (zaa T 266 [dI p0] []):=⟨E (zgc.eq_def ..)⟩
instance g_i_isOperatorName (p0:ByteArray):Lw (PV D.bool) (zcH p0) (zaa T 265 [D.str p0] []):=⟨E (zcH.eq_def ..)⟩
instance p_i_Gen_hasForm_j2 (s1:TGen) (s3 s4 s5:Bool):Lp (kR (PV D.bool)) (zbP s1 s3 s4 s5) fun k=>go T (enF [.tmp 2] []) zrT k ⟨Z::.box (TGen.c false s1)::Z::sB s3::sB s4::sB s5::zs 55 [],[]⟩:=⟨fun k=>GG (zbP.eq_def ..) zrT.eq_def⟩
instance p_i_Gen_hasForm_j1 (s1:TGen) (s3 s4 s5:Bool) (s17:Int) (s23:Bool):Lp (kN T (enF [.tmp 2] []) fun t=>⟨Z::.box (TGen.c false s1)::Z::sB t.1::sB t.2.1::sB s5::zs 11 (sI s17::zs 5 (sB t.2.2::zs 37 [])),[]⟩) (zcI s1 s3 s4 s5 s17 s23) fun k=>go T (enF [.tmp 2] []) zrS k ⟨Z::.box (TGen.c false s1)::Z::sB s3::sB s4::sB s5::zs 11 (sI s17::zs 5 (sB s23::zs 37 [])),[]⟩:=⟨fun k=>GG (zcI.eq_def ..) zrS.eq_def⟩
instance g_i_Gen_hasForm (p0:TGen):Lw (PV D.bool) (zfb p0) (zaa T 244 [D.agg [dI p0.Kind,dI p0.Num,D.str p0.Text,dI p0.Value.Kind,dI p0.Value.Num,D.str p0.Value.Text,dI p0.Value.Ref,D.sl false 8 (List.map (TGen.e false) p0.Kids)]] []):=⟨E (zfb.eq_def ..)⟩
noncomputable abbrev zde (s1:Int) (s2:TGen) (s17:List TGen) (s18 s19:Int) (k:List Fr):Option Res:=go T (enF [.tmp 4] []) zrh (.lp zri::.bl 0::.sq (.clr [0,2,4,6,7,8,9,10,11,12,13,14,15,16,17,18,19,20,21,22,23,24,25,26,27,28])::k) ⟨Z::sI s1::.box (TGen.c false s2)::zs 13 (.ptr ⟨.slot 2,[],7⟩::sL false 8 (TGen.e false) s17::sI s18::sI s19::zs 10 []),[]⟩
noncomputable abbrev zdf (s1:Int) (s2:TGen) (s17:List TGen) (s18 s19:Int):List Fr→Int→Option Res→Prop:=(kN T (enF [.tmp 4] []) fun t=>⟨Z::sI t::zs 28 [],[]⟩)
noncomputable abbrev zes (s1:Int) (s2:TGen) (k:List Fr):Option Res:=go T (enF [.tmp 4] []) zrj k ⟨Z::sI s1::.box (TGen.c false s2)::zs 27 [],[]⟩
noncomputable abbrev zet (s1:Int) (s2:TGen):List Fr→Int→Option Res→Prop:=(kR (PV dI))
theorem zfu:(∀ (s1:Int) (s2:TGen) (s17:List TGen) (s18 s19:Int) r,zbj s1 s2 s17 s18 s19=some r→∀ k:List Fr,zdf s1 s2 s17 s18 s19 k r (zde s1 s2 s17 s18 s19 k))∧(∀ (p0:TGen) (p1:Int) r,zdT p0 p1=some r→(PV dI) r (zaa T 208 [D.agg [dI p0.Kind,dI p0.Num,D.str p0.Text,dI p0.Value.Kind,dI p0.Value.Num,D.str p0.Value.Text,dI p0.Value.Ref,D.sl false 8 (List.map (TGen.e false) p0.Kids)],dI p1] []))∧(∀ (s1:Int) (s2:TGen) r,zen s1 s2=some r→∀ k:List Fr,zet s1 s2 k r (zes s1 s2 k)):=by
 refine zbj.mutual_partial_correctness (motive_1:=fun s1 s2 s17 s18 s19 r=>∀ k:List Fr,zdf s1 s2 s17 s18 s19 k r (zde s1 s2 s17 s18 s19 k)) (motive_2:=fun p0 p1 r=>(PV dI) r (zaa T 208 [D.agg [dI p0.Kind,dI p0.Num,D.str p0.Text,dI p0.Value.Kind,dI p0.Value.Num,D.str p0.Value.Text,dI p0.Value.Ref,D.sl false 8 (List.map (TGen.e false) p0.Kids)],dI p1] [])) (motive_3:=fun s1 s2 r=>∀ k:List Fr,zet s1 s2 k r (zes s1 s2 k)) ?_ ?_ ?_
 ·intro zbj zdT i_i_countGen_l1 i_i_countGen
  have p_i_countGen_l1:∀ (s1:Int) (s2:TGen) (s17:List TGen) (s18 s19:Int),Lp (zdf s1 s2 s17 s18 s19) (zbj s1 s2 s17 s18 s19) (zde s1 s2 s17 s18 s19):=fun s1 s2 s17 s18 s19=>⟨fun k r hr=>i_i_countGen_l1 s1 s2 s17 s18 s19 r hr k⟩
  have g_i_countGen:∀ (p0:TGen) (p1:Int),Lw (PV dI) (zdT p0 p1) (zaa T 208 [D.agg [dI p0.Kind,dI p0.Num,D.str p0.Text,dI p0.Value.Kind,dI p0.Value.Num,D.str p0.Value.Text,dI p0.Value.Ref,D.sl false 8 (List.map (TGen.e false) p0.Kids)],dI p1] []):=fun p0 p1=>⟨fun r hr=>i_i_countGen p0 p1 r hr⟩
  clear i_i_countGen_l1 i_i_countGen
  intro s1 s2 s17 s18 s19
  refine Le.pc ?_
  intro k
  refine G0 zrh.eq_def ?_
  exact A
 ·intro zen i_i_countGen_j1
  have p_i_countGen_j1:∀ (s1:Int) (s2:TGen),Lp (zet s1 s2) (zen s1 s2) (zes s1 s2):=fun s1 s2=>⟨fun k r hr=>i_i_countGen_j1 s1 s2 r hr k⟩
  clear i_i_countGen_j1
  intro p0 p1
  refine (show Le (PV dI) _ (zaa T 208 [D.agg [dI p0.Kind,dI p0.Num,D.str p0.Text,dI p0.Value.Kind,dI p0.Value.Num,D.str p0.Value.Text,dI p0.Value.Ref,D.sl false 8 (List.map (TGen.e false) p0.Kids)],dI p1] []) from E0 (h:=?_) rfl)
  exact A
 ·intro zbj i_i_countGen_l1
  have p_i_countGen_l1:∀ (s1:Int) (s2:TGen) (s17:List TGen) (s18 s19:Int),Lp (zdf s1 s2 s17 s18 s19) (zbj s1 s2 s17 s18 s19) (zde s1 s2 s17 s18 s19):=fun s1 s2 s17 s18 s19=>⟨fun k r hr=>i_i_countGen_l1 s1 s2 s17 s18 s19 r hr k⟩
  clear i_i_countGen_l1
  intro s1 s2
  refine Le.pc ?_
  intro k
  refine G0 zrj.eq_def ?_
  exact A
instance p_i_countGen_l1 (s1:Int) (s2:TGen) (s17:List TGen) (s18 s19:Int):Lp (zdf s1 s2 s17 s18 s19) (zbj s1 s2 s17 s18 s19) (zde s1 s2 s17 s18 s19):=⟨fun k r hr=>(zfu).1 s1 s2 s17 s18 s19 r hr k⟩
instance g_i_countGen (p0:TGen) (p1:Int):Lw (PV dI) (zdT p0 p1) (zaa T 208 [D.agg [dI p0.Kind,dI p0.Num,D.str p0.Text,dI p0.Value.Kind,dI p0.Value.Num,D.str p0.Value.Text,dI p0.Value.Ref,D.sl false 8 (List.map (TGen.e false) p0.Kids)],dI p1] []):=⟨fun r hr=>(zfu).2.1 p0 p1 r hr⟩
instance p_i_countGen_j1 (s1:Int) (s2:TGen):Lp (zet s1 s2) (zen s1 s2) (zes s1 s2):=⟨fun k r hr=>(zfu).2.2 s1 s2 r hr k⟩
instance g_i_ValidGen (p0:TGen):Lw (PV D.bool) (zhh p0) (zaa T 149 [D.agg [dI p0.Kind,dI p0.Num,D.str p0.Text,dI p0.Value.Kind,dI p0.Value.Num,D.str p0.Value.Text,dI p0.Value.Ref,D.sl false 8 (List.map (TGen.e false) p0.Kids)]] []):=⟨E (zhh.eq_def ..)⟩
noncomputable abbrev zci (s0:List TGen) (s1:THeap) (s7:List TGen) (s8 s9:Int) (k:List Fr):Option Res:=go T (enF [.tmp 4] []) zrk (.lp zrl::.bl 0::.sq (.clr [4,6,7,8,9,10,11,12,13,14,15,16,17])::k) ⟨sL false 8 (TGen.e false) s0::.d (D.bf 150 [THeap.e false s1])::zs 5 (sL false 8 (TGen.e false) s7::sI s8::sI s9::zs 8 []),[]⟩
noncomputable abbrev zcj (s0:List TGen) (s1:THeap) (s7:List TGen) (s8 s9:Int):List Fr→((Unit ⊕ Bool))→Option Res→Prop:=(kS (kN T (enF [.tmp 4] []) fun t=>⟨sL false 8 (TGen.e false) s0::.d (D.bf 150 [THeap.e false s1])::zs 16 [],[]⟩) (kR (PV D.bool)))
theorem zfO (f0:THeap):(∀ (s0 s7:List TGen) (s8 s9:Int) r,zaS s0 f0 s7 s8 s9=some r→∀ k:List Fr,zcj s0 f0 s7 s8 s9 k r (zci s0 f0 s7 s8 s9 k))∧(∀ (p1:TGen) r,zbB f0 p1=some r→(PV D.bool) r (zaa T 150 [THeap.e false f0,D.agg [dI p1.Kind,dI p1.Num,D.str p1.Text,dI p1.Value.Kind,dI p1.Value.Num,D.str p1.Value.Text,dI p1.Value.Ref,D.sl false 8 (List.map (TGen.e false) p1.Kids)]] []))∧(∀ (p0:List TGen) r,zdU p0 f0=some r→(PV D.bool) r (zaa T 209 [D.sl false 8 (List.map (TGen.e false) p0),D.bf 150 [THeap.e false f0]] [])):=by
 refine zaS.mutual_partial_correctness f0 (motive_1:=fun s0 s7 s8 s9 r=>∀ k:List Fr,zcj s0 f0 s7 s8 s9 k r (zci s0 f0 s7 s8 s9 k)) (motive_2:=fun p1 r=>(PV D.bool) r (zaa T 150 [THeap.e false f0,D.agg [dI p1.Kind,dI p1.Num,D.str p1.Text,dI p1.Value.Kind,dI p1.Value.Num,D.str p1.Value.Text,dI p1.Value.Ref,D.sl false 8 (List.map (TGen.e false) p1.Kids)]] [])) (motive_3:=fun p0 r=>(PV D.bool) r (zaa T 209 [D.sl false 8 (List.map (TGen.e false) p0),D.bf 150 [THeap.e false f0]] [])) ?_ ?_ ?_
 ·intro zaS zbB i_i_areAll_Gen_l1 i_i_Heap_fitsGen
  have p_i_areAll_Gen_l1:∀ (s0 s7:List TGen) (s8 s9:Int),Lp (zcj s0 f0 s7 s8 s9) (zaS s0 s7 s8 s9) (zci s0 f0 s7 s8 s9):=fun s0 s7 s8 s9=>⟨fun k r hr=>i_i_areAll_Gen_l1 s0 s7 s8 s9 r hr k⟩
  have g_i_Heap_fitsGen:∀ (p1:TGen),Lw (PV D.bool) (zbB p1) (zaa T 150 [THeap.e false f0,D.agg [dI p1.Kind,dI p1.Num,D.str p1.Text,dI p1.Value.Kind,dI p1.Value.Num,D.str p1.Value.Text,dI p1.Value.Ref,D.sl false 8 (List.map (TGen.e false) p1.Kids)]] []):=fun p1=>⟨fun r hr=>i_i_Heap_fitsGen p1 r hr⟩
  clear i_i_areAll_Gen_l1 i_i_Heap_fitsGen
  intro s0 s7 s8 s9
  refine Le.pc ?_
  intro k
  refine G0 zrk.eq_def ?_
  exact A
 ·intro zdU i_i_areAll_Gen
  have g_i_areAll_Gen:∀ (p0:List TGen),Lw (PV D.bool) (zdU p0) (zaa T 209 [D.sl false 8 (List.map (TGen.e false) p0),D.bf 150 [THeap.e false f0]] []):=fun p0=>⟨fun r hr=>i_i_areAll_Gen p0 r hr⟩
  clear i_i_areAll_Gen
  intro p1
  refine (show Le (PV D.bool) _ (zaa T 150 [THeap.e false f0,D.agg [dI p1.Kind,dI p1.Num,D.str p1.Text,dI p1.Value.Kind,dI p1.Value.Num,D.str p1.Value.Text,dI p1.Value.Ref,D.sl false 8 (List.map (TGen.e false) p1.Kids)]] []) from E0 (h:=?_) rfl)
  exact A
 ·intro zaS i_i_areAll_Gen_l1
  have p_i_areAll_Gen_l1:∀ (s0 s7:List TGen) (s8 s9:Int),Lp (zcj s0 f0 s7 s8 s9) (zaS s0 s7 s8 s9) (zci s0 f0 s7 s8 s9):=fun s0 s7 s8 s9=>⟨fun k r hr=>i_i_areAll_Gen_l1 s0 s7 s8 s9 r hr k⟩
  clear i_i_areAll_Gen_l1
  intro p0
  refine (show Le (PV D.bool) _ (zaa T 209 [D.sl false 8 (List.map (TGen.e false) p0),D.bf 150 [THeap.e false f0]] []) from E0 (h:=?_) rfl)
  exact A
instance p_i_areAll_Gen_l1 (s0:List TGen) (s1:THeap) (s7:List TGen) (s8 s9:Int):Lp (zcj s0 s1 s7 s8 s9) (zaS s0 s1 s7 s8 s9) (zci s0 s1 s7 s8 s9):=⟨fun k r hr=>(zfO s1).1 s0 s7 s8 s9 r hr k⟩
instance g_i_Heap_fitsGen (p0:THeap) (p1:TGen):Lw (PV D.bool) (zbB p0 p1) (zaa T 150 [THeap.e false p0,D.agg [dI p1.Kind,dI p1.Num,D.str p1.Text,dI p1.Value.Kind,dI p1.Value.Num,D.str p1.Value.Text,dI p1.Value.Ref,D.sl false 8 (List.map (TGen.e false) p1.Kids)]] []):=⟨fun r hr=>(zfO p0).2.1 p1 r hr⟩
instance g_i_areAll_Gen (p0:List TGen) (p1:THeap):Lw (PV D.bool) (zdU p0 p1) (zaa T 209 [D.sl false 8 (List.map (TGen.e false) p0),D.bf 150 [THeap.e false p1]] []):=⟨fun r hr=>(zfO p1).2.2 p0 r hr⟩
instance g_i_Cursor_isZero (p0:TCursor):Lw (PV D.bool) (zdc p0) (zaa T 151 [D.agg [dI p0.Phase,dI p0.Count,D.sl false 4 (List.map (TValue.e false) p0.Vals),D.sl false 4 (List.map (TCursor.e false) p0.Kids)]] []):=⟨E (zdc.eq_def ..)⟩
instance g_i_Gen_branch (p0:TGen) (p1:Int):Lw (kT (PV (dL false 8 (TGen.e false))) (PV fun (r:Unit)=>D.sl true 8 [])) (zdd p0 p1) (zaa T 245 [D.agg [dI p0.Kind,dI p0.Num,D.str p0.Text,dI p0.Value.Kind,dI p0.Value.Num,D.str p0.Value.Text,dI p0.Value.Ref,D.sl false 8 (List.map (TGen.e false) p0.Kids)],dI p1] []):=⟨by
 refine E0 (h:=?_) (zdd.eq_def ..)
 try conv=>arg 3;simp (maxSteps:=999999) only [push_cast,↓reduceIte,seval, *]
 refine Le.call ((g_i_within p1 1 (p0.Kids.length:Int)).h) fun r9 h _ hy=>?_
 first|subst hy|obtain ⟨_,rfl⟩:=hy
 try conv=>arg 3;simp (maxSteps:=999999) only [push_cast,↓reduceIte,seval, *]
 refine Le.bool (fun h_1=>?_) (fun h_1=>?_)
 ·try conv=>arg 3;simp (maxSteps:=999999) only [push_cast,↓reduceIte,seval, *]
  refine Le.sub fun c16 h_2 h_3 h_4 h_5 h_6=>?_
  replace h_2:List.take (p1.toNat - (IntKind.wrap .i64 (p1 - 1)).toNat) (List.drop (IntKind.wrap .i64 (p1 - 1)).toNat (List.map (TGen.e false) p0.Kids))=List.map (TGen.e false) c16:=by rw [h_2];exact ztd ..
  exact A
 ·exact A⟩
instance p_i_Gen_form_j1 (s1:Int) (s2:TGen) (s4:TcursorForm) (s5:List Int) (s8:Int) (s33:Bool):Lp (kS (kN T (enF [.cell 4 (.many 4)] []) fun t=>⟨Z::sI s1::.box (TGen.c false s2)::Z::.box (TcursorForm.c true s4)::sL true 1 dI s5::Z::Z::sI s8::zs 24 (sB t.1::zs 6 (sB t.2.1::sB t.2.2.1::zs 6 (sB t.2.2.2.1::sB t.2.2.2.2.1::zs 4 (sB t.2.2.2.2.2.1::sB t.2.2.2.2.2.2.1::zs 4 (sB t.2.2.2.2.2.2.2.1::sB t.2.2.2.2.2.2.2.2::zs 11 []))))),[]⟩) (kR (kT (PV fun (r:TcursorForm)=>D.agg [D.sl true 1 (List.map dI r.phases),dI r.counts,dI r.vals,D.sl false 8 (List.map (TGen.e false) r.kids)]) (PV fun (r:(List Int) × Int × Int)=>D.agg [D.sl true 1 (List.map dI r.1),dI r.2.1,dI r.2.2,D.sl true 8 []])))) (zfc s1 s2 s4 s5 s8 s33) fun k=>go T (enF [.cell 4 (.many 4)] []) zrm k ⟨Z::sI s1::.box (TGen.c false s2)::Z::.box (TcursorForm.c true s4)::sL true 1 dI s5::Z::Z::sI s8::zs 24 (sB s33::zs 39 []),[]⟩:=⟨fun k=>GG (zfc.eq_def ..) zrm.eq_def⟩
instance p_i_Gen_form_j2 (s1:Int) (s2:TGen) (s4:TcursorForm) (s5:List Int) (s8:Int) (s13:Bool):Lp (kS (kN T (enF [.cell 4 (.many 4)] []) fun t=>⟨Z::sI s1::.box (TGen.c false s2)::Z::.box (TcursorForm.c true s4)::sL true 1 dI s5::Z::Z::sI s8::zs 24 (sB t.1::zs 6 (sB t.2.1::sB t.2.2.1::zs 6 (sB t.2.2.2.1::sB t.2.2.2.2.1::zs 4 (sB t.2.2.2.2.2.1::sB t.2.2.2.2.2.2.1::zs 4 (sB t.2.2.2.2.2.2.2.1::sB t.2.2.2.2.2.2.2.2::zs 11 []))))),[]⟩) (kR (kT (PV fun (r:TcursorForm)=>D.agg [D.sl true 1 (List.map dI r.phases),dI r.counts,dI r.vals,D.sl false 8 (List.map (TGen.e false) r.kids)]) (PV fun (r:(List Int) × Int × Int)=>D.agg [D.sl true 1 (List.map dI r.1),dI r.2.1,dI r.2.2,D.sl true 8 []])))) (zbV s1 s2 s4 s5 s8 s13) fun k=>go T (enF [.cell 4 (.many 4)] []) zrn k ⟨Z::sI s1::.box (TGen.c false s2)::Z::.box (TcursorForm.c true s4)::sL true 1 dI s5::Z::Z::sI s8::zs 4 (sB s13::zs 59 []),[]⟩:=⟨fun k=>GG (zbV.eq_def ..) zrn.eq_def⟩
instance p_i_Gen_form_j3 (s1:Int) (s2:TGen) (s4:TcursorForm) (s5:List Int) (s8:Int) (s9:Bool):Lp (kS (kN T (enF [.cell 4 (.many 4)] []) fun t=>⟨Z::sI s1::.box (TGen.c false s2)::Z::.box (TcursorForm.c true s4)::sL true 1 dI s5::Z::Z::sI s8::zs 24 (sB t.1::zs 6 (sB t.2.1::sB t.2.2.1::zs 6 (sB t.2.2.2.1::sB t.2.2.2.2.1::zs 4 (sB t.2.2.2.2.2.1::sB t.2.2.2.2.2.2.1::zs 4 (sB t.2.2.2.2.2.2.2.1::sB t.2.2.2.2.2.2.2.2::zs 11 []))))),[]⟩) (kR (kT (PV fun (r:TcursorForm)=>D.agg [D.sl true 1 (List.map dI r.phases),dI r.counts,dI r.vals,D.sl false 8 (List.map (TGen.e false) r.kids)]) (PV fun (r:(List Int) × Int × Int)=>D.agg [D.sl true 1 (List.map dI r.1),dI r.2.1,dI r.2.2,D.sl true 8 []])))) (zbW s1 s2 s4 s5 s8 s9) fun k=>go T (enF [.cell 4 (.many 4)] []) zro k ⟨Z::sI s1::.box (TGen.c false s2)::Z::.box (TcursorForm.c true s4)::sL true 1 dI s5::Z::Z::sI s8::sB s9::zs 63 [],[]⟩:=⟨fun k=>GG (zbW.eq_def ..) zro.eq_def⟩
instance p_i_Gen_form_j4 (s1:Int) (s2:TGen) (s4:TcursorForm) (s5:List Int):Lp (kR (kT (PV fun (r:TcursorForm)=>D.agg [D.sl true 1 (List.map dI r.phases),dI r.counts,dI r.vals,D.sl false 8 (List.map (TGen.e false) r.kids)]) (PV fun (r:(List Int) × Int × Int)=>D.agg [D.sl true 1 (List.map dI r.1),dI r.2.1,dI r.2.2,D.sl true 8 []]))) (zfd s1 s2 s4 s5) fun k=>go T (enF [.cell 4 (.many 4)] []) zrp k ⟨Z::sI s1::.box (TGen.c false s2)::Z::.box (TcursorForm.c true s4)::sL true 1 dI s5::zs 67 [],[]⟩:=⟨fun k=>GG (zfd.eq_def ..) zrp.eq_def⟩
instance g_i_Gen_form (p0:TGen) (p1:Int):Lw (kT (PV fun (r:TcursorForm)=>D.agg [D.sl true 1 (List.map dI r.phases),dI r.counts,dI r.vals,D.sl false 8 (List.map (TGen.e false) r.kids)]) (PV fun (r:(List Int) × Int × Int)=>D.agg [D.sl true 1 (List.map dI r.1),dI r.2.1,dI r.2.2,D.sl true 8 []])) (zcg p0 p1) (zaa T 210 [D.agg [dI p0.Kind,dI p0.Num,D.str p0.Text,dI p0.Value.Kind,dI p0.Value.Num,D.str p0.Value.Text,dI p0.Value.Ref,D.sl false 8 (List.map (TGen.e false) p0.Kids)],dI p1] []):=⟨E (zcg.eq_def ..)⟩
instance g_i_hasCount (p0:Int):Lw (PV D.bool) (zcM p0) (zaa T 211 [dI p0] []):=⟨E (zcM.eq_def ..)⟩
instance p_slices_Index_int64_int64_l1 (s0:List Int) (s1 s7:Int):∀ (s8:Int),Lp (kS (kN T (enF [.tmp 4] []) fun t=>⟨sL false 1 dI s0::sI s1::zs 17 [],[]⟩) (kR (PV dI))) (zaT s0 s1 s7 s8) fun k=>go T (enF [.tmp 4] []) zrU (.lp zrV::.bl 0::.sq (.clr (rg 4 15))::k) ⟨sL false 1 dI s0::sI s1::zs 5 (sI s7::sI s8::zs 10 []),[]⟩:=Lp1 (zaT.partial_correctness s0 s1 s7) (by exact fun _ _ _ _=>G zrU.eq_def)
instance g_slices_Index_int64_int64 (p0:List Int) (p1:Int):Lw (PV dI) (zch p0 p1) (zaa T 246 [D.sl false 1 (List.map dI p0),dI p1] []):=⟨E (zch.eq_def ..)⟩
instance g_slices_Contains_int64_int64 (p0:List Int) (p1:Int):Lw (PV D.bool) (zaF p0 p1) (zaa T 212 [D.sl false 1 (List.map dI p0),dI p1] []):=⟨E (zaF.eq_def ..)⟩
instance p_i_Heap_isSuspended_l1v1 (s3:THeap) (s5:TCursor) (s7:List Int) (s7_1 s7_2 s63 s64:Int):Lp (kN T (enF [.tmp 6] []) fun t=>⟨zs 79 [],[]⟩) (zct s3 s5 s7 s7_1 s7_2 s63 s64) fun k=>go T (enF [.tmp 6] []) zmJ (.lp zmK::.bl 0::.sq (.clr (rg 0 79))::k) ⟨Z::Z::Z::.box (THeap.c false s3)::Z::.box (TCursor.c false s5)::Z::.box [D.sl true 1 (List.map dI s7),dI s7_1,dI s7_2,D.sl true 8 []]::zs 53 (.ptr ⟨.slot 7,[],3⟩::.bor ⟨.slot 7,[],3⟩ .one::sI s63::sI s64::zs 14 []),[]⟩:=⟨fun k=>GG (zct.eq_def ..) zmJ.eq_def⟩
instance p_i_Heap_isSuspended_j1v1 (s3:THeap) (s5:TCursor) (s7:List Int) (s7_1 s7_2:Int):Lp (kR (PV D.bool)) (zcu s3 s5 s7 s7_1 s7_2) fun k=>go T (enF [.tmp 6] []) zmL k ⟨Z::Z::Z::.box (THeap.c false s3)::Z::.box (TCursor.c false s5)::Z::.box [D.sl true 1 (List.map dI s7),dI s7_1,dI s7_2,D.sl true 8 []]::zs 71 [],[]⟩:=⟨fun k=>GG (zcu.eq_def ..) zmL.eq_def⟩
instance p_i_Heap_isSuspended_j2v1 (s3:THeap) (s5:TCursor) (s7:List Int) (s7_1 s7_2:Int) (s8:Bool):Lp (kR (PV D.bool)) (zaU s3 s5 s7 s7_1 s7_2 s8) fun k=>go T (enF [.tmp 6] []) zmM k ⟨Z::Z::Z::.box (THeap.c false s3)::Z::.box (TCursor.c false s5)::Z::.box [D.sl true 1 (List.map dI s7),dI s7_1,dI s7_2,D.sl true 8 []]::sB s8::zs 70 [],[]⟩:=⟨fun k=>GG (zaU.eq_def ..) zmM.eq_def⟩
noncomputable abbrev zaW (s3:THeap) (s5:TCursor) (s7:TcursorForm) (s62:List TGen) (s63 s64:Int) (k:List Fr):Option Res:=go T (enF [.tmp 6] []) zmJ (.lp zmK::.bl 0::.sq (.clr (rg 0 79))::k) ⟨Z::Z::Z::.box (THeap.c false s3)::Z::.box (TCursor.c false s5)::Z::.box [D.sl true 1 (List.map dI s7.phases),dI s7.counts,dI s7.vals,D.sl false 8 (List.map (TGen.e false) s7.kids)]::zs 53 (.ptr ⟨.slot 7,[],3⟩::sL false 8 (TGen.e false) s62::sI s63::sI s64::zs 14 []),[]⟩
noncomputable abbrev zaX (s3:THeap) (s5:TCursor) (s7:TcursorForm) (s62:List TGen) (s63 s64:Int):List Fr→((Unit ⊕ Bool))→Option Res→Prop:=(kS (kN T (enF [.tmp 6] []) fun t=>⟨zs 79 [],[]⟩) (kR (PV D.bool)))
noncomputable abbrev zbt (s3:THeap) (s5:TCursor) (s7:TcursorForm) (s8:Bool) (k:List Fr):Option Res:=go T (enF [.tmp 6] []) zmM k ⟨Z::Z::Z::.box (THeap.c false s3)::Z::.box (TCursor.c false s5)::Z::.box [D.sl true 1 (List.map dI s7.phases),dI s7.counts,dI s7.vals,D.sl false 8 (List.map (TGen.e false) s7.kids)]::sB s8::zs 70 [],[]⟩
noncomputable abbrev zbu (s3:THeap) (s5:TCursor) (s7:TcursorForm) (s8:Bool):List Fr→Bool→Option Res→Prop:=(kR (PV D.bool))
noncomputable abbrev zbv (s3:THeap) (s5:TCursor) (s7:TcursorForm) (k:List Fr):Option Res:=go T (enF [.tmp 6] []) zmL k ⟨Z::Z::Z::.box (THeap.c false s3)::Z::.box (TCursor.c false s5)::Z::.box [D.sl true 1 (List.map dI s7.phases),dI s7.counts,dI s7.vals,D.sl false 8 (List.map (TGen.e false) s7.kids)]::zs 71 [],[]⟩
noncomputable abbrev zbw (s3:THeap) (s5:TCursor) (s7:TcursorForm):List Fr→Bool→Option Res→Prop:=(kR (PV D.bool))
theorem zbx (f0:THeap):(∀ (s5:TCursor) (s7:TcursorForm) (s62:List TGen) (s63 s64:Int) r,zan f0 s5 s7 s62 s63 s64=some r→∀ k:List Fr,zaX f0 s5 s7 s62 s63 s64 k r (zaW f0 s5 s7 s62 s63 s64 k))∧(∀ (p1:TGen) (p2:TCursor) r,zag f0 p1 p2=some r→(PV D.bool) r (zaa T 152 [THeap.e false f0,D.agg [dI p1.Kind,dI p1.Num,D.str p1.Text,dI p1.Value.Kind,dI p1.Value.Num,D.str p1.Value.Text,dI p1.Value.Ref,D.sl false 8 (List.map (TGen.e false) p1.Kids)],D.agg [dI p2.Phase,dI p2.Count,D.sl false 4 (List.map (TValue.e false) p2.Vals),D.sl false 4 (List.map (TCursor.e false) p2.Kids)]] []))∧(∀ (s5:TCursor) (s7:TcursorForm) (s8:Bool) r,zav f0 s5 s7 s8=some r→∀ k:List Fr,zbu f0 s5 s7 s8 k r (zbt f0 s5 s7 s8 k))∧(∀ (s5:TCursor) (s7:TcursorForm) r,zaG f0 s5 s7=some r→∀ k:List Fr,zbw f0 s5 s7 k r (zbv f0 s5 s7 k)):=by
 refine zan.mutual_partial_correctness f0 (motive_1:=fun s5 s7 s62 s63 s64 r=>∀ k:List Fr,zaX f0 s5 s7 s62 s63 s64 k r (zaW f0 s5 s7 s62 s63 s64 k)) (motive_2:=fun p1 p2 r=>(PV D.bool) r (zaa T 152 [THeap.e false f0,D.agg [dI p1.Kind,dI p1.Num,D.str p1.Text,dI p1.Value.Kind,dI p1.Value.Num,D.str p1.Value.Text,dI p1.Value.Ref,D.sl false 8 (List.map (TGen.e false) p1.Kids)],D.agg [dI p2.Phase,dI p2.Count,D.sl false 4 (List.map (TValue.e false) p2.Vals),D.sl false 4 (List.map (TCursor.e false) p2.Kids)]] [])) (motive_3:=fun s5 s7 s8 r=>∀ k:List Fr,zbu f0 s5 s7 s8 k r (zbt f0 s5 s7 s8 k)) (motive_4:=fun s5 s7 r=>∀ k:List Fr,zbw f0 s5 s7 k r (zbv f0 s5 s7 k)) ?_ ?_ ?_ ?_
 ·intro zan zag i_i_Heap_isSuspended_l1 i_i_Heap_isSuspended
  have p_i_Heap_isSuspended_l1:∀ (s5:TCursor) (s7:TcursorForm) (s62:List TGen) (s63 s64:Int),Lp (zaX f0 s5 s7 s62 s63 s64) (zan s5 s7 s62 s63 s64) (zaW f0 s5 s7 s62 s63 s64):=fun s5 s7 s62 s63 s64=>⟨fun k r hr=>i_i_Heap_isSuspended_l1 s5 s7 s62 s63 s64 r hr k⟩
  have g_i_Heap_isSuspended:∀ (p1:TGen) (p2:TCursor),Lw (PV D.bool) (zag p1 p2) (zaa T 152 [THeap.e false f0,D.agg [dI p1.Kind,dI p1.Num,D.str p1.Text,dI p1.Value.Kind,dI p1.Value.Num,D.str p1.Value.Text,dI p1.Value.Ref,D.sl false 8 (List.map (TGen.e false) p1.Kids)],D.agg [dI p2.Phase,dI p2.Count,D.sl false 4 (List.map (TValue.e false) p2.Vals),D.sl false 4 (List.map (TCursor.e false) p2.Kids)]] []):=fun p1 p2=>⟨fun r hr=>i_i_Heap_isSuspended p1 p2 r hr⟩
  clear i_i_Heap_isSuspended_l1 i_i_Heap_isSuspended
  intro s5 s7 s62 s63 s64
  refine Le.pc ?_
  intro k
  refine G0 zmJ.eq_def ?_
  exact A
 ·intro zav i_i_Heap_isSuspended_j2
  have p_i_Heap_isSuspended_j2:∀ (s5:TCursor) (s7:TcursorForm) (s8:Bool),Lp (zbu f0 s5 s7 s8) (zav s5 s7 s8) (zbt f0 s5 s7 s8):=fun s5 s7 s8=>⟨fun k r hr=>i_i_Heap_isSuspended_j2 s5 s7 s8 r hr k⟩
  clear i_i_Heap_isSuspended_j2
  intro p1 p2
  refine (show Le (PV D.bool) _ (zaa T 152 [THeap.e false f0,D.agg [dI p1.Kind,dI p1.Num,D.str p1.Text,dI p1.Value.Kind,dI p1.Value.Num,D.str p1.Value.Text,dI p1.Value.Ref,D.sl false 8 (List.map (TGen.e false) p1.Kids)],D.agg [dI p2.Phase,dI p2.Count,D.sl false 4 (List.map (TValue.e false) p2.Vals),D.sl false 4 (List.map (TCursor.e false) p2.Kids)]] []) from E0 (h:=?_) rfl)
  exact A
 ·intro zaG i_i_Heap_isSuspended_j1
  have p_i_Heap_isSuspended_j1:∀ (s5:TCursor) (s7:TcursorForm),Lp (zbw f0 s5 s7) (zaG s5 s7) (zbv f0 s5 s7):=fun s5 s7=>⟨fun k r hr=>i_i_Heap_isSuspended_j1 s5 s7 r hr k⟩
  clear i_i_Heap_isSuspended_j1
  intro s5 s7 s8
  refine Le.pc ?_
  intro k
  refine G0 zmM.eq_def ?_
  exact A
 ·intro zan i_i_Heap_isSuspended_l1
  have p_i_Heap_isSuspended_l1:∀ (s5:TCursor) (s7:TcursorForm) (s62:List TGen) (s63 s64:Int),Lp (zaX f0 s5 s7 s62 s63 s64) (zan s5 s7 s62 s63 s64) (zaW f0 s5 s7 s62 s63 s64):=fun s5 s7 s62 s63 s64=>⟨fun k r hr=>i_i_Heap_isSuspended_l1 s5 s7 s62 s63 s64 r hr k⟩
  clear i_i_Heap_isSuspended_l1
  intro s5 s7
  refine Le.pc ?_
  intro k
  refine G0 zmL.eq_def ?_
  exact A
instance p_i_Heap_isSuspended_l1 (s3:THeap) (s5:TCursor) (s7:TcursorForm) (s62:List TGen) (s63 s64:Int):Lp (zaX s3 s5 s7 s62 s63 s64) (zan s3 s5 s7 s62 s63 s64) (zaW s3 s5 s7 s62 s63 s64):=⟨fun k r hr=>(zbx s3).1 s5 s7 s62 s63 s64 r hr k⟩
instance g_i_Heap_isSuspended (p0:THeap) (p1:TGen) (p2:TCursor):Lw (PV D.bool) (zag p0 p1 p2) (zaa T 152 [THeap.e false p0,D.agg [dI p1.Kind,dI p1.Num,D.str p1.Text,dI p1.Value.Kind,dI p1.Value.Num,D.str p1.Value.Text,dI p1.Value.Ref,D.sl false 8 (List.map (TGen.e false) p1.Kids)],D.agg [dI p2.Phase,dI p2.Count,D.sl false 4 (List.map (TValue.e false) p2.Vals),D.sl false 4 (List.map (TCursor.e false) p2.Kids)]] []):=⟨fun r hr=>(zbx p0).2.1 p1 p2 r hr⟩
instance p_i_Heap_isSuspended_j2 (s3:THeap) (s5:TCursor) (s7:TcursorForm) (s8:Bool):Lp (zbu s3 s5 s7 s8) (zav s3 s5 s7 s8) (zbt s3 s5 s7 s8):=⟨fun k r hr=>(zbx s3).2.2.1 s5 s7 s8 r hr k⟩
instance p_i_Heap_isSuspended_j1 (s3:THeap) (s5:TCursor) (s7:TcursorForm):Lp (zbw s3 s5 s7) (zaG s3 s5 s7) (zbv s3 s5 s7):=⟨fun k r hr=>(zbx s3).2.2.2 s5 s7 r hr k⟩
instance p_i_Heap_isCo_j1 (s2:THeap) (s3:TCoexpr):Lp (kR (PV D.bool)) (zfK s2 s3) fun k=>go T (enF [.tmp 4] []) zqq k ⟨Z::Z::.box (THeap.c false s2)::.box (TCoexpr.c false s3)::zs 53 [],[]⟩:=⟨fun k=>GG (zfK.eq_def ..) zqq.eq_def⟩
instance p_i_Heap_isCo_j2 (s2:THeap) (s3:TCoexpr):Lp (kR (PV D.bool)) (zfL s2 s3) fun k=>go T (enF [.tmp 4] []) zqr k ⟨Z::Z::.box (THeap.c false s2)::.box (TCoexpr.c false s3)::zs 53 [],[]⟩:=⟨fun k=>GG (zfL.eq_def ..) zqr.eq_def⟩
instance p_i_Heap_isCo_j3 (s2:THeap) (s3:TCoexpr) (s5:Bool):Lp (kR (PV D.bool)) (zcN s2 s3 s5) fun k=>go T (enF [.tmp 4] []) zqs k ⟨Z::Z::.box (THeap.c false s2)::.box (TCoexpr.c false s3)::Z::sB s5::zs 51 [],[]⟩:=⟨fun k=>GG (zcN.eq_def ..) zqs.eq_def⟩
instance g_i_Heap_isCo (p0:THeap) (p1:TCoexpr):Lw (PV D.bool) (zbX p0 p1) (zaa T 132 [THeap.e false p0,TCoexpr.e false p1] []):=⟨E (zbX.eq_def ..)⟩
instance p_i_areAll_Coexpr_l1 (s0:List TCoexpr) (s1:THeap) (s7:List TCoexpr) (s8:Int):∀ (s9:Int),Lp (kS (kN T (enF [.tmp 4] []) fun t=>⟨sL false 17 (TCoexpr.e false) s0::.d (D.bf 132 [THeap.e false s1])::zs 16 [],[]⟩) (kR (PV D.bool))) (zcS s0 s1 s7 s8 s9) fun k=>go T (enF [.tmp 4] []) zqo (.lp zqp::.bl 0::.sq (.clr [4,6,7,8,9,10,11,12,13,14,15,16,17])::k) ⟨sL false 17 (TCoexpr.e false) s0::.d (D.bf 132 [THeap.e false s1])::zs 5 (sL false 17 (TCoexpr.e false) s7::sI s8::sI s9::zs 8 []),[]⟩:=Lp1 (zcS.partial_correctness s0 s1 s7 s8) (by exact fun _ _ _ _=>G zqo.eq_def)
instance g_i_areAll_Coexpr (p0:List TCoexpr) (p1:THeap):Lw (PV D.bool) (zeo p0 p1) (zaa T 131 [D.sl false 17 (List.map (TCoexpr.e false) p0),D.bf 132 [THeap.e false p1]] []):=⟨E (zeo.eq_def ..)⟩
instance p_i_ValidGenScope_l1 (s1:TGenScope):∀ (s3:Int),Lp (kS (kN T (enF [.tmp 2] []) fun t=>⟨Z::.box (TGenScope.c false s1)::zs 53 [],[]⟩) (kR (PV D.bool))) (zcT s1 s3) fun k=>go T (enF [.tmp 2] []) zum (.lp zun::.bl 0::.sq (.clr [0,2,3,4,5,6,7,8,9,10,11,12,13,14,15,16,17,18,19,20,21,22,23,24,25,26,27,28,29,30,31,32,33,34,35,36,37,38,39,40,41,42,43,44,45,46,47,48,49,50,51])::k) ⟨Z::.box (TGenScope.c false s1)::Z::sI s3::zs 51 [],[]⟩:=Lp1 (zcT.partial_correctness s1) (by exact fun _ _ _ _=>G zum.eq_def)
instance p_i_ValidGenScope_j1 (s1:TGenScope):Lp (kR (PV D.bool)) (zep s1) fun k=>go T (enF [.tmp 2] []) zuo k ⟨Z::.box (TGenScope.c false s1)::zs 53 [],[]⟩:=⟨fun k=>GG (zep.eq_def ..) zuo.eq_def⟩
instance g_i_ValidGenScope (p0:TGenScope):Lw (PV D.bool) (zeq p0) (zaa T 60 [TGenScope.e false p0] []):=⟨E (zeq.eq_def ..)⟩
noncomputable abbrev zck (s1 s2:TGen) (s3 s8:List TGen) (s9 s10:Int) (k:List Fr):Option Res:=go T (enF [.cell 2 (.many 8)] []) zqt (.lp zqu::.bl 0::.sq (.clr [0,5,6,7,8,9,10,11,12,13,14,15,16,17,18,19])::k) ⟨Z::.box (TGen.c false s1)::.box (TGen.c true s2)::sL true 8 (TGen.e true) s3::Z::Z::Z::.ptr ⟨.slot 1,[],7⟩::sL false 8 (TGen.e false) s8::sI s9::sI s10::zs 12 [],[]⟩
noncomputable abbrev zcl (s1 s2:TGen) (s3 s8:List TGen) (s9 s10:Int):List Fr→(((List TGen)))→Option Res→Prop:=(kN T (enF [.cell 2 (.many 8)] []) fun t=>⟨Z::.box (TGen.c false s1)::.box (TGen.c true s2)::sL true 8 (TGen.e true) t::zs 19 [],[]⟩)
theorem zho:(∀ (s1 s2:TGen) (s3 s8:List TGen) (s9 s10:Int) r,zaV s1 s2 s3 s8 s9 s10=some r→∀ k:List Fr,zcl s1 s2 s3 s8 s9 s10 k r (zck s1 s2 s3 s8 s9 s10 k))∧(∀ (p0:TGen) r,zcn p0=some r→(PV fun (r:TGen)=>D.agg [dI r.Kind,dI r.Num,D.str r.Text,dI r.Value.Kind,dI r.Value.Num,D.str r.Value.Text,dI r.Value.Ref,D.sl true 8 (List.map (TGen.e true) r.Kids)]) r (zaa T 134 [D.agg [dI p0.Kind,dI p0.Num,D.str p0.Text,dI p0.Value.Kind,dI p0.Value.Num,D.str p0.Value.Text,dI p0.Value.Ref,D.sl false 8 (List.map (TGen.e false) p0.Kids)]] [])):=by
 refine zaV.mutual_partial_correctness (motive_1:=fun s1 s2 s3 s8 s9 s10 r=>∀ k:List Fr,zcl s1 s2 s3 s8 s9 s10 k r (zck s1 s2 s3 s8 s9 s10 k)) (motive_2:=fun p0 r=>(PV fun (r:TGen)=>D.agg [dI r.Kind,dI r.Num,D.str r.Text,dI r.Value.Kind,dI r.Value.Num,D.str r.Value.Text,dI r.Value.Ref,D.sl true 8 (List.map (TGen.e true) r.Kids)]) r (zaa T 134 [D.agg [dI p0.Kind,dI p0.Num,D.str p0.Text,dI p0.Value.Kind,dI p0.Value.Num,D.str p0.Value.Text,dI p0.Value.Ref,D.sl false 8 (List.map (TGen.e false) p0.Kids)]] [])) ?_ ?_
 ·intro zaV zcn i_i_Gen_copied_l1 i_i_Gen_copied
  have p_i_Gen_copied_l1:∀ (s1 s2:TGen) (s3 s8:List TGen) (s9 s10:Int),Lp (zcl s1 s2 s3 s8 s9 s10) (zaV s1 s2 s3 s8 s9 s10) (zck s1 s2 s3 s8 s9 s10):=fun s1 s2 s3 s8 s9 s10=>⟨fun k r hr=>i_i_Gen_copied_l1 s1 s2 s3 s8 s9 s10 r hr k⟩
  have g_i_Gen_copied:∀ (p0:TGen),Lw (PV fun (r:TGen)=>D.agg [dI r.Kind,dI r.Num,D.str r.Text,dI r.Value.Kind,dI r.Value.Num,D.str r.Value.Text,dI r.Value.Ref,D.sl true 8 (List.map (TGen.e true) r.Kids)]) (zcn p0) (zaa T 134 [D.agg [dI p0.Kind,dI p0.Num,D.str p0.Text,dI p0.Value.Kind,dI p0.Value.Num,D.str p0.Value.Text,dI p0.Value.Ref,D.sl false 8 (List.map (TGen.e false) p0.Kids)]] []):=fun p0=>⟨fun r hr=>i_i_Gen_copied p0 r hr⟩
  clear i_i_Gen_copied_l1 i_i_Gen_copied
  intro s1 s2 s3 s8 s9 s10
  refine Le.pc ?_
  intro k
  refine G0 zqt.eq_def ?_
  try conv=>arg 3;simp (maxSteps:=999999) only [push_cast,↓reduceIte,seval, *]
  refine Le.itq (fun h=>?_) (fun h=>?_)
  ·try conv=>arg 3;simp (maxSteps:=999999) only [push_cast,↓reduceIte,seval, *]
   refine Le.idx fun a12 h_1 h_2 h_3=>?_
   try conv=>arg 3;simp (maxSteps:=999999) only [push_cast,↓reduceIte,seval, *]
   refine Le.call ((g_i_Gen_copied a12).h) fun r16 h_4 _ hy=>?_
   first|subst hy|obtain ⟨_,rfl⟩:=hy
   try conv=>arg 3;simp (maxSteps:=999999) only [push_cast,↓reduceIte,seval, *]
   refine Le.app fun c18 h_5 h_6=>?_
   replace h_5:List.map (TGen.e true) s3++[D.agg [D.int .i64 r16.Kind,D.int .i64 r16.Num,D.str r16.Text,D.int .i64 r16.Value.Kind,D.int .i64 r16.Value.Num,D.str r16.Value.Text,D.int .i64 r16.Value.Ref,D.sl true 8 (List.map (TGen.e true) r16.Kids)]]=List.map (TGen.e true) c18:=by rw [h_5,List.map_append] <;> first|rfl|simp only [eqs]
   replace h_6:s3.length + 1≤most:=h_6
   exact A
  ·exact A
 ·intro zaV i_i_Gen_copied_l1
  have p_i_Gen_copied_l1:∀ (s1 s2:TGen) (s3 s8:List TGen) (s9 s10:Int),Lp (zcl s1 s2 s3 s8 s9 s10) (zaV s1 s2 s3 s8 s9 s10) (zck s1 s2 s3 s8 s9 s10):=fun s1 s2 s3 s8 s9 s10=>⟨fun k r hr=>i_i_Gen_copied_l1 s1 s2 s3 s8 s9 s10 r hr k⟩
  clear i_i_Gen_copied_l1
  intro p0
  refine (show Le (PV fun (r:TGen)=>D.agg [dI r.Kind,dI r.Num,D.str r.Text,dI r.Value.Kind,dI r.Value.Num,D.str r.Value.Text,dI r.Value.Ref,D.sl true 8 (List.map (TGen.e true) r.Kids)]) _ (zaa T 134 [D.agg [dI p0.Kind,dI p0.Num,D.str p0.Text,dI p0.Value.Kind,dI p0.Value.Num,D.str p0.Value.Text,dI p0.Value.Ref,D.sl false 8 (List.map (TGen.e false) p0.Kids)]] []) from E0 (h:=?_) rfl)
  exact A
instance p_i_Gen_copied_l1 (s1 s2:TGen) (s3 s8:List TGen) (s9 s10:Int):Lp (zcl s1 s2 s3 s8 s9 s10) (zaV s1 s2 s3 s8 s9 s10) (zck s1 s2 s3 s8 s9 s10):=⟨fun k r hr=>(zho).1 s1 s2 s3 s8 s9 s10 r hr k⟩
instance g_i_Gen_copied (p0:TGen):Lw (PV fun (r:TGen)=>D.agg [dI r.Kind,dI r.Num,D.str r.Text,dI r.Value.Kind,dI r.Value.Num,D.str r.Value.Text,dI r.Value.Ref,D.sl true 8 (List.map (TGen.e true) r.Kids)]) (zcn p0) (zaa T 134 [D.agg [dI p0.Kind,dI p0.Num,D.str p0.Text,dI p0.Value.Kind,dI p0.Value.Num,D.str p0.Value.Text,dI p0.Value.Ref,D.sl false 8 (List.map (TGen.e false) p0.Kids)]] []):=⟨fun r hr=>(zho).2 p0 r hr⟩
theorem zfw (xs:List TValue) (h:xs.length≤2147483648):zaa T 203 [.sl false 4 (xs.map (TValue.e false))] []=some (.sl true 4 (xs.map (TValue.e false)),[],[]):=by
 cases xs with
 | nil =>
  rw [zad T (g:=v203) rfl rfl rfl _ _ rfl]
  simp (maxSteps:=9999999) (disch:=omega) only [vx,px,ty,↓reduceIte,seval,fx,vxd,Nat.reduceBNe,most,ifT,ifF,v203,zrb]
 | cons x xs =>
  rw [List.length_cons] at h
  rw [zad T (g:=v203) rfl rfl rfl _ _ rfl]
  simp (maxSteps:=9999999) (disch:=omega) only [vx,px,ty,↓reduceIte,seval,fx,vxd,Nat.reduceBNe,most,ifT,ifF,v203,zrb]
instance g_slices_Clone_Value_Value (p0:List TValue):Lw (fun r x=>Pu (D.sl true 4 (List.map (TValue.e false) r)) [] x) (zbp p0) (zaa T 203 [D.sl false 4 (List.map (TValue.e false) p0)] []):=⟨by
 unfold zbp
 refine Le.chk fun h=>Le.ret ?_
 exact ⟨_,zfw p0 h⟩⟩
noncomputable abbrev zbr (s1 s2:TCursor) (s3 s8:List TCursor) (s9 s10:Int) (k:List Fr):Option Res:=go T (enF [.cell 2 (.many 4)] []) zqv (.lp zqw::.bl 0::.sq (.clr [0,5,6,7,8,9,10,11,12,13,14,15,16,17,18,19])::k) ⟨Z::.box (TCursor.c false s1)::.box (TCursor.c true s2)::sL true 4 (TCursor.e true) s3::Z::Z::Z::.ptr ⟨.slot 1,[],3⟩::sL false 4 (TCursor.e false) s8::sI s9::sI s10::zs 16 [],[]⟩
noncomputable abbrev zbs (s1 s2:TCursor) (s3 s8:List TCursor) (s9 s10:Int):List Fr→(((List TCursor)))→Option Res→Prop:=(kN T (enF [.cell 2 (.many 4)] []) fun t=>⟨Z::.box (TCursor.c false s1)::.box (TCursor.c true s2)::sL true 4 (TCursor.e true) t::zs 23 [],[]⟩)
theorem zgd:(∀ (s1 s2:TCursor) (s3 s8:List TCursor) (s9 s10:Int) r,zaB s1 s2 s3 s8 s9 s10=some r→∀ k:List Fr,zbs s1 s2 s3 s8 s9 s10 k r (zbr s1 s2 s3 s8 s9 s10 k))∧(∀ (p0:TCursor) r,zbo p0=some r→(PV fun (r:TCursor)=>D.agg [dI r.Phase,dI r.Count,D.sl true 4 (List.map (TValue.e false) r.Vals),D.sl true 4 (List.map (TCursor.e true) r.Kids)]) r (zaa T 135 [D.agg [dI p0.Phase,dI p0.Count,D.sl false 4 (List.map (TValue.e false) p0.Vals),D.sl false 4 (List.map (TCursor.e false) p0.Kids)]] [])):=by
 refine zaB.mutual_partial_correctness (motive_1:=fun s1 s2 s3 s8 s9 s10 r=>∀ k:List Fr,zbs s1 s2 s3 s8 s9 s10 k r (zbr s1 s2 s3 s8 s9 s10 k)) (motive_2:=fun p0 r=>(PV fun (r:TCursor)=>D.agg [dI r.Phase,dI r.Count,D.sl true 4 (List.map (TValue.e false) r.Vals),D.sl true 4 (List.map (TCursor.e true) r.Kids)]) r (zaa T 135 [D.agg [dI p0.Phase,dI p0.Count,D.sl false 4 (List.map (TValue.e false) p0.Vals),D.sl false 4 (List.map (TCursor.e false) p0.Kids)]] [])) ?_ ?_
 ·intro zaB zbo i_i_Cursor_copied_l1 i_i_Cursor_copied
  have p_i_Cursor_copied_l1:∀ (s1 s2:TCursor) (s3 s8:List TCursor) (s9 s10:Int),Lp (zbs s1 s2 s3 s8 s9 s10) (zaB s1 s2 s3 s8 s9 s10) (zbr s1 s2 s3 s8 s9 s10):=fun s1 s2 s3 s8 s9 s10=>⟨fun k r hr=>i_i_Cursor_copied_l1 s1 s2 s3 s8 s9 s10 r hr k⟩
  have g_i_Cursor_copied:∀ (p0:TCursor),Lw (PV fun (r:TCursor)=>D.agg [dI r.Phase,dI r.Count,D.sl true 4 (List.map (TValue.e false) r.Vals),D.sl true 4 (List.map (TCursor.e true) r.Kids)]) (zbo p0) (zaa T 135 [D.agg [dI p0.Phase,dI p0.Count,D.sl false 4 (List.map (TValue.e false) p0.Vals),D.sl false 4 (List.map (TCursor.e false) p0.Kids)]] []):=fun p0=>⟨fun r hr=>i_i_Cursor_copied p0 r hr⟩
  clear i_i_Cursor_copied_l1 i_i_Cursor_copied
  intro s1 s2 s3 s8 s9 s10
  refine Le.pc ?_
  intro k
  refine G0 zqv.eq_def ?_
  try conv=>arg 3;simp (maxSteps:=999999) only [push_cast,↓reduceIte,seval, *]
  refine Le.itq (fun h=>?_) (fun h=>?_)
  ·try conv=>arg 3;simp (maxSteps:=999999) only [push_cast,↓reduceIte,seval, *]
   refine Le.idx fun a12 h_1 h_2 h_3=>?_
   try conv=>arg 3;simp (maxSteps:=999999) only [push_cast,↓reduceIte,seval, *]
   refine Le.call ((g_i_Cursor_copied a12).h) fun r16 h_4 _ hy=>?_
   first|subst hy|obtain ⟨_,rfl⟩:=hy
   try conv=>arg 3;simp (maxSteps:=999999) only [push_cast,↓reduceIte,seval, *]
   refine Le.app fun c18 h_5 h_6=>?_
   replace h_5:List.map (TCursor.e true) s3++[D.agg [D.int .i64 r16.Phase,D.int .i64 r16.Count,D.sl true 4 (List.map (TValue.e false) r16.Vals),D.sl true 4 (List.map (TCursor.e true) r16.Kids)]]=List.map (TCursor.e true) c18:=by rw [h_5,List.map_append] <;> first|rfl|simp only [eqs]
   replace h_6:s3.length + 1≤most:=h_6
   exact A
  ·exact A
 ·intro zaB i_i_Cursor_copied_l1
  have p_i_Cursor_copied_l1:∀ (s1 s2:TCursor) (s3 s8:List TCursor) (s9 s10:Int),Lp (zbs s1 s2 s3 s8 s9 s10) (zaB s1 s2 s3 s8 s9 s10) (zbr s1 s2 s3 s8 s9 s10):=fun s1 s2 s3 s8 s9 s10=>⟨fun k r hr=>i_i_Cursor_copied_l1 s1 s2 s3 s8 s9 s10 r hr k⟩
  clear i_i_Cursor_copied_l1
  intro p0
  refine (show Le (PV fun (r:TCursor)=>D.agg [dI r.Phase,dI r.Count,D.sl true 4 (List.map (TValue.e false) r.Vals),D.sl true 4 (List.map (TCursor.e true) r.Kids)]) _ (zaa T 135 [D.agg [dI p0.Phase,dI p0.Count,D.sl false 4 (List.map (TValue.e false) p0.Vals),D.sl false 4 (List.map (TCursor.e false) p0.Kids)]] []) from E0 (h:=?_) rfl)
  exact A
instance p_i_Cursor_copied_l1 (s1 s2:TCursor) (s3 s8:List TCursor) (s9 s10:Int):Lp (zbs s1 s2 s3 s8 s9 s10) (zaB s1 s2 s3 s8 s9 s10) (zbr s1 s2 s3 s8 s9 s10):=⟨fun k r hr=>(zgd).1 s1 s2 s3 s8 s9 s10 r hr k⟩
instance g_i_Cursor_copied (p0:TCursor):Lw (PV fun (r:TCursor)=>D.agg [dI r.Phase,dI r.Count,D.sl true 4 (List.map (TValue.e false) r.Vals),D.sl true 4 (List.map (TCursor.e true) r.Kids)]) (zbo p0) (zaa T 135 [D.agg [dI p0.Phase,dI p0.Count,D.sl false 4 (List.map (TValue.e false) p0.Vals),D.sl false 4 (List.map (TCursor.e false) p0.Kids)]] []):=⟨fun r hr=>(zgd).2 p0 r hr⟩
theorem zeS (xs:List TBinding) (h:xs.length≤2147483648):zaa T 136 [.sl false 5 (xs.map (TBinding.e false))] []=some (.sl true 5 (xs.map (TBinding.e false)),[],[]):=by
 cases xs with
 | nil =>
  rw [zad T (g:=v136) rfl rfl rfl _ _ rfl]
  simp (maxSteps:=9999999) (disch:=omega) only [vx,px,ty,↓reduceIte,seval,fx,vxd,Nat.reduceBNe,most,ifT,ifF,v136,zqx]
 | cons x xs =>
  rw [List.length_cons] at h
  rw [zad T (g:=v136) rfl rfl rfl _ _ rfl]
  simp (maxSteps:=9999999) (disch:=omega) only [vx,px,ty,↓reduceIte,seval,fx,vxd,Nat.reduceBNe,most,ifT,ifF,v136,zqx]
instance g_slices_Clone_Binding_Binding (p0:List TBinding):Lw (fun r x=>Pu (D.sl true 5 (List.map (TBinding.e false) r)) [] x) (zaC p0) (zaa T 136 [D.sl false 5 (List.map (TBinding.e false) p0)] []):=⟨by
 unfold zaC
 refine Le.chk fun h=>Le.ret ?_
 exact ⟨_,zeS p0 h⟩⟩
instance g_i_Coexpr_copied (p0:TCoexpr):Lw (PV (TCoexpr.e true)) (zer p0) (zaa T 61 [TCoexpr.e false p0] []):=⟨E (zer.eq_def ..)⟩
instance p_i_CoAt_j1 (s1:Int) (s2:TGenScope) (s4:TCoexpr) (s6:Int):Lp (kR (PV fun (r:TCoexpr × Bool)=>D.tup [TCoexpr.e true r.1,D.bool r.2])) (zjx s1 s2 s4 s6) fun k=>go T (enF [.cell 4 (.many 17),.tmp 5] []) zub k ⟨Z::sI s1::.box (TGenScope.c false s2)::Z::.box (TCoexpr.c true s4)::Z::sI s6::zs 17 [],[]⟩:=⟨fun k=>GG (zjx.eq_def ..) zub.eq_def⟩
instance g_i_CoAt (p0:TGenScope) (p1:Int):Lw (PV fun (r:TCoexpr × Bool)=>D.tup [TCoexpr.e true r.1,D.bool r.2]) (zsg p0 p1) (zaa T 20 [TGenScope.e false p0,dI p1] []):=⟨E (zsg.eq_def ..)⟩
end Go.Vx.CpZ
