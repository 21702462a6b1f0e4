/-
  What the plain functions give, the program gives too.
-/
import Derived.Test.YtnaaflejkfaiaaaGreatAu
set_option linter.unusedVariables false
set_option linter.unusedSimpArgs false
namespace Go.Vx.CrZ
set_option linter.unusedVariables false
set_option linter.unusedSimpArgs false
set_option maxRecDepth 10000
set_option maxHeartbeats 2000000
attribute [local irreducible] go bk exi got
instance g_i_within (p0 p1 p2:Int):Lw (PV D.bool) (zcb p0 p1 p2) (zaa T 133 [dI p0,dI p1,dI p2] []):=⟨E (zcb.eq_def ..)⟩
instance g_i_isObjectId (p0:Int):Lw (PV D.bool) (zeW p0) (zaa T 219 [dI p0] []):=⟨E (zeW.eq_def ..)⟩
instance g_i_isLetter (p0:Int):Lw (PV D.bool) (zgi p0) (zaa T 252 [D.int .u8 p0] []):=⟨E (zgi.eq_def ..)⟩
instance g_i_isDigit (p0:Int):Lw (PV D.bool) (zie p0) (zaa T 268 [D.int .u8 p0] []):=⟨E (zie.eq_def ..)⟩
instance g_i_isNameByte (p0:Int):Lw (PV D.bool) (zeX p0) (zaa T 254 [D.int .u8 p0] []):=⟨E (zeX.eq_def ..)⟩
instance p_i_areAll_byte_l1 (s0 s7:List Int) (s8:Int):∀ (s9:Int),Lp (kS (kN T (enF [.tmp 4] []) fun t=>⟨sL false 1 (D.int .u8) s0::.d (D.fn 254 [])::zs 16 [],[]⟩) (kR (PV D.bool))) (zdM s0 s7 s8 s9) fun k=>go T (enF [.tmp 4] []) zsy (.lp zsz::.bl 0::.sq (.clr [4,6,7,8,9,10,11,12,13,14,15,16,17])::k) ⟨sL false 1 (D.int .u8) s0::.d (D.fn 254 [])::zs 5 (sL false 1 (D.int .u8) s7::sI s8::sI s9::zs 8 []),[]⟩:=Lp1 (zdM.partial_correctness s0 s7 s8) (by exact fun _ _ _ _=>G zsy.eq_def)
instance g_i_areAll_byte (p0:List Int):Lw (PV D.bool) (zfi p0) (zaa T 253 [D.sl false 1 (List.map (D.int .u8) p0),D.fn 254 []] []):=⟨E (zfi.eq_def ..)⟩
instance g_i_IsName (p0:ByteArray):Lw (PV D.bool) (zfK p0) (zaa T 222 [D.str p0] []):=⟨E (zfK.eq_def ..)⟩
instance p_i_ValidValue_j1 (s1:TValue) (s65:Bool):Lp (kS (kN T (enF [.tmp 2] []) fun t=>⟨Z::.box (TValue.c false s1)::zs 63 (sB t::zs 14 []),[]⟩) (kR (PV D.bool))) (zeq s1 s65) fun k=>go T (enF [.tmp 2] []) zrA k ⟨Z::.box (TValue.c false s1)::zs 63 (sB s65::zs 14 []),[]⟩:=⟨fun k=>GG (zeq.eq_def ..) zrA.eq_def⟩
instance p_i_ValidValue_j2 (s1:TValue) (s4:Int) (s49:Bool):Lp (kS (kN T (enF [.tmp 2] []) fun t=>⟨Z::.box (TValue.c false s1)::zs 78 [],[]⟩) (kR (PV D.bool))) (zdg s1 s4 s49) fun k=>go T (enF [.tmp 2] []) zrB k ⟨Z::.box (TValue.c false s1)::Z::Z::sI s4::zs 44 (sB s49::zs 30 []),[]⟩:=⟨fun k=>GG (zdg.eq_def ..) zrB.eq_def⟩
instance g_i_ValidValue (p0:TValue):Lw (PV D.bool) (zbn p0) (zaa T 184 [TValue.e false p0] []):=⟨E (zbn.eq_def ..)⟩
instance p_i_areAll_Value_l1 (s0 s7:List TValue) (s8:Int):∀ (s9:Int),Lp (kS (kN T (enF [.tmp 4] []) fun t=>⟨sL false 4 (TValue.e false) s0::.d (D.fn 184 [])::zs 16 [],[]⟩) (kR (PV D.bool))) (zdq s0 s7 s8 s9) fun k=>go T (enF [.tmp 4] []) zoA (.lp zoB::.bl 0::.sq (.clr [4,6,7,8,9,10,11,12,13,14,15,16,17])::k) ⟨sL false 4 (TValue.e false) s0::.d (D.fn 184 [])::zs 5 (sL false 4 (TValue.e false) s7::sI s8::sI s9::zs 8 []),[]⟩:=Lp1 (zdq.partial_correctness s0 s7 s8) (by exact fun _ _ _ _=>G zoA.eq_def)
instance g_i_areAll_Value (p0:List TValue):Lw (PV D.bool) (zdC p0) (zaa T 96 [D.sl false 4 (List.map (TValue.e false) p0),D.fn 184 []] []):=⟨E (zdC.eq_def ..)⟩
instance p_slices_Index_Value_Value_l1 (s0:List TValue) (s3:TValue) (s7:Int):∀ (s8:Int),Lp (kS (kN T (enF [.tmp 4] []) fun t=>⟨sL false 4 (TValue.e false) s0::zs 18 [],[]⟩) (kR (PV dI))) (zam s0 s3 s7 s8) fun k=>go T (enF [.tmp 4] []) zsF (.lp zsG::.bl 0::.sq (.clr [1,3,4,5,6,7,8,9,10,11,12,13,14,15,16,17,18])::k) ⟨sL false 4 (TValue.e false) s0::Z::Z::.box (TValue.c false s3)::Z::Z::Z::sI s7::sI s8::zs 10 [],[]⟩:=Lp1 (zam.partial_correctness s0 s3 s7) (by exact fun _ _ _ _=>G zsF.eq_def)
instance g_slices_Index_Value_Value (p0:List TValue) (p1:TValue):Lw (PV dI) (zci p0 p1) (zaa T 267 [D.sl false 4 (List.map (TValue.e false) p0),TValue.e false p1] []):=⟨E (zci.eq_def ..)⟩
instance g_slices_Contains_Value_Value (p0:List TValue) (p1:TValue):Lw (PV D.bool) (zaE p0 p1) (zaa T 250 [D.sl false 4 (List.map (TValue.e false) p0),TValue.e false p1] []):=⟨E (zaE.eq_def ..)⟩
instance p_i_areDifferent_l1 (s0 s5:List TValue) (s6:Int):∀ (s7:Int),Lp (kS (kN T (enF [.tmp 2] []) fun t=>⟨sL false 4 (TValue.e false) s0::zs 17 [],[]⟩) (kR (PV D.bool))) (zdr s0 s5 s6 s7) fun k=>go T (enF [.tmp 2] []) zrV (.lp zrW::.bl 0::.sq (.clr (rg 2 16))::k) ⟨sL false 4 (TValue.e false) s0::zs 4 (sL false 4 (TValue.e false) s5::sI s6::sI s7::zs 10 []),[]⟩:=Lp1 (zdr.partial_correctness s0 s5 s6) (by
 intro rec _ s7 k
 refine G0 zrV.eq_def ?_
 try conv=>arg 3;simp (maxSteps:=999999) only [push_cast,↓reduceIte,seval, *]
 refine Le.itq (fun h=>?_) (fun h=>?_)
 ·try conv=>arg 3;simp (maxSteps:=999999) only [push_cast,↓reduceIte,seval, *]
  refine Le.idx fun a10 h_1 h_2 h_3=>?_
  try conv=>arg 3;simp (maxSteps:=999999) only [push_cast,↓reduceIte,seval, *]
  refine Le.subH fun c14 h_4 h_5 h_6=>?_
  replace h_4:List.take s7.toNat (List.map (TValue.e false) s0)=List.map (TValue.e false) c14:=by rw [h_4];exact zqu ..
  exact A
 ·exact A)
instance g_i_areDifferent (p0:List TValue):Lw (PV D.bool) (zdD p0) (zaa T 220 [D.sl false 4 (List.map (TValue.e false) p0)] []):=⟨E (zdD.eq_def ..)⟩
instance g_i_textOf (p0:ByteArray):Lw (PV (TValue.e false)) (zjs p0) (zaa T 251 [D.str p0] []):=⟨E (zjs.eq_def ..)⟩
instance g_i_isField (p0:TValue):Lw (PV D.bool) (zhb p0) (zaa T 221 [TValue.e false p0] []):=⟨E (zhb.eq_def ..)⟩
instance p_i_areAll_Value_1_l1 (s0 s7:List TValue) (s8:Int):∀ (s9:Int),Lp (kS (kN T (enF [.tmp 4] []) fun t=>⟨sL false 4 (TValue.e false) s0::.d (D.fn 221 [])::zs 16 [],[]⟩) (kR (PV D.bool))) (zcu s0 s7 s8 s9) fun k=>go T (enF [.tmp 4] []) zoA (.lp zoB::.bl 0::.sq (.clr [4,6,7,8,9,10,11,12,13,14,15,16,17])::k) ⟨sL false 4 (TValue.e false) s0::.d (D.fn 221 [])::zs 5 (sL false 4 (TValue.e false) s7::sI s8::sI s9::zs 8 []),[]⟩:=Lp1 (zcu.partial_correctness s0 s7 s8) (by exact fun _ _ _ _=>G zoA.eq_def)
instance g_i_areAll_Value_1 (p0:List TValue):Lw (PV D.bool) (zdN p0) (zaa T 96 [D.sl false 4 (List.map (TValue.e false) p0),D.fn 221 []] []):=⟨E (zdN.eq_def ..)⟩
instance p_i_ValidObject_j1 (s1:TObject) (s3:Bool):Lp (kR (PV D.bool)) (zcL s1 s3) fun k=>go T (enF [.tmp 2] []) zrt k ⟨Z::.box (TObject.c false s1)::Z::sB s3::zs 122 [],[]⟩:=⟨fun k=>GG (zcL.eq_def ..) zrt.eq_def⟩
instance p_i_ValidObject_j2 (s1:TObject) (s5:Bool):Lp (kR (PV D.bool)) (zbq s1 s5) fun k=>go T (enF [.tmp 2] []) zru k ⟨Z::.box (TObject.c false s1)::Z::Z::Z::sB s5::zs 120 [],[]⟩:=⟨fun k=>GG (zbq.eq_def ..) zru.eq_def⟩
instance p_i_ValidObject_j3 (s1:TObject):Lp (kR (PV D.bool)) (zdO s1) fun k=>go T (enF [.tmp 2] []) zrv k ⟨Z::.box (TObject.c false s1)::zs 124 [],[]⟩:=⟨fun k=>GG (zdO.eq_def ..) zrv.eq_def⟩
instance g_i_ValidObject (p0:TObject):Lw (PV D.bool) (zer p0) (zaa T 162 [TObject.e false p0] []):=⟨E (zer.eq_def ..)⟩
instance p_i_areAll_Object_l1 (s0 s7:List TObject) (s8:Int):∀ (s9:Int),Lp (kS (kN T (enF [.tmp 4] []) fun t=>⟨sL false 10 (TObject.e false) s0::.d (D.fn 162 [])::zs 16 [],[]⟩) (kR (PV D.bool))) (zcX s0 s7 s8 s9) fun k=>go T (enF [.tmp 4] []) znk (.lp znl::.bl 0::.sq (.clr [4,6,7,8,9,10,11,12,13,14,15,16,17])::k) ⟨sL false 10 (TObject.e false) s0::.d (D.fn 162 [])::zs 5 (sL false 10 (TObject.e false) s7::sI s8::sI s9::zs 8 []),[]⟩:=Lp1 (zcX.partial_correctness s0 s7 s8) (by exact fun _ _ _ _=>G znk.eq_def)
instance g_i_areAll_Object (p0:List TObject):Lw (PV D.bool) (zes p0) (zaa T 161 [D.sl false 10 (List.map (TObject.e false) p0),D.fn 162 []] []):=⟨E (zes.eq_def ..)⟩
theorem zeY (sto:List (List D)):zaa T 255 [.nils 4,.int .i64 0] sto=some (.nils 4,[],sto):=by
 rw [zad T (g:=v255) rfl rfl rfl _ _ rfl]
 simp (maxSteps:=9999999) (disch:=omega) only [vx,px,ty,↓reduceIte,seval,fx,vxd,Nat.reduceBNe,most,ifT,ifF,v255,zsA,Int.reduceToNat,Int.toNat_zero,zed.eq_3]
theorem zeZ (n:Int) (sto:List (List D)) (h:0<n) (h2:n≤2147483648):zaa T 255 [.nils 4,.int .i64 n] sto=some (.sl true 4 [],[],sto):=by
 rw [zad T (g:=v255) rfl rfl rfl _ _ rfl]
 simp (maxSteps:=9999999) (disch:=omega) only [vx,px,ty,↓reduceIte,seval,fx,vxd,Nat.reduceBNe,most,ifT,ifF,v255,zsA,Int.reduceToNat,Int.toNat_zero,zed.eq_3,zoZ,Int.sub_zero]
theorem zfD (a b:List TValue) (sto:List (List D)) (h:a.length + b.length≤2147483648):zaa T 223 [.sl false 1 [.sl false 4 (a.map (TValue.e false)),.sl false 4 (b.map (TValue.e false))]] sto=some (.sl true 4 ((a++b).map (TValue.e false)),[],sto):=by
 by_cases h0:a.length + b.length=0
 ·obtain rfl:a=[]:=List.length_eq_zero_iff.1 (by omega)
  obtain rfl:b=[]:=List.length_eq_zero_iff.1 (by omega)
  have e0:((0:Nat):Int) + ((0:Nat):Int)=0:=rfl
  rw [zad T (g:=v223) rfl rfl rfl _ _ rfl]
  simp (maxSteps:=9999999) (disch:=omega) only [vx,px,ty,↓reduceIte,seval,fx,vxd,Nat.reduceBNe,most,ifT,ifF,v223,zrX,go_lpc,znm,go_lpc,znn,List.length_map,zeY,Int.reduceToNat,Int.toNat_zero,zed.eq_3,Int.add_zero,Int.zero_add,Int.reduceAdd,e0]
 ·rw [List.map_append]
  have e1:=fun sto=>zeZ ((a.length:Int) + (b.length:Int)) sto (by omega) (by omega)
  rw [zad T (g:=v223) rfl rfl rfl _ _ rfl]
  simp (maxSteps:=9999999) (disch:=omega) only [vx,px,ty,↓reduceIte,seval,fx,vxd,Nat.reduceBNe,most,ifT,ifF,v223,zrX,go_lpc,znm,go_lpc,znn,List.length_map,e1,Int.reduceToNat,Int.reduceAdd,Int.zero_add,Int.toNat_zero,zed.eq_3]
instance g_slices_Concat_Value_Value (a b:List TValue):Lw (fun r x=>Pu (D.sl true 4 (List.map (TValue.e false) r)) [] x) (zbi a b) (zaa T 223 [D.sl false 1 [D.sl false 4 (List.map (TValue.e false) a),D.sl false 4 (List.map (TValue.e false) b)]] []):=⟨by
 unfold zbi
 refine Le.chk fun h=>Le.ret ?_
 exact ⟨_,zfD a b [] h⟩⟩
instance g_i_Object_values (p0:TObject):Lw (PV (dL true 4 (TValue.e false))) (zfB p0) (zaa T 164 [TObject.e false p0] []):=⟨by
 refine E0 (h:=?_) (zfB.eq_def ..)
 try conv=>arg 3;simp (maxSteps:=999999) only [push_cast,↓reduceIte,seval, *]
 refine Le.call ((g_slices_Concat_Value_Value p0.Keys p0.Vals).h) fun r9 h _ hy=>?_
 first|subst hy|obtain ⟨_,rfl⟩:=hy
 try conv=>arg 3;simp (maxSteps:=999999) only [push_cast,↓reduceIte,seval, *]
 refine Le.itq (fun h_1=>?_) (fun h_1=>?_)
 ·try conv=>arg 3;simp (maxSteps:=999999) only [push_cast,↓reduceIte,seval, *]
  refine Le.app fun c17 h_2 h_3=>?_
  replace h_2:List.map (TValue.e false) r9++[D.agg [D.int .i64 p0.Default.Kind,D.int .i64 p0.Default.Num,D.str p0.Default.Text,D.int .i64 p0.Default.Ref]]=List.map (TValue.e false) c17:=by rw [h_2,List.map_append] <;> first|rfl|simp only [eqs]
  replace h_3:r9.length + 1≤most:=h_3
  exact A
 ·exact A⟩
instance g_i_refers (p0:Int):Lw (PV D.bool) (zhu p0) (zaa T 185 [dI p0] []):=⟨E (zhu.eq_def ..)⟩
instance g_cmp_isNaN_int64 (p0:Int):Lw (PV D.bool) (zet p0) (zaa T 260 [dI p0] []):=⟨E (zet.eq_def ..)⟩
instance g_cmp_Compare_int64 (p0 p1:Int):Lw (PV dI) (zeJ p0 p1) (zaa T 231 [dI p0,dI p1] []):=⟨E (zeJ.eq_def ..)⟩
instance g_i_Heap_find_1 (p0:TObject) (p1:Int):Lw (PV dI) (zeu p0 p1) (zaa T 230 [TObject.e false p0,dI p1] []):=⟨E (zeu.eq_def ..)⟩
instance p_slices_BinarySearchFunc_Object_Object_int64_l1 (s0:List TObject) (s1 s8:Int):∀ (s9 s10:Int),Lp (kN T (enF [.tmp 6,.tmp 7] []) fun t=>⟨sL false 10 (TObject.e false) s0::sI s1::.d (D.fn 230 [])::zs 5 (sI s8::sI t::zs 39 []),[]⟩) (zah s0 s1 s8 s9 s10) fun k=>go T (enF [.tmp 6,.tmp 7] []) zrY (.lp zrZ::.bl 0::.sq (.clr [6,7,10,11,12,13,14,15,16,17,18,19,20,21,22,23,24,25,26,27,28,29,30,31,32,33,34])::k) ⟨sL false 10 (TObject.e false) s0::sI s1::.d (D.fn 230 [])::zs 5 (sI s8::sI s9::sI s10::zs 38 []),[]⟩:=Lp2 (zah.partial_correctness s0 s1 s8) (by exact fun _ _ _ _ _=>G zrY.eq_def)
instance g_slices_BinarySearchFunc_Object_Object_int64 (p0:List TObject) (p1:Int):Lw (PV fun (r:Int × Bool)=>D.tup [dI r.1,D.bool r.2]) (zaA p0 p1) (zaa T 229 [D.sl false 10 (List.map (TObject.e false) p0),dI p1,D.fn 230 []] []):=⟨E (zaA.eq_def ..)⟩
instance g_i_Heap_find (p0:THeap) (p1:Int):Lw (PV dI) (zgB p0 p1) (zaa T 186 [THeap.e false p0,dI p1] []):=⟨E (zgB.eq_def ..)⟩
instance g_i_objectKind (p0:Int):Lw (PV dI) (zhc p0) (zaa T 187 [dI p0] []):=⟨E (zhc.eq_def ..)⟩
instance p_i_Heap_fits_j1 (s2:THeap) (s3:TValue):Lp (kR (PV D.bool)) (zfQ s2 s3) fun k=>go T (enF [.tmp 4] []) zvh k ⟨Z::Z::.box (THeap.c false s2)::.box (TValue.c false s3)::zs 31 [],[]⟩:=⟨fun k=>GG (zfQ.eq_def ..) zvh.eq_def⟩
instance g_i_Heap_fits (p0:THeap) (p1:TValue):Lw (PV D.bool) (zdT p0 p1) (zaa T 98 [THeap.e false p0,TValue.e false p1] []):=⟨E (zdT.eq_def ..)⟩
instance p_i_areAll_Value_2_l1 (s0:List TValue) (s1:THeap) (s7:List TValue) (s8:Int):∀ (s9:Int),Lp (kS (kN T (enF [.tmp 4] []) fun t=>⟨sL false 4 (TValue.e false) s0::.d (D.bf 98 [THeap.e false s1])::zs 16 [],[]⟩) (kR (PV D.bool))) (zcv s0 s1 s7 s8 s9) fun k=>go T (enF [.tmp 4] []) zoA (.lp zoB::.bl 0::.sq (.clr [4,6,7,8,9,10,11,12,13,14,15,16,17])::k) ⟨sL false 4 (TValue.e false) s0::.d (D.bf 98 [THeap.e false s1])::zs 5 (sL false 4 (TValue.e false) s7::sI s8::sI s9::zs 8 []),[]⟩:=Lp1 (zcv.partial_correctness s0 s1 s7 s8) (by exact fun _ _ _ _=>G zoA.eq_def)
instance g_i_areAll_Value_2 (p0:List TValue) (p1:THeap):Lw (PV D.bool) (zbP p0 p1) (zaa T 96 [D.sl false 4 (List.map (TValue.e false) p0),D.bf 98 [THeap.e false p1]] []):=⟨E (zbP.eq_def ..)⟩
instance g_i_ValidHeap_1 (p0:TObject) (g0:THeap):Lw (fun (r:Bool) x=>x=some (D.bool r,[],[(THeap.c false g0)])) (zev p0 g0) (zaa T 163 [TObject.e false p0,D.ref 0 0] [(THeap.c false g0)]):=⟨E (zev.eq_def ..)⟩
instance p_i_areAll_Object_1_l1 (s0 s7:List TObject) (s8:Int) (g0:THeap):∀ (s9:Int),Lp (kS (kN T (enF [.tmp 4] []) fun t=>⟨sL false 10 (TObject.e false) s0::.d (D.fn 163 [D.ref 0 0])::zs 16 [],[(THeap.c false g0)]⟩) (kR (fun (r:Bool) x=>x=some (D.bool r,[],[(THeap.c false g0)])))) (zcc s0 s7 s8 g0 s9) fun k=>go T (enF [.tmp 4] []) znk (.lp znl::.bl 0::.sq (.clr [4,6,7,8,9,10,11,12,13,14,15,16,17])::k) ⟨sL false 10 (TObject.e false) s0::.d (D.fn 163 [D.ref 0 0])::zs 5 (sL false 10 (TObject.e false) s7::sI s8::sI s9::zs 8 []),[(THeap.c false g0)]⟩:=Lp1 (zcc.partial_correctness s0 s7 s8 g0) (by exact fun _ _ _ _=>G znk.eq_def)
instance g_i_areAll_Object_1 (p0:List TObject) (g0:THeap):Lw (fun (r:Bool) x=>x=some (D.bool r,[],[(THeap.c false g0)])) (zds p0 g0) (zaa T 161 [D.sl false 10 (List.map (TObject.e false) p0),D.fn 163 [D.ref 0 0]] [(THeap.c false g0)]):=⟨E (zds.eq_def ..)⟩
instance p_i_ValidHeap_l1 (s1:THeap) (s23:List TObject) (s24:Int):∀ (s3 s25:Int),Lp (kS (kN T (enF [.tmp 2] []) fun t=>⟨Z::.box (THeap.c false s1)::zs 45 [],[]⟩) (kR (PV D.bool))) (zdE s1 s23 s24 s3 s25) fun k=>go T (enF [.tmp 2] []) zve (.lp zvf::.bl 0::.sq (.clr [0,2,3,5,6,7,8,9,10,11,12,13,14,15,16,17,18,19,20,21,22,23,24,25,26,27,28,29,30,31,32,33,34,35,36,37,38,39,40,41,42])::k) ⟨Z::.box (THeap.c false s1)::Z::sI s3::zs 18 (.ptr ⟨.slot 1,[],1⟩::sL false 10 (TObject.e false) s23::sI s24::sI s25::zs 21 []),[]⟩:=Lp2 (zdE.partial_correctness s1 s23 s24) (by exact fun _ _ _ _ _=>G zve.eq_def)
instance p_i_ValidHeap_j1 (s1:THeap):Lp (kR (PV D.bool)) (zfR s1) fun k=>go T (enF [.tmp 2] []) zvg k ⟨Z::.box (THeap.c false s1)::zs 45 [],[]⟩:=⟨fun k=>GG (zfR.eq_def ..) zvg.eq_def⟩
instance g_i_ValidHeap (p0:THeap):Lw (PV D.bool) (zgC p0) (zaa T 93 [THeap.e false p0] []):=⟨E (zgC.eq_def ..)⟩
instance g_i_nameOfBinding (p0:TBinding):Lw (PV D.str) (zfC p0) (zaa T 166 [TBinding.e false p0] []):=⟨E (zfC.eq_def ..)⟩
instance p_i_isSorted_Binding_l1 (s0:List TBinding):∀ (s5:Int),Lp (kS (kN T (enF [.tmp 4] []) fun t=>⟨sL false 5 (TBinding.e false) s0::.d (D.fn 166 [])::zs 24 [],[]⟩) (kR (PV D.bool))) (zbW s0 s5) fun k=>go T (enF [.tmp 4] []) zrw (.lp zrx::.bl 0::.sq (.clr (rg 4 22))::k) ⟨sL false 5 (TBinding.e false) s0::.d (D.fn 166 [])::Z::Z::Z::sI s5::zs 20 [],[]⟩:=Lp1 (zbW.partial_correctness s0) (by exact fun _ _ _ _=>G zrw.eq_def)
instance g_i_isSorted_Binding (p0:List TBinding):Lw (PV D.bool) (zcY p0) (zaa T 165 [D.sl false 5 (List.map (TBinding.e false) p0),D.fn 166 []] []):=⟨E (zcY.eq_def ..)⟩
instance g_i_null:Lw (PV (TValue.e false)) (zxx) (zaa T 256 [] []):=⟨E (zxx.eq_def ..)⟩
instance g_i_IsNull (p0:TValue):Lw (PV D.bool) (zlp p0) (zaa T 224 [TValue.e false p0] []):=⟨E (zlp.eq_def ..)⟩
instance g_i_Binding_isValid (p0:TBinding):Lw (PV D.bool) (zdt p0) (zaa T 172 [TBinding.e false p0] []):=⟨E (zdt.eq_def ..)⟩
instance g_i_areVars_1 (p0:TBinding) (g0:THeap):Lw (fun (r:Bool) x=>x=some (D.bool r,[],[(THeap.c false g0)])) (zgD p0 g0) (zaa T 202 [TBinding.e false p0,D.ref 0 0] [(THeap.c false g0)]):=⟨E (zgD.eq_def ..)⟩
instance p_i_areAll_Binding_l1 (s0 s7:List TBinding) (s8:Int) (g0:THeap):∀ (s9:Int),Lp (kS (kN T (enF [.tmp 4] []) fun t=>⟨sL false 5 (TBinding.e false) s0::.d (D.fn 202 [D.ref 0 0])::zs 16 [],[(THeap.c false g0)]⟩) (kR (fun (r:Bool) x=>x=some (D.bool r,[],[(THeap.c false g0)])))) (zcw s0 s7 s8 g0 s9) fun k=>go T (enF [.tmp 4] []) zry (.lp zrz::.bl 0::.sq (.clr [4,6,7,8,9,10,11,12,13,14,15,16,17])::k) ⟨sL false 5 (TBinding.e false) s0::.d (D.fn 202 [D.ref 0 0])::zs 5 (sL false 5 (TBinding.e false) s7::sI s8::sI s9::zs 8 []),[(THeap.c false g0)]⟩:=Lp1 (zcw.partial_correctness s0 s7 s8 g0) (by exact fun _ _ _ _=>G zry.eq_def)
instance g_i_areAll_Binding (p0:List TBinding) (g0:THeap):Lw (fun (r:Bool) x=>x=some (D.bool r,[],[(THeap.c false g0)])) (zfd p0 g0) (zaa T 171 [D.sl false 5 (List.map (TBinding.e false) p0),D.fn 202 [D.ref 0 0]] [(THeap.c false g0)]):=⟨E (zfd.eq_def ..)⟩
instance g_i_areVars (p0:List TBinding) (p1:THeap):Lw (PV D.bool) (zgj p0 p1) (zaa T 130 [D.sl false 5 (List.map (TBinding.e false) p0),THeap.e false p1] []):=⟨E (zgj.eq_def ..)⟩
instance g_i_isData (p0:TValue):Lw (PV D.bool) (zjt p0) (zaa T 264 [TValue.e false p0] []):=⟨E (zjt.eq_def ..)⟩
instance p_i_genKids_j1 (s0 s3:Int) (s10:Bool):Lp (kS (kN T (enF [.tmp 2] []) fun t=>⟨sI s0::Z::Z::sI s3::zs 6 ([sB t.1,Z,Z,Z,sB t.2.1,sB t.2.2.1,sB t.2.2.2.1,sB t.2.2.2.2]),[]⟩) (kR (PV dI))) (zfL s0 s3 s10) fun k=>go T (enF [.tmp 2] []) zsD k ⟨sI s0::Z::Z::sI s3::zs 6 (sB s10::zs 7 []),[]⟩:=⟨fun k=>GG (zfL.eq_def ..) zsD.eq_def⟩
instance p_i_genKids_j2 (s0 s3:Int) (s4:Bool):Lp (kS (kN T (enF [.tmp 2] []) fun t=>⟨sI s0::Z::Z::sI s3::zs 6 ([sB t.1,Z,Z,Z,sB t.2.1,sB t.2.2.1,sB t.2.2.2.1,sB t.2.2.2.2]),[]⟩) (kR (PV dI))) (zea s0 s3 s4) fun k=>go T (enF [.tmp 2] []) zsE k ⟨sI s0::Z::Z::sI s3::sB s4::zs 13 [],[]⟩:=⟨fun k=>GG (zea.eq_def ..) zsE.eq_def⟩
instance g_i_genKids (p0:Int):Lw (PV dI) (zgk p0) (zaa T 266 [dI p0] []):=⟨E (zgk.eq_def ..)⟩
instance g_i_isOperatorName (p0:ByteArray):Lw (PV D.bool) (zcM p0) (zaa T 265 [D.str p0] []):=⟨E (zcM.eq_def ..)⟩
instance p_i_Gen_hasForm_j2 (s1:TGen) (s3 s4 s5:Bool):Lp (kR (PV D.bool)) (zbQ s1 s3 s4 s5) fun k=>go T (enF [.tmp 2] []) zsv k ⟨Z::.box (TGen.c false s1)::Z::sB s3::sB s4::sB s5::zs 55 [],[]⟩:=⟨fun k=>GG (zbQ.eq_def ..) zsv.eq_def⟩
instance p_i_Gen_hasForm_j1 (s1:TGen) (s3 s4 s5:Bool) (s17:Int) (s23:Bool):Lp (kN T (enF [.tmp 2] []) fun t=>⟨Z::.box (TGen.c false s1)::Z::sB t.1::sB t.2.1::sB s5::zs 11 (sI s17::zs 5 (sB t.2.2::zs 37 [])),[]⟩) (zcN s1 s3 s4 s5 s17 s23) fun k=>go T (enF [.tmp 2] []) zsu k ⟨Z::.box (TGen.c false s1)::Z::sB s3::sB s4::sB s5::zs 11 (sI s17::zs 5 (sB s23::zs 37 [])),[]⟩:=⟨fun k=>GG (zcN.eq_def ..) zsu.eq_def⟩
instance g_i_Gen_hasForm (p0:TGen):Lw (PV D.bool) (zfj p0) (zaa T 244 [D.agg [dI p0.Kind,dI p0.Num,D.str p0.Text,dI p0.Value.Kind,dI p0.Value.Num,D.str p0.Value.Text,dI p0.Value.Ref,D.sl false 8 (List.map (TGen.e false) p0.Kids)]] []):=⟨E (zfj.eq_def ..)⟩
noncomputable abbrev zdj (s1:Int) (s2:TGen) (s17:List TGen) (s18 s19:Int) (k:List Fr):Option Res:=go T (enF [.tmp 4] []) zrJ (.lp zrK::.bl 0::.sq (.clr [0,2,4,6,7,8,9,10,11,12,13,14,15,16,17,18,19,20,21,22,23,24,25,26,27,28])::k) ⟨Z::sI s1::.box (TGen.c false s2)::zs 13 (.ptr ⟨.slot 2,[],7⟩::sL false 8 (TGen.e false) s17::sI s18::sI s19::zs 10 []),[]⟩
noncomputable abbrev zdk (s1:Int) (s2:TGen) (s17:List TGen) (s18 s19:Int):List Fr→Int→Option Res→Prop:=(kN T (enF [.tmp 4] []) fun t=>⟨Z::sI t::zs 28 [],[]⟩)
noncomputable abbrev zeA (s1:Int) (s2:TGen) (k:List Fr):Option Res:=go T (enF [.tmp 4] []) zrL k ⟨Z::sI s1::.box (TGen.c false s2)::zs 27 [],[]⟩
noncomputable abbrev zeB (s1:Int) (s2:TGen):List Fr→Int→Option Res→Prop:=(kR (PV dI))
theorem zfE:(∀ (s1:Int) (s2:TGen) (s17:List TGen) (s18 s19:Int) r,zbj s1 s2 s17 s18 s19=some r→∀ k:List Fr,zdk s1 s2 s17 s18 s19 k r (zdj s1 s2 s17 s18 s19 k))∧(∀ (p0:TGen) (p1:Int) r,zeb p0 p1=some r→(PV dI) r (zaa T 208 [D.agg [dI p0.Kind,dI p0.Num,D.str p0.Text,dI p0.Value.Kind,dI p0.Value.Num,D.str p0.Value.Text,dI p0.Value.Ref,D.sl false 8 (List.map (TGen.e false) p0.Kids)],dI p1] []))∧(∀ (s1:Int) (s2:TGen) r,zew s1 s2=some r→∀ k:List Fr,zeB s1 s2 k r (zeA s1 s2 k)):=by
 refine zbj.mutual_partial_correctness (motive_1:=fun s1 s2 s17 s18 s19 r=>∀ k:List Fr,zdk s1 s2 s17 s18 s19 k r (zdj s1 s2 s17 s18 s19 k)) (motive_2:=fun p0 p1 r=>(PV dI) r (zaa T 208 [D.agg [dI p0.Kind,dI p0.Num,D.str p0.Text,dI p0.Value.Kind,dI p0.Value.Num,D.str p0.Value.Text,dI p0.Value.Ref,D.sl false 8 (List.map (TGen.e false) p0.Kids)],dI p1] [])) (motive_3:=fun s1 s2 r=>∀ k:List Fr,zeB s1 s2 k r (zeA s1 s2 k)) ?_ ?_ ?_
 ·intro zbj zeb i_i_countGen_l1 i_i_countGen
  have p_i_countGen_l1:∀ (s1:Int) (s2:TGen) (s17:List TGen) (s18 s19:Int),Lp (zdk s1 s2 s17 s18 s19) (zbj s1 s2 s17 s18 s19) (zdj s1 s2 s17 s18 s19):=fun s1 s2 s17 s18 s19=>⟨fun k r hr=>i_i_countGen_l1 s1 s2 s17 s18 s19 r hr k⟩
  have g_i_countGen:∀ (p0:TGen) (p1:Int),Lw (PV dI) (zeb p0 p1) (zaa T 208 [D.agg [dI p0.Kind,dI p0.Num,D.str p0.Text,dI p0.Value.Kind,dI p0.Value.Num,D.str p0.Value.Text,dI p0.Value.Ref,D.sl false 8 (List.map (TGen.e false) p0.Kids)],dI p1] []):=fun p0 p1=>⟨fun r hr=>i_i_countGen p0 p1 r hr⟩
  clear i_i_countGen_l1 i_i_countGen
  intro s1 s2 s17 s18 s19
  refine Le.pc ?_
  intro k
  refine G0 zrJ.eq_def ?_
  exact A
 ·intro zew i_i_countGen_j1
  have p_i_countGen_j1:∀ (s1:Int) (s2:TGen),Lp (zeB s1 s2) (zew s1 s2) (zeA s1 s2):=fun s1 s2=>⟨fun k r hr=>i_i_countGen_j1 s1 s2 r hr k⟩
  clear i_i_countGen_j1
  intro p0 p1
  refine (show Le (PV dI) _ (zaa T 208 [D.agg [dI p0.Kind,dI p0.Num,D.str p0.Text,dI p0.Value.Kind,dI p0.Value.Num,D.str p0.Value.Text,dI p0.Value.Ref,D.sl false 8 (List.map (TGen.e false) p0.Kids)],dI p1] []) from E0 (h:=?_) rfl)
  exact A
 ·intro zbj i_i_countGen_l1
  have p_i_countGen_l1:∀ (s1:Int) (s2:TGen) (s17:List TGen) (s18 s19:Int),Lp (zdk s1 s2 s17 s18 s19) (zbj s1 s2 s17 s18 s19) (zdj s1 s2 s17 s18 s19):=fun s1 s2 s17 s18 s19=>⟨fun k r hr=>i_i_countGen_l1 s1 s2 s17 s18 s19 r hr k⟩
  clear i_i_countGen_l1
  intro s1 s2
  refine Le.pc ?_
  intro k
  refine G0 zrL.eq_def ?_
  exact A
instance p_i_countGen_l1 (s1:Int) (s2:TGen) (s17:List TGen) (s18 s19:Int):Lp (zdk s1 s2 s17 s18 s19) (zbj s1 s2 s17 s18 s19) (zdj s1 s2 s17 s18 s19):=⟨fun k r hr=>(zfE).1 s1 s2 s17 s18 s19 r hr k⟩
instance g_i_countGen (p0:TGen) (p1:Int):Lw (PV dI) (zeb p0 p1) (zaa T 208 [D.agg [dI p0.Kind,dI p0.Num,D.str p0.Text,dI p0.Value.Kind,dI p0.Value.Num,D.str p0.Value.Text,dI p0.Value.Ref,D.sl false 8 (List.map (TGen.e false) p0.Kids)],dI p1] []):=⟨fun r hr=>(zfE).2.1 p0 p1 r hr⟩
instance p_i_countGen_j1 (s1:Int) (s2:TGen):Lp (zeB s1 s2) (zew s1 s2) (zeA s1 s2):=⟨fun k r hr=>(zfE).2.2 s1 s2 r hr k⟩
instance g_i_ValidGen (p0:TGen):Lw (PV D.bool) (zgl p0) (zaa T 149 [D.agg [dI p0.Kind,dI p0.Num,D.str p0.Text,dI p0.Value.Kind,dI p0.Value.Num,D.str p0.Value.Text,dI p0.Value.Ref,D.sl false 8 (List.map (TGen.e false) p0.Kids)]] []):=⟨E (zgl.eq_def ..)⟩
noncomputable abbrev zcl (s0:List TGen) (s1:THeap) (s7:List TGen) (s8 s9:Int) (k:List Fr):Option Res:=go T (enF [.tmp 4] []) zrM (.lp zrN::.bl 0::.sq (.clr [4,6,7,8,9,10,11,12,13,14,15,16,17])::k) ⟨sL false 8 (TGen.e false) s0::.d (D.bf 150 [THeap.e false s1])::zs 5 (sL false 8 (TGen.e false) s7::sI s8::sI s9::zs 8 []),[]⟩
noncomputable abbrev zcm (s0:List TGen) (s1:THeap) (s7:List TGen) (s8 s9:Int):List Fr→((Unit ⊕ Bool))→Option Res→Prop:=(kS (kN T (enF [.tmp 4] []) fun t=>⟨sL false 8 (TGen.e false) s0::.d (D.bf 150 [THeap.e false s1])::zs 16 [],[]⟩) (kR (PV D.bool)))
theorem zfW (f0:THeap):(∀ (s0 s7:List TGen) (s8 s9:Int) r,zaT s0 f0 s7 s8 s9=some r→∀ k:List Fr,zcm s0 f0 s7 s8 s9 k r (zcl s0 f0 s7 s8 s9 k))∧(∀ (p1:TGen) r,zbk f0 p1=some r→(PV D.bool) r (zaa T 150 [THeap.e false f0,D.agg [dI p1.Kind,dI p1.Num,D.str p1.Text,dI p1.Value.Kind,dI p1.Value.Num,D.str p1.Value.Text,dI p1.Value.Ref,D.sl false 8 (List.map (TGen.e false) p1.Kids)]] []))∧(∀ (p0:List TGen) r,zec p0 f0=some r→(PV D.bool) r (zaa T 209 [D.sl false 8 (List.map (TGen.e false) p0),D.bf 150 [THeap.e false f0]] [])):=by
 refine zaT.mutual_partial_correctness f0 (motive_1:=fun s0 s7 s8 s9 r=>∀ k:List Fr,zcm s0 f0 s7 s8 s9 k r (zcl s0 f0 s7 s8 s9 k)) (motive_2:=fun p1 r=>(PV D.bool) r (zaa T 150 [THeap.e false f0,D.agg [dI p1.Kind,dI p1.Num,D.str p1.Text,dI p1.Value.Kind,dI p1.Value.Num,D.str p1.Value.Text,dI p1.Value.Ref,D.sl false 8 (List.map (TGen.e false) p1.Kids)]] [])) (motive_3:=fun p0 r=>(PV D.bool) r (zaa T 209 [D.sl false 8 (List.map (TGen.e false) p0),D.bf 150 [THeap.e false f0]] [])) ?_ ?_ ?_
 ·intro zaT zbk i_i_areAll_Gen_l1 i_i_Heap_fitsGen
  have p_i_areAll_Gen_l1:∀ (s0 s7:List TGen) (s8 s9:Int),Lp (zcm s0 f0 s7 s8 s9) (zaT s0 s7 s8 s9) (zcl s0 f0 s7 s8 s9):=fun s0 s7 s8 s9=>⟨fun k r hr=>i_i_areAll_Gen_l1 s0 s7 s8 s9 r hr k⟩
  have g_i_Heap_fitsGen:∀ (p1:TGen),Lw (PV D.bool) (zbk p1) (zaa T 150 [THeap.e false f0,D.agg [dI p1.Kind,dI p1.Num,D.str p1.Text,dI p1.Value.Kind,dI p1.Value.Num,D.str p1.Value.Text,dI p1.Value.Ref,D.sl false 8 (List.map (TGen.e false) p1.Kids)]] []):=fun p1=>⟨fun r hr=>i_i_Heap_fitsGen p1 r hr⟩
  clear i_i_areAll_Gen_l1 i_i_Heap_fitsGen
  intro s0 s7 s8 s9
  refine Le.pc ?_
  intro k
  refine G0 zrM.eq_def ?_
  exact A
 ·intro zec i_i_areAll_Gen
  have g_i_areAll_Gen:∀ (p0:List TGen),Lw (PV D.bool) (zec p0) (zaa T 209 [D.sl false 8 (List.map (TGen.e false) p0),D.bf 150 [THeap.e false f0]] []):=fun p0=>⟨fun r hr=>i_i_areAll_Gen p0 r hr⟩
  clear i_i_areAll_Gen
  intro p1
  refine (show Le (PV D.bool) _ (zaa T 150 [THeap.e false f0,D.agg [dI p1.Kind,dI p1.Num,D.str p1.Text,dI p1.Value.Kind,dI p1.Value.Num,D.str p1.Value.Text,dI p1.Value.Ref,D.sl false 8 (List.map (TGen.e false) p1.Kids)]] []) from E0 (h:=?_) rfl)
  exact A
 ·intro zaT i_i_areAll_Gen_l1
  have p_i_areAll_Gen_l1:∀ (s0 s7:List TGen) (s8 s9:Int),Lp (zcm s0 f0 s7 s8 s9) (zaT s0 s7 s8 s9) (zcl s0 f0 s7 s8 s9):=fun s0 s7 s8 s9=>⟨fun k r hr=>i_i_areAll_Gen_l1 s0 s7 s8 s9 r hr k⟩
  clear i_i_areAll_Gen_l1
  intro p0
  refine (show Le (PV D.bool) _ (zaa T 209 [D.sl false 8 (List.map (TGen.e false) p0),D.bf 150 [THeap.e false f0]] []) from E0 (h:=?_) rfl)
  exact A
instance p_i_areAll_Gen_l1 (s0:List TGen) (s1:THeap) (s7:List TGen) (s8 s9:Int):Lp (zcm s0 s1 s7 s8 s9) (zaT s0 s1 s7 s8 s9) (zcl s0 s1 s7 s8 s9):=⟨fun k r hr=>(zfW s1).1 s0 s7 s8 s9 r hr k⟩
instance g_i_Heap_fitsGen (p0:THeap) (p1:TGen):Lw (PV D.bool) (zbk p0 p1) (zaa T 150 [THeap.e false p0,D.agg [dI p1.Kind,dI p1.Num,D.str p1.Text,dI p1.Value.Kind,dI p1.Value.Num,D.str p1.Value.Text,dI p1.Value.Ref,D.sl false 8 (List.map (TGen.e false) p1.Kids)]] []):=⟨fun r hr=>(zfW p0).2.1 p1 r hr⟩
instance g_i_areAll_Gen (p0:List TGen) (p1:THeap):Lw (PV D.bool) (zec p0 p1) (zaa T 209 [D.sl false 8 (List.map (TGen.e false) p0),D.bf 150 [THeap.e false p1]] []):=⟨fun r hr=>(zfW p1).2.2 p0 r hr⟩
instance g_i_Cursor_isZero (p0:TCursor):Lw (PV D.bool) (zbH p0) (zaa T 151 [D.agg [dI p0.Phase,dI p0.Count,D.sl false 4 (List.map (TValue.e false) p0.Vals),D.sl false 4 (List.map (TCursor.e false) p0.Kids)]] []):=⟨E (zbH.eq_def ..)⟩
instance g_i_Gen_branch (p0:TGen) (p1:Int):Lw (kT (PV (dL false 8 (TGen.e false))) (PV fun (r:Unit)=>D.sl true 8 [])) (zdh p0 p1) (zaa T 245 [D.agg [dI p0.Kind,dI p0.Num,D.str p0.Text,dI p0.Value.Kind,dI p0.Value.Num,D.str p0.Value.Text,dI p0.Value.Ref,D.sl false 8 (List.map (TGen.e false) p0.Kids)],dI p1] []):=⟨by
 refine E0 (h:=?_) (zdh.eq_def ..)
 try conv=>arg 3;simp (maxSteps:=999999) only [push_cast,↓reduceIte,seval, *]
 refine Le.call ((g_i_within p1 1 (p0.Kids.length:Int)).h) fun r9 h _ hy=>?_
 first|subst hy|obtain ⟨_,rfl⟩:=hy
 try conv=>arg 3;simp (maxSteps:=999999) only [push_cast,↓reduceIte,seval, *]
 refine Le.bool (fun h_1=>?_) (fun h_1=>?_)
 ·try conv=>arg 3;simp (maxSteps:=999999) only [push_cast,↓reduceIte,seval, *]
  refine Le.sub fun c16 h_2 h_3 h_4 h_5 h_6=>?_
  replace h_2:List.take (p1.toNat - (IntKind.wrap .i64 (p1 - 1)).toNat) (List.drop (IntKind.wrap .i64 (p1 - 1)).toNat (List.map (TGen.e false) p0.Kids))=List.map (TGen.e false) c16:=by rw [h_2];exact ztE ..
  exact A
 ·exact A⟩
instance p_i_Gen_form_j1 (s1:Int) (s2:TGen) (s4:TcursorForm) (s5:List Int) (s8:Int) (s33:Bool):Lp (kS (kN T (enF [.cell 4 (.many 4)] []) fun t=>⟨Z::sI s1::.box (TGen.c false s2)::Z::.box (TcursorForm.c true s4)::sL true 1 dI s5::Z::Z::sI s8::zs 24 (sB t.1::zs 6 (sB t.2.1::sB t.2.2.1::zs 6 (sB t.2.2.2.1::sB t.2.2.2.2.1::zs 4 (sB t.2.2.2.2.2.1::sB t.2.2.2.2.2.2.1::zs 4 (sB t.2.2.2.2.2.2.2.1::sB t.2.2.2.2.2.2.2.2::zs 11 []))))),[]⟩) (kR (kT (PV fun (r:TcursorForm)=>D.agg [D.sl true 1 (List.map dI r.phases),dI r.counts,dI r.vals,D.sl false 8 (List.map (TGen.e false) r.kids)]) (PV fun (r:(List Int) × Int × Int)=>D.agg [D.sl true 1 (List.map dI r.1),dI r.2.1,dI r.2.2,D.sl true 8 []])))) (zfk s1 s2 s4 s5 s8 s33) fun k=>go T (enF [.cell 4 (.many 4)] []) zrO k ⟨Z::sI s1::.box (TGen.c false s2)::Z::.box (TcursorForm.c true s4)::sL true 1 dI s5::Z::Z::sI s8::zs 24 (sB s33::zs 39 []),[]⟩:=⟨fun k=>GG (zfk.eq_def ..) zrO.eq_def⟩
instance p_i_Gen_form_j2 (s1:Int) (s2:TGen) (s4:TcursorForm) (s5:List Int) (s8:Int) (s13:Bool):Lp (kS (kN T (enF [.cell 4 (.many 4)] []) fun t=>⟨Z::sI s1::.box (TGen.c false s2)::Z::.box (TcursorForm.c true s4)::sL true 1 dI s5::Z::Z::sI s8::zs 24 (sB t.1::zs 6 (sB t.2.1::sB t.2.2.1::zs 6 (sB t.2.2.2.1::sB t.2.2.2.2.1::zs 4 (sB t.2.2.2.2.2.1::sB t.2.2.2.2.2.2.1::zs 4 (sB t.2.2.2.2.2.2.2.1::sB t.2.2.2.2.2.2.2.2::zs 11 []))))),[]⟩) (kR (kT (PV fun (r:TcursorForm)=>D.agg [D.sl true 1 (List.map dI r.phases),dI r.counts,dI r.vals,D.sl false 8 (List.map (TGen.e false) r.kids)]) (PV fun (r:(List Int) × Int × Int)=>D.agg [D.sl true 1 (List.map dI r.1),dI r.2.1,dI r.2.2,D.sl true 8 []])))) (zbX s1 s2 s4 s5 s8 s13) fun k=>go T (enF [.cell 4 (.many 4)] []) zrP k ⟨Z::sI s1::.box (TGen.c false s2)::Z::.box (TcursorForm.c true s4)::sL true 1 dI s5::Z::Z::sI s8::zs 4 (sB s13::zs 59 []),[]⟩:=⟨fun k=>GG (zbX.eq_def ..) zrP.eq_def⟩
instance p_i_Gen_form_j3 (s1:Int) (s2:TGen) (s4:TcursorForm) (s5:List Int) (s8:Int) (s9:Bool):Lp (kS (kN T (enF [.cell 4 (.many 4)] []) fun t=>⟨Z::sI s1::.box (TGen.c false s2)::Z::.box (TcursorForm.c true s4)::sL true 1 dI s5::Z::Z::sI s8::zs 24 (sB t.1::zs 6 (sB t.2.1::sB t.2.2.1::zs 6 (sB t.2.2.2.1::sB t.2.2.2.2.1::zs 4 (sB t.2.2.2.2.2.1::sB t.2.2.2.2.2.2.1::zs 4 (sB t.2.2.2.2.2.2.2.1::sB t.2.2.2.2.2.2.2.2::zs 11 []))))),[]⟩) (kR (kT (PV fun (r:TcursorForm)=>D.agg [D.sl true 1 (List.map dI r.phases),dI r.counts,dI r.vals,D.sl false 8 (List.map (TGen.e false) r.kids)]) (PV fun (r:(List Int) × Int × Int)=>D.agg [D.sl true 1 (List.map dI r.1),dI r.2.1,dI r.2.2,D.sl true 8 []])))) (zbY s1 s2 s4 s5 s8 s9) fun k=>go T (enF [.cell 4 (.many 4)] []) zrQ k ⟨Z::sI s1::.box (TGen.c false s2)::Z::.box (TcursorForm.c true s4)::sL true 1 dI s5::Z::Z::sI s8::sB s9::zs 63 [],[]⟩:=⟨fun k=>GG (zbY.eq_def ..) zrQ.eq_def⟩
instance p_i_Gen_form_j4 (s1:Int) (s2:TGen) (s4:TcursorForm) (s5:List Int):Lp (kR (kT (PV fun (r:TcursorForm)=>D.agg [D.sl true 1 (List.map dI r.phases),dI r.counts,dI r.vals,D.sl false 8 (List.map (TGen.e false) r.kids)]) (PV fun (r:(List Int) × Int × Int)=>D.agg [D.sl true 1 (List.map dI r.1),dI r.2.1,dI r.2.2,D.sl true 8 []]))) (zfl s1 s2 s4 s5) fun k=>go T (enF [.cell 4 (.many 4)] []) zrR k ⟨Z::sI s1::.box (TGen.c false s2)::Z::.box (TcursorForm.c true s4)::sL true 1 dI s5::zs 67 [],[]⟩:=⟨fun k=>GG (zfl.eq_def ..) zrR.eq_def⟩
instance g_i_Gen_form (p0:TGen) (p1:Int):Lw (kT (PV fun (r:TcursorForm)=>D.agg [D.sl true 1 (List.map dI r.phases),dI r.counts,dI r.vals,D.sl false 8 (List.map (TGen.e false) r.kids)]) (PV fun (r:(List Int) × Int × Int)=>D.agg [D.sl true 1 (List.map dI r.1),dI r.2.1,dI r.2.2,D.sl true 8 []])) (zcj p0 p1) (zaa T 210 [D.agg [dI p0.Kind,dI p0.Num,D.str p0.Text,dI p0.Value.Kind,dI p0.Value.Num,D.str p0.Value.Text,dI p0.Value.Ref,D.sl false 8 (List.map (TGen.e false) p0.Kids)],dI p1] []):=⟨E (zcj.eq_def ..)⟩
instance g_i_hasCount (p0:Int):Lw (PV D.bool) (zcS p0) (zaa T 211 [dI p0] []):=⟨E (zcS.eq_def ..)⟩
instance p_slices_Index_int64_int64_l1 (s0:List Int) (s1 s7:Int):∀ (s8:Int),Lp (kS (kN T (enF [.tmp 4] []) fun t=>⟨sL false 1 dI s0::sI s1::zs 17 [],[]⟩) (kR (PV dI))) (zaU s0 s1 s7 s8) fun k=>go T (enF [.tmp 4] []) zsw (.lp zsx::.bl 0::.sq (.clr (rg 4 15))::k) ⟨sL false 1 dI s0::sI s1::zs 5 (sI s7::sI s8::zs 10 []),[]⟩:=Lp1 (zaU.partial_correctness s0 s1 s7) (by exact fun _ _ _ _=>G zsw.eq_def)
instance g_slices_Index_int64_int64 (p0:List Int) (p1:Int):Lw (PV dI) (zck p0 p1) (zaa T 246 [D.sl false 1 (List.map dI p0),dI p1] []):=⟨E (zck.eq_def ..)⟩
instance g_slices_Contains_int64_int64 (p0:List Int) (p1:Int):Lw (PV D.bool) (zaF p0 p1) (zaa T 212 [D.sl false 1 (List.map dI p0),dI p1] []):=⟨E (zaF.eq_def ..)⟩
instance p_i_Heap_isSuspended_l1v1 (s3:THeap) (s5:TCursor) (s7:List Int) (s7_1 s7_2 s63 s64:Int):Lp (kN T (enF [.tmp 6] []) fun t=>⟨zs 79 [],[]⟩) (zcx s3 s5 s7 s7_1 s7_2 s63 s64) fun k=>go T (enF [.tmp 6] []) zng (.lp znh::.bl 0::.sq (.clr (rg 0 79))::k) ⟨Z::Z::Z::.box (THeap.c false s3)::Z::.box (TCursor.c false s5)::Z::.box [D.sl true 1 (List.map dI s7),dI s7_1,dI s7_2,D.sl true 8 []]::zs 53 (.ptr ⟨.slot 7,[],3⟩::.bor ⟨.slot 7,[],3⟩ .one::sI s63::sI s64::zs 14 []),[]⟩:=⟨fun k=>GG (zcx.eq_def ..) zng.eq_def⟩
instance p_i_Heap_isSuspended_j1v1 (s3:THeap) (s5:TCursor) (s7:List Int) (s7_1 s7_2:Int):Lp (kR (PV D.bool)) (zcy s3 s5 s7 s7_1 s7_2) fun k=>go T (enF [.tmp 6] []) zni k ⟨Z::Z::Z::.box (THeap.c false s3)::Z::.box (TCursor.c false s5)::Z::.box [D.sl true 1 (List.map dI s7),dI s7_1,dI s7_2,D.sl true 8 []]::zs 71 [],[]⟩:=⟨fun k=>GG (zcy.eq_def ..) zni.eq_def⟩
instance p_i_Heap_isSuspended_j2v1 (s3:THeap) (s5:TCursor) (s7:List Int) (s7_1 s7_2:Int) (s8:Bool):Lp (kR (PV D.bool)) (zaV s3 s5 s7 s7_1 s7_2 s8) fun k=>go T (enF [.tmp 6] []) znj k ⟨Z::Z::Z::.box (THeap.c false s3)::Z::.box (TCursor.c false s5)::Z::.box [D.sl true 1 (List.map dI s7),dI s7_1,dI s7_2,D.sl true 8 []]::sB s8::zs 70 [],[]⟩:=⟨fun k=>GG (zaV.eq_def ..) znj.eq_def⟩
noncomputable abbrev zaX (s3:THeap) (s5:TCursor) (s7:TcursorForm) (s62:List TGen) (s63 s64:Int) (k:List Fr):Option Res:=go T (enF [.tmp 6] []) zng (.lp znh::.bl 0::.sq (.clr (rg 0 79))::k) ⟨Z::Z::Z::.box (THeap.c false s3)::Z::.box (TCursor.c false s5)::Z::.box [D.sl true 1 (List.map dI s7.phases),dI s7.counts,dI s7.vals,D.sl false 8 (List.map (TGen.e false) s7.kids)]::zs 53 (.ptr ⟨.slot 7,[],3⟩::sL false 8 (TGen.e false) s62::sI s63::sI s64::zs 14 []),[]⟩
noncomputable abbrev zaY (s3:THeap) (s5:TCursor) (s7:TcursorForm) (s62:List TGen) (s63 s64:Int):List Fr→((Unit ⊕ Bool))→Option Res→Prop:=(kS (kN T (enF [.tmp 6] []) fun t=>⟨zs 79 [],[]⟩) (kR (PV D.bool)))
noncomputable abbrev zbt (s3:THeap) (s5:TCursor) (s7:TcursorForm) (s8:Bool) (k:List Fr):Option Res:=go T (enF [.tmp 6] []) znj k ⟨Z::Z::Z::.box (THeap.c false s3)::Z::.box (TCursor.c false s5)::Z::.box [D.sl true 1 (List.map dI s7.phases),dI s7.counts,dI s7.vals,D.sl false 8 (List.map (TGen.e false) s7.kids)]::sB s8::zs 70 [],[]⟩
noncomputable abbrev zbu (s3:THeap) (s5:TCursor) (s7:TcursorForm) (s8:Bool):List Fr→Bool→Option Res→Prop:=(kR (PV D.bool))
noncomputable abbrev zbv (s3:THeap) (s5:TCursor) (s7:TcursorForm) (k:List Fr):Option Res:=go T (enF [.tmp 6] []) zni k ⟨Z::Z::Z::.box (THeap.c false s3)::Z::.box (TCursor.c false s5)::Z::.box [D.sl true 1 (List.map dI s7.phases),dI s7.counts,dI s7.vals,D.sl false 8 (List.map (TGen.e false) s7.kids)]::zs 71 [],[]⟩
noncomputable abbrev zbw (s3:THeap) (s5:TCursor) (s7:TcursorForm):List Fr→Bool→Option Res→Prop:=(kR (PV D.bool))
theorem zbx (f0:THeap):(∀ (s5:TCursor) (s7:TcursorForm) (s62:List TGen) (s63 s64:Int) r,zan f0 s5 s7 s62 s63 s64=some r→∀ k:List Fr,zaY f0 s5 s7 s62 s63 s64 k r (zaX f0 s5 s7 s62 s63 s64 k))∧(∀ (p1:TGen) (p2:TCursor) r,zag f0 p1 p2=some r→(PV D.bool) r (zaa T 152 [THeap.e false f0,D.agg [dI p1.Kind,dI p1.Num,D.str p1.Text,dI p1.Value.Kind,dI p1.Value.Num,D.str p1.Value.Text,dI p1.Value.Ref,D.sl false 8 (List.map (TGen.e false) p1.Kids)],D.agg [dI p2.Phase,dI p2.Count,D.sl false 4 (List.map (TValue.e false) p2.Vals),D.sl false 4 (List.map (TCursor.e false) p2.Kids)]] []))∧(∀ (s5:TCursor) (s7:TcursorForm) (s8:Bool) r,zax f0 s5 s7 s8=some r→∀ k:List Fr,zbu f0 s5 s7 s8 k r (zbt f0 s5 s7 s8 k))∧(∀ (s5:TCursor) (s7:TcursorForm) r,zaG f0 s5 s7=some r→∀ k:List Fr,zbw f0 s5 s7 k r (zbv f0 s5 s7 k)):=by
 refine zan.mutual_partial_correctness f0 (motive_1:=fun s5 s7 s62 s63 s64 r=>∀ k:List Fr,zaY f0 s5 s7 s62 s63 s64 k r (zaX f0 s5 s7 s62 s63 s64 k)) (motive_2:=fun p1 p2 r=>(PV D.bool) r (zaa T 152 [THeap.e false f0,D.agg [dI p1.Kind,dI p1.Num,D.str p1.Text,dI p1.Value.Kind,dI p1.Value.Num,D.str p1.Value.Text,dI p1.Value.Ref,D.sl false 8 (List.map (TGen.e false) p1.Kids)],D.agg [dI p2.Phase,dI p2.Count,D.sl false 4 (List.map (TValue.e false) p2.Vals),D.sl false 4 (List.map (TCursor.e false) p2.Kids)]] [])) (motive_3:=fun s5 s7 s8 r=>∀ k:List Fr,zbu f0 s5 s7 s8 k r (zbt f0 s5 s7 s8 k)) (motive_4:=fun s5 s7 r=>∀ k:List Fr,zbw f0 s5 s7 k r (zbv f0 s5 s7 k)) ?_ ?_ ?_ ?_
 ·intro zan zag i_i_Heap_isSuspended_l1 i_i_Heap_isSuspended
  have p_i_Heap_isSuspended_l1:∀ (s5:TCursor) (s7:TcursorForm) (s62:List TGen) (s63 s64:Int),Lp (zaY f0 s5 s7 s62 s63 s64) (zan s5 s7 s62 s63 s64) (zaX f0 s5 s7 s62 s63 s64):=fun s5 s7 s62 s63 s64=>⟨fun k r hr=>i_i_Heap_isSuspended_l1 s5 s7 s62 s63 s64 r hr k⟩
  have g_i_Heap_isSuspended:∀ (p1:TGen) (p2:TCursor),Lw (PV D.bool) (zag p1 p2) (zaa T 152 [THeap.e false f0,D.agg [dI p1.Kind,dI p1.Num,D.str p1.Text,dI p1.Value.Kind,dI p1.Value.Num,D.str p1.Value.Text,dI p1.Value.Ref,D.sl false 8 (List.map (TGen.e false) p1.Kids)],D.agg [dI p2.Phase,dI p2.Count,D.sl false 4 (List.map (TValue.e false) p2.Vals),D.sl false 4 (List.map (TCursor.e false) p2.Kids)]] []):=fun p1 p2=>⟨fun r hr=>i_i_Heap_isSuspended p1 p2 r hr⟩
  clear i_i_Heap_isSuspended_l1 i_i_Heap_isSuspended
  intro s5 s7 s62 s63 s64
  refine Le.pc ?_
  intro k
  refine G0 zng.eq_def ?_
  exact A
 ·intro zax i_i_Heap_isSuspended_j2
  have p_i_Heap_isSuspended_j2:∀ (s5:TCursor) (s7:TcursorForm) (s8:Bool),Lp (zbu f0 s5 s7 s8) (zax s5 s7 s8) (zbt f0 s5 s7 s8):=fun s5 s7 s8=>⟨fun k r hr=>i_i_Heap_isSuspended_j2 s5 s7 s8 r hr k⟩
  clear i_i_Heap_isSuspended_j2
  intro p1 p2
  refine (show Le (PV D.bool) _ (zaa T 152 [THeap.e false f0,D.agg [dI p1.Kind,dI p1.Num,D.str p1.Text,dI p1.Value.Kind,dI p1.Value.Num,D.str p1.Value.Text,dI p1.Value.Ref,D.sl false 8 (List.map (TGen.e false) p1.Kids)],D.agg [dI p2.Phase,dI p2.Count,D.sl false 4 (List.map (TValue.e false) p2.Vals),D.sl false 4 (List.map (TCursor.e false) p2.Kids)]] []) from E0 (h:=?_) rfl)
  exact A
 ·intro zaG i_i_Heap_isSuspended_j1
  have p_i_Heap_isSuspended_j1:∀ (s5:TCursor) (s7:TcursorForm),Lp (zbw f0 s5 s7) (zaG s5 s7) (zbv f0 s5 s7):=fun s5 s7=>⟨fun k r hr=>i_i_Heap_isSuspended_j1 s5 s7 r hr k⟩
  clear i_i_Heap_isSuspended_j1
  intro s5 s7 s8
  refine Le.pc ?_
  intro k
  refine G0 znj.eq_def ?_
  exact A
 ·intro zan i_i_Heap_isSuspended_l1
  have p_i_Heap_isSuspended_l1:∀ (s5:TCursor) (s7:TcursorForm) (s62:List TGen) (s63 s64:Int),Lp (zaY f0 s5 s7 s62 s63 s64) (zan s5 s7 s62 s63 s64) (zaX f0 s5 s7 s62 s63 s64):=fun s5 s7 s62 s63 s64=>⟨fun k r hr=>i_i_Heap_isSuspended_l1 s5 s7 s62 s63 s64 r hr k⟩
  clear i_i_Heap_isSuspended_l1
  intro s5 s7
  refine Le.pc ?_
  intro k
  refine G0 zni.eq_def ?_
  exact A
instance p_i_Heap_isSuspended_l1 (s3:THeap) (s5:TCursor) (s7:TcursorForm) (s62:List TGen) (s63 s64:Int):Lp (zaY s3 s5 s7 s62 s63 s64) (zan s3 s5 s7 s62 s63 s64) (zaX s3 s5 s7 s62 s63 s64):=⟨fun k r hr=>(zbx s3).1 s5 s7 s62 s63 s64 r hr k⟩
instance g_i_Heap_isSuspended (p0:THeap) (p1:TGen) (p2:TCursor):Lw (PV D.bool) (zag p0 p1 p2) (zaa T 152 [THeap.e false p0,D.agg [dI p1.Kind,dI p1.Num,D.str p1.Text,dI p1.Value.Kind,dI p1.Value.Num,D.str p1.Value.Text,dI p1.Value.Ref,D.sl false 8 (List.map (TGen.e false) p1.Kids)],D.agg [dI p2.Phase,dI p2.Count,D.sl false 4 (List.map (TValue.e false) p2.Vals),D.sl false 4 (List.map (TCursor.e false) p2.Kids)]] []):=⟨fun r hr=>(zbx p0).2.1 p1 p2 r hr⟩
instance p_i_Heap_isSuspended_j2 (s3:THeap) (s5:TCursor) (s7:TcursorForm) (s8:Bool):Lp (zbu s3 s5 s7 s8) (zax s3 s5 s7 s8) (zbt s3 s5 s7 s8):=⟨fun k r hr=>(zbx s3).2.2.1 s5 s7 s8 r hr k⟩
instance p_i_Heap_isSuspended_j1 (s3:THeap) (s5:TCursor) (s7:TcursorForm):Lp (zbw s3 s5 s7) (zaG s3 s5 s7) (zbv s3 s5 s7):=⟨fun k r hr=>(zbx s3).2.2.2 s5 s7 r hr k⟩
instance p_i_Heap_isCo_j1 (s2:THeap) (s3:TCoexpr):Lp (kR (PV D.bool)) (zfS s2 s3) fun k=>go T (enF [.tmp 4] []) zqQ k ⟨Z::Z::.box (THeap.c false s2)::.box (TCoexpr.c false s3)::zs 53 [],[]⟩:=⟨fun k=>GG (zfS.eq_def ..) zqQ.eq_def⟩
instance p_i_Heap_isCo_j2 (s2:THeap) (s3:TCoexpr):Lp (kR (PV D.bool)) (zfT s2 s3) fun k=>go T (enF [.tmp 4] []) zqR k ⟨Z::Z::.box (THeap.c false s2)::.box (TCoexpr.c false s3)::zs 53 [],[]⟩:=⟨fun k=>GG (zfT.eq_def ..) zqR.eq_def⟩
instance p_i_Heap_isCo_j3 (s2:THeap) (s3:TCoexpr) (s5:Bool):Lp (kR (PV D.bool)) (zcT s2 s3 s5) fun k=>go T (enF [.tmp 4] []) zqS k ⟨Z::Z::.box (THeap.c false s2)::.box (TCoexpr.c false s3)::Z::sB s5::zs 51 [],[]⟩:=⟨fun k=>GG (zcT.eq_def ..) zqS.eq_def⟩
instance g_i_Heap_isCo (p0:THeap) (p1:TCoexpr):Lw (PV D.bool) (zbI p0 p1) (zaa T 132 [THeap.e false p0,TCoexpr.e false p1] []):=⟨E (zbI.eq_def ..)⟩
instance p_i_areAll_Coexpr_l1 (s0:List TCoexpr) (s1:THeap) (s7:List TCoexpr) (s8:Int):∀ (s9:Int),Lp (kS (kN T (enF [.tmp 4] []) fun t=>⟨sL false 17 (TCoexpr.e false) s0::.d (D.bf 132 [THeap.e false s1])::zs 16 [],[]⟩) (kR (PV D.bool))) (zcZ s0 s1 s7 s8 s9) fun k=>go T (enF [.tmp 4] []) zqO (.lp zqP::.bl 0::.sq (.clr [4,6,7,8,9,10,11,12,13,14,15,16,17])::k) ⟨sL false 17 (TCoexpr.e false) s0::.d (D.bf 132 [THeap.e false s1])::zs 5 (sL false 17 (TCoexpr.e false) s7::sI s8::sI s9::zs 8 []),[]⟩:=Lp1 (zcZ.partial_correctness s0 s1 s7 s8) (by exact fun _ _ _ _=>G zqO.eq_def)
instance g_i_areAll_Coexpr (p0:List TCoexpr) (p1:THeap):Lw (PV D.bool) (zex p0 p1) (zaa T 131 [D.sl false 17 (List.map (TCoexpr.e false) p0),D.bf 132 [THeap.e false p1]] []):=⟨E (zex.eq_def ..)⟩
instance p_i_ValidGenScope_l1 (s1:TGenScope):∀ (s3:Int),Lp (kS (kN T (enF [.tmp 2] []) fun t=>⟨Z::.box (TGenScope.c false s1)::zs 53 [],[]⟩) (kR (PV D.bool))) (zda s1 s3) fun k=>go T (enF [.tmp 2] []) zuJ (.lp zuK::.bl 0::.sq (.clr [0,2,3,4,5,6,7,8,9,10,11,12,13,14,15,16,17,18,19,20,21,22,23,24,25,26,27,28,29,30,31,32,33,34,35,36,37,38,39,40,41,42,43,44,45,46,47,48,49,50,51])::k) ⟨Z::.box (TGenScope.c false s1)::Z::sI s3::zs 51 [],[]⟩:=Lp1 (zda.partial_correctness s1) (by exact fun _ _ _ _=>G zuJ.eq_def)
instance p_i_ValidGenScope_j1 (s1:TGenScope):Lp (kR (PV D.bool)) (zey s1) fun k=>go T (enF [.tmp 2] []) zuL k ⟨Z::.box (TGenScope.c false s1)::zs 53 [],[]⟩:=⟨fun k=>GG (zey.eq_def ..) zuL.eq_def⟩
instance g_i_ValidGenScope (p0:TGenScope):Lw (PV D.bool) (zez p0) (zaa T 60 [TGenScope.e false p0] []):=⟨E (zez.eq_def ..)⟩
instance g_i_ValidState (p0:TGenScope) (p1:TGen) (p2:TCursor):Lw (PV D.bool) (zhd p0 p1 p2) (zaa T 77 [TGenScope.e false p0,D.agg [dI p1.Kind,dI p1.Num,D.str p1.Text,dI p1.Value.Kind,dI p1.Value.Num,D.str p1.Value.Text,dI p1.Value.Ref,D.sl false 8 (List.map (TGen.e false) p1.Kids)],D.agg [dI p2.Phase,dI p2.Count,D.sl false 4 (List.map (TValue.e false) p2.Vals),D.sl false 4 (List.map (TCursor.e false) p2.Kids)]] []):=⟨E (zhd.eq_def ..)⟩
theorem zfa (xs:List TBinding) (h:xs.length≤2147483648):zaa T 136 [.sl false 5 (xs.map (TBinding.e false))] []=some (.sl true 5 (xs.map (TBinding.e false)),[],[]):=by
 cases xs with
 | nil =>
  rw [zad T (g:=v136) rfl rfl rfl _ _ rfl]
  simp (maxSteps:=9999999) (disch:=omega) only [vx,px,ty,↓reduceIte,seval,fx,vxd,Nat.reduceBNe,most,ifT,ifF,v136,zqX]
 | cons x xs =>
  rw [List.length_cons] at h
  rw [zad T (g:=v136) rfl rfl rfl _ _ rfl]
  simp (maxSteps:=9999999) (disch:=omega) only [vx,px,ty,↓reduceIte,seval,fx,vxd,Nat.reduceBNe,most,ifT,ifF,v136,zqX]
instance g_slices_Clone_Binding_Binding (p0:List TBinding):Lw (fun r x=>Pu (D.sl true 5 (List.map (TBinding.e false) r)) [] x) (zak p0) (zaa T 136 [D.sl false 5 (List.map (TBinding.e false) p0)] []):=⟨by
 unfold zak
 refine Le.chk fun h=>Le.ret ?_
 exact ⟨_,zfa p0 h⟩⟩
theorem zfG (xs:List TValue) (h:xs.length≤2147483648):zaa T 203 [.sl false 4 (xs.map (TValue.e false))] []=some (.sl true 4 (xs.map (TValue.e false)),[],[]):=by
 cases xs with
 | nil =>
  rw [zad T (g:=v203) rfl rfl rfl _ _ rfl]
  simp (maxSteps:=9999999) (disch:=omega) only [vx,px,ty,↓reduceIte,seval,fx,vxd,Nat.reduceBNe,most,ifT,ifF,v203,zrD]
 | cons x xs =>
  rw [List.length_cons] at h
  rw [zad T (g:=v203) rfl rfl rfl _ _ rfl]
  simp (maxSteps:=9999999) (disch:=omega) only [vx,px,ty,↓reduceIte,seval,fx,vxd,Nat.reduceBNe,most,ifT,ifF,v203,zrD]
instance g_slices_Clone_Value_Value (p0:List TValue):Lw (fun r x=>Pu (D.sl true 4 (List.map (TValue.e false) r)) [] x) (zaw p0) (zaa T 203 [D.sl false 4 (List.map (TValue.e false) p0)] []):=⟨by
 unfold zaw
 refine Le.chk fun h=>Le.ret ?_
 exact ⟨_,zfG p0 h⟩⟩
instance g_i_Object_copied (p0:TObject):Lw (PV (TObject.e true)) (zdi p0) (zaa T 188 [TObject.e false p0] []):=⟨E (zdi.eq_def ..)⟩
instance p_i_Heap_copied_l1 (s1 s2:THeap) (s10:List TObject) (s11:Int):∀ (s3:THeap) (s12:Int),Lp (kN T (enF [.cell 2 (.many 2)] []) fun t=>⟨Z::Z::.box (THeap.c true s2)::.box (THeap.c true t)::zs 21 [],[]⟩) (zdP s1 s2 s10 s11 s3 s12) fun k=>go T (enF [.cell 2 (.many 2)] []) zvi (.lp zvj::.bl 0::.sq (.clr [0,1,5,6,7,8,9,10,11,12,13,14,15,16,17,18,19,20,21,22,23])::k) ⟨Z::.box (THeap.c false s1)::.box (THeap.c true s2)::.box (THeap.c true s3)::zs 5 (.ptr ⟨.slot 1,[],1⟩::sL false 10 (TObject.e false) s10::sI s11::sI s12::zs 12 []),[]⟩:=Lp2 (zdP.partial_correctness s1 s2 s10 s11) (by
 intro rec _ s3 s12 k
 refine G0 zvi.eq_def ?_
 try conv=>arg 3;simp (maxSteps:=999999) only [push_cast,↓reduceIte,seval, *]
 refine Le.itq (fun h=>?_) (fun h=>?_)
 ·try conv=>arg 3;simp (maxSteps:=999999) only [push_cast,↓reduceIte,seval, *]
  refine Le.idx fun a14 h_1 h_2 h_3=>?_
  try conv=>arg 3;simp (maxSteps:=999999) only [push_cast,↓reduceIte,seval, *]
  refine Le.dcall ((g_i_Object_copied a14).h) fun r19 h_4 _ hy=>?_
  first|subst hy|obtain ⟨_,rfl⟩:=hy
  try conv=>arg 3;simp (maxSteps:=999999) only [push_cast,↓reduceIte,seval, *]
  refine Le.app fun c21 h_5 h_6=>?_
  replace h_5:List.map (TObject.e true) s3.Objects++[D.agg [D.int .i64 r19.Id,D.int .i64 r19.Kind,D.str r19.Name,D.int .i64 r19.Low,D.sl true 4 (List.map (TValue.e false) r19.Keys),D.sl true 4 (List.map (TValue.e false) r19.Vals),D.int .i64 r19.Default.Kind,D.int .i64 r19.Default.Num,D.str r19.Default.Text,D.int .i64 r19.Default.Ref]]=List.map (TObject.e true) c21:=by rw [h_5,List.map_append] <;> first|rfl|simp only [eqs]
  replace h_6:s3.Objects.length + 1≤most:=h_6
  exact A
 ·exact A)
instance g_i_Heap_copied (p0:THeap):Lw (PV (THeap.e true)) (zfm p0) (zaa T 99 [THeap.e false p0] []):=⟨E (zfm.eq_def ..)⟩
noncomputable abbrev zcn (s1 s2:TGen) (s3 s8:List TGen) (s9 s10:Int) (k:List Fr):Option Res:=go T (enF [.cell 2 (.many 8)] []) zqT (.lp zqU::.bl 0::.sq (.clr [0,5,6,7,8,9,10,11,12,13,14,15,16,17,18,19])::k) ⟨Z::.box (TGen.c false s1)::.box (TGen.c true s2)::sL true 8 (TGen.e true) s3::Z::Z::Z::.ptr ⟨.slot 1,[],7⟩::sL false 8 (TGen.e false) s8::sI s9::sI s10::zs 12 [],[]⟩
noncomputable abbrev zco (s1 s2:TGen) (s3 s8:List TGen) (s9 s10:Int):List Fr→(((List TGen)))→Option Res→Prop:=(kN T (enF [.cell 2 (.many 8)] []) fun t=>⟨Z::.box (TGen.c false s1)::.box (TGen.c true s2)::sL true 8 (TGen.e true) t::zs 19 [],[]⟩)
theorem zhB:(∀ (s1 s2:TGen) (s3 s8:List TGen) (s9 s10:Int) r,zaW s1 s2 s3 s8 s9 s10=some r→∀ k:List Fr,zco s1 s2 s3 s8 s9 s10 k r (zcn s1 s2 s3 s8 s9 s10 k))∧(∀ (p0:TGen) r,zcq p0=some r→(PV fun (r:TGen)=>D.agg [dI r.Kind,dI r.Num,D.str r.Text,dI r.Value.Kind,dI r.Value.Num,D.str r.Value.Text,dI r.Value.Ref,D.sl true 8 (List.map (TGen.e true) r.Kids)]) r (zaa T 134 [D.agg [dI p0.Kind,dI p0.Num,D.str p0.Text,dI p0.Value.Kind,dI p0.Value.Num,D.str p0.Value.Text,dI p0.Value.Ref,D.sl false 8 (List.map (TGen.e false) p0.Kids)]] [])):=by
 refine zaW.mutual_partial_correctness (motive_1:=fun s1 s2 s3 s8 s9 s10 r=>∀ k:List Fr,zco s1 s2 s3 s8 s9 s10 k r (zcn s1 s2 s3 s8 s9 s10 k)) (motive_2:=fun p0 r=>(PV fun (r:TGen)=>D.agg [dI r.Kind,dI r.Num,D.str r.Text,dI r.Value.Kind,dI r.Value.Num,D.str r.Value.Text,dI r.Value.Ref,D.sl true 8 (List.map (TGen.e true) r.Kids)]) r (zaa T 134 [D.agg [dI p0.Kind,dI p0.Num,D.str p0.Text,dI p0.Value.Kind,dI p0.Value.Num,D.str p0.Value.Text,dI p0.Value.Ref,D.sl false 8 (List.map (TGen.e false) p0.Kids)]] [])) ?_ ?_
 ·intro zaW zcq i_i_Gen_copied_l1 i_i_Gen_copied
  have p_i_Gen_copied_l1:∀ (s1 s2:TGen) (s3 s8:List TGen) (s9 s10:Int),Lp (zco s1 s2 s3 s8 s9 s10) (zaW s1 s2 s3 s8 s9 s10) (zcn s1 s2 s3 s8 s9 s10):=fun s1 s2 s3 s8 s9 s10=>⟨fun k r hr=>i_i_Gen_copied_l1 s1 s2 s3 s8 s9 s10 r hr k⟩
  have g_i_Gen_copied:∀ (p0:TGen),Lw (PV fun (r:TGen)=>D.agg [dI r.Kind,dI r.Num,D.str r.Text,dI r.Value.Kind,dI r.Value.Num,D.str r.Value.Text,dI r.Value.Ref,D.sl true 8 (List.map (TGen.e true) r.Kids)]) (zcq p0) (zaa T 134 [D.agg [dI p0.Kind,dI p0.Num,D.str p0.Text,dI p0.Value.Kind,dI p0.Value.Num,D.str p0.Value.Text,dI p0.Value.Ref,D.sl false 8 (List.map (TGen.e false) p0.Kids)]] []):=fun p0=>⟨fun r hr=>i_i_Gen_copied p0 r hr⟩
  clear i_i_Gen_copied_l1 i_i_Gen_copied
  intro s1 s2 s3 s8 s9 s10
  refine Le.pc ?_
  intro k
  refine G0 zqT.eq_def ?_
  try conv=>arg 3;simp (maxSteps:=999999) only [push_cast,↓reduceIte,seval, *]
  refine Le.itq (fun h=>?_) (fun h=>?_)
  ·try conv=>arg 3;simp (maxSteps:=999999) only [push_cast,↓reduceIte,seval, *]
   refine Le.idx fun a12 h_1 h_2 h_3=>?_
   try conv=>arg 3;simp (maxSteps:=999999) only [push_cast,↓reduceIte,seval, *]
   refine Le.call ((g_i_Gen_copied a12).h) fun r16 h_4 _ hy=>?_
   first|subst hy|obtain ⟨_,rfl⟩:=hy
   try conv=>arg 3;simp (maxSteps:=999999) only [push_cast,↓reduceIte,seval, *]
   refine Le.app fun c18 h_5 h_6=>?_
   replace h_5:List.map (TGen.e true) s3++[D.agg [D.int .i64 r16.Kind,D.int .i64 r16.Num,D.str r16.Text,D.int .i64 r16.Value.Kind,D.int .i64 r16.Value.Num,D.str r16.Value.Text,D.int .i64 r16.Value.Ref,D.sl true 8 (List.map (TGen.e true) r16.Kids)]]=List.map (TGen.e true) c18:=by rw [h_5,List.map_append] <;> first|rfl|simp only [eqs]
   replace h_6:s3.length + 1≤most:=h_6
   exact A
  ·exact A
 ·intro zaW i_i_Gen_copied_l1
  have p_i_Gen_copied_l1:∀ (s1 s2:TGen) (s3 s8:List TGen) (s9 s10:Int),Lp (zco s1 s2 s3 s8 s9 s10) (zaW s1 s2 s3 s8 s9 s10) (zcn s1 s2 s3 s8 s9 s10):=fun s1 s2 s3 s8 s9 s10=>⟨fun k r hr=>i_i_Gen_copied_l1 s1 s2 s3 s8 s9 s10 r hr k⟩
  clear i_i_Gen_copied_l1
  intro p0
  refine (show Le (PV fun (r:TGen)=>D.agg [dI r.Kind,dI r.Num,D.str r.Text,dI r.Value.Kind,dI r.Value.Num,D.str r.Value.Text,dI r.Value.Ref,D.sl true 8 (List.map (TGen.e true) r.Kids)]) _ (zaa T 134 [D.agg [dI p0.Kind,dI p0.Num,D.str p0.Text,dI p0.Value.Kind,dI p0.Value.Num,D.str p0.Value.Text,dI p0.Value.Ref,D.sl false 8 (List.map (TGen.e false) p0.Kids)]] []) from E0 (h:=?_) rfl)
  exact A
instance p_i_Gen_copied_l1 (s1 s2:TGen) (s3 s8:List TGen) (s9 s10:Int):Lp (zco s1 s2 s3 s8 s9 s10) (zaW s1 s2 s3 s8 s9 s10) (zcn s1 s2 s3 s8 s9 s10):=⟨fun k r hr=>(zhB).1 s1 s2 s3 s8 s9 s10 r hr k⟩
instance g_i_Gen_copied (p0:TGen):Lw (PV fun (r:TGen)=>D.agg [dI r.Kind,dI r.Num,D.str r.Text,dI r.Value.Kind,dI r.Value.Num,D.str r.Value.Text,dI r.Value.Ref,D.sl true 8 (List.map (TGen.e true) r.Kids)]) (zcq p0) (zaa T 134 [D.agg [dI p0.Kind,dI p0.Num,D.str p0.Text,dI p0.Value.Kind,dI p0.Value.Num,D.str p0.Value.Text,dI p0.Value.Ref,D.sl false 8 (List.map (TGen.e false) p0.Kids)]] []):=⟨fun r hr=>(zhB).2 p0 r hr⟩
noncomputable abbrev zbr (s1 s2:TCursor) (s3 s8:List TCursor) (s9 s10:Int) (k:List Fr):Option Res:=go T (enF [.cell 2 (.many 4)] []) zqV (.lp zqW::.bl 0::.sq (.clr [0,5,6,7,8,9,10,11,12,13,14,15,16,17,18,19])::k) ⟨Z::.box (TCursor.c false s1)::.box (TCursor.c true s2)::sL true 4 (TCursor.e true) s3::Z::Z::Z::.ptr ⟨.slot 1,[],3⟩::sL false 4 (TCursor.e false) s8::sI s9::sI s10::zs 16 [],[]⟩
noncomputable abbrev zbs (s1 s2:TCursor) (s3 s8:List TCursor) (s9 s10:Int):List Fr→(((List TCursor)))→Option Res→Prop:=(kN T (enF [.cell 2 (.many 4)] []) fun t=>⟨Z::.box (TCursor.c false s1)::.box (TCursor.c true s2)::sL true 4 (TCursor.e true) t::zs 23 [],[]⟩)
theorem zgm:(∀ (s1 s2:TCursor) (s3 s8:List TCursor) (s9 s10:Int) r,zaD s1 s2 s3 s8 s9 s10=some r→∀ k:List Fr,zbs s1 s2 s3 s8 s9 s10 k r (zbr s1 s2 s3 s8 s9 s10 k))∧(∀ (p0:TCursor) r,zbo p0=some r→(PV fun (r:TCursor)=>D.agg [dI r.Phase,dI r.Count,D.sl true 4 (List.map (TValue.e false) r.Vals),D.sl true 4 (List.map (TCursor.e true) r.Kids)]) r (zaa T 135 [D.agg [dI p0.Phase,dI p0.Count,D.sl false 4 (List.map (TValue.e false) p0.Vals),D.sl false 4 (List.map (TCursor.e false) p0.Kids)]] [])):=by
 refine zaD.mutual_partial_correctness (motive_1:=fun s1 s2 s3 s8 s9 s10 r=>∀ k:List Fr,zbs s1 s2 s3 s8 s9 s10 k r (zbr s1 s2 s3 s8 s9 s10 k)) (motive_2:=fun p0 r=>(PV fun (r:TCursor)=>D.agg [dI r.Phase,dI r.Count,D.sl true 4 (List.map (TValue.e false) r.Vals),D.sl true 4 (List.map (TCursor.e true) r.Kids)]) r (zaa T 135 [D.agg [dI p0.Phase,dI p0.Count,D.sl false 4 (List.map (TValue.e false) p0.Vals),D.sl false 4 (List.map (TCursor.e false) p0.Kids)]] [])) ?_ ?_
 ·intro zaD zbo i_i_Cursor_copied_l1 i_i_Cursor_copied
  have p_i_Cursor_copied_l1:∀ (s1 s2:TCursor) (s3 s8:List TCursor) (s9 s10:Int),Lp (zbs s1 s2 s3 s8 s9 s10) (zaD s1 s2 s3 s8 s9 s10) (zbr s1 s2 s3 s8 s9 s10):=fun s1 s2 s3 s8 s9 s10=>⟨fun k r hr=>i_i_Cursor_copied_l1 s1 s2 s3 s8 s9 s10 r hr k⟩
  have g_i_Cursor_copied:∀ (p0:TCursor),Lw (PV fun (r:TCursor)=>D.agg [dI r.Phase,dI r.Count,D.sl true 4 (List.map (TValue.e false) r.Vals),D.sl true 4 (List.map (TCursor.e true) r.Kids)]) (zbo p0) (zaa T 135 [D.agg [dI p0.Phase,dI p0.Count,D.sl false 4 (List.map (TValue.e false) p0.Vals),D.sl false 4 (List.map (TCursor.e false) p0.Kids)]] []):=fun p0=>⟨fun r hr=>i_i_Cursor_copied p0 r hr⟩
  clear i_i_Cursor_copied_l1 i_i_Cursor_copied
  intro s1 s2 s3 s8 s9 s10
  refine Le.pc ?_
  intro k
  refine G0 zqV.eq_def ?_
  try conv=>arg 3;simp (maxSteps:=999999) only [push_cast,↓reduceIte,seval, *]
  refine Le.itq (fun h=>?_) (fun h=>?_)
  ·try conv=>arg 3;simp (maxSteps:=999999) only [push_cast,↓reduceIte,seval, *]
   refine Le.idx fun a12 h_1 h_2 h_3=>?_
   try conv=>arg 3;simp (maxSteps:=999999) only [push_cast,↓reduceIte,seval, *]
   refine Le.call ((g_i_Cursor_copied a12).h) fun r16 h_4 _ hy=>?_
   first|subst hy|obtain ⟨_,rfl⟩:=hy
   try conv=>arg 3;simp (maxSteps:=999999) only [push_cast,↓reduceIte,seval, *]
   refine Le.app fun c18 h_5 h_6=>?_
   replace h_5:List.map (TCursor.e true) s3++[D.agg [D.int .i64 r16.Phase,D.int .i64 r16.Count,D.sl true 4 (List.map (TValue.e false) r16.Vals),D.sl true 4 (List.map (TCursor.e true) r16.Kids)]]=List.map (TCursor.e true) c18:=by rw [h_5,List.map_append] <;> first|rfl|simp only [eqs]
   replace h_6:s3.length + 1≤most:=h_6
   exact A
  ·exact A
 ·intro zaD i_i_Cursor_copied_l1
  have p_i_Cursor_copied_l1:∀ (s1 s2:TCursor) (s3 s8:List TCursor) (s9 s10:Int),Lp (zbs s1 s2 s3 s8 s9 s10) (zaD s1 s2 s3 s8 s9 s10) (zbr s1 s2 s3 s8 s9 s10):=fun s1 s2 s3 s8 s9 s10=>⟨fun k r hr=>i_i_Cursor_copied_l1 s1 s2 s3 s8 s9 s10 r hr k⟩
  clear i_i_Cursor_copied_l1
  intro p0
  refine (show Le (PV fun (r:TCursor)=>D.agg [dI r.Phase,dI r.Count,D.sl true 4 (List.map (TValue.e false) r.Vals),D.sl true 4 (List.map (TCursor.e true) r.Kids)]) _ (zaa T 135 [D.agg [dI p0.Phase,dI p0.Count,D.sl false 4 (List.map (TValue.e false) p0.Vals),D.sl false 4 (List.map (TCursor.e false) p0.Kids)]] []) from E0 (h:=?_) rfl)
  exact A
instance p_i_Cursor_copied_l1 (s1 s2:TCursor) (s3 s8:List TCursor) (s9 s10:Int):Lp (zbs s1 s2 s3 s8 s9 s10) (zaD s1 s2 s3 s8 s9 s10) (zbr s1 s2 s3 s8 s9 s10):=⟨fun k r hr=>(zgm).1 s1 s2 s3 s8 s9 s10 r hr k⟩
instance g_i_Cursor_copied (p0:TCursor):Lw (PV fun (r:TCursor)=>D.agg [dI r.Phase,dI r.Count,D.sl true 4 (List.map (TValue.e false) r.Vals),D.sl true 4 (List.map (TCursor.e true) r.Kids)]) (zbo p0) (zaa T 135 [D.agg [dI p0.Phase,dI p0.Count,D.sl false 4 (List.map (TValue.e false) p0.Vals),D.sl false 4 (List.map (TCursor.e false) p0.Kids)]] []):=⟨fun r hr=>(zgm).2 p0 r hr⟩
instance g_i_Coexpr_copied (p0:TCoexpr):Lw (PV (TCoexpr.e true)) (zbp p0) (zaa T 61 [TCoexpr.e false p0] []):=⟨E (zbp.eq_def ..)⟩
instance p_i_GenScope_copied_l1 (s1 s2:TGenScope) (s16:List TCoexpr) (s17:Int):∀ (s3:TGenScope) (s18:Int),Lp (kN T (enF [.cell 2 (.many 5)] []) fun t=>⟨Z::Z::.box (TGenScope.c true s2)::.box (TGenScope.c true t)::zs 27 [],[]⟩) (zcd s1 s2 s16 s17 s3 s18) fun k=>go T (enF [.cell 2 (.many 5)] []) zvc (.lp zvd::.bl 0::.sq (.clr [0,1,5,6,7,8,9,10,11,12,13,14,15,16,17,18,19,20,21,22,23,24,25,26,27,28,29])::k) ⟨Z::.box (TGenScope.c false s1)::.box (TGenScope.c true s2)::.box (TGenScope.c true s3)::zs 11 (.ptr ⟨.slot 1,[],3⟩::sL false 17 (TCoexpr.e false) s16::sI s17::sI s18::zs 12 []),[]⟩:=Lp2 (zcd.partial_correctness s1 s2 s16 s17) (by
 intro rec _ s3 s18 k
 refine G0 zvc.eq_def ?_
 try conv=>arg 3;simp (maxSteps:=999999) only [push_cast,↓reduceIte,seval, *]
 refine Le.itq (fun h=>?_) (fun h=>?_)
 ·try conv=>arg 3;simp (maxSteps:=999999) only [push_cast,↓reduceIte,seval, *]
  refine Le.idx fun a20 h_1 h_2 h_3=>?_
  try conv=>arg 3;simp (maxSteps:=999999) only [push_cast,↓reduceIte,seval, *]
  refine Le.dcall ((g_i_Coexpr_copied a20).h) fun r25 h_4 _ hy=>?_
  first|subst hy|obtain ⟨_,rfl⟩:=hy
  try conv=>arg 3;simp (maxSteps:=999999) only [push_cast,↓reduceIte,seval, *]
  refine Le.app fun c27 h_5 h_6=>?_
  replace h_5:List.map (TCoexpr.e true) s3.Cos++[D.agg [D.int .i64 r25.Id,D.int .i64 r25.Body.Kind,D.int .i64 r25.Body.Num,D.str r25.Body.Text,D.int .i64 r25.Body.Value.Kind,D.int .i64 r25.Body.Value.Num,D.str r25.Body.Value.Text,D.int .i64 r25.Body.Value.Ref,D.sl true 8 (List.map (TGen.e true) r25.Body.Kids),D.sl true 5 (List.map (TBinding.e false) r25.Start),D.sl true 5 (List.map (TBinding.e false) r25.Vars),D.int .i64 r25.Cursor.Phase,D.int .i64 r25.Cursor.Count,D.sl true 4 (List.map (TValue.e false) r25.Cursor.Vals),D.sl true 4 (List.map (TCursor.e true) r25.Cursor.Kids),D.int .i64 r25.Count,D.bool r25.Done]]=List.map (TCoexpr.e true) c27:=by rw [h_5,List.map_append] <;> first|rfl|simp only [eqs]
  replace h_6:s3.Cos.length + 1≤most:=h_6
  exact A
 ·exact A)
instance g_i_GenScope_copied (p0:TGenScope):Lw (PV (TGenScope.e true)) (zdu p0) (zaa T 86 [TGenScope.e false p0] []):=⟨E (zdu.eq_def ..)⟩
instance p_i_GenScope_addCo_j1 (s2:TGenScope) (s3:TCoexpr) (s4:TGenScope) (s7:Int):Lp (kR (PV fun (r:TGenScope × Int × Int)=>D.tup [TGenScope.e true r.1,dI r.2.1,dI r.2.2])) (zdU s2 s3 s4 s7) fun k=>go T (enF [.cell 4 (.many 5),.tmp 5,.tmp 6] []) zuV k ⟨Z::Z::.box (TGenScope.c false s2)::.box (TCoexpr.c false s3)::.box (TGenScope.c true s4)::Z::Z::sI s7::zs 38 [],[]⟩:=⟨fun k=>by
 refine G1 (zdU.eq_def ..) zuV.eq_def ?_
 try conv=>arg 3;simp (maxSteps:=999999) only [push_cast,↓reduceIte,seval, *]
 refine Le.call ((g_i_GenScope_copied s2).h) fun r32 h _ hy=>?_
 first|subst hy|obtain ⟨_,rfl⟩:=hy
 try conv=>arg 3;simp (maxSteps:=999999) only [push_cast,↓reduceIte,seval, *]
 refine Le.dcall ((g_i_Coexpr_copied (TCoexpr.mk (IntKind.wrap .i64 (s7 + 1)) s3.Body s3.Start s3.Vars s3.Cursor s3.Count s3.Done)).h) fun r39 h_1 _ hy=>?_
 first|subst hy|obtain ⟨_,rfl⟩:=hy
 try conv=>arg 3;simp (maxSteps:=999999) only [push_cast,↓reduceIte,seval, *]
 refine Le.app fun c41 h_2 h_3=>?_
 replace h_2:List.map (TCoexpr.e true) r32.Cos++[D.agg [D.int .i64 r39.Id,D.int .i64 r39.Body.Kind,D.int .i64 r39.Body.Num,D.str r39.Body.Text,D.int .i64 r39.Body.Value.Kind,D.int .i64 r39.Body.Value.Num,D.str r39.Body.Value.Text,D.int .i64 r39.Body.Value.Ref,D.sl true 8 (List.map (TGen.e true) r39.Body.Kids),D.sl true 5 (List.map (TBinding.e false) r39.Start),D.sl true 5 (List.map (TBinding.e false) r39.Vars),D.int .i64 r39.Cursor.Phase,D.int .i64 r39.Cursor.Count,D.sl true 4 (List.map (TValue.e false) r39.Cursor.Vals),D.sl true 4 (List.map (TCursor.e true) r39.Cursor.Kids),D.int .i64 r39.Count,D.bool r39.Done]]=List.map (TCoexpr.e true) c41:=by rw [h_2,List.map_append] <;> first|rfl|simp only [eqs]
 replace h_3:r32.Cos.length + 1≤most:=h_3
 exact A⟩
instance p_i_GenScope_addCo_j2 (s2:TGenScope) (s3:TCoexpr) (s4:TGenScope) (s7:Int):Lp (kR (PV fun (r:TGenScope × Int × Int)=>D.tup [TGenScope.e true r.1,dI r.2.1,dI r.2.2])) (zbJ s2 s3 s4 s7) fun k=>go T (enF [.cell 4 (.many 5),.tmp 5,.tmp 6] []) zuW k ⟨Z::Z::.box (TGenScope.c false s2)::.box (TCoexpr.c false s3)::.box (TGenScope.c true s4)::Z::Z::sI s7::zs 38 [],[]⟩:=⟨fun k=>GG (zbJ.eq_def ..) zuW.eq_def⟩
instance g_i_GenScope_addCo (p0:TGenScope) (p1:TCoexpr):Lw (PV fun (r:TGenScope × Int × Int)=>D.tup [TGenScope.e true r.1,dI r.2.1,dI r.2.2]) (zdQ p0 p1) (zaa T 78 [TGenScope.e false p0,TCoexpr.e false p1] []):=⟨E (zdQ.eq_def ..)⟩
instance g_i_CreateCo (p0:TGenScope) (p1:TGen):Lw (PV fun (r:TGenScope × Int × Int)=>D.tup [TGenScope.e true r.1,dI r.2.1,dI r.2.2]) (ziB p0 p1) (zaa T 29 [TGenScope.e false p0,D.agg [dI p1.Kind,dI p1.Num,D.str p1.Text,dI p1.Value.Kind,dI p1.Value.Num,D.str p1.Value.Text,dI p1.Value.Ref,D.sl false 8 (List.map (TGen.e false) p1.Kids)]] []):=⟨E (ziB.eq_def ..)⟩
end Go.Vx.CrZ
