/-
  What the plain functions give, the program gives too.
-/
import Derived.Test.YtnaaflejkfaiaaaGreatAu
set_option linter.unusedVariables false
set_option linter.unusedSimpArgs false
namespace Go.Vx.RmZ
set_option maxRecDepth 10000
set_option maxHeartbeats 2000000
attribute [local irreducible] go bk exi got
instance g_i_GenScope_findCo_1 (p0:TCoexpr) (g0:Int):Lw (fun (r:Bool) x=>x=some (D.bool r,[],[[dI g0]])) (zdY p0 g0) (zaa T 129 [TCoexpr.e false p0,D.ref 0 0] [[dI g0]]):=⟨E (zdY.eq_def ..)⟩
instance p_slices_IndexFunc_Coexpr_Coexpr_l1 (s0:List TCoexpr) (s7 g0:Int):∀ (s8:Int),Lp (kS (kN T (enF [.tmp 4] []) fun t=>⟨sL false 17 (TCoexpr.e false) s0::.d (D.fn 129 [D.ref 0 0])::zs 17 [],[[dI g0]]⟩) (kR (fun (r:Int) x=>x=some (dI r,[],[[dI g0]])))) (zaI s0 s7 g0 s8) fun k=>go T (enF [.tmp 4] []) zrE (.lp zrF::.bl 0::.sq (.clr (rg 4 15))::k) ⟨sL false 17 (TCoexpr.e false) s0::.d (D.fn 129 [D.ref 0 0])::zs 5 (sI s7::sI s8::zs 10 []),[[dI g0]]⟩:=Lp1 (zaI.partial_correctness s0 s7 g0) (by exact fun _ _ _ _=>G zrE.eq_def)
instance g_slices_IndexFunc_Coexpr_Coexpr (p0:List TCoexpr) (g0:Int):Lw (fun (r:Int) x=>x=some (dI r,[],[[dI g0]])) (zbm p0 g0) (zaa T 128 [D.sl false 17 (List.map (TCoexpr.e false) p0),D.fn 129 [D.ref 0 0]] [[dI g0]]):=⟨E (zbm.eq_def ..)⟩
instance g_i_GenScope_findCo (p0:TGenScope) (p1:Int):Lw (PV dI) (zdt p0 p1) (zaa T 59 [TGenScope.e false p0,dI p1] []):=⟨E (zdt.eq_def ..)⟩
instance g_i_within (p0 p1 p2:Int):Lw (PV D.bool) (zbZ p0 p1 p2) (zaa T 133 [dI p0,dI p1,dI p2] []):=⟨E (zbZ.eq_def ..)⟩
instance g_i_isObjectId (p0:Int):Lw (PV D.bool) (zfa p0) (zaa T 219 [dI p0] []):=⟨E (zfa.eq_def ..)⟩
instance g_i_isLetter (p0:Int):Lw (PV D.bool) (zgo p0) (zaa T 252 [D.int .u8 p0] []):=⟨E (zgo.eq_def ..)⟩
instance g_i_isDigit (p0:Int):Lw (PV D.bool) (zip p0) (zaa T 268 [D.int .u8 p0] []):=⟨E (zip.eq_def ..)⟩
instance g_i_isNameByte (p0:Int):Lw (PV D.bool) (zfb p0) (zaa T 254 [D.int .u8 p0] []):=⟨E (zfb.eq_def ..)⟩
instance p_i_areAll_byte_l1 (s0 s7:List Int) (s8:Int):∀ (s9:Int),Lp (kS (kN T (enF [.tmp 4] []) fun t=>⟨sL false 1 (D.int .u8) s0::.d (D.fn 254 [])::zs 16 [],[]⟩) (kR (PV D.bool))) (zdS s0 s7 s8 s9) fun k=>go T (enF [.tmp 4] []) ztq (.lp ztr::.bl 0::.sq (.clr [4,6,7,8,9,10,11,12,13,14,15,16,17])::k) ⟨sL false 1 (D.int .u8) s0::.d (D.fn 254 [])::zs 5 (sL false 1 (D.int .u8) s7::sI s8::sI s9::zs 8 []),[]⟩:=Lp1 (zdS.partial_correctness s0 s7 s8) (by exact fun _ _ _ _=>G ztq.eq_def)
instance g_i_areAll_byte (p0:List Int):Lw (PV D.bool) (zfn p0) (zaa T 253 [D.sl false 1 (List.map (D.int .u8) p0),D.fn 254 []] []):=⟨E (zfn.eq_def ..)⟩
instance g_i_IsName (p0:ByteArray):Lw (PV D.bool) (zfP p0) (zaa T 222 [D.str p0] []):=⟨E (zfP.eq_def ..)⟩
instance p_i_ValidValue_j1 (s1:TValue) (s65:Bool):Lp (kS (kN T (enF [.tmp 2] []) fun t=>⟨Z::.box (TValue.c false s1)::zs 63 (sB t::zs 14 []),[]⟩) (kR (PV D.bool))) (zet s1 s65) fun k=>go T (enF [.tmp 2] []) zss k ⟨Z::.box (TValue.c false s1)::zs 63 (sB s65::zs 14 []),[]⟩:=⟨fun k=>GG (zet.eq_def ..) zss.eq_def⟩
instance p_i_ValidValue_j2 (s1:TValue) (s4:Int) (s49:Bool):Lp (kS (kN T (enF [.tmp 2] []) fun t=>⟨Z::.box (TValue.c false s1)::zs 78 [],[]⟩) (kR (PV D.bool))) (zdg s1 s4 s49) fun k=>go T (enF [.tmp 2] []) zst k ⟨Z::.box (TValue.c false s1)::Z::Z::sI s4::zs 44 (sB s49::zs 30 []),[]⟩:=⟨fun k=>GG (zdg.eq_def ..) zst.eq_def⟩
instance g_i_ValidValue (p0:TValue):Lw (PV D.bool) (zbn p0) (zaa T 184 [TValue.e false p0] []):=⟨E (zbn.eq_def ..)⟩
instance p_i_areAll_Value_l1 (s0 s7:List TValue) (s8:Int):∀ (s9:Int),Lp (kS (kN T (enF [.tmp 4] []) fun t=>⟨sL false 4 (TValue.e false) s0::.d (D.fn 184 [])::zs 16 [],[]⟩) (kR (PV D.bool))) (zdu s0 s7 s8 s9) fun k=>go T (enF [.tmp 4] []) zpe (.lp zpf::.bl 0::.sq (.clr [4,6,7,8,9,10,11,12,13,14,15,16,17])::k) ⟨sL false 4 (TValue.e false) s0::.d (D.fn 184 [])::zs 5 (sL false 4 (TValue.e false) s7::sI s8::sI s9::zs 8 []),[]⟩:=Lp1 (zdu.partial_correctness s0 s7 s8) (by exact fun _ _ _ _=>G zpe.eq_def)
instance g_i_areAll_Value (p0:List TValue):Lw (PV D.bool) (zdH p0) (zaa T 96 [D.sl false 4 (List.map (TValue.e false) p0),D.fn 184 []] []):=⟨E (zdH.eq_def ..)⟩
instance p_slices_Index_Value_Value_l1 (s0:List TValue) (s3:TValue) (s7:Int):∀ (s8:Int),Lp (kS (kN T (enF [.tmp 4] []) fun t=>⟨sL false 4 (TValue.e false) s0::zs 18 [],[]⟩) (kR (PV dI))) (zam s0 s3 s7 s8) fun k=>go T (enF [.tmp 4] []) ztx (.lp zty::.bl 0::.sq (.clr [1,3,4,5,6,7,8,9,10,11,12,13,14,15,16,17,18])::k) ⟨sL false 4 (TValue.e false) s0::Z::Z::.box (TValue.c false s3)::Z::Z::Z::sI s7::sI s8::zs 10 [],[]⟩:=Lp1 (zam.partial_correctness s0 s3 s7) (by exact fun _ _ _ _=>G ztx.eq_def)
instance g_slices_Index_Value_Value (p0:List TValue) (p1:TValue):Lw (PV dI) (zch p0 p1) (zaa T 267 [D.sl false 4 (List.map (TValue.e false) p0),TValue.e false p1] []):=⟨E (zch.eq_def ..)⟩
instance g_slices_Contains_Value_Value (p0:List TValue) (p1:TValue):Lw (PV D.bool) (zaK p0 p1) (zaa T 250 [D.sl false 4 (List.map (TValue.e false) p0),TValue.e false p1] []):=⟨E (zaK.eq_def ..)⟩
instance p_i_areDifferent_l1 (s0 s5:List TValue) (s6:Int):∀ (s7:Int),Lp (kS (kN T (enF [.tmp 2] []) fun t=>⟨sL false 4 (TValue.e false) s0::zs 17 [],[]⟩) (kR (PV D.bool))) (zdv s0 s5 s6 s7) fun k=>go T (enF [.tmp 2] []) zsN (.lp zsO::.bl 0::.sq (.clr (rg 2 16))::k) ⟨sL false 4 (TValue.e false) s0::zs 4 (sL false 4 (TValue.e false) s5::sI s6::sI s7::zs 10 []),[]⟩:=Lp1 (zdv.partial_correctness s0 s5 s6) (by
 intro rec _ s7 k
 refine G0 zsN.eq_def ?_
 try conv=>arg 3;simp (maxSteps:=999999) only [push_cast,↓reduceIte,seval, *]
 refine Le.itq (fun h=>?_) (fun h=>?_)
 ·try conv=>arg 3;simp (maxSteps:=999999) only [push_cast,↓reduceIte,seval, *]
  refine Le.idx fun a10 h_1 h_2 h_3=>?_
  try conv=>arg 3;simp (maxSteps:=999999) only [push_cast,↓reduceIte,seval, *]
  refine Le.subH fun c14 h_4 h_5 h_6=>?_
  replace h_4:List.take s7.toNat (List.map (TValue.e false) s0)=List.map (TValue.e false) c14:=by rw [h_4];exact zmE ..
  exact A
 ·exact A)
instance g_i_areDifferent (p0:List TValue):Lw (PV D.bool) (zdI p0) (zaa T 220 [D.sl false 4 (List.map (TValue.e false) p0)] []):=⟨E (zdI.eq_def ..)⟩
instance g_i_textOf (p0:ByteArray):Lw (PV (TValue.e false)) (zjG p0) (zaa T 251 [D.str p0] []):=⟨E (zjG.eq_def ..)⟩
instance g_i_isField (p0:TValue):Lw (PV D.bool) (zhg p0) (zaa T 221 [TValue.e false p0] []):=⟨E (zhg.eq_def ..)⟩
instance p_i_areAll_Value_1_l1 (s0 s7:List TValue) (s8:Int):∀ (s9:Int),Lp (kS (kN T (enF [.tmp 4] []) fun t=>⟨sL false 4 (TValue.e false) s0::.d (D.fn 221 [])::zs 16 [],[]⟩) (kR (PV D.bool))) (zct s0 s7 s8 s9) fun k=>go T (enF [.tmp 4] []) zpe (.lp zpf::.bl 0::.sq (.clr [4,6,7,8,9,10,11,12,13,14,15,16,17])::k) ⟨sL false 4 (TValue.e false) s0::.d (D.fn 221 [])::zs 5 (sL false 4 (TValue.e false) s7::sI s8::sI s9::zs 8 []),[]⟩:=Lp1 (zct.partial_correctness s0 s7 s8) (by exact fun _ _ _ _=>G zpe.eq_def)
instance g_i_areAll_Value_1 (p0:List TValue):Lw (PV D.bool) (zdT p0) (zaa T 96 [D.sl false 4 (List.map (TValue.e false) p0),D.fn 221 []] []):=⟨E (zdT.eq_def ..)⟩
instance p_i_ValidObject_j1 (s1:TObject) (s3:Bool):Lp (kR (PV D.bool)) (zcL s1 s3) fun k=>go T (enF [.tmp 2] []) zsl k ⟨Z::.box (TObject.c false s1)::Z::sB s3::zs 122 [],[]⟩:=⟨fun k=>GG (zcL.eq_def ..) zsl.eq_def⟩
instance p_i_ValidObject_j2 (s1:TObject) (s5:Bool):Lp (kR (PV D.bool)) (zbs s1 s5) fun k=>go T (enF [.tmp 2] []) zsm k ⟨Z::.box (TObject.c false s1)::Z::Z::Z::sB s5::zs 120 [],[]⟩:=⟨fun k=>GG (zbs.eq_def ..) zsm.eq_def⟩
instance p_i_ValidObject_j3 (s1:TObject):Lp (kR (PV D.bool)) (zdU s1) fun k=>go T (enF [.tmp 2] []) zsn k ⟨Z::.box (TObject.c false s1)::zs 124 [],[]⟩:=⟨fun k=>GG (zdU.eq_def ..) zsn.eq_def⟩
instance g_i_ValidObject (p0:TObject):Lw (PV D.bool) (zeu p0) (zaa T 162 [TObject.e false p0] []):=⟨E (zeu.eq_def ..)⟩
instance p_i_areAll_Object_l1 (s0 s7:List TObject) (s8:Int):∀ (s9:Int),Lp (kS (kN T (enF [.tmp 4] []) fun t=>⟨sL false 10 (TObject.e false) s0::.d (D.fn 162 [])::zs 16 [],[]⟩) (kR (PV D.bool))) (zcW s0 s7 s8 s9) fun k=>go T (enF [.tmp 4] []) znI (.lp znJ::.bl 0::.sq (.clr [4,6,7,8,9,10,11,12,13,14,15,16,17])::k) ⟨sL false 10 (TObject.e false) s0::.d (D.fn 162 [])::zs 5 (sL false 10 (TObject.e false) s7::sI s8::sI s9::zs 8 []),[]⟩:=Lp1 (zcW.partial_correctness s0 s7 s8) (by exact fun _ _ _ _=>G znI.eq_def)
instance g_i_areAll_Object (p0:List TObject):Lw (PV D.bool) (zev p0) (zaa T 161 [D.sl false 10 (List.map (TObject.e false) p0),D.fn 162 []] []):=⟨E (zev.eq_def ..)⟩
theorem zfc (sto:List (List D)):zaa T 255 [.nils 4,.int .i64 0] sto=some (.nils 4,[],sto):=by
 rw [zaf T (g:=v255) rfl rfl rfl _ _ rfl]
 simp (maxSteps:=9999999) (disch:=omega) only [vx,px,ty,↓reduceIte,seval,fx,vxd,Nat.reduceBNe,most,ifT,ifF,v255,zts,Int.reduceToNat,Int.toNat_zero,zej.eq_3]
theorem zfd (n:Int) (sto:List (List D)) (h:0<n) (h2:n<=2147483648):zaa T 255 [.nils 4,.int .i64 n] sto=some (.sl true 4 [],[],sto):=by
 rw [zaf T (g:=v255) rfl rfl rfl _ _ rfl]
 simp (maxSteps:=9999999) (disch:=omega) only [vx,px,ty,↓reduceIte,seval,fx,vxd,Nat.reduceBNe,most,ifT,ifF,v255,zts,Int.reduceToNat,Int.toNat_zero,zej.eq_3,zpF,Int.sub_zero]
theorem zfH (a b:List TValue) (sto:List (List D)) (h:a.length + b.length<=2147483648):zaa T 223 [.sl false 1 [.sl false 4 (a.map (TValue.e false)),.sl false 4 (b.map (TValue.e false))]] sto=some (.sl true 4 ((a++b).map (TValue.e false)),[],sto):=by
 by_cases h0:a.length + b.length=0
 ·obtain rfl:a=[]:=List.length_eq_zero_iff.1 (by omega)
  obtain rfl:b=[]:=List.length_eq_zero_iff.1 (by omega)
  have e0:((0:Nat):Int) + ((0:Nat):Int)=0:=rfl
  rw [zaf T (g:=v223) rfl rfl rfl _ _ rfl]
  simp (maxSteps:=9999999) (disch:=omega) only [vx,px,ty,↓reduceIte,seval,fx,vxd,Nat.reduceBNe,most,ifT,ifF,v223,zsP,go_lpc,znK,go_lpc,znL,List.length_map,zfc,Int.reduceToNat,Int.toNat_zero,zej.eq_3,Int.add_zero,Int.zero_add,Int.reduceAdd,e0]
 ·rw [List.map_append]
  have e1:=fun sto=>zfd ((a.length:Int) + (b.length:Int)) sto (by omega) (by omega)
  rw [zaf T (g:=v223) rfl rfl rfl _ _ rfl]
  simp (maxSteps:=9999999) (disch:=omega) only [vx,px,ty,↓reduceIte,seval,fx,vxd,Nat.reduceBNe,most,ifT,ifF,v223,zsP,go_lpc,znK,go_lpc,znL,List.length_map,e1,Int.reduceToNat,Int.reduceAdd,Int.zero_add,Int.toNat_zero,zej.eq_3]
instance g_slices_Concat_Value_Value (a b:List TValue):Lw (fun r x=>Pu (D.sl true 4 (List.map (TValue.e false) r)) [] x) (zbj a b) (zaa T 223 [D.sl false 1 [D.sl false 4 (List.map (TValue.e false) a),D.sl false 4 (List.map (TValue.e false) b)]] []):=⟨by
 unfold zbj
 refine Le.chk fun h=>Le.ret ?_
 exact ⟨_,zfH a b [] h⟩⟩
instance g_i_Object_values (p0:TObject):Lw (PV (dL true 4 (TValue.e false))) (zfF p0) (zaa T 164 [TObject.e false p0] []):=⟨by
 refine E0 (h:=?_) (zfF.eq_def ..)
 try conv=>arg 3;simp (maxSteps:=999999) only [push_cast,↓reduceIte,seval, *]
 refine Le.call ((g_slices_Concat_Value_Value p0.Keys p0.Vals).h) fun r9 h _ hy=>?_
 first|subst hy|obtain ⟨_,rfl⟩:=hy
 try conv=>arg 3;simp (maxSteps:=999999) only [push_cast,↓reduceIte,seval, *]
 refine Le.itq (fun h_1=>?_) (fun h_1=>?_)
 ·try conv=>arg 3;simp (maxSteps:=999999) only [push_cast,↓reduceIte,seval, *]
  refine Le.app fun c17 h_2 h_3=>?_
  replace h_2:List.map (TValue.e false) r9++[D.agg [D.int .i64 p0.Default.Kind,D.int .i64 p0.Default.Num,D.str p0.Default.Text,D.int .i64 p0.Default.Ref]]=List.map (TValue.e false) c17:=by rw [h_2,List.map_append] <;> first|rfl|simp only [eqs]
  replace h_3:r9.length + 1<=most:=h_3
  exact A
 ·exact A⟩
instance g_i_refers (p0:Int):Lw (PV D.bool) (zhA p0) (zaa T 185 [dI p0] []):=⟨E (zhA.eq_def ..)⟩
instance g_cmp_isNaN_int64 (p0:Int):Lw (PV D.bool) (zew p0) (zaa T 260 [dI p0] []):=⟨E (zew.eq_def ..)⟩
instance g_cmp_Compare_int64 (p0 p1:Int):Lw (PV dI) (zeL p0 p1) (zaa T 231 [dI p0,dI p1] []):=⟨E (zeL.eq_def ..)⟩
instance g_i_Heap_find_1 (p0:TObject) (p1:Int):Lw (PV dI) (zex p0 p1) (zaa T 230 [TObject.e false p0,dI p1] []):=⟨E (zex.eq_def ..)⟩
instance p_slices_BinarySearchFunc_Object_Object_int64_l1 (s0:List TObject) (s1 s8:Int):∀ (s9 s10:Int),Lp (kN T (enF [.tmp 6,.tmp 7] []) fun t=>⟨sL false 10 (TObject.e false) s0::sI s1::.d (D.fn 230 [])::zs 5 (sI s8::sI t::zs 39 []),[]⟩) (zai s0 s1 s8 s9 s10) fun k=>go T (enF [.tmp 6,.tmp 7] []) zsQ (.lp zsR::.bl 0::.sq (.clr [6,7,10,11,12,13,14,15,16,17,18,19,20,21,22,23,24,25,26,27,28,29,30,31,32,33,34])::k) ⟨sL false 10 (TObject.e false) s0::sI s1::.d (D.fn 230 [])::zs 5 (sI s8::sI s9::sI s10::zs 38 []),[]⟩:=Lp2 (zai.partial_correctness s0 s1 s8) (by exact fun _ _ _ _ _=>G zsQ.eq_def)
instance g_slices_BinarySearchFunc_Object_Object_int64 (p0:List TObject) (p1:Int):Lw (PV fun (r:Int × Bool)=>D.tup [dI r.1,D.bool r.2]) (zaF p0 p1) (zaa T 229 [D.sl false 10 (List.map (TObject.e false) p0),dI p1,D.fn 230 []] []):=⟨E (zaF.eq_def ..)⟩
instance g_i_Heap_find (p0:THeap) (p1:Int):Lw (PV dI) (zgE p0 p1) (zaa T 186 [THeap.e false p0,dI p1] []):=⟨E (zgE.eq_def ..)⟩
instance g_i_objectKind (p0:Int):Lw (PV dI) (zhh p0) (zaa T 187 [dI p0] []):=⟨E (zhh.eq_def ..)⟩
instance p_i_Heap_fits_j1 (s2:THeap) (s3:TValue):Lp (kR (PV D.bool)) (zfV s2 s3) fun k=>go T (enF [.tmp 4] []) zwf k ⟨Z::Z::.box (THeap.c false s2)::.box (TValue.c false s3)::zs 31 [],[]⟩:=⟨fun k=>GG (zfV.eq_def ..) zwf.eq_def⟩
instance g_i_Heap_fits (p0:THeap) (p1:TValue):Lw (PV D.bool) (zdZ p0 p1) (zaa T 98 [THeap.e false p0,TValue.e false p1] []):=⟨E (zdZ.eq_def ..)⟩
instance p_i_areAll_Value_2_l1 (s0:List TValue) (s1:THeap) (s7:List TValue) (s8:Int):∀ (s9:Int),Lp (kS (kN T (enF [.tmp 4] []) fun t=>⟨sL false 4 (TValue.e false) s0::.d (D.bf 98 [THeap.e false s1])::zs 16 [],[]⟩) (kR (PV D.bool))) (zcu s0 s1 s7 s8 s9) fun k=>go T (enF [.tmp 4] []) zpe (.lp zpf::.bl 0::.sq (.clr [4,6,7,8,9,10,11,12,13,14,15,16,17])::k) ⟨sL false 4 (TValue.e false) s0::.d (D.bf 98 [THeap.e false s1])::zs 5 (sL false 4 (TValue.e false) s7::sI s8::sI s9::zs 8 []),[]⟩:=Lp1 (zcu.partial_correctness s0 s1 s7 s8) (by exact fun _ _ _ _=>G zpe.eq_def)
instance g_i_areAll_Value_2 (p0:List TValue) (p1:THeap):Lw (PV D.bool) (zbP p0 p1) (zaa T 96 [D.sl false 4 (List.map (TValue.e false) p0),D.bf 98 [THeap.e false p1]] []):=⟨E (zbP.eq_def ..)⟩
instance g_i_ValidHeap_1 (p0:TObject) (g0:THeap):Lw (fun (r:Bool) x=>x=some (D.bool r,[],[(THeap.c false g0)])) (zey p0 g0) (zaa T 163 [TObject.e false p0,D.ref 0 0] [(THeap.c false g0)]):=⟨E (zey.eq_def ..)⟩
instance p_i_areAll_Object_1_l1 (s0 s7:List TObject) (s8:Int) (g0:THeap):∀ (s9:Int),Lp (kS (kN T (enF [.tmp 4] []) fun t=>⟨sL false 10 (TObject.e false) s0::.d (D.fn 163 [D.ref 0 0])::zs 16 [],[(THeap.c false g0)]⟩) (kR (fun (r:Bool) x=>x=some (D.bool r,[],[(THeap.c false g0)])))) (zca s0 s7 s8 g0 s9) fun k=>go T (enF [.tmp 4] []) znI (.lp znJ::.bl 0::.sq (.clr [4,6,7,8,9,10,11,12,13,14,15,16,17])::k) ⟨sL false 10 (TObject.e false) s0::.d (D.fn 163 [D.ref 0 0])::zs 5 (sL false 10 (TObject.e false) s7::sI s8::sI s9::zs 8 []),[(THeap.c false g0)]⟩:=Lp1 (zca.partial_correctness s0 s7 s8 g0) (by exact fun _ _ _ _=>G znI.eq_def)
instance g_i_areAll_Object_1 (p0:List TObject) (g0:THeap):Lw (fun (r:Bool) x=>x=some (D.bool r,[],[(THeap.c false g0)])) (zdw p0 g0) (zaa T 161 [D.sl false 10 (List.map (TObject.e false) p0),D.fn 163 [D.ref 0 0]] [(THeap.c false g0)]):=⟨E (zdw.eq_def ..)⟩
instance p_i_ValidHeap_l1 (s1:THeap) (s23:List TObject) (s24:Int):∀ (s3 s25:Int),Lp (kS (kN T (enF [.tmp 2] []) fun t=>⟨Z::.box (THeap.c false s1)::zs 45 [],[]⟩) (kR (PV D.bool))) (zdJ s1 s23 s24 s3 s25) fun k=>go T (enF [.tmp 2] []) zwc (.lp zwd::.bl 0::.sq (.clr [0,2,3,5,6,7,8,9,10,11,12,13,14,15,16,17,18,19,20,21,22,23,24,25,26,27,28,29,30,31,32,33,34,35,36,37,38,39,40,41,42])::k) ⟨Z::.box (THeap.c false s1)::Z::sI s3::zs 18 (.ptr ⟨.slot 1,[],1⟩::sL false 10 (TObject.e false) s23::sI s24::sI s25::zs 21 []),[]⟩:=Lp2 (zdJ.partial_correctness s1 s23 s24) (by exact fun _ _ _ _ _=>G zwc.eq_def)
instance p_i_ValidHeap_j1 (s1:THeap):Lp (kR (PV D.bool)) (zfW s1) fun k=>go T (enF [.tmp 2] []) zwe k ⟨Z::.box (THeap.c false s1)::zs 45 [],[]⟩:=⟨fun k=>GG (zfW.eq_def ..) zwe.eq_def⟩
instance g_i_ValidHeap (p0:THeap):Lw (PV D.bool) (zgF p0) (zaa T 93 [THeap.e false p0] []):=⟨E (zgF.eq_def ..)⟩
instance g_i_nameOfBinding (p0:TBinding):Lw (PV D.str) (zfG p0) (zaa T 166 [TBinding.e false p0] []):=⟨E (zfG.eq_def ..)⟩
instance p_i_isSorted_Binding_l1 (s0:List TBinding):∀ (s5:Int),Lp (kS (kN T (enF [.tmp 4] []) fun t=>⟨sL false 5 (TBinding.e false) s0::.d (D.fn 166 [])::zs 24 [],[]⟩) (kR (PV D.bool))) (zbV s0 s5) fun k=>go T (enF [.tmp 4] []) zso (.lp zsp::.bl 0::.sq (.clr (rg 4 22))::k) ⟨sL false 5 (TBinding.e false) s0::.d (D.fn 166 [])::Z::Z::Z::sI s5::zs 20 [],[]⟩:=Lp1 (zbV.partial_correctness s0) (by exact fun _ _ _ _=>G zso.eq_def)
instance g_i_isSorted_Binding (p0:List TBinding):Lw (PV D.bool) (zcX p0) (zaa T 165 [D.sl false 5 (List.map (TBinding.e false) p0),D.fn 166 []] []):=⟨E (zcX.eq_def ..)⟩
instance g_i_null:Lw (PV (TValue.e false)) (zyx) (zaa T 256 [] []):=⟨E (zyx.eq_def ..)⟩
instance g_i_IsNull (p0:TValue):Lw (PV D.bool) (zlP p0) (zaa T 224 [TValue.e false p0] []):=⟨E (zlP.eq_def ..)⟩
instance g_i_Binding_isValid (p0:TBinding):Lw (PV D.bool) (zdx p0) (zaa T 172 [TBinding.e false p0] []):=⟨E (zdx.eq_def ..)⟩
instance g_i_areVars_1 (p0:TBinding) (g0:THeap):Lw (fun (r:Bool) x=>x=some (D.bool r,[],[(THeap.c false g0)])) (zgG p0 g0) (zaa T 202 [TBinding.e false p0,D.ref 0 0] [(THeap.c false g0)]):=⟨E (zgG.eq_def ..)⟩
instance p_i_areAll_Binding_l1 (s0 s7:List TBinding) (s8:Int) (g0:THeap):∀ (s9:Int),Lp (kS (kN T (enF [.tmp 4] []) fun t=>⟨sL false 5 (TBinding.e false) s0::.d (D.fn 202 [D.ref 0 0])::zs 16 [],[(THeap.c false g0)]⟩) (kR (fun (r:Bool) x=>x=some (D.bool r,[],[(THeap.c false g0)])))) (zcv s0 s7 s8 g0 s9) fun k=>go T (enF [.tmp 4] []) zsq (.lp zsr::.bl 0::.sq (.clr [4,6,7,8,9,10,11,12,13,14,15,16,17])::k) ⟨sL false 5 (TBinding.e false) s0::.d (D.fn 202 [D.ref 0 0])::zs 5 (sL false 5 (TBinding.e false) s7::sI s8::sI s9::zs 8 []),[(THeap.c false g0)]⟩:=Lp1 (zcv.partial_correctness s0 s7 s8 g0) (by exact fun _ _ _ _=>G zsq.eq_def)
instance g_i_areAll_Binding (p0:List TBinding) (g0:THeap):Lw (fun (r:Bool) x=>x=some (D.bool r,[],[(THeap.c false g0)])) (zfh p0 g0) (zaa T 171 [D.sl false 5 (List.map (TBinding.e false) p0),D.fn 202 [D.ref 0 0]] [(THeap.c false g0)]):=⟨E (zfh.eq_def ..)⟩
instance g_i_areVars (p0:List TBinding) (p1:THeap):Lw (PV D.bool) (zgp p0 p1) (zaa T 130 [D.sl false 5 (List.map (TBinding.e false) p0),THeap.e false p1] []):=⟨E (zgp.eq_def ..)⟩
instance g_i_isData (p0:TValue):Lw (PV D.bool) (zjH p0) (zaa T 264 [TValue.e false p0] []):=⟨E (zjH.eq_def ..)⟩
instance p_i_genKids_j1 (s0 s3:Int) (s10:Bool):Lp (kS (kN T (enF [.tmp 2] []) fun t=>⟨sI s0::Z::Z::sI s3::zs 6 ([sB t.1,Z,Z,Z,sB t.2.1,sB t.2.2.1,sB t.2.2.2.1,sB t.2.2.2.2]),[]⟩) (kR (PV dI))) (zfQ s0 s3 s10) fun k=>go T (enF [.tmp 2] []) ztv k ⟨sI s0::Z::Z::sI s3::zs 6 (sB s10::zs 7 []),[]⟩:=⟨fun k=>GG (zfQ.eq_def ..) ztv.eq_def⟩
instance p_i_genKids_j2 (s0 s3:Int) (s4:Bool):Lp (kS (kN T (enF [.tmp 2] []) fun t=>⟨sI s0::Z::Z::sI s3::zs 6 ([sB t.1,Z,Z,Z,sB t.2.1,sB t.2.2.1,sB t.2.2.2.1,sB t.2.2.2.2]),[]⟩) (kR (PV dI))) (zeg s0 s3 s4) fun k=>go T (enF [.tmp 2] []) ztw k ⟨sI s0::Z::Z::sI s3::sB s4::zs 13 [],[]⟩:=⟨fun k=>GG (zeg.eq_def ..) ztw.eq_def⟩
instance g_i_genKids (p0:Int):Lw (PV dI) (zgq p0) (zaa T 266 [dI p0] []):=⟨E (zgq.eq_def ..)⟩
instance g_i_isOperatorName (p0:ByteArray):Lw (PV D.bool) (zcM p0) (zaa T 265 [D.str p0] []):=⟨E (zcM.eq_def ..)⟩
instance p_i_Gen_hasForm_j2 (s1:TGen) (s3 s4 s5:Bool):Lp (kR (PV D.bool)) (zbQ s1 s3 s4 s5) fun k=>go T (enF [.tmp 2] []) ztn k ⟨Z::.box (TGen.c false s1)::Z::sB s3::sB s4::sB s5::zs 55 [],[]⟩:=⟨fun k=>GG (zbQ.eq_def ..) ztn.eq_def⟩
instance p_i_Gen_hasForm_j1 (s1:TGen) (s3 s4 s5:Bool) (s17:Int) (s23:Bool):Lp (kN T (enF [.tmp 2] []) fun t=>⟨Z::.box (TGen.c false s1)::Z::sB t.1::sB t.2.1::sB s5::zs 11 (sI s17::zs 5 (sB t.2.2::zs 37 [])),[]⟩) (zcN s1 s3 s4 s5 s17 s23) fun k=>go T (enF [.tmp 2] []) ztm k ⟨Z::.box (TGen.c false s1)::Z::sB s3::sB s4::sB s5::zs 11 (sI s17::zs 5 (sB s23::zs 37 [])),[]⟩:=⟨fun k=>GG (zcN.eq_def ..) ztm.eq_def⟩
instance g_i_Gen_hasForm (p0:TGen):Lw (PV D.bool) (zfo p0) (zaa T 244 [D.agg [dI p0.Kind,dI p0.Num,D.str p0.Text,dI p0.Value.Kind,dI p0.Value.Num,D.str p0.Value.Text,dI p0.Value.Ref,D.sl false 8 (List.map (TGen.e false) p0.Kids)]] []):=⟨E (zfo.eq_def ..)⟩
noncomputable abbrev zdl (s1:Int) (s2:TGen) (s17:List TGen) (s18 s19:Int) (k:List Fr):Option Res:=go T (enF [.tmp 4] []) zsB (.lp zsC::.bl 0::.sq (.clr [0,2,4,6,7,8,9,10,11,12,13,14,15,16,17,18,19,20,21,22,23,24,25,26,27,28])::k) ⟨Z::sI s1::.box (TGen.c false s2)::zs 13 (.ptr ⟨.slot 2,[],7⟩::sL false 8 (TGen.e false) s17::sI s18::sI s19::zs 10 []),[]⟩
noncomputable abbrev zdm (s1:Int) (s2:TGen) (s17:List TGen) (s18 s19:Int):List Fr->Int->Option Res->Prop:=(kN T (enF [.tmp 4] []) fun t=>⟨Z::sI t::zs 28 [],[]⟩)
noncomputable abbrev zeD (s1:Int) (s2:TGen) (k:List Fr):Option Res:=go T (enF [.tmp 4] []) zsD k ⟨Z::sI s1::.box (TGen.c false s2)::zs 27 [],[]⟩
noncomputable abbrev zeE (s1:Int) (s2:TGen):List Fr->Int->Option Res->Prop:=(kR (PV dI))
theorem zfI:(∀ (s1:Int) (s2:TGen) (s17:List TGen) (s18 s19:Int) r,zbk s1 s2 s17 s18 s19=some r->∀ k:List Fr,zdm s1 s2 s17 s18 s19 k r (zdl s1 s2 s17 s18 s19 k))∧(∀ (p0:TGen) (p1:Int) r,zeh p0 p1=some r->(PV dI) r (zaa T 208 [D.agg [dI p0.Kind,dI p0.Num,D.str p0.Text,dI p0.Value.Kind,dI p0.Value.Num,D.str p0.Value.Text,dI p0.Value.Ref,D.sl false 8 (List.map (TGen.e false) p0.Kids)],dI p1] []))∧(∀ (s1:Int) (s2:TGen) r,zez s1 s2=some r->∀ k:List Fr,zeE s1 s2 k r (zeD s1 s2 k)):=by
 refine zbk.mutual_partial_correctness (motive_1:=fun s1 s2 s17 s18 s19 r=>∀ k:List Fr,zdm s1 s2 s17 s18 s19 k r (zdl s1 s2 s17 s18 s19 k)) (motive_2:=fun p0 p1 r=>(PV dI) r (zaa T 208 [D.agg [dI p0.Kind,dI p0.Num,D.str p0.Text,dI p0.Value.Kind,dI p0.Value.Num,D.str p0.Value.Text,dI p0.Value.Ref,D.sl false 8 (List.map (TGen.e false) p0.Kids)],dI p1] [])) (motive_3:=fun s1 s2 r=>∀ k:List Fr,zeE s1 s2 k r (zeD s1 s2 k)) ?_ ?_ ?_
 ·intro zbk zeh i_i_countGen_l1 i_i_countGen
  have p_i_countGen_l1:∀ (s1:Int) (s2:TGen) (s17:List TGen) (s18 s19:Int),Lp (zdm s1 s2 s17 s18 s19) (zbk s1 s2 s17 s18 s19) (zdl s1 s2 s17 s18 s19):=fun s1 s2 s17 s18 s19=>⟨fun k r hr=>i_i_countGen_l1 s1 s2 s17 s18 s19 r hr k⟩
  have g_i_countGen:∀ (p0:TGen) (p1:Int),Lw (PV dI) (zeh p0 p1) (zaa T 208 [D.agg [dI p0.Kind,dI p0.Num,D.str p0.Text,dI p0.Value.Kind,dI p0.Value.Num,D.str p0.Value.Text,dI p0.Value.Ref,D.sl false 8 (List.map (TGen.e false) p0.Kids)],dI p1] []):=fun p0 p1=>⟨fun r hr=>i_i_countGen p0 p1 r hr⟩
  clear i_i_countGen_l1 i_i_countGen
  intro s1 s2 s17 s18 s19
  refine Le.pc ?_
  intro k
  refine G0 zsB.eq_def ?_
  exact A
 ·intro zez i_i_countGen_j1
  have p_i_countGen_j1:∀ (s1:Int) (s2:TGen),Lp (zeE s1 s2) (zez s1 s2) (zeD s1 s2):=fun s1 s2=>⟨fun k r hr=>i_i_countGen_j1 s1 s2 r hr k⟩
  clear i_i_countGen_j1
  intro p0 p1
  refine (show Le (PV dI) _ (zaa T 208 [D.agg [dI p0.Kind,dI p0.Num,D.str p0.Text,dI p0.Value.Kind,dI p0.Value.Num,D.str p0.Value.Text,dI p0.Value.Ref,D.sl false 8 (List.map (TGen.e false) p0.Kids)],dI p1] []) from E0 (h:=?_) rfl)
  exact A
 ·intro zbk i_i_countGen_l1
  have p_i_countGen_l1:∀ (s1:Int) (s2:TGen) (s17:List TGen) (s18 s19:Int),Lp (zdm s1 s2 s17 s18 s19) (zbk s1 s2 s17 s18 s19) (zdl s1 s2 s17 s18 s19):=fun s1 s2 s17 s18 s19=>⟨fun k r hr=>i_i_countGen_l1 s1 s2 s17 s18 s19 r hr k⟩
  clear i_i_countGen_l1
  intro s1 s2
  refine Le.pc ?_
  intro k
  refine G0 zsD.eq_def ?_
  exact A
instance p_i_countGen_l1 (s1:Int) (s2:TGen) (s17:List TGen) (s18 s19:Int):Lp (zdm s1 s2 s17 s18 s19) (zbk s1 s2 s17 s18 s19) (zdl s1 s2 s17 s18 s19):=⟨fun k r hr=>(zfI).1 s1 s2 s17 s18 s19 r hr k⟩
instance g_i_countGen (p0:TGen) (p1:Int):Lw (PV dI) (zeh p0 p1) (zaa T 208 [D.agg [dI p0.Kind,dI p0.Num,D.str p0.Text,dI p0.Value.Kind,dI p0.Value.Num,D.str p0.Value.Text,dI p0.Value.Ref,D.sl false 8 (List.map (TGen.e false) p0.Kids)],dI p1] []):=⟨fun r hr=>(zfI).2.1 p0 p1 r hr⟩
instance p_i_countGen_j1 (s1:Int) (s2:TGen):Lp (zeE s1 s2) (zez s1 s2) (zeD s1 s2):=⟨fun k r hr=>(zfI).2.2 s1 s2 r hr k⟩
instance g_i_ValidGen (p0:TGen):Lw (PV D.bool) (zhB p0) (zaa T 149 [D.agg [dI p0.Kind,dI p0.Num,D.str p0.Text,dI p0.Value.Kind,dI p0.Value.Num,D.str p0.Value.Text,dI p0.Value.Ref,D.sl false 8 (List.map (TGen.e false) p0.Kids)]] []):=⟨E (zhB.eq_def ..)⟩
noncomputable abbrev zck (s0:List TGen) (s1:THeap) (s7:List TGen) (s8 s9:Int) (k:List Fr):Option Res:=go T (enF [.tmp 4] []) zsE (.lp zsF::.bl 0::.sq (.clr [4,6,7,8,9,10,11,12,13,14,15,16,17])::k) ⟨sL false 8 (TGen.e false) s0::.d (D.bf 150 [THeap.e false s1])::zs 5 (sL false 8 (TGen.e false) s7::sI s8::sI s9::zs 8 []),[]⟩
noncomputable abbrev zcl (s0:List TGen) (s1:THeap) (s7:List TGen) (s8 s9:Int):List Fr->((Unit ⊕ Bool))->Option Res->Prop:=(kS (kN T (enF [.tmp 4] []) fun t=>⟨sL false 8 (TGen.e false) s0::.d (D.bf 150 [THeap.e false s1])::zs 16 [],[]⟩) (kR (PV D.bool)))
theorem zgb (f0:THeap):(∀ (s0 s7:List TGen) (s8 s9:Int) r,zaW s0 f0 s7 s8 s9=some r->∀ k:List Fr,zcl s0 f0 s7 s8 s9 k r (zck s0 f0 s7 s8 s9 k))∧(∀ (p1:TGen) r,zbC f0 p1=some r->(PV D.bool) r (zaa T 150 [THeap.e false f0,D.agg [dI p1.Kind,dI p1.Num,D.str p1.Text,dI p1.Value.Kind,dI p1.Value.Num,D.str p1.Value.Text,dI p1.Value.Ref,D.sl false 8 (List.map (TGen.e false) p1.Kids)]] []))∧(∀ (p0:List TGen) r,zei p0 f0=some r->(PV D.bool) r (zaa T 209 [D.sl false 8 (List.map (TGen.e false) p0),D.bf 150 [THeap.e false f0]] [])):=by
 refine zaW.mutual_partial_correctness f0 (motive_1:=fun s0 s7 s8 s9 r=>∀ k:List Fr,zcl s0 f0 s7 s8 s9 k r (zck s0 f0 s7 s8 s9 k)) (motive_2:=fun p1 r=>(PV D.bool) r (zaa T 150 [THeap.e false f0,D.agg [dI p1.Kind,dI p1.Num,D.str p1.Text,dI p1.Value.Kind,dI p1.Value.Num,D.str p1.Value.Text,dI p1.Value.Ref,D.sl false 8 (List.map (TGen.e false) p1.Kids)]] [])) (motive_3:=fun p0 r=>(PV D.bool) r (zaa T 209 [D.sl false 8 (List.map (TGen.e false) p0),D.bf 150 [THeap.e false f0]] [])) ?_ ?_ ?_
 ·intro zaW zbC i_i_areAll_Gen_l1 i_i_Heap_fitsGen
  have p_i_areAll_Gen_l1:∀ (s0 s7:List TGen) (s8 s9:Int),Lp (zcl s0 f0 s7 s8 s9) (zaW s0 s7 s8 s9) (zck s0 f0 s7 s8 s9):=fun s0 s7 s8 s9=>⟨fun k r hr=>i_i_areAll_Gen_l1 s0 s7 s8 s9 r hr k⟩
  have g_i_Heap_fitsGen:∀ (p1:TGen),Lw (PV D.bool) (zbC p1) (zaa T 150 [THeap.e false f0,D.agg [dI p1.Kind,dI p1.Num,D.str p1.Text,dI p1.Value.Kind,dI p1.Value.Num,D.str p1.Value.Text,dI p1.Value.Ref,D.sl false 8 (List.map (TGen.e false) p1.Kids)]] []):=fun p1=>⟨fun r hr=>i_i_Heap_fitsGen p1 r hr⟩
  clear i_i_areAll_Gen_l1 i_i_Heap_fitsGen
  intro s0 s7 s8 s9
  refine Le.pc ?_
  intro k
  refine G0 zsE.eq_def ?_
  exact A
 ·intro zei i_i_areAll_Gen
  have g_i_areAll_Gen:∀ (p0:List TGen),Lw (PV D.bool) (zei p0) (zaa T 209 [D.sl false 8 (List.map (TGen.e false) p0),D.bf 150 [THeap.e false f0]] []):=fun p0=>⟨fun r hr=>i_i_areAll_Gen p0 r hr⟩
  clear i_i_areAll_Gen
  intro p1
  refine (show Le (PV D.bool) _ (zaa T 150 [THeap.e false f0,D.agg [dI p1.Kind,dI p1.Num,D.str p1.Text,dI p1.Value.Kind,dI p1.Value.Num,D.str p1.Value.Text,dI p1.Value.Ref,D.sl false 8 (List.map (TGen.e false) p1.Kids)]] []) from E0 (h:=?_) rfl)
  exact A
 ·intro zaW i_i_areAll_Gen_l1
  have p_i_areAll_Gen_l1:∀ (s0 s7:List TGen) (s8 s9:Int),Lp (zcl s0 f0 s7 s8 s9) (zaW s0 s7 s8 s9) (zck s0 f0 s7 s8 s9):=fun s0 s7 s8 s9=>⟨fun k r hr=>i_i_areAll_Gen_l1 s0 s7 s8 s9 r hr k⟩
  clear i_i_areAll_Gen_l1
  intro p0
  refine (show Le (PV D.bool) _ (zaa T 209 [D.sl false 8 (List.map (TGen.e false) p0),D.bf 150 [THeap.e false f0]] []) from E0 (h:=?_) rfl)
  exact A
instance p_i_areAll_Gen_l1 (s0:List TGen) (s1:THeap) (s7:List TGen) (s8 s9:Int):Lp (zcl s0 s1 s7 s8 s9) (zaW s0 s1 s7 s8 s9) (zck s0 s1 s7 s8 s9):=⟨fun k r hr=>(zgb s1).1 s0 s7 s8 s9 r hr k⟩
instance g_i_Heap_fitsGen (p0:THeap) (p1:TGen):Lw (PV D.bool) (zbC p0 p1) (zaa T 150 [THeap.e false p0,D.agg [dI p1.Kind,dI p1.Num,D.str p1.Text,dI p1.Value.Kind,dI p1.Value.Num,D.str p1.Value.Text,dI p1.Value.Ref,D.sl false 8 (List.map (TGen.e false) p1.Kids)]] []):=⟨fun r hr=>(zgb p0).2.1 p1 r hr⟩
instance g_i_areAll_Gen (p0:List TGen) (p1:THeap):Lw (PV D.bool) (zei p0 p1) (zaa T 209 [D.sl false 8 (List.map (TGen.e false) p0),D.bf 150 [THeap.e false p1]] []):=⟨fun r hr=>(zgb p1).2.2 p0 r hr⟩
instance g_i_Cursor_isZero (p0:TCursor):Lw (PV D.bool) (zdh p0) (zaa T 151 [D.agg [dI p0.Phase,dI p0.Count,D.sl false 4 (List.map (TValue.e false) p0.Vals),D.sl false 4 (List.map (TCursor.e false) p0.Kids)]] []):=⟨E (zdh.eq_def ..)⟩
instance g_i_Gen_branch (p0:TGen) (p1:Int):Lw (kT (PV (dL false 8 (TGen.e false))) (PV fun (r:Unit)=>D.sl true 8 [])) (zdi p0 p1) (zaa T 245 [D.agg [dI p0.Kind,dI p0.Num,D.str p0.Text,dI p0.Value.Kind,dI p0.Value.Num,D.str p0.Value.Text,dI p0.Value.Ref,D.sl false 8 (List.map (TGen.e false) p0.Kids)],dI p1] []):=⟨by
 refine E0 (h:=?_) (zdi.eq_def ..)
 try conv=>arg 3;simp (maxSteps:=999999) only [push_cast,↓reduceIte,seval, *]
 refine Le.call ((g_i_within p1 1 (p0.Kids.length:Int)).h) fun r9 h _ hy=>?_
 first|subst hy|obtain ⟨_,rfl⟩:=hy
 try conv=>arg 3;simp (maxSteps:=999999) only [push_cast,↓reduceIte,seval, *]
 refine Le.bool (fun h_1=>?_) (fun h_1=>?_)
 ·try conv=>arg 3;simp (maxSteps:=999999) only [push_cast,↓reduceIte,seval, *]
  refine Le.sub fun c16 h_2 h_3 h_4 h_5 h_6=>?_
  replace h_2:List.take (p1.toNat - (IntKind.wrap .i64 (p1 - 1)).toNat) (List.drop (IntKind.wrap .i64 (p1 - 1)).toNat (List.map (TGen.e false) p0.Kids))=List.map (TGen.e false) c16:=by rw [h_2];exact zux ..
  exact A
 ·exact A⟩
instance p_i_Gen_form_j1 (s1:Int) (s2:TGen) (s4:TcursorForm) (s5:List Int) (s8:Int) (s33:Bool):Lp (kS (kN T (enF [.cell 4 (.many 4)] []) fun t=>⟨Z::sI s1::.box (TGen.c false s2)::Z::.box (TcursorForm.c true s4)::sL true 1 dI s5::Z::Z::sI s8::zs 24 (sB t.1::zs 6 (sB t.2.1::sB t.2.2.1::zs 6 (sB t.2.2.2.1::sB t.2.2.2.2.1::zs 4 (sB t.2.2.2.2.2.1::sB t.2.2.2.2.2.2.1::zs 4 (sB t.2.2.2.2.2.2.2.1::sB t.2.2.2.2.2.2.2.2::zs 11 []))))),[]⟩) (kR (kT (PV fun (r:TcursorForm)=>D.agg [D.sl true 1 (List.map dI r.phases),dI r.counts,dI r.vals,D.sl false 8 (List.map (TGen.e false) r.kids)]) (PV fun (r:(List Int) × Int × Int)=>D.agg [D.sl true 1 (List.map dI r.1),dI r.2.1,dI r.2.2,D.sl true 8 []])))) (zfp s1 s2 s4 s5 s8 s33) fun k=>go T (enF [.cell 4 (.many 4)] []) zsG k ⟨Z::sI s1::.box (TGen.c false s2)::Z::.box (TcursorForm.c true s4)::sL true 1 dI s5::Z::Z::sI s8::zs 24 (sB s33::zs 39 []),[]⟩:=⟨fun k=>GG (zfp.eq_def ..) zsG.eq_def⟩
instance p_i_Gen_form_j2 (s1:Int) (s2:TGen) (s4:TcursorForm) (s5:List Int) (s8:Int) (s13:Bool):Lp (kS (kN T (enF [.cell 4 (.many 4)] []) fun t=>⟨Z::sI s1::.box (TGen.c false s2)::Z::.box (TcursorForm.c true s4)::sL true 1 dI s5::Z::Z::sI s8::zs 24 (sB t.1::zs 6 (sB t.2.1::sB t.2.2.1::zs 6 (sB t.2.2.2.1::sB t.2.2.2.2.1::zs 4 (sB t.2.2.2.2.2.1::sB t.2.2.2.2.2.2.1::zs 4 (sB t.2.2.2.2.2.2.2.1::sB t.2.2.2.2.2.2.2.2::zs 11 []))))),[]⟩) (kR (kT (PV fun (r:TcursorForm)=>D.agg [D.sl true 1 (List.map dI r.phases),dI r.counts,dI r.vals,D.sl false 8 (List.map (TGen.e false) r.kids)]) (PV fun (r:(List Int) × Int × Int)=>D.agg [D.sl true 1 (List.map dI r.1),dI r.2.1,dI r.2.2,D.sl true 8 []])))) (zbW s1 s2 s4 s5 s8 s13) fun k=>go T (enF [.cell 4 (.many 4)] []) zsH k ⟨Z::sI s1::.box (TGen.c false s2)::Z::.box (TcursorForm.c true s4)::sL true 1 dI s5::Z::Z::sI s8::zs 4 (sB s13::zs 59 []),[]⟩:=⟨fun k=>GG (zbW.eq_def ..) zsH.eq_def⟩
instance p_i_Gen_form_j3 (s1:Int) (s2:TGen) (s4:TcursorForm) (s5:List Int) (s8:Int) (s9:Bool):Lp (kS (kN T (enF [.cell 4 (.many 4)] []) fun t=>⟨Z::sI s1::.box (TGen.c false s2)::Z::.box (TcursorForm.c true s4)::sL true 1 dI s5::Z::Z::sI s8::zs 24 (sB t.1::zs 6 (sB t.2.1::sB t.2.2.1::zs 6 (sB t.2.2.2.1::sB t.2.2.2.2.1::zs 4 (sB t.2.2.2.2.2.1::sB t.2.2.2.2.2.2.1::zs 4 (sB t.2.2.2.2.2.2.2.1::sB t.2.2.2.2.2.2.2.2::zs 11 []))))),[]⟩) (kR (kT (PV fun (r:TcursorForm)=>D.agg [D.sl true 1 (List.map dI r.phases),dI r.counts,dI r.vals,D.sl false 8 (List.map (TGen.e false) r.kids)]) (PV fun (r:(List Int) × Int × Int)=>D.agg [D.sl true 1 (List.map dI r.1),dI r.2.1,dI r.2.2,D.sl true 8 []])))) (zbX s1 s2 s4 s5 s8 s9) fun k=>go T (enF [.cell 4 (.many 4)] []) zsI k ⟨Z::sI s1::.box (TGen.c false s2)::Z::.box (TcursorForm.c true s4)::sL true 1 dI s5::Z::Z::sI s8::sB s9::zs 63 [],[]⟩:=⟨fun k=>GG (zbX.eq_def ..) zsI.eq_def⟩
instance p_i_Gen_form_j4 (s1:Int) (s2:TGen) (s4:TcursorForm) (s5:List Int):Lp (kR (kT (PV fun (r:TcursorForm)=>D.agg [D.sl true 1 (List.map dI r.phases),dI r.counts,dI r.vals,D.sl false 8 (List.map (TGen.e false) r.kids)]) (PV fun (r:(List Int) × Int × Int)=>D.agg [D.sl true 1 (List.map dI r.1),dI r.2.1,dI r.2.2,D.sl true 8 []]))) (zfq s1 s2 s4 s5) fun k=>go T (enF [.cell 4 (.many 4)] []) zsJ k ⟨Z::sI s1::.box (TGen.c false s2)::Z::.box (TcursorForm.c true s4)::sL true 1 dI s5::zs 67 [],[]⟩:=⟨fun k=>GG (zfq.eq_def ..) zsJ.eq_def⟩
instance g_i_Gen_form (p0:TGen) (p1:Int):Lw (kT (PV fun (r:TcursorForm)=>D.agg [D.sl true 1 (List.map dI r.phases),dI r.counts,dI r.vals,D.sl false 8 (List.map (TGen.e false) r.kids)]) (PV fun (r:(List Int) × Int × Int)=>D.agg [D.sl true 1 (List.map dI r.1),dI r.2.1,dI r.2.2,D.sl true 8 []])) (zci p0 p1) (zaa T 210 [D.agg [dI p0.Kind,dI p0.Num,D.str p0.Text,dI p0.Value.Kind,dI p0.Value.Num,D.str p0.Value.Text,dI p0.Value.Ref,D.sl false 8 (List.map (TGen.e false) p0.Kids)],dI p1] []):=⟨E (zci.eq_def ..)⟩
instance g_i_hasCount (p0:Int):Lw (PV D.bool) (zcS p0) (zaa T 211 [dI p0] []):=⟨E (zcS.eq_def ..)⟩
instance p_slices_Index_int64_int64_l1 (s0:List Int) (s1 s7:Int):∀ (s8:Int),Lp (kS (kN T (enF [.tmp 4] []) fun t=>⟨sL false 1 dI s0::sI s1::zs 17 [],[]⟩) (kR (PV dI))) (zaX s0 s1 s7 s8) fun k=>go T (enF [.tmp 4] []) zto (.lp ztp::.bl 0::.sq (.clr (rg 4 15))::k) ⟨sL false 1 dI s0::sI s1::zs 5 (sI s7::sI s8::zs 10 []),[]⟩:=Lp1 (zaX.partial_correctness s0 s1 s7) (by exact fun _ _ _ _=>G zto.eq_def)
instance g_slices_Index_int64_int64 (p0:List Int) (p1:Int):Lw (PV dI) (zcj p0 p1) (zaa T 246 [D.sl false 1 (List.map dI p0),dI p1] []):=⟨E (zcj.eq_def ..)⟩
instance g_slices_Contains_int64_int64 (p0:List Int) (p1:Int):Lw (PV D.bool) (zaL p0 p1) (zaa T 212 [D.sl false 1 (List.map dI p0),dI p1] []):=⟨E (zaL.eq_def ..)⟩
instance p_i_Heap_isSuspended_l1v1 (s3:THeap) (s5:TCursor) (s7:List Int) (s7_1 s7_2 s63 s64:Int):Lp (kN T (enF [.tmp 6] []) fun t=>⟨zs 79 [],[]⟩) (zcw s3 s5 s7 s7_1 s7_2 s63 s64) fun k=>go T (enF [.tmp 6] []) znE (.lp znF::.bl 0::.sq (.clr (rg 0 79))::k) ⟨Z::Z::Z::.box (THeap.c false s3)::Z::.box (TCursor.c false s5)::Z::.box [D.sl true 1 (List.map dI s7),dI s7_1,dI s7_2,D.sl true 8 []]::zs 53 (.ptr ⟨.slot 7,[],3⟩::.bor ⟨.slot 7,[],3⟩ .one::sI s63::sI s64::zs 14 []),[]⟩:=⟨fun k=>GG (zcw.eq_def ..) znE.eq_def⟩
instance p_i_Heap_isSuspended_j1v1 (s3:THeap) (s5:TCursor) (s7:List Int) (s7_1 s7_2:Int):Lp (kR (PV D.bool)) (zcx s3 s5 s7 s7_1 s7_2) fun k=>go T (enF [.tmp 6] []) znG k ⟨Z::Z::Z::.box (THeap.c false s3)::Z::.box (TCursor.c false s5)::Z::.box [D.sl true 1 (List.map dI s7),dI s7_1,dI s7_2,D.sl true 8 []]::zs 71 [],[]⟩:=⟨fun k=>GG (zcx.eq_def ..) znG.eq_def⟩
instance p_i_Heap_isSuspended_j2v1 (s3:THeap) (s5:TCursor) (s7:List Int) (s7_1 s7_2:Int) (s8:Bool):Lp (kR (PV D.bool)) (zaY s3 s5 s7 s7_1 s7_2 s8) fun k=>go T (enF [.tmp 6] []) znH k ⟨Z::Z::Z::.box (THeap.c false s3)::Z::.box (TCursor.c false s5)::Z::.box [D.sl true 1 (List.map dI s7),dI s7_1,dI s7_2,D.sl true 8 []]::sB s8::zs 70 [],[]⟩:=⟨fun k=>GG (zaY.eq_def ..) znH.eq_def⟩
noncomputable abbrev zbb (s3:THeap) (s5:TCursor) (s7:TcursorForm) (s62:List TGen) (s63 s64:Int) (k:List Fr):Option Res:=go T (enF [.tmp 6] []) znE (.lp znF::.bl 0::.sq (.clr (rg 0 79))::k) ⟨Z::Z::Z::.box (THeap.c false s3)::Z::.box (TCursor.c false s5)::Z::.box [D.sl true 1 (List.map dI s7.phases),dI s7.counts,dI s7.vals,D.sl false 8 (List.map (TGen.e false) s7.kids)]::zs 53 (.ptr ⟨.slot 7,[],3⟩::sL false 8 (TGen.e false) s62::sI s63::sI s64::zs 14 []),[]⟩
noncomputable abbrev zbc (s3:THeap) (s5:TCursor) (s7:TcursorForm) (s62:List TGen) (s63 s64:Int):List Fr->((Unit ⊕ Bool))->Option Res->Prop:=(kS (kN T (enF [.tmp 6] []) fun t=>⟨zs 79 [],[]⟩) (kR (PV D.bool)))
noncomputable abbrev zbv (s3:THeap) (s5:TCursor) (s7:TcursorForm) (s8:Bool) (k:List Fr):Option Res:=go T (enF [.tmp 6] []) znH k ⟨Z::Z::Z::.box (THeap.c false s3)::Z::.box (TCursor.c false s5)::Z::.box [D.sl true 1 (List.map dI s7.phases),dI s7.counts,dI s7.vals,D.sl false 8 (List.map (TGen.e false) s7.kids)]::sB s8::zs 70 [],[]⟩
noncomputable abbrev zbw (s3:THeap) (s5:TCursor) (s7:TcursorForm) (s8:Bool):List Fr->Bool->Option Res->Prop:=(kR (PV D.bool))
noncomputable abbrev zbx (s3:THeap) (s5:TCursor) (s7:TcursorForm) (k:List Fr):Option Res:=go T (enF [.tmp 6] []) znG k ⟨Z::Z::Z::.box (THeap.c false s3)::Z::.box (TCursor.c false s5)::Z::.box [D.sl true 1 (List.map dI s7.phases),dI s7.counts,dI s7.vals,D.sl false 8 (List.map (TGen.e false) s7.kids)]::zs 71 [],[]⟩
noncomputable abbrev zby (s3:THeap) (s5:TCursor) (s7:TcursorForm):List Fr->Bool->Option Res->Prop:=(kR (PV D.bool))
theorem zbz (f0:THeap):(∀ (s5:TCursor) (s7:TcursorForm) (s62:List TGen) (s63 s64:Int) r,zan f0 s5 s7 s62 s63 s64=some r->∀ k:List Fr,zbc f0 s5 s7 s62 s63 s64 k r (zbb f0 s5 s7 s62 s63 s64 k))∧(∀ (p1:TGen) (p2:TCursor) r,zag f0 p1 p2=some r->(PV D.bool) r (zaa T 152 [THeap.e false f0,D.agg [dI p1.Kind,dI p1.Num,D.str p1.Text,dI p1.Value.Kind,dI p1.Value.Num,D.str p1.Value.Text,dI p1.Value.Ref,D.sl false 8 (List.map (TGen.e false) p1.Kids)],D.agg [dI p2.Phase,dI p2.Count,D.sl false 4 (List.map (TValue.e false) p2.Vals),D.sl false 4 (List.map (TCursor.e false) p2.Kids)]] []))∧(∀ (s5:TCursor) (s7:TcursorForm) (s8:Bool) r,zaD f0 s5 s7 s8=some r->∀ k:List Fr,zbw f0 s5 s7 s8 k r (zbv f0 s5 s7 s8 k))∧(∀ (s5:TCursor) (s7:TcursorForm) r,zaM f0 s5 s7=some r->∀ k:List Fr,zby f0 s5 s7 k r (zbx f0 s5 s7 k)):=by
 refine zan.mutual_partial_correctness f0 (motive_1:=fun s5 s7 s62 s63 s64 r=>∀ k:List Fr,zbc f0 s5 s7 s62 s63 s64 k r (zbb f0 s5 s7 s62 s63 s64 k)) (motive_2:=fun p1 p2 r=>(PV D.bool) r (zaa T 152 [THeap.e false f0,D.agg [dI p1.Kind,dI p1.Num,D.str p1.Text,dI p1.Value.Kind,dI p1.Value.Num,D.str p1.Value.Text,dI p1.Value.Ref,D.sl false 8 (List.map (TGen.e false) p1.Kids)],D.agg [dI p2.Phase,dI p2.Count,D.sl false 4 (List.map (TValue.e false) p2.Vals),D.sl false 4 (List.map (TCursor.e false) p2.Kids)]] [])) (motive_3:=fun s5 s7 s8 r=>∀ k:List Fr,zbw f0 s5 s7 s8 k r (zbv f0 s5 s7 s8 k)) (motive_4:=fun s5 s7 r=>∀ k:List Fr,zby f0 s5 s7 k r (zbx f0 s5 s7 k)) ?_ ?_ ?_ ?_
 ·intro zan zag i_i_Heap_isSuspended_l1 i_i_Heap_isSuspended
  have p_i_Heap_isSuspended_l1:∀ (s5:TCursor) (s7:TcursorForm) (s62:List TGen) (s63 s64:Int),Lp (zbc f0 s5 s7 s62 s63 s64) (zan s5 s7 s62 s63 s64) (zbb f0 s5 s7 s62 s63 s64):=fun s5 s7 s62 s63 s64=>⟨fun k r hr=>i_i_Heap_isSuspended_l1 s5 s7 s62 s63 s64 r hr k⟩
  have g_i_Heap_isSuspended:∀ (p1:TGen) (p2:TCursor),Lw (PV D.bool) (zag p1 p2) (zaa T 152 [THeap.e false f0,D.agg [dI p1.Kind,dI p1.Num,D.str p1.Text,dI p1.Value.Kind,dI p1.Value.Num,D.str p1.Value.Text,dI p1.Value.Ref,D.sl false 8 (List.map (TGen.e false) p1.Kids)],D.agg [dI p2.Phase,dI p2.Count,D.sl false 4 (List.map (TValue.e false) p2.Vals),D.sl false 4 (List.map (TCursor.e false) p2.Kids)]] []):=fun p1 p2=>⟨fun r hr=>i_i_Heap_isSuspended p1 p2 r hr⟩
  clear i_i_Heap_isSuspended_l1 i_i_Heap_isSuspended
  intro s5 s7 s62 s63 s64
  refine Le.pc ?_
  intro k
  refine G0 znE.eq_def ?_
  exact A
 ·intro zaD i_i_Heap_isSuspended_j2
  have p_i_Heap_isSuspended_j2:∀ (s5:TCursor) (s7:TcursorForm) (s8:Bool),Lp (zbw f0 s5 s7 s8) (zaD s5 s7 s8) (zbv f0 s5 s7 s8):=fun s5 s7 s8=>⟨fun k r hr=>i_i_Heap_isSuspended_j2 s5 s7 s8 r hr k⟩
  clear i_i_Heap_isSuspended_j2
  intro p1 p2
  refine (show Le (PV D.bool) _ (zaa T 152 [THeap.e false f0,D.agg [dI p1.Kind,dI p1.Num,D.str p1.Text,dI p1.Value.Kind,dI p1.Value.Num,D.str p1.Value.Text,dI p1.Value.Ref,D.sl false 8 (List.map (TGen.e false) p1.Kids)],D.agg [dI p2.Phase,dI p2.Count,D.sl false 4 (List.map (TValue.e false) p2.Vals),D.sl false 4 (List.map (TCursor.e false) p2.Kids)]] []) from E0 (h:=?_) rfl)
  exact A
 ·intro zaM i_i_Heap_isSuspended_j1
  have p_i_Heap_isSuspended_j1:∀ (s5:TCursor) (s7:TcursorForm),Lp (zby f0 s5 s7) (zaM s5 s7) (zbx f0 s5 s7):=fun s5 s7=>⟨fun k r hr=>i_i_Heap_isSuspended_j1 s5 s7 r hr k⟩
  clear i_i_Heap_isSuspended_j1
  intro s5 s7 s8
  refine Le.pc ?_
  intro k
  refine G0 znH.eq_def ?_
  exact A
 ·intro zan i_i_Heap_isSuspended_l1
  have p_i_Heap_isSuspended_l1:∀ (s5:TCursor) (s7:TcursorForm) (s62:List TGen) (s63 s64:Int),Lp (zbc f0 s5 s7 s62 s63 s64) (zan s5 s7 s62 s63 s64) (zbb f0 s5 s7 s62 s63 s64):=fun s5 s7 s62 s63 s64=>⟨fun k r hr=>i_i_Heap_isSuspended_l1 s5 s7 s62 s63 s64 r hr k⟩
  clear i_i_Heap_isSuspended_l1
  intro s5 s7
  refine Le.pc ?_
  intro k
  refine G0 znG.eq_def ?_
  exact A
instance p_i_Heap_isSuspended_l1 (s3:THeap) (s5:TCursor) (s7:TcursorForm) (s62:List TGen) (s63 s64:Int):Lp (zbc s3 s5 s7 s62 s63 s64) (zan s3 s5 s7 s62 s63 s64) (zbb s3 s5 s7 s62 s63 s64):=⟨fun k r hr=>(zbz s3).1 s5 s7 s62 s63 s64 r hr k⟩
instance g_i_Heap_isSuspended (p0:THeap) (p1:TGen) (p2:TCursor):Lw (PV D.bool) (zag p0 p1 p2) (zaa T 152 [THeap.e false p0,D.agg [dI p1.Kind,dI p1.Num,D.str p1.Text,dI p1.Value.Kind,dI p1.Value.Num,D.str p1.Value.Text,dI p1.Value.Ref,D.sl false 8 (List.map (TGen.e false) p1.Kids)],D.agg [dI p2.Phase,dI p2.Count,D.sl false 4 (List.map (TValue.e false) p2.Vals),D.sl false 4 (List.map (TCursor.e false) p2.Kids)]] []):=⟨fun r hr=>(zbz p0).2.1 p1 p2 r hr⟩
instance p_i_Heap_isSuspended_j2 (s3:THeap) (s5:TCursor) (s7:TcursorForm) (s8:Bool):Lp (zbw s3 s5 s7 s8) (zaD s3 s5 s7 s8) (zbv s3 s5 s7 s8):=⟨fun k r hr=>(zbz s3).2.2.1 s5 s7 s8 r hr k⟩
instance p_i_Heap_isSuspended_j1 (s3:THeap) (s5:TCursor) (s7:TcursorForm):Lp (zby s3 s5 s7) (zaM s3 s5 s7) (zbx s3 s5 s7):=⟨fun k r hr=>(zbz s3).2.2.2 s5 s7 r hr k⟩
instance p_i_Heap_isCo_j1 (s2:THeap) (s3:TCoexpr):Lp (kR (PV D.bool)) (zfX s2 s3) fun k=>go T (enF [.tmp 4] []) zrI k ⟨Z::Z::.box (THeap.c false s2)::.box (TCoexpr.c false s3)::zs 53 [],[]⟩:=⟨fun k=>GG (zfX.eq_def ..) zrI.eq_def⟩
instance p_i_Heap_isCo_j2 (s2:THeap) (s3:TCoexpr):Lp (kR (PV D.bool)) (zfY s2 s3) fun k=>go T (enF [.tmp 4] []) zrJ k ⟨Z::Z::.box (THeap.c false s2)::.box (TCoexpr.c false s3)::zs 53 [],[]⟩:=⟨fun k=>GG (zfY.eq_def ..) zrJ.eq_def⟩
instance p_i_Heap_isCo_j3 (s2:THeap) (s3:TCoexpr) (s5:Bool):Lp (kR (PV D.bool)) (zcT s2 s3 s5) fun k=>go T (enF [.tmp 4] []) zrK k ⟨Z::Z::.box (THeap.c false s2)::.box (TCoexpr.c false s3)::Z::sB s5::zs 51 [],[]⟩:=⟨fun k=>GG (zcT.eq_def ..) zrK.eq_def⟩
instance g_i_Heap_isCo (p0:THeap) (p1:TCoexpr):Lw (PV D.bool) (zbJ p0 p1) (zaa T 132 [THeap.e false p0,TCoexpr.e false p1] []):=⟨E (zbJ.eq_def ..)⟩
instance p_i_areAll_Coexpr_l1 (s0:List TCoexpr) (s1:THeap) (s7:List TCoexpr) (s8:Int):∀ (s9:Int),Lp (kS (kN T (enF [.tmp 4] []) fun t=>⟨sL false 17 (TCoexpr.e false) s0::.d (D.bf 132 [THeap.e false s1])::zs 16 [],[]⟩) (kR (PV D.bool))) (zcY s0 s1 s7 s8 s9) fun k=>go T (enF [.tmp 4] []) zrG (.lp zrH::.bl 0::.sq (.clr [4,6,7,8,9,10,11,12,13,14,15,16,17])::k) ⟨sL false 17 (TCoexpr.e false) s0::.d (D.bf 132 [THeap.e false s1])::zs 5 (sL false 17 (TCoexpr.e false) s7::sI s8::sI s9::zs 8 []),[]⟩:=Lp1 (zcY.partial_correctness s0 s1 s7 s8) (by exact fun _ _ _ _=>G zrG.eq_def)
instance g_i_areAll_Coexpr (p0:List TCoexpr) (p1:THeap):Lw (PV D.bool) (zeA p0 p1) (zaa T 131 [D.sl false 17 (List.map (TCoexpr.e false) p0),D.bf 132 [THeap.e false p1]] []):=⟨E (zeA.eq_def ..)⟩
instance p_i_ValidGenScope_l1 (s1:TGenScope):∀ (s3:Int),Lp (kS (kN T (enF [.tmp 2] []) fun t=>⟨Z::.box (TGenScope.c false s1)::zs 53 [],[]⟩) (kR (PV D.bool))) (zcZ s1 s3) fun k=>go T (enF [.tmp 2] []) zvJ (.lp zvK::.bl 0::.sq (.clr [0,2,3,4,5,6,7,8,9,10,11,12,13,14,15,16,17,18,19,20,21,22,23,24,25,26,27,28,29,30,31,32,33,34,35,36,37,38,39,40,41,42,43,44,45,46,47,48,49,50,51])::k) ⟨Z::.box (TGenScope.c false s1)::Z::sI s3::zs 51 [],[]⟩:=Lp1 (zcZ.partial_correctness s1) (by exact fun _ _ _ _=>G zvJ.eq_def)
instance p_i_ValidGenScope_j1 (s1:TGenScope):Lp (kR (PV D.bool)) (zeB s1) fun k=>go T (enF [.tmp 2] []) zvL k ⟨Z::.box (TGenScope.c false s1)::zs 53 [],[]⟩:=⟨fun k=>GG (zeB.eq_def ..) zvL.eq_def⟩
instance g_i_ValidGenScope (p0:TGenScope):Lw (PV D.bool) (zeC p0) (zaa T 60 [TGenScope.e false p0] []):=⟨E (zeC.eq_def ..)⟩
instance g_i_unless (p0:Bool) (p1:Int):Lw (PV dI) (ziq p0 p1) (zaa T 85 [D.bool p0,dI p1] []):=⟨E (ziq.eq_def ..)⟩
instance p_i_first_l1 (s0 s5:List Int) (s6:Int):∀ (s7:Int),Lp (kS (kN T (enF [.tmp 2] []) fun t=>⟨sL false 1 dI s0::zs 14 [],[]⟩) (kR (PV dI))) (ziM s0 s5 s6 s7) fun k=>go T (enF [.tmp 2] []) zvY (.lp zvZ::.bl 0::.sq (.clr [2,4,5,6,7,8,9,10,11,12,13,14])::k) ⟨sL false 1 dI s0::zs 4 (sL false 1 dI s5::sI s6::sI s7::zs 7 []),[]⟩:=Lp1 (ziM.partial_correctness s0 s5 s6) (by exact fun _ _ _ _=>G zvY.eq_def)
instance g_i_first (p0:List Int):Lw (PV dI) (zlQ p0) (zaa T 84 [D.sl false 1 (List.map dI p0)] []):=⟨E (zlQ.eq_def ..)⟩
theorem zfe (xs:List TBinding) (h:xs.length<=2147483648):zaa T 136 [.sl false 5 (xs.map (TBinding.e false))] []=some (.sl true 5 (xs.map (TBinding.e false)),[],[]):=by
 cases xs with
 | nil =>
  rw [zaf T (g:=v136) rfl rfl rfl _ _ rfl]
  simp (maxSteps:=9999999) (disch:=omega) only [vx,px,ty,↓reduceIte,seval,fx,vxd,Nat.reduceBNe,most,ifT,ifF,v136,zrP]
 | cons x xs =>
  rw [List.length_cons] at h
  rw [zaf T (g:=v136) rfl rfl rfl _ _ rfl]
  simp (maxSteps:=9999999) (disch:=omega) only [vx,px,ty,↓reduceIte,seval,fx,vxd,Nat.reduceBNe,most,ifT,ifF,v136,zrP]
instance g_slices_Clone_Binding_Binding (p0:List TBinding):Lw (fun r x=>Pu (D.sl true 5 (List.map (TBinding.e false) r)) [] x) (zar p0) (zaa T 136 [D.sl false 5 (List.map (TBinding.e false) p0)] []):=⟨by
 unfold zar
 refine Le.chk fun h=>Le.ret ?_
 exact ⟨_,zfe p0 h⟩⟩
theorem zfK (xs:List TValue) (h:xs.length<=2147483648):zaa T 203 [.sl false 4 (xs.map (TValue.e false))] []=some (.sl true 4 (xs.map (TValue.e false)),[],[]):=by
 cases xs with
 | nil =>
  rw [zaf T (g:=v203) rfl rfl rfl _ _ rfl]
  simp (maxSteps:=9999999) (disch:=omega) only [vx,px,ty,↓reduceIte,seval,fx,vxd,Nat.reduceBNe,most,ifT,ifF,v203,zsv]
 | cons x xs =>
  rw [List.length_cons] at h
  rw [zaf T (g:=v203) rfl rfl rfl _ _ rfl]
  simp (maxSteps:=9999999) (disch:=omega) only [vx,px,ty,↓reduceIte,seval,fx,vxd,Nat.reduceBNe,most,ifT,ifF,v203,zsv]
instance g_slices_Clone_Value_Value (p0:List TValue):Lw (fun r x=>Pu (D.sl true 4 (List.map (TValue.e false) r)) [] x) (zaz p0) (zaa T 203 [D.sl false 4 (List.map (TValue.e false) p0)] []):=⟨by
 unfold zaz
 refine Le.chk fun h=>Le.ret ?_
 exact ⟨_,zfK p0 h⟩⟩
instance g_i_Object_copied (p0:TObject):Lw (PV (TObject.e true)) (zdj p0) (zaa T 188 [TObject.e false p0] []):=⟨E (zdj.eq_def ..)⟩
instance p_i_Heap_copied_l1 (s1 s2:THeap) (s10:List TObject) (s11:Int):∀ (s3:THeap) (s12:Int),Lp (kN T (enF [.cell 2 (.many 2)] []) fun t=>⟨Z::Z::.box (THeap.c true s2)::.box (THeap.c true t)::zs 21 [],[]⟩) (zdV s1 s2 s10 s11 s3 s12) fun k=>go T (enF [.cell 2 (.many 2)] []) zwg (.lp zwh::.bl 0::.sq (.clr [0,1,5,6,7,8,9,10,11,12,13,14,15,16,17,18,19,20,21,22,23])::k) ⟨Z::.box (THeap.c false s1)::.box (THeap.c true s2)::.box (THeap.c true s3)::zs 5 (.ptr ⟨.slot 1,[],1⟩::sL false 10 (TObject.e false) s10::sI s11::sI s12::zs 12 []),[]⟩:=Lp2 (zdV.partial_correctness s1 s2 s10 s11) (by
 intro rec _ s3 s12 k
 refine G0 zwg.eq_def ?_
 try conv=>arg 3;simp (maxSteps:=999999) only [push_cast,↓reduceIte,seval, *]
 refine Le.itq (fun h=>?_) (fun h=>?_)
 ·try conv=>arg 3;simp (maxSteps:=999999) only [push_cast,↓reduceIte,seval, *]
  refine Le.idx fun a14 h_1 h_2 h_3=>?_
  try conv=>arg 3;simp (maxSteps:=999999) only [push_cast,↓reduceIte,seval, *]
  refine Le.dcall ((g_i_Object_copied a14).h) fun r19 h_4 _ hy=>?_
  first|subst hy|obtain ⟨_,rfl⟩:=hy
  try conv=>arg 3;simp (maxSteps:=999999) only [push_cast,↓reduceIte,seval, *]
  refine Le.app fun c21 h_5 h_6=>?_
  replace h_5:List.map (TObject.e true) s3.Objects++[D.agg [D.int .i64 r19.Id,D.int .i64 r19.Kind,D.str r19.Name,D.int .i64 r19.Low,D.sl true 4 (List.map (TValue.e false) r19.Keys),D.sl true 4 (List.map (TValue.e false) r19.Vals),D.int .i64 r19.Default.Kind,D.int .i64 r19.Default.Num,D.str r19.Default.Text,D.int .i64 r19.Default.Ref]]=List.map (TObject.e true) c21:=by rw [h_5,List.map_append] <;> first|rfl|simp only [eqs]
  replace h_6:s3.Objects.length + 1<=most:=h_6
  exact A
 ·exact A)
instance g_i_Heap_copied (p0:THeap):Lw (PV (THeap.e true)) (zfr p0) (zaa T 99 [THeap.e false p0] []):=⟨E (zfr.eq_def ..)⟩
noncomputable abbrev zcm (s1 s2:TGen) (s3 s8:List TGen) (s9 s10:Int) (k:List Fr):Option Res:=go T (enF [.cell 2 (.many 8)] []) zrL (.lp zrM::.bl 0::.sq (.clr [0,5,6,7,8,9,10,11,12,13,14,15,16,17,18,19])::k) ⟨Z::.box (TGen.c false s1)::.box (TGen.c true s2)::sL true 8 (TGen.e true) s3::Z::Z::Z::.ptr ⟨.slot 1,[],7⟩::sL false 8 (TGen.e false) s8::sI s9::sI s10::zs 12 [],[]⟩
noncomputable abbrev zcn (s1 s2:TGen) (s3 s8:List TGen) (s9 s10:Int):List Fr->(((List TGen)))->Option Res->Prop:=(kN T (enF [.cell 2 (.many 8)] []) fun t=>⟨Z::.box (TGen.c false s1)::.box (TGen.c true s2)::sL true 8 (TGen.e true) t::zs 19 [],[]⟩)
theorem zhL:(∀ (s1 s2:TGen) (s3 s8:List TGen) (s9 s10:Int) r,zaZ s1 s2 s3 s8 s9 s10=some r->∀ k:List Fr,zcn s1 s2 s3 s8 s9 s10 k r (zcm s1 s2 s3 s8 s9 s10 k))∧(∀ (p0:TGen) r,zcp p0=some r->(PV fun (r:TGen)=>D.agg [dI r.Kind,dI r.Num,D.str r.Text,dI r.Value.Kind,dI r.Value.Num,D.str r.Value.Text,dI r.Value.Ref,D.sl true 8 (List.map (TGen.e true) r.Kids)]) r (zaa T 134 [D.agg [dI p0.Kind,dI p0.Num,D.str p0.Text,dI p0.Value.Kind,dI p0.Value.Num,D.str p0.Value.Text,dI p0.Value.Ref,D.sl false 8 (List.map (TGen.e false) p0.Kids)]] [])):=by
 refine zaZ.mutual_partial_correctness (motive_1:=fun s1 s2 s3 s8 s9 s10 r=>∀ k:List Fr,zcn s1 s2 s3 s8 s9 s10 k r (zcm s1 s2 s3 s8 s9 s10 k)) (motive_2:=fun p0 r=>(PV fun (r:TGen)=>D.agg [dI r.Kind,dI r.Num,D.str r.Text,dI r.Value.Kind,dI r.Value.Num,D.str r.Value.Text,dI r.Value.Ref,D.sl true 8 (List.map (TGen.e true) r.Kids)]) r (zaa T 134 [D.agg [dI p0.Kind,dI p0.Num,D.str p0.Text,dI p0.Value.Kind,dI p0.Value.Num,D.str p0.Value.Text,dI p0.Value.Ref,D.sl false 8 (List.map (TGen.e false) p0.Kids)]] [])) ?_ ?_
 ·intro zaZ zcp i_i_Gen_copied_l1 i_i_Gen_copied
  have p_i_Gen_copied_l1:∀ (s1 s2:TGen) (s3 s8:List TGen) (s9 s10:Int),Lp (zcn s1 s2 s3 s8 s9 s10) (zaZ s1 s2 s3 s8 s9 s10) (zcm s1 s2 s3 s8 s9 s10):=fun s1 s2 s3 s8 s9 s10=>⟨fun k r hr=>i_i_Gen_copied_l1 s1 s2 s3 s8 s9 s10 r hr k⟩
  have g_i_Gen_copied:∀ (p0:TGen),Lw (PV fun (r:TGen)=>D.agg [dI r.Kind,dI r.Num,D.str r.Text,dI r.Value.Kind,dI r.Value.Num,D.str r.Value.Text,dI r.Value.Ref,D.sl true 8 (List.map (TGen.e true) r.Kids)]) (zcp p0) (zaa T 134 [D.agg [dI p0.Kind,dI p0.Num,D.str p0.Text,dI p0.Value.Kind,dI p0.Value.Num,D.str p0.Value.Text,dI p0.Value.Ref,D.sl false 8 (List.map (TGen.e false) p0.Kids)]] []):=fun p0=>⟨fun r hr=>i_i_Gen_copied p0 r hr⟩
  clear i_i_Gen_copied_l1 i_i_Gen_copied
  intro s1 s2 s3 s8 s9 s10
  refine Le.pc ?_
  intro k
  refine G0 zrL.eq_def ?_
  try conv=>arg 3;simp (maxSteps:=999999) only [push_cast,↓reduceIte,seval, *]
  refine Le.itq (fun h=>?_) (fun h=>?_)
  ·try conv=>arg 3;simp (maxSteps:=999999) only [push_cast,↓reduceIte,seval, *]
   refine Le.idx fun a12 h_1 h_2 h_3=>?_
   try conv=>arg 3;simp (maxSteps:=999999) only [push_cast,↓reduceIte,seval, *]
   refine Le.call ((g_i_Gen_copied a12).h) fun r16 h_4 _ hy=>?_
   first|subst hy|obtain ⟨_,rfl⟩:=hy
   try conv=>arg 3;simp (maxSteps:=999999) only [push_cast,↓reduceIte,seval, *]
   refine Le.app fun c18 h_5 h_6=>?_
   replace h_5:List.map (TGen.e true) s3++[D.agg [D.int .i64 r16.Kind,D.int .i64 r16.Num,D.str r16.Text,D.int .i64 r16.Value.Kind,D.int .i64 r16.Value.Num,D.str r16.Value.Text,D.int .i64 r16.Value.Ref,D.sl true 8 (List.map (TGen.e true) r16.Kids)]]=List.map (TGen.e true) c18:=by rw [h_5,List.map_append] <;> first|rfl|simp only [eqs]
   replace h_6:s3.length + 1<=most:=h_6
   exact A
  ·exact A
 ·intro zaZ i_i_Gen_copied_l1
  have p_i_Gen_copied_l1:∀ (s1 s2:TGen) (s3 s8:List TGen) (s9 s10:Int),Lp (zcn s1 s2 s3 s8 s9 s10) (zaZ s1 s2 s3 s8 s9 s10) (zcm s1 s2 s3 s8 s9 s10):=fun s1 s2 s3 s8 s9 s10=>⟨fun k r hr=>i_i_Gen_copied_l1 s1 s2 s3 s8 s9 s10 r hr k⟩
  clear i_i_Gen_copied_l1
  intro p0
  refine (show Le (PV fun (r:TGen)=>D.agg [dI r.Kind,dI r.Num,D.str r.Text,dI r.Value.Kind,dI r.Value.Num,D.str r.Value.Text,dI r.Value.Ref,D.sl true 8 (List.map (TGen.e true) r.Kids)]) _ (zaa T 134 [D.agg [dI p0.Kind,dI p0.Num,D.str p0.Text,dI p0.Value.Kind,dI p0.Value.Num,D.str p0.Value.Text,dI p0.Value.Ref,D.sl false 8 (List.map (TGen.e false) p0.Kids)]] []) from E0 (h:=?_) rfl)
  exact A
instance p_i_Gen_copied_l1 (s1 s2:TGen) (s3 s8:List TGen) (s9 s10:Int):Lp (zcn s1 s2 s3 s8 s9 s10) (zaZ s1 s2 s3 s8 s9 s10) (zcm s1 s2 s3 s8 s9 s10):=⟨fun k r hr=>(zhL).1 s1 s2 s3 s8 s9 s10 r hr k⟩
instance g_i_Gen_copied (p0:TGen):Lw (PV fun (r:TGen)=>D.agg [dI r.Kind,dI r.Num,D.str r.Text,dI r.Value.Kind,dI r.Value.Num,D.str r.Value.Text,dI r.Value.Ref,D.sl true 8 (List.map (TGen.e true) r.Kids)]) (zcp p0) (zaa T 134 [D.agg [dI p0.Kind,dI p0.Num,D.str p0.Text,dI p0.Value.Kind,dI p0.Value.Num,D.str p0.Value.Text,dI p0.Value.Ref,D.sl false 8 (List.map (TGen.e false) p0.Kids)]] []):=⟨fun r hr=>(zhL).2 p0 r hr⟩
noncomputable abbrev zbt (s1 s2:TCursor) (s3 s8:List TCursor) (s9 s10:Int) (k:List Fr):Option Res:=go T (enF [.cell 2 (.many 4)] []) zrN (.lp zrO::.bl 0::.sq (.clr [0,5,6,7,8,9,10,11,12,13,14,15,16,17,18,19])::k) ⟨Z::.box (TCursor.c false s1)::.box (TCursor.c true s2)::sL true 4 (TCursor.e true) s3::Z::Z::Z::.ptr ⟨.slot 1,[],3⟩::sL false 4 (TCursor.e false) s8::sI s9::sI s10::zs 16 [],[]⟩
noncomputable abbrev zbu (s1 s2:TCursor) (s3 s8:List TCursor) (s9 s10:Int):List Fr->(((List TCursor)))->Option Res->Prop:=(kN T (enF [.cell 2 (.many 4)] []) fun t=>⟨Z::.box (TCursor.c false s1)::.box (TCursor.c true s2)::sL true 4 (TCursor.e true) t::zs 23 [],[]⟩)
theorem zgr:(∀ (s1 s2:TCursor) (s3 s8:List TCursor) (s9 s10:Int) r,zaJ s1 s2 s3 s8 s9 s10=some r->∀ k:List Fr,zbu s1 s2 s3 s8 s9 s10 k r (zbt s1 s2 s3 s8 s9 s10 k))∧(∀ (p0:TCursor) r,zbo p0=some r->(PV fun (r:TCursor)=>D.agg [dI r.Phase,dI r.Count,D.sl true 4 (List.map (TValue.e false) r.Vals),D.sl true 4 (List.map (TCursor.e true) r.Kids)]) r (zaa T 135 [D.agg [dI p0.Phase,dI p0.Count,D.sl false 4 (List.map (TValue.e false) p0.Vals),D.sl false 4 (List.map (TCursor.e false) p0.Kids)]] [])):=by
 refine zaJ.mutual_partial_correctness (motive_1:=fun s1 s2 s3 s8 s9 s10 r=>∀ k:List Fr,zbu s1 s2 s3 s8 s9 s10 k r (zbt s1 s2 s3 s8 s9 s10 k)) (motive_2:=fun p0 r=>(PV fun (r:TCursor)=>D.agg [dI r.Phase,dI r.Count,D.sl true 4 (List.map (TValue.e false) r.Vals),D.sl true 4 (List.map (TCursor.e true) r.Kids)]) r (zaa T 135 [D.agg [dI p0.Phase,dI p0.Count,D.sl false 4 (List.map (TValue.e false) p0.Vals),D.sl false 4 (List.map (TCursor.e false) p0.Kids)]] [])) ?_ ?_
 ·intro zaJ zbo i_i_Cursor_copied_l1 i_i_Cursor_copied
  have p_i_Cursor_copied_l1:∀ (s1 s2:TCursor) (s3 s8:List TCursor) (s9 s10:Int),Lp (zbu s1 s2 s3 s8 s9 s10) (zaJ s1 s2 s3 s8 s9 s10) (zbt s1 s2 s3 s8 s9 s10):=fun s1 s2 s3 s8 s9 s10=>⟨fun k r hr=>i_i_Cursor_copied_l1 s1 s2 s3 s8 s9 s10 r hr k⟩
  have g_i_Cursor_copied:∀ (p0:TCursor),Lw (PV fun (r:TCursor)=>D.agg [dI r.Phase,dI r.Count,D.sl true 4 (List.map (TValue.e false) r.Vals),D.sl true 4 (List.map (TCursor.e true) r.Kids)]) (zbo p0) (zaa T 135 [D.agg [dI p0.Phase,dI p0.Count,D.sl false 4 (List.map (TValue.e false) p0.Vals),D.sl false 4 (List.map (TCursor.e false) p0.Kids)]] []):=fun p0=>⟨fun r hr=>i_i_Cursor_copied p0 r hr⟩
  clear i_i_Cursor_copied_l1 i_i_Cursor_copied
  intro s1 s2 s3 s8 s9 s10
  refine Le.pc ?_
  intro k
  refine G0 zrN.eq_def ?_
  try conv=>arg 3;simp (maxSteps:=999999) only [push_cast,↓reduceIte,seval, *]
  refine Le.itq (fun h=>?_) (fun h=>?_)
  ·try conv=>arg 3;simp (maxSteps:=999999) only [push_cast,↓reduceIte,seval, *]
   refine Le.idx fun a12 h_1 h_2 h_3=>?_
   try conv=>arg 3;simp (maxSteps:=999999) only [push_cast,↓reduceIte,seval, *]
   refine Le.call ((g_i_Cursor_copied a12).h) fun r16 h_4 _ hy=>?_
   first|subst hy|obtain ⟨_,rfl⟩:=hy
   try conv=>arg 3;simp (maxSteps:=999999) only [push_cast,↓reduceIte,seval, *]
   refine Le.app fun c18 h_5 h_6=>?_
   replace h_5:List.map (TCursor.e true) s3++[D.agg [D.int .i64 r16.Phase,D.int .i64 r16.Count,D.sl true 4 (List.map (TValue.e false) r16.Vals),D.sl true 4 (List.map (TCursor.e true) r16.Kids)]]=List.map (TCursor.e true) c18:=by rw [h_5,List.map_append] <;> first|rfl|simp only [eqs]
   replace h_6:s3.length + 1<=most:=h_6
   exact A
  ·exact A
 ·intro zaJ i_i_Cursor_copied_l1
  have p_i_Cursor_copied_l1:∀ (s1 s2:TCursor) (s3 s8:List TCursor) (s9 s10:Int),Lp (zbu s1 s2 s3 s8 s9 s10) (zaJ s1 s2 s3 s8 s9 s10) (zbt s1 s2 s3 s8 s9 s10):=fun s1 s2 s3 s8 s9 s10=>⟨fun k r hr=>i_i_Cursor_copied_l1 s1 s2 s3 s8 s9 s10 r hr k⟩
  clear i_i_Cursor_copied_l1
  intro p0
  refine (show Le (PV fun (r:TCursor)=>D.agg [dI r.Phase,dI r.Count,D.sl true 4 (List.map (TValue.e false) r.Vals),D.sl true 4 (List.map (TCursor.e true) r.Kids)]) _ (zaa T 135 [D.agg [dI p0.Phase,dI p0.Count,D.sl false 4 (List.map (TValue.e false) p0.Vals),D.sl false 4 (List.map (TCursor.e false) p0.Kids)]] []) from E0 (h:=?_) rfl)
  exact A
instance p_i_Cursor_copied_l1 (s1 s2:TCursor) (s3 s8:List TCursor) (s9 s10:Int):Lp (zbu s1 s2 s3 s8 s9 s10) (zaJ s1 s2 s3 s8 s9 s10) (zbt s1 s2 s3 s8 s9 s10):=⟨fun k r hr=>(zgr).1 s1 s2 s3 s8 s9 s10 r hr k⟩
instance g_i_Cursor_copied (p0:TCursor):Lw (PV fun (r:TCursor)=>D.agg [dI r.Phase,dI r.Count,D.sl true 4 (List.map (TValue.e false) r.Vals),D.sl true 4 (List.map (TCursor.e true) r.Kids)]) (zbo p0) (zaa T 135 [D.agg [dI p0.Phase,dI p0.Count,D.sl false 4 (List.map (TValue.e false) p0.Vals),D.sl false 4 (List.map (TCursor.e false) p0.Kids)]] []):=⟨fun r hr=>(zgr).2 p0 r hr⟩
instance g_i_Coexpr_copied (p0:TCoexpr):Lw (PV (TCoexpr.e true)) (zdk p0) (zaa T 61 [TCoexpr.e false p0] []):=⟨E (zdk.eq_def ..)⟩
instance p_i_GenScope_copied_l1 (s1 s2:TGenScope) (s16:List TCoexpr) (s17:Int):∀ (s3:TGenScope) (s18:Int),Lp (kN T (enF [.cell 2 (.many 5)] []) fun t=>⟨Z::Z::.box (TGenScope.c true s2)::.box (TGenScope.c true t)::zs 27 [],[]⟩) (zcb s1 s2 s16 s17 s3 s18) fun k=>go T (enF [.cell 2 (.many 5)] []) zwa (.lp zwb::.bl 0::.sq (.clr [0,1,5,6,7,8,9,10,11,12,13,14,15,16,17,18,19,20,21,22,23,24,25,26,27,28,29])::k) ⟨Z::.box (TGenScope.c false s1)::.box (TGenScope.c true s2)::.box (TGenScope.c true s3)::zs 11 (.ptr ⟨.slot 1,[],3⟩::sL false 17 (TCoexpr.e false) s16::sI s17::sI s18::zs 12 []),[]⟩:=Lp2 (zcb.partial_correctness s1 s2 s16 s17) (by
 intro rec _ s3 s18 k
 refine G0 zwa.eq_def ?_
 try conv=>arg 3;simp (maxSteps:=999999) only [push_cast,↓reduceIte,seval, *]
 refine Le.itq (fun h=>?_) (fun h=>?_)
 ·try conv=>arg 3;simp (maxSteps:=999999) only [push_cast,↓reduceIte,seval, *]
  refine Le.idx fun a20 h_1 h_2 h_3=>?_
  try conv=>arg 3;simp (maxSteps:=999999) only [push_cast,↓reduceIte,seval, *]
  refine Le.dcall ((g_i_Coexpr_copied a20).h) fun r25 h_4 _ hy=>?_
  first|subst hy|obtain ⟨_,rfl⟩:=hy
  try conv=>arg 3;simp (maxSteps:=999999) only [push_cast,↓reduceIte,seval, *]
  refine Le.app fun c27 h_5 h_6=>?_
  replace h_5:List.map (TCoexpr.e true) s3.Cos++[D.agg [D.int .i64 r25.Id,D.int .i64 r25.Body.Kind,D.int .i64 r25.Body.Num,D.str r25.Body.Text,D.int .i64 r25.Body.Value.Kind,D.int .i64 r25.Body.Value.Num,D.str r25.Body.Value.Text,D.int .i64 r25.Body.Value.Ref,D.sl true 8 (List.map (TGen.e true) r25.Body.Kids),D.sl true 5 (List.map (TBinding.e false) r25.Start),D.sl true 5 (List.map (TBinding.e false) r25.Vars),D.int .i64 r25.Cursor.Phase,D.int .i64 r25.Cursor.Count,D.sl true 4 (List.map (TValue.e false) r25.Cursor.Vals),D.sl true 4 (List.map (TCursor.e true) r25.Cursor.Kids),D.int .i64 r25.Count,D.bool r25.Done]]=List.map (TCoexpr.e true) c27:=by rw [h_5,List.map_append] <;> first|rfl|simp only [eqs]
  replace h_6:s3.Cos.length + 1<=most:=h_6
  exact A
 ·exact A)
instance g_i_GenScope_copied (p0:TGenScope):Lw (PV (TGenScope.e true)) (zdy p0) (zaa T 86 [TGenScope.e false p0] []):=⟨E (zdy.eq_def ..)⟩
instance g_slices_Delete_Coexpr_Coexpr (a:List TCoexpr) (i j:Int):Lw (fun r x=>Pu (D.sl true 17 (List.map (TCoexpr.e true) r)) [] x) (zba a i j) (zaa T 87 [D.sl true 17 (List.map (TCoexpr.e true) a),D.int .i64 i,D.int .i64 j] []):=⟨by
 unfold zba
 refine Le.chk fun h=>Le.ret ?_
 exact ⟨_,by rw [zpq (g:=ziG 17) T rfl,zlv (TCoexpr.e true) 17 a i j h];rfl⟩⟩
instance g_i_RemoveCo (p0:TGenScope) (p1:Int):Lw (PV fun (r:TGenScope × Int)=>D.tup [TGenScope.e true r.1,dI r.2]) (ziN p0 p1) (zaa T 34 [TGenScope.e false p0,dI p1] []):=⟨E (ziN.eq_def ..)⟩
end Go.Vx.RmZ

