/-
  What the plain functions give, the program gives too.
-/
import Derived.Test.YtapepbhnleekbaaGreatDoorAu
set_option linter.unusedVariables false
set_option linter.unusedSimpArgs false
namespace Go.Vx.WvZ
set_option maxRecDepth 10000
set_option maxHeartbeats 2000000
attribute [local irreducible] go bk exi got
instance g_i_within (p0 p1 p2:Int):Lw (PV D.bool) (zdJ p0 p1 p2) (zab T 139 [dI p0,dI p1,dI p2] []):=⟨E (zdJ.eq_def ..)⟩
instance g_i_isObjectId (p0:Int):Lw (PV D.bool) (zel p0) (zab T 164 [dI p0] []):=⟨E (zel.eq_def ..)⟩
instance g_i_isLetter (p0:Int):Lw (PV D.bool) (zfS p0) (zab T 78 [D.int .u8 p0] []):=⟨E (zfS.eq_def ..)⟩
instance g_i_isDigit (p0:Int):Lw (PV D.bool) (zhR p0) (zab T 163 [D.int .u8 p0] []):=⟨E (zhR.eq_def ..)⟩
instance g_i_isNameByte (p0:Int):Lw (PV D.bool) (zem p0) (zab T 80 [D.int .u8 p0] []):=⟨E (zem.eq_def ..)⟩
instance p_i_areAll_byte_l1 (s0 s7:List Int) (s8:Int):∀ (s9:Int),Lp (kS (kN T (enF [.tmp 4] []) fun t=>⟨sL false 1 (D.int .u8) s0::.d (D.fn 80 [])::zs 16 [],[]⟩) (kR (PV D.bool))) (zdi s0 s7 s8 s9) fun k=>go T (enF [.tmp 4] []) zwx (.lp zwy::.bl 0::.sq (.clr [4,6,7,8,9,10,11,12,13,14,15,16,17])::k) ⟨sL false 1 (D.int .u8) s0::.d (D.fn 80 [])::zs 5 (sL false 1 (D.int .u8) s7::sI s8::sI s9::zs 8 []),[]⟩:=Lp1 (zdi.partial_correctness s0 s7 s8) (by exact fun _ _ _ _=>G zwx.eq_def)
instance g_i_areAll_byte (p0:List Int):Lw (PV D.bool) (zeE p0) (zab T 79 [D.sl false 1 (List.map (D.int .u8) p0),D.fn 80 []] []):=⟨E (zeE.eq_def ..)⟩
instance g_i_IsName (p0:ByteArray):Lw (PV D.bool) (zco p0) (zab T 30 [D.str p0] []):=⟨E (zco.eq_def ..)⟩
instance p_i_ValidValue_j1 (s1:TValue) (s65:Bool):Lp (kS (kN T (enF [.tmp 2] []) fun t=>⟨Z::.box (TValue.c false s1)::zs 63 (sB t::zs 14 []),[]⟩) (kR (PV D.bool))) (zdK s1 s65) fun k=>go T (enF [.tmp 2] []) zwz k ⟨Z::.box (TValue.c false s1)::zs 63 (sB s65::zs 14 []),[]⟩:=⟨fun k=>GG (zdK.eq_def ..) zwz.eq_def⟩
instance p_i_ValidValue_j2 (s1:TValue) (s4:Int) (s49:Bool):Lp (kS (kN T (enF [.tmp 2] []) fun t=>⟨Z::.box (TValue.c false s1)::zs 78 [],[]⟩) (kR (PV D.bool))) (zcz s1 s4 s49) fun k=>go T (enF [.tmp 2] []) zwA k ⟨Z::.box (TValue.c false s1)::Z::Z::sI s4::zs 44 (sB s49::zs 30 []),[]⟩:=⟨fun k=>GG (zcz.eq_def ..) zwA.eq_def⟩
instance g_i_ValidValue (p0:TValue):Lw (PV D.bool) (zbe p0) (zab T 81 [TValue.e false p0] []):=⟨E (zbe.eq_def ..)⟩
instance p_i_areAll_Value_l1 (s0 s7:List TValue) (s8:Int):∀ (s9:Int),Lp (kS (kN T (enF [.tmp 4] []) fun t=>⟨sL false 4 (TValue.e false) s0::.d (D.fn 81 [])::zs 16 [],[]⟩) (kR (PV D.bool))) (zcI s0 s7 s8 s9) fun k=>go T (enF [.tmp 4] []) zpa (.lp zpb::.bl 0::.sq (.clr [4,6,7,8,9,10,11,12,13,14,15,16,17])::k) ⟨sL false 4 (TValue.e false) s0::.d (D.fn 81 [])::zs 5 (sL false 4 (TValue.e false) s7::sI s8::sI s9::zs 8 []),[]⟩:=Lp1 (zcI.partial_correctness s0 s7 s8) (by exact fun _ _ _ _=>G zpa.eq_def)
instance g_i_areAll_Value (p0:List TValue):Lw (PV D.bool) (zda p0) (zab T 76 [D.sl false 4 (List.map (TValue.e false) p0),D.fn 81 []] []):=⟨E (zda.eq_def ..)⟩
instance p_slices_Index_Value_Value_l1 (s0:List TValue) (s3:TValue) (s7:Int):∀ (s8:Int),Lp (kS (kN T (enF [.tmp 4] []) fun t=>⟨sL false 4 (TValue.e false) s0::zs 18 [],[]⟩) (kR (PV dI))) (zan s0 s3 s7 s8) fun k=>go T (enF [.tmp 4] []) zth (.lp zti::.bl 0::.sq (.clr [1,3,4,5,6,7,8,9,10,11,12,13,14,15,16,17,18])::k) ⟨sL false 4 (TValue.e false) s0::Z::Z::.box (TValue.c false s3)::Z::Z::Z::sI s7::sI s8::zs 10 [],[]⟩:=Lp1 (zan.partial_correctness s0 s3 s7) (by exact fun _ _ _ _=>G zth.eq_def)
instance g_slices_Index_Value_Value (p0:List TValue) (p1:TValue):Lw (PV dI) (zbO p0 p1) (zab T 231 [D.sl false 4 (List.map (TValue.e false) p0),TValue.e false p1] []):=⟨E (zbO.eq_def ..)⟩
instance g_slices_Contains_Value_Value (p0:List TValue) (p1:TValue):Lw (PV D.bool) (zaH p0 p1) (zab T 236 [D.sl false 4 (List.map (TValue.e false) p0),TValue.e false p1] []):=⟨E (zaH.eq_def ..)⟩
instance p_i_areDifferent_l1 (s0 s5:List TValue) (s6:Int):∀ (s7:Int),Lp (kS (kN T (enF [.tmp 2] []) fun t=>⟨sL false 4 (TValue.e false) s0::zs 17 [],[]⟩) (kR (PV D.bool))) (zcJ s0 s5 s6 s7) fun k=>go T (enF [.tmp 2] []) zsX (.lp zsY::.bl 0::.sq (.clr (rg 2 16))::k) ⟨sL false 4 (TValue.e false) s0::zs 4 (sL false 4 (TValue.e false) s5::sI s6::sI s7::zs 10 []),[]⟩:=Lp1 (zcJ.partial_correctness s0 s5 s6) (by
 intro rec _ s7 k
 refine G0 zsX.eq_def ?_
 try conv=>arg 3;simp (maxSteps:=999999) only [push_cast,↓reduceIte,seval, *]
 refine Le.itq (fun h=>?_) (fun h=>?_)
 ·try conv=>arg 3;simp (maxSteps:=999999) only [push_cast,↓reduceIte,seval, *]
  refine Le.idx fun a10 h_1 h_2 h_3=>?_
  try conv=>arg 3;simp (maxSteps:=999999) only [push_cast,↓reduceIte,seval, *]
  refine Le.subH fun c14 h_4 h_5 h_6=>?_
  replace h_4:List.take s7.toNat (List.map (TValue.e false) s0)=List.map (TValue.e false) c14:=by rw [h_4];exact zrq ..
  exact A
 ·exact A)
instance g_i_areDifferent (p0:List TValue):Lw (PV D.bool) (zdb p0) (zab T 210 [D.sl false 4 (List.map (TValue.e false) p0)] []):=⟨E (zdb.eq_def ..)⟩
instance g_i_textOf (p0:ByteArray):Lw (PV (TValue.e false)) (ziW p0) (zab T 233 [D.str p0] []):=⟨E (ziW.eq_def ..)⟩
instance g_i_isField (p0:TValue):Lw (PV D.bool) (zgG p0) (zab T 211 [TValue.e false p0] []):=⟨E (zgG.eq_def ..)⟩
instance p_i_areAll_Value_1_l1 (s0 s7:List TValue) (s8:Int):∀ (s9:Int),Lp (kS (kN T (enF [.tmp 4] []) fun t=>⟨sL false 4 (TValue.e false) s0::.d (D.fn 211 [])::zs 16 [],[]⟩) (kR (PV D.bool))) (zbV s0 s7 s8 s9) fun k=>go T (enF [.tmp 4] []) zpa (.lp zpb::.bl 0::.sq (.clr [4,6,7,8,9,10,11,12,13,14,15,16,17])::k) ⟨sL false 4 (TValue.e false) s0::.d (D.fn 211 [])::zs 5 (sL false 4 (TValue.e false) s7::sI s8::sI s9::zs 8 []),[]⟩:=Lp1 (zbV.partial_correctness s0 s7 s8) (by exact fun _ _ _ _=>G zpa.eq_def)
instance g_i_areAll_Value_1 (p0:List TValue):Lw (PV D.bool) (zdj p0) (zab T 76 [D.sl false 4 (List.map (TValue.e false) p0),D.fn 211 []] []):=⟨E (zdj.eq_def ..)⟩
instance p_i_ValidObject_j1 (s1:TObject) (s3:Bool):Lp (kR (PV D.bool)) (zce s1 s3) fun k=>go T (enF [.tmp 2] []) zrV k ⟨Z::.box (TObject.c false s1)::Z::sB s3::zs 122 [],[]⟩:=⟨fun k=>GG (zce.eq_def ..) zrV.eq_def⟩
instance p_i_ValidObject_j2 (s1:TObject) (s5:Bool):Lp (kR (PV D.bool)) (zbi s1 s5) fun k=>go T (enF [.tmp 2] []) zrW k ⟨Z::.box (TObject.c false s1)::Z::Z::Z::sB s5::zs 120 [],[]⟩:=⟨fun k=>GG (zbi.eq_def ..) zrW.eq_def⟩
instance p_i_ValidObject_j3 (s1:TObject):Lp (kR (PV D.bool)) (zdk s1) fun k=>go T (enF [.tmp 2] []) zrX k ⟨Z::.box (TObject.c false s1)::zs 124 [],[]⟩:=⟨fun k=>GG (zdk.eq_def ..) zrX.eq_def⟩
instance g_i_ValidObject (p0:TObject):Lw (PV D.bool) (zdL p0) (zab T 141 [TObject.e false p0] []):=⟨E (zdL.eq_def ..)⟩
instance p_i_areAll_Object_l1 (s0 s7:List TObject) (s8:Int):∀ (s9:Int),Lp (kS (kN T (enF [.tmp 4] []) fun t=>⟨sL false 10 (TObject.e false) s0::.d (D.fn 141 [])::zs 16 [],[]⟩) (kR (PV D.bool))) (zcp s0 s7 s8 s9) fun k=>go T (enF [.tmp 4] []) znC (.lp znD::.bl 0::.sq (.clr [4,6,7,8,9,10,11,12,13,14,15,16,17])::k) ⟨sL false 10 (TObject.e false) s0::.d (D.fn 141 [])::zs 5 (sL false 10 (TObject.e false) s7::sI s8::sI s9::zs 8 []),[]⟩:=Lp1 (zcp.partial_correctness s0 s7 s8) (by exact fun _ _ _ _=>G znC.eq_def)
instance g_i_areAll_Object (p0:List TObject):Lw (PV D.bool) (zdM p0) (zab T 140 [D.sl false 10 (List.map (TObject.e false) p0),D.fn 141 []] []):=⟨E (zdM.eq_def ..)⟩
theorem zen (sto:List (List D)):zab T 237 [.nils 4,.int .i64 0] sto=some (.nils 4,[],sto):=by
 rw [zac T (g:=v237) rfl rfl rfl _ _ rfl]
 simp (maxSteps:=9999999) (disch:=omega) only [vx,px,ty,↓reduceIte,seval,fx,vxd,Nat.reduceBNe,most,ifT,ifF,v237,ztl,Int.reduceToNat,Int.toNat_zero,zdy.eq_3]
theorem zeo (n:Int) (sto:List (List D)) (h:0<n) (h2:n<=2147483648):zab T 237 [.nils 4,.int .i64 n] sto=some (.sl true 4 [],[],sto):=by
 rw [zac T (g:=v237) rfl rfl rfl _ _ rfl]
 simp (maxSteps:=9999999) (disch:=omega) only [vx,px,ty,↓reduceIte,seval,fx,vxd,Nat.reduceBNe,most,ifT,ifF,v237,ztl,Int.reduceToNat,Int.toNat_zero,zdy.eq_3,zkG,Int.sub_zero]
theorem zfj (a b:List TValue) (sto:List (List D)) (h:a.length + b.length<=2147483648):zab T 212 [.sl false 1 [.sl false 4 (a.map (TValue.e false)),.sl false 4 (b.map (TValue.e false))]] sto=some (.sl true 4 ((a++b).map (TValue.e false)),[],sto):=by
 by_cases h0:a.length + b.length=0
 ·obtain rfl:a=[]:=List.length_eq_zero_iff.1 (by omega)
  obtain rfl:b=[]:=List.length_eq_zero_iff.1 (by omega)
  have e0:((0:Nat):Int) + ((0:Nat):Int)=0:=rfl
  rw [zac T (g:=v212) rfl rfl rfl _ _ rfl]
  simp (maxSteps:=9999999) (disch:=omega) only [vx,px,ty,↓reduceIte,seval,fx,vxd,Nat.reduceBNe,most,ifT,ifF,v212,zsZ,go_lpc,znE,go_lpc,znF,List.length_map,zen,Int.reduceToNat,Int.toNat_zero,zdy.eq_3,Int.add_zero,Int.zero_add,Int.reduceAdd,e0]
 ·rw [List.map_append]
  have e1:=fun sto=>zeo ((a.length:Int) + (b.length:Int)) sto (by omega) (by omega)
  rw [zac T (g:=v212) rfl rfl rfl _ _ rfl]
  simp (maxSteps:=9999999) (disch:=omega) only [vx,px,ty,↓reduceIte,seval,fx,vxd,Nat.reduceBNe,most,ifT,ifF,v212,zsZ,go_lpc,znE,go_lpc,znF,List.length_map,e1,Int.reduceToNat,Int.reduceAdd,Int.zero_add,Int.toNat_zero,zdy.eq_3]
instance g_slices_Concat_Value_Value (a b:List TValue):Lw (fun r x=>Pu (D.sl true 4 (List.map (TValue.e false) r)) [] x) (zba a b) (zab T 212 [D.sl false 1 [D.sl false 4 (List.map (TValue.e false) a),D.sl false 4 (List.map (TValue.e false) b)]] []):=⟨by
 unfold zba
 refine Le.chk fun h=>Le.ret ?_
 exact ⟨_,zfj a b [] h⟩⟩
instance g_i_Object_values (p0:TObject):Lw (PV (dL true 4 (TValue.e false))) (zfg p0) (zab T 143 [TObject.e false p0] []):=⟨by
 refine E0 (h:=?_) (zfg.eq_def ..)
 try conv=>arg 3;simp (maxSteps:=999999) only [push_cast,↓reduceIte,seval, *]
 refine Le.call ((g_slices_Concat_Value_Value p0.Keys p0.Vals).h) fun r9 h _ hy=>?_
 first|subst hy|obtain ⟨_,rfl⟩:=hy
 try conv=>arg 3;simp (maxSteps:=999999) only [push_cast,↓reduceIte,seval, *]
 refine Le.itq (fun h_1=>?_) (fun h_1=>?_)
 ·try conv=>arg 3;simp (maxSteps:=999999) only [push_cast,↓reduceIte,seval, *]
  refine Le.app fun c17 h_2 h_3=>?_
  replace h_2:List.map (TValue.e false) r9++[D.agg [D.int .i64 p0.Default.Kind,D.int .i64 p0.Default.Num,D.str p0.Default.Text,D.int .i64 p0.Default.Ref]]=List.map (TValue.e false) c17:=by rw [h_2,List.map_append] <;> first|rfl|simp only [eqs]
  replace h_3:r9.length + 1<=most:=h_3
  exact A
 ·exact A⟩
instance g_i_refers (p0:Int):Lw (PV D.bool) (zlB p0) (zab T 82 [dI p0] []):=⟨E (zlB.eq_def ..)⟩
instance g_cmp_isNaN_int64 (p0:Int):Lw (PV D.bool) (zdN p0) (zab T 218 [dI p0] []):=⟨E (zdN.eq_def ..)⟩
instance g_cmp_Compare_int64 (p0 p1:Int):Lw (PV dI) (zea p0 p1) (zab T 167 [dI p0,dI p1] []):=⟨E (zea.eq_def ..)⟩
instance g_i_Heap_find_1 (p0:TObject) (p1:Int):Lw (PV dI) (zdO p0 p1) (zab T 166 [TObject.e false p0,dI p1] []):=⟨E (zdO.eq_def ..)⟩
instance p_slices_BinarySearchFunc_Object_Object_int64_l1 (s0:List TObject) (s1 s8:Int):∀ (s9 s10:Int),Lp (kN T (enF [.tmp 6,.tmp 7] []) fun t=>⟨sL false 10 (TObject.e false) s0::sI s1::.d (D.fn 166 [])::zs 5 (sI s8::sI t::zs 39 []),[]⟩) (zai s0 s1 s8 s9 s10) fun k=>go T (enF [.tmp 6,.tmp 7] []) zsr (.lp zss::.bl 0::.sq (.clr [6,7,10,11,12,13,14,15,16,17,18,19,20,21,22,23,24,25,26,27,28,29,30,31,32,33,34])::k) ⟨sL false 10 (TObject.e false) s0::sI s1::.d (D.fn 166 [])::zs 5 (sI s8::sI s9::sI s10::zs 38 []),[]⟩:=Lp2 (zai.partial_correctness s0 s1 s8) (by exact fun _ _ _ _ _=>G zsr.eq_def)
instance g_slices_BinarySearchFunc_Object_Object_int64 (p0:List TObject) (p1:Int):Lw (PV fun (r:Int × Bool)=>D.tup [dI r.1,D.bool r.2]) (zaE p0 p1) (zab T 165 [D.sl false 10 (List.map (TObject.e false) p0),dI p1,D.fn 166 []] []):=⟨E (zaE.eq_def ..)⟩
instance g_i_Heap_find (p0:THeap) (p1:Int):Lw (PV dI) (zgg p0 p1) (zab T 83 [THeap.e false p0,dI p1] []):=⟨E (zgg.eq_def ..)⟩
instance g_i_objectKind (p0:Int):Lw (PV dI) (zgH p0) (zab T 84 [dI p0] []):=⟨E (zgH.eq_def ..)⟩
instance p_i_Heap_fits_j1 (s2:THeap) (s3:TValue):Lp (kR (PV D.bool)) (zfC s2 s3) fun k=>go T (enF [.tmp 4] []) zvu k ⟨Z::Z::.box (THeap.c false s2)::.box (TValue.c false s3)::zs 31 [],[]⟩:=⟨fun k=>GG (zfC.eq_def ..) zvu.eq_def⟩
instance g_i_Heap_fits (p0:THeap) (p1:TValue):Lw (PV D.bool) (zeb p0 p1) (zab T 31 [THeap.e false p0,TValue.e false p1] []):=⟨E (zeb.eq_def ..)⟩
instance p_i_areAll_Value_2_l1 (s0:List TValue) (s1:THeap) (s7:List TValue) (s8:Int):∀ (s9:Int),Lp (kS (kN T (enF [.tmp 4] []) fun t=>⟨sL false 4 (TValue.e false) s0::.d (D.bf 31 [THeap.e false s1])::zs 16 [],[]⟩) (kR (PV D.bool))) (zbW s0 s1 s7 s8 s9) fun k=>go T (enF [.tmp 4] []) zpa (.lp zpb::.bl 0::.sq (.clr [4,6,7,8,9,10,11,12,13,14,15,16,17])::k) ⟨sL false 4 (TValue.e false) s0::.d (D.bf 31 [THeap.e false s1])::zs 5 (sL false 4 (TValue.e false) s7::sI s8::sI s9::zs 8 []),[]⟩:=Lp1 (zbW.partial_correctness s0 s1 s7 s8) (by exact fun _ _ _ _=>G zpa.eq_def)
instance g_i_areAll_Value_2 (p0:List TValue) (p1:THeap):Lw (PV D.bool) (zcf p0 p1) (zab T 76 [D.sl false 4 (List.map (TValue.e false) p0),D.bf 31 [THeap.e false p1]] []):=⟨E (zcf.eq_def ..)⟩
instance g_i_ValidHeap_1 (p0:TObject) (g0:THeap):Lw (fun (r:Bool) x=>x=some (D.bool r,[],[(THeap.c false g0)])) (zdP p0 g0) (zab T 142 [TObject.e false p0,D.ref 0 0] [(THeap.c false g0)]):=⟨E (zdP.eq_def ..)⟩
instance p_i_areAll_Object_1_l1 (s0 s7:List TObject) (s8:Int) (g0:THeap):∀ (s9:Int),Lp (kS (kN T (enF [.tmp 4] []) fun t=>⟨sL false 10 (TObject.e false) s0::.d (D.fn 142 [D.ref 0 0])::zs 16 [],[(THeap.c false g0)]⟩) (kR (fun (r:Bool) x=>x=some (D.bool r,[],[(THeap.c false g0)])))) (zbE s0 s7 s8 g0 s9) fun k=>go T (enF [.tmp 4] []) znC (.lp znD::.bl 0::.sq (.clr [4,6,7,8,9,10,11,12,13,14,15,16,17])::k) ⟨sL false 10 (TObject.e false) s0::.d (D.fn 142 [D.ref 0 0])::zs 5 (sL false 10 (TObject.e false) s7::sI s8::sI s9::zs 8 []),[(THeap.c false g0)]⟩:=Lp1 (zbE.partial_correctness s0 s7 s8 g0) (by exact fun _ _ _ _=>G znC.eq_def)
instance g_i_areAll_Object_1 (p0:List TObject) (g0:THeap):Lw (fun (r:Bool) x=>x=some (D.bool r,[],[(THeap.c false g0)])) (zcK p0 g0) (zab T 140 [D.sl false 10 (List.map (TObject.e false) p0),D.fn 142 [D.ref 0 0]] [(THeap.c false g0)]):=⟨E (zcK.eq_def ..)⟩
instance p_i_ValidHeap_l1 (s1:THeap) (s23:List TObject) (s24:Int):∀ (s3 s25:Int),Lp (kS (kN T (enF [.tmp 2] []) fun t=>⟨Z::.box (THeap.c false s1)::zs 45 [],[]⟩) (kR (PV D.bool))) (zdc s1 s23 s24 s3 s25) fun k=>go T (enF [.tmp 2] []) zwo (.lp zwp::.bl 0::.sq (.clr [0,2,3,5,6,7,8,9,10,11,12,13,14,15,16,17,18,19,20,21,22,23,24,25,26,27,28,29,30,31,32,33,34,35,36,37,38,39,40,41,42])::k) ⟨Z::.box (THeap.c false s1)::Z::sI s3::zs 18 (.ptr ⟨.slot 1,[],1⟩::sL false 10 (TObject.e false) s23::sI s24::sI s25::zs 21 []),[]⟩:=Lp2 (zdc.partial_correctness s1 s23 s24) (by exact fun _ _ _ _ _=>G zwo.eq_def)
instance p_i_ValidHeap_j1 (s1:THeap):Lp (kR (PV D.bool)) (zfD s1) fun k=>go T (enF [.tmp 2] []) zwq k ⟨Z::.box (THeap.c false s1)::zs 45 [],[]⟩:=⟨fun k=>GG (zfD.eq_def ..) zwq.eq_def⟩
instance g_i_ValidHeap (p0:THeap):Lw (PV D.bool) (zgh p0) (zab T 73 [THeap.e false p0] []):=⟨E (zgh.eq_def ..)⟩
instance g_i_nameOfBinding (p0:TBinding):Lw (PV D.str) (zbo p0) (zab T 145 [TBinding.e false p0] []):=⟨E (zbo.eq_def ..)⟩
instance p_i_isSorted_Binding_l1 (s0:List TBinding):∀ (s5:Int),Lp (kS (kN T (enF [.tmp 4] []) fun t=>⟨sL false 5 (TBinding.e false) s0::.d (D.fn 145 [])::zs 24 [],[]⟩) (kR (PV D.bool))) (zbw s0 s5) fun k=>go T (enF [.tmp 4] []) zrY (.lp zrZ::.bl 0::.sq (.clr (rg 4 22))::k) ⟨sL false 5 (TBinding.e false) s0::.d (D.fn 145 [])::Z::Z::Z::sI s5::zs 20 [],[]⟩:=Lp1 (zbw.partial_correctness s0) (by exact fun _ _ _ _=>G zrY.eq_def)
instance g_i_isSorted_Binding (p0:List TBinding):Lw (PV D.bool) (zcq p0) (zab T 144 [D.sl false 5 (List.map (TBinding.e false) p0),D.fn 145 []] []):=⟨E (zcq.eq_def ..)⟩
instance g_i_nameOfFunction (p0:TFunction):Lw (PV D.str) (zes p0) (zab T 147 [TFunction.e false p0] []):=⟨E (zes.eq_def ..)⟩
instance p_i_isSorted_Function_l1 (s0:List TFunction):∀ (s5:Int),Lp (kS (kN T (enF [.tmp 4] []) fun t=>⟨sL false 4 (TFunction.e false) s0::.d (D.fn 147 [])::zs 24 [],[]⟩) (kR (PV D.bool))) (zbq s0 s5) fun k=>go T (enF [.tmp 4] []) zsa (.lp zsb::.bl 0::.sq (.clr (rg 4 22))::k) ⟨sL false 4 (TFunction.e false) s0::.d (D.fn 147 [])::Z::Z::Z::sI s5::zs 20 [],[]⟩:=Lp1 (zbq.partial_correctness s0) (by exact fun _ _ _ _=>G zsa.eq_def)
instance g_i_isSorted_Function (p0:List TFunction):Lw (PV D.bool) (zbX p0) (zab T 146 [D.sl false 4 (List.map (TFunction.e false) p0),D.fn 147 []] []):=⟨E (zbX.eq_def ..)⟩
instance g_i_nameOfType (p0:TRecordType):Lw (PV D.str) (zgI p0) (zab T 149 [TRecordType.e false p0] []):=⟨E (zgI.eq_def ..)⟩
instance p_i_isSorted_RecordType_l1 (s0:List TRecordType):∀ (s5:Int),Lp (kS (kN T (enF [.tmp 4] []) fun t=>⟨sL false 2 (TRecordType.e false) s0::.d (D.fn 149 [])::zs 24 [],[]⟩) (kR (PV D.bool))) (zbg s0 s5) fun k=>go T (enF [.tmp 4] []) zsc (.lp zsd::.bl 0::.sq (.clr (rg 4 22))::k) ⟨sL false 2 (TRecordType.e false) s0::.d (D.fn 149 [])::Z::Z::Z::sI s5::zs 20 [],[]⟩:=Lp1 (zbg.partial_correctness s0) (by exact fun _ _ _ _=>G zsc.eq_def)
instance g_i_isSorted_RecordType (p0:List TRecordType):Lw (PV D.bool) (zbx p0) (zab T 148 [D.sl false 2 (List.map (TRecordType.e false) p0),D.fn 149 []] []):=⟨E (zbx.eq_def ..)⟩
instance g_i_null:Lw (PV (TValue.e false)) (zyQ) (zab T 223 [] []):=⟨E (zyQ.eq_def ..)⟩
instance g_i_IsNull (p0:TValue):Lw (PV D.bool) (ziX p0) (zab T 173 [TValue.e false p0] []):=⟨E (ziX.eq_def ..)⟩
instance g_i_Binding_isValid (p0:TBinding):Lw (PV D.bool) (zbP p0) (zab T 151 [TBinding.e false p0] []):=⟨E (zbP.eq_def ..)⟩
instance p_i_areAll_Binding_l1 (s0 s7:List TBinding) (s8:Int):∀ (s9:Int),Lp (kS (kN T (enF [.tmp 4] []) fun t=>⟨sL false 5 (TBinding.e false) s0::.d (D.fn 151 [])::zs 16 [],[]⟩) (kR (PV D.bool))) (zbY s0 s7 s8 s9) fun k=>go T (enF [.tmp 4] []) zse (.lp zsf::.bl 0::.sq (.clr [4,6,7,8,9,10,11,12,13,14,15,16,17])::k) ⟨sL false 5 (TBinding.e false) s0::.d (D.fn 151 [])::zs 5 (sL false 5 (TBinding.e false) s7::sI s8::sI s9::zs 8 []),[]⟩:=Lp1 (zbY.partial_correctness s0 s7 s8) (by exact fun _ _ _ _=>G zse.eq_def)
instance g_i_areAll_Binding (p0:List TBinding):Lw (PV D.bool) (zdl p0) (zab T 150 [D.sl false 5 (List.map (TBinding.e false) p0),D.fn 151 []] []):=⟨E (zdl.eq_def ..)⟩
theorem zdU (sto:List (List D)):zab T 238 [.nils 1,.int .i64 0] sto=some (.nils 1,[],sto):=by
 rw [zac T (g:=v238) rfl rfl rfl _ _ rfl]
 simp (maxSteps:=9999999) (disch:=omega) only [vx,px,ty,↓reduceIte,seval,fx,vxd,Nat.reduceBNe,most,ifT,ifF,v238,ztm,Int.reduceToNat,Int.toNat_zero,zdy.eq_3]
theorem zdV (n:Int) (sto:List (List D)) (h:0<n) (h2:n<=2147483648):zab T 238 [.nils 1,.int .i64 n] sto=some (.sl true 1 [],[],sto):=by
 rw [zac T (g:=v238) rfl rfl rfl _ _ rfl]
 simp (maxSteps:=9999999) (disch:=omega) only [vx,px,ty,↓reduceIte,seval,fx,vxd,Nat.reduceBNe,most,ifT,ifF,v238,ztm,Int.reduceToNat,Int.toNat_zero,zdy.eq_3,zkG,Int.sub_zero]
theorem zeu (a b:List ByteArray) (sto:List (List D)) (h:a.length + b.length<=2147483648):zab T 213 [.sl false 1 [.sl false 1 (a.map D.str),.sl false 1 (b.map D.str)]] sto=some (.sl true 1 ((a++b).map D.str),[],sto):=by
 by_cases h0:a.length + b.length=0
 ·obtain rfl:a=[]:=List.length_eq_zero_iff.1 (by omega)
  obtain rfl:b=[]:=List.length_eq_zero_iff.1 (by omega)
  have e0:((0:Nat):Int) + ((0:Nat):Int)=0:=rfl
  rw [zac T (g:=v213) rfl rfl rfl _ _ rfl]
  simp (maxSteps:=9999999) (disch:=omega) only [vx,px,ty,↓reduceIte,seval,fx,vxd,Nat.reduceBNe,most,ifT,ifF,v213,zta,go_lpc,znG,go_lpc,znH,List.length_map,zdU,Int.reduceToNat,Int.toNat_zero,zdy.eq_3,Int.add_zero,Int.zero_add,Int.reduceAdd,e0]
 ·rw [List.map_append]
  have e1:=fun sto=>zdV ((a.length:Int) + (b.length:Int)) sto (by omega) (by omega)
  rw [zac T (g:=v213) rfl rfl rfl _ _ rfl]
  simp (maxSteps:=9999999) (disch:=omega) only [vx,px,ty,↓reduceIte,seval,fx,vxd,Nat.reduceBNe,most,ifT,ifF,v213,zta,go_lpc,znG,go_lpc,znH,List.length_map,e1,Int.reduceToNat,Int.reduceAdd,Int.zero_add,Int.toNat_zero,zdy.eq_3]
instance g_slices_Concat_string_string (a b:List ByteArray):Lw (fun r x=>Pu (D.sl true 1 (List.map D.str r)) [] x) (zaU a b) (zab T 213 [D.sl false 1 [D.sl false 1 (List.map D.str a),D.sl false 1 (List.map D.str b)]] []):=⟨by
 unfold zaU
 refine Le.chk fun h=>Le.ret ?_
 exact ⟨_,zeu a b [] h⟩⟩
instance p_i_areAll_string_l1 (s0 s7:List ByteArray) (s8:Int):∀ (s9:Int),Lp (kS (kN T (enF [.tmp 4] []) fun t=>⟨sL false 1 D.str s0::.d (D.fn 30 [])::zs 16 [],[]⟩) (kR (PV D.bool))) (zcr s0 s7 s8 s9) fun k=>go T (enF [.tmp 4] []) zlt (.lp zlu::.bl 0::.sq (.clr [4,6,7,8,9,10,11,12,13,14,15,16,17])::k) ⟨sL false 1 D.str s0::.d (D.fn 30 [])::zs 5 (sL false 1 D.str s7::sI s8::sI s9::zs 8 []),[]⟩:=Lp1 (zcr.partial_correctness s0 s7 s8) (by exact fun _ _ _ _=>G zlt.eq_def)
instance g_i_areAll_string (p0:List ByteArray):Lw (PV D.bool) (zcA p0) (zab T 157 [D.sl false 1 (List.map D.str p0),D.fn 30 []] []):=⟨E (zcA.eq_def ..)⟩
theorem zeJ (xs:List ByteArray) (h:xs.length<=2147483648):zab T 215 [.sl false 1 (xs.map D.str)] []=some (.sl true 1 (xs.map D.str),[],[]):=by
 cases xs with
 | nil =>
  rw [zac T (g:=v215) rfl rfl rfl _ _ rfl]
  simp (maxSteps:=9999999) (disch:=omega) only [vx,px,ty,↓reduceIte,seval,fx,vxd,Nat.reduceBNe,most,ifT,ifF,v215,ztb]
 | cons x xs =>
  rw [List.length_cons] at h
  rw [zac T (g:=v215) rfl rfl rfl _ _ rfl]
  simp (maxSteps:=9999999) (disch:=omega) only [vx,px,ty,↓reduceIte,seval,fx,vxd,Nat.reduceBNe,most,ifT,ifF,v215,ztb]
instance g_slices_Clone_string_string (p0:List ByteArray):Lw (fun r x=>Pu (D.sl true 1 (List.map D.str r)) [] x) (zad p0) (zab T 215 [D.sl false 1 (List.map D.str p0)] []):=⟨by
 unfold zad
 refine Le.chk fun h=>Le.ret ?_
 exact ⟨_,zeJ p0 h⟩⟩
instance g_slices_Sort_string_string (p0:List ByteArray):Lw (fun r x=>Pu (D.tup []) [D.sl true 1 (List.map D.str r)] x) (zbb p0) (zab T 239 [D.sl true 1 (List.map D.str p0)] []):=⟨by
 unfold zbb
 refine Le.chk fun h=>Le.ret ?_
 exact ⟨_,by rw [zfJ (g:=zpP) T rfl,znA p0 h];rfl⟩⟩
instance g_slices_Compact_string_string (p0:List ByteArray):Lw (fun r x=>Pu (D.sl true 1 (List.map D.str r)) [] x) (zaP p0) (zab T 240 [D.sl true 1 (List.map D.str p0)] []):=⟨by
 unfold zaP
 refine Le.chk fun h=>Le.ret ?_
 exact ⟨_,by rw [zfJ (g:=zgY) T rfl,zkf p0 h];rfl⟩⟩
instance g_i_sortedNames (p0:List ByteArray):Lw (PV (dL true 1 D.str)) (zdQ p0) (zab T 214 [D.sl true 1 (List.map D.str p0)] []):=⟨E (zdQ.eq_def ..)⟩
instance p_i_Function_isValid_j1 (s1:TFunction) (s3:List ByteArray) (s4:Bool):Lp (kR (PV D.bool)) (zby s1 s3 s4) fun k=>go T (enF [.tmp 2] []) zsi k ⟨Z::.box (TFunction.c false s1)::Z::sL true 1 D.str s3::sB s4::zs 40 [],[]⟩:=⟨fun k=>GG (zby.eq_def ..) zsi.eq_def⟩
instance g_i_Function_isValid (p0:TFunction):Lw (PV D.bool) (zbz p0) (zab T 153 [TFunction.e false p0] []):=⟨E (zbz.eq_def ..)⟩
instance p_i_areAll_Function_l1 (s0 s7:List TFunction) (s8:Int):∀ (s9:Int),Lp (kS (kN T (enF [.tmp 4] []) fun t=>⟨sL false 4 (TFunction.e false) s0::.d (D.fn 153 [])::zs 16 [],[]⟩) (kR (PV D.bool))) (zbF s0 s7 s8 s9) fun k=>go T (enF [.tmp 4] []) zsg (.lp zsh::.bl 0::.sq (.clr [4,6,7,8,9,10,11,12,13,14,15,16,17])::k) ⟨sL false 4 (TFunction.e false) s0::.d (D.fn 153 [])::zs 5 (sL false 4 (TFunction.e false) s7::sI s8::sI s9::zs 8 []),[]⟩:=Lp1 (zbF.partial_correctness s0 s7 s8) (by exact fun _ _ _ _=>G zsg.eq_def)
instance g_i_areAll_Function (p0:List TFunction):Lw (PV D.bool) (zcL p0) (zab T 152 [D.sl false 4 (List.map (TFunction.e false) p0),D.fn 153 []] []):=⟨E (zcL.eq_def ..)⟩
instance p_i_areFields_j1 (s0:List ByteArray):Lp (kR (PV D.bool)) (zfE s0) fun k=>go T (enF [.tmp 2] []) ztc k ⟨sL false 1 D.str s0::zs 22 [],[]⟩:=⟨fun k=>GG (zfE.eq_def ..) ztc.eq_def⟩
instance g_i_areFields (p0:List ByteArray):Lw (PV D.bool) (zht p0) (zab T 216 [D.sl false 1 (List.map D.str p0)] []):=⟨E (zht.eq_def ..)⟩
instance g_i_RecordType_isValid (p0:TRecordType):Lw (PV D.bool) (zbj p0) (zab T 155 [TRecordType.e false p0] []):=⟨E (zbj.eq_def ..)⟩
instance p_i_areAll_RecordType_l1 (s0 s7:List TRecordType) (s8:Int):∀ (s9:Int),Lp (kS (kN T (enF [.tmp 4] []) fun t=>⟨sL false 2 (TRecordType.e false) s0::.d (D.fn 155 [])::zs 16 [],[]⟩) (kR (PV D.bool))) (zbr s0 s7 s8 s9) fun k=>go T (enF [.tmp 4] []) zsj (.lp zsk::.bl 0::.sq (.clr [4,6,7,8,9,10,11,12,13,14,15,16,17])::k) ⟨sL false 2 (TRecordType.e false) s0::.d (D.fn 155 [])::zs 5 (sL false 2 (TRecordType.e false) s7::sI s8::sI s9::zs 8 []),[]⟩:=Lp1 (zbr.partial_correctness s0 s7 s8) (by exact fun _ _ _ _=>G zsj.eq_def)
instance g_i_areAll_RecordType (p0:List TRecordType):Lw (PV D.bool) (zbZ p0) (zab T 154 [D.sl false 2 (List.map (TRecordType.e false) p0),D.fn 155 []] []):=⟨E (zbZ.eq_def ..)⟩
instance p_i_ValidScope_j1 (s1:TScope) (s3:Bool):Lp (kR (PV D.bool)) (zcB s1 s3) fun k=>go T (enF [.tmp 2] []) zwr k ⟨Z::.box (TScope.c false s1)::Z::sB s3::zs 45 [],[]⟩:=⟨fun k=>GG (zcB.eq_def ..) zwr.eq_def⟩
instance p_i_ValidScope_j2 (s1:TScope):Lp (kR (PV D.bool)) (zfh s1) fun k=>go T (enF [.tmp 2] []) zws k ⟨Z::.box (TScope.c false s1)::zs 47 [],[]⟩:=⟨fun k=>GG (zfh.eq_def ..) zws.eq_def⟩
instance g_i_ValidScope (p0:TScope):Lw (PV D.bool) (zft p0) (zab T 74 [TScope.e false p0] []):=⟨E (zft.eq_def ..)⟩
instance g_i_isShort (p0:ByteArray):Lw (PV D.bool) (zjB p0) (zab T 158 [D.str p0] []):=⟨E (zjB.eq_def ..)⟩
instance p_i_areAll_string_1_l1 (s0 s7:List ByteArray) (s8:Int):∀ (s9:Int),Lp (kS (kN T (enF [.tmp 4] []) fun t=>⟨sL false 1 D.str s0::.d (D.fn 158 [])::zs 16 [],[]⟩) (kR (PV D.bool))) (zbG s0 s7 s8 s9) fun k=>go T (enF [.tmp 4] []) zlt (.lp zlu::.bl 0::.sq (.clr [4,6,7,8,9,10,11,12,13,14,15,16,17])::k) ⟨sL false 1 D.str s0::.d (D.fn 158 [])::zs 5 (sL false 1 D.str s7::sI s8::sI s9::zs 8 []),[]⟩:=Lp1 (zbG.partial_correctness s0 s7 s8) (by exact fun _ _ _ _=>G zlt.eq_def)
instance g_i_areAll_string_1 (p0:List ByteArray):Lw (PV D.bool) (zbk p0) (zab T 157 [D.sl false 1 (List.map D.str p0),D.fn 158 []] []):=⟨E (zbk.eq_def ..)⟩
instance g_i_ValidConsole_1 (p0:ByteArray):Lw (PV D.bool) (zet p0) (zab T 156 [D.str p0] []):=⟨E (zet.eq_def ..)⟩
instance p_i_areAll_string_2_l1 (s0 s7:List ByteArray) (s8:Int):∀ (s9:Int),Lp (kS (kN T (enF [.tmp 4] []) fun t=>⟨sL false 1 D.str s0::.d (D.fn 156 [])::zs 16 [],[]⟩) (kR (PV D.bool))) (zbH s0 s7 s8 s9) fun k=>go T (enF [.tmp 4] []) zlt (.lp zlu::.bl 0::.sq (.clr [4,6,7,8,9,10,11,12,13,14,15,16,17])::k) ⟨sL false 1 D.str s0::.d (D.fn 156 [])::zs 5 (sL false 1 D.str s7::sI s8::sI s9::zs 8 []),[]⟩:=Lp1 (zbH.partial_correctness s0 s7 s8) (by exact fun _ _ _ _=>G zlt.eq_def)
instance g_i_areAll_string_2 (p0:List ByteArray):Lw (PV D.bool) (zcM p0) (zab T 157 [D.sl false 1 (List.map D.str p0),D.fn 156 []] []):=⟨E (zcM.eq_def ..)⟩
instance g_i_isMode (p0:Int):Lw (PV D.bool) (zlC p0) (zab T 217 [dI p0] []):=⟨E (zlC.eq_def ..)⟩
instance p_i_File_isValid_j1 (s1:TFile) (s3 s4:Bool):Lp (kR (PV D.bool)) (zbQ s1 s3 s4) fun k=>go T (enF [.tmp 2] []) zsn k ⟨Z::.box (TFile.c false s1)::Z::sB s3::sB s4::zs 44 [],[]⟩:=⟨fun k=>GG (zbQ.eq_def ..) zsn.eq_def⟩
instance p_i_File_isValid_j2 (s1:TFile) (s3:Bool):Lp (kR (PV D.bool)) (zcN s1 s3) fun k=>go T (enF [.tmp 2] []) zso k ⟨Z::.box (TFile.c false s1)::Z::sB s3::zs 45 [],[]⟩:=⟨fun k=>GG (zcN.eq_def ..) zso.eq_def⟩
instance g_i_File_isValid (p0:TFile):Lw (PV D.bool) (zdd p0) (zab T 160 [TFile.e false p0] []):=⟨E (zdd.eq_def ..)⟩
instance p_i_areAll_File_l1 (s0 s7:List TFile) (s8:Int):∀ (s9:Int),Lp (kS (kN T (enF [.tmp 4] []) fun t=>⟨sL false 4 (TFile.e false) s0::.d (D.fn 160 [])::zs 16 [],[]⟩) (kR (PV D.bool))) (zdm s0 s7 s8 s9) fun k=>go T (enF [.tmp 4] []) zsl (.lp zsm::.bl 0::.sq (.clr [4,6,7,8,9,10,11,12,13,14,15,16,17])::k) ⟨sL false 4 (TFile.e false) s0::.d (D.fn 160 [])::zs 5 (sL false 4 (TFile.e false) s7::sI s8::sI s9::zs 8 []),[]⟩:=Lp1 (zdm.partial_correctness s0 s7 s8) (by exact fun _ _ _ _=>G zsl.eq_def)
instance g_i_areAll_File (p0:List TFile):Lw (PV D.bool) (zeF p0) (zab T 159 [D.sl false 4 (List.map (TFile.e false) p0),D.fn 160 []] []):=⟨E (zeF.eq_def ..)⟩
instance g_i_nameOfFile (p0:TFile):Lw (PV D.str) (zgJ p0) (zab T 162 [TFile.e false p0] []):=⟨E (zgJ.eq_def ..)⟩
instance p_i_isSorted_File_l1 (s0:List TFile):∀ (s5:Int),Lp (kS (kN T (enF [.tmp 4] []) fun t=>⟨sL false 4 (TFile.e false) s0::.d (D.fn 162 [])::zs 24 [],[]⟩) (kR (PV D.bool))) (zcs s0 s5) fun k=>go T (enF [.tmp 4] []) zsp (.lp zsq::.bl 0::.sq (.clr (rg 4 22))::k) ⟨sL false 4 (TFile.e false) s0::.d (D.fn 162 [])::Z::Z::Z::sI s5::zs 20 [],[]⟩:=Lp1 (zcs.partial_correctness s0) (by exact fun _ _ _ _=>G zsp.eq_def)
instance g_i_isSorted_File (p0:List TFile):Lw (PV D.bool) (zdR p0) (zab T 161 [D.sl false 4 (List.map (TFile.e false) p0),D.fn 162 []] []):=⟨E (zdR.eq_def ..)⟩
instance p_i_ValidConsole_j1 (s1:TConsole) (s4:Bool):Lp (kR (PV D.bool)) (zbR s1 s4) fun k=>go T (enF [.tmp 2] []) zwt k ⟨Z::.box (TConsole.c false s1)::Z::Z::sB s4::zs 55 [],[]⟩:=⟨fun k=>GG (zbR.eq_def ..) zwt.eq_def⟩
instance p_i_ValidConsole_j2 (s1:TConsole):Lp (kR (PV D.bool)) (zec s1) fun k=>go T (enF [.tmp 2] []) zwu k ⟨Z::.box (TConsole.c false s1)::Z::.d (D.fn 156 [])::zs 56 [],[]⟩:=⟨fun k=>GG (zec.eq_def ..) zwu.eq_def⟩
instance g_i_ValidConsole (p0:TConsole):Lw (PV D.bool) (zef p0) (zab T 75 [TConsole.e false p0] []):=⟨E (zef.eq_def ..)⟩
instance p_i_Scope_roots_l1 (s1:TScope) (s8:List TBinding) (s9:Int):∀ (s3:List TValue) (s10:Int),Lp (kN T (enF [.tmp 2] []) fun t=>⟨Z::Z::Z::sL true 4 (TValue.e false) t::zs 17 [],[]⟩) (zdn s1 s8 s9 s3 s10) fun k=>go T (enF [.tmp 2] []) zwv (.lp zww::.bl 0::.sq (.clr [0,1,2,5,6,7,8,9,10,11,12,13,14,15,16,17,18,19])::k) ⟨Z::.box (TScope.c false s1)::Z::sL true 4 (TValue.e false) s3::Z::Z::Z::.ptr ⟨.slot 1,[],0⟩::sL false 5 (TBinding.e false) s8::sI s9::sI s10::zs 10 [],[]⟩:=Lp2 (zdn.partial_correctness s1 s8 s9) (by
 intro rec _ s3 s10 k
 refine G0 zwv.eq_def ?_
 try conv=>arg 3;simp (maxSteps:=999999) only [push_cast,↓reduceIte,seval, *]
 refine Le.itq (fun h=>?_) (fun h=>?_)
 ·try conv=>arg 3;simp (maxSteps:=999999) only [push_cast,↓reduceIte,seval, *]
  refine Le.idx fun a12 h_1 h_2 h_3=>?_
  try conv=>arg 3;simp (maxSteps:=999999) only [push_cast,↓reduceIte,seval, *]
  refine Le.app fun c18 h_4 h_5=>?_
  replace h_4:List.map (TValue.e false) s3++[D.agg [D.int .i64 a12.Value.Kind,D.int .i64 a12.Value.Num,D.str a12.Value.Text,D.int .i64 a12.Value.Ref]]=List.map (TValue.e false) c18:=by rw [h_4,List.map_append] <;> first|rfl|simp only [eqs]
  replace h_5:s3.length + 1<=most:=h_5
  exact A
 ·exact A)
instance g_i_Scope_roots (p0:TScope):Lw (PV (dL true 4 (TValue.e false))) (zeG p0) (zab T 77 [TScope.e false p0] []):=⟨E (zeG.eq_def ..)⟩
instance g_i_ValidMemory (p0:TMemory):Lw (PV D.bool) (zeH p0) (zab T 29 [TMemory.e false p0] []):=⟨E (zeH.eq_def ..)⟩
theorem zfl (xs:List TValue) (h:xs.length<=2147483648):zab T 230 [.sl false 4 (xs.map (TValue.e false))] []=some (.sl true 4 (xs.map (TValue.e false)),[],[]):=by
 cases xs with
 | nil =>
  rw [zac T (g:=v230) rfl rfl rfl _ _ rfl]
  simp (maxSteps:=9999999) (disch:=omega) only [vx,px,ty,↓reduceIte,seval,fx,vxd,Nat.reduceBNe,most,ifT,ifF,v230,ztg]
 | cons x xs =>
  rw [List.length_cons] at h
  rw [zac T (g:=v230) rfl rfl rfl _ _ rfl]
  simp (maxSteps:=9999999) (disch:=omega) only [vx,px,ty,↓reduceIte,seval,fx,vxd,Nat.reduceBNe,most,ifT,ifF,v230,ztg]
instance g_slices_Clone_Value_Value (p0:List TValue):Lw (fun r x=>Pu (D.sl true 4 (List.map (TValue.e false) r)) [] x) (zaO p0) (zab T 230 [D.sl false 4 (List.map (TValue.e false) p0)] []):=⟨by
 unfold zaO
 refine Le.chk fun h=>Le.ret ?_
 exact ⟨_,zfl p0 h⟩⟩
instance g_i_Object_copied (p0:TObject):Lw (PV (TObject.e true)) (zdS p0) (zab T 195 [TObject.e false p0] []):=⟨E (zdS.eq_def ..)⟩
instance p_i_Heap_copied_l1 (s1 s2:THeap) (s10:List TObject) (s11:Int):∀ (s3:THeap) (s12:Int),Lp (kN T (enF [.cell 2 (.many 2)] []) fun t=>⟨Z::Z::.box (THeap.c true s2)::.box (THeap.c true t)::zs 21 [],[]⟩) (zdo s1 s2 s10 s11 s3 s12) fun k=>go T (enF [.cell 2 (.many 2)] []) zst (.lp zsu::.bl 0::.sq (.clr [0,1,5,6,7,8,9,10,11,12,13,14,15,16,17,18,19,20,21,22,23])::k) ⟨Z::.box (THeap.c false s1)::.box (THeap.c true s2)::.box (THeap.c true s3)::zs 5 (.ptr ⟨.slot 1,[],1⟩::sL false 10 (TObject.e false) s10::sI s11::sI s12::zs 12 []),[]⟩:=Lp2 (zdo.partial_correctness s1 s2 s10 s11) (by
 intro rec _ s3 s12 k
 refine G0 zst.eq_def ?_
 try conv=>arg 3;simp (maxSteps:=999999) only [push_cast,↓reduceIte,seval, *]
 refine Le.itq (fun h=>?_) (fun h=>?_)
 ·try conv=>arg 3;simp (maxSteps:=999999) only [push_cast,↓reduceIte,seval, *]
  refine Le.idx fun a14 h_1 h_2 h_3=>?_
  try conv=>arg 3;simp (maxSteps:=999999) only [push_cast,↓reduceIte,seval, *]
  refine Le.dcall ((g_i_Object_copied a14).h) fun r19 h_4 _ hy=>?_
  first|subst hy|obtain ⟨_,rfl⟩:=hy
  try conv=>arg 3;simp (maxSteps:=999999) only [push_cast,↓reduceIte,seval, *]
  refine Le.app fun c21 h_5 h_6=>?_
  replace h_5:List.map (TObject.e true) s3.Objects++[D.agg [D.int .i64 r19.Id,D.int .i64 r19.Kind,D.str r19.Name,D.int .i64 r19.Low,D.sl true 4 (List.map (TValue.e false) r19.Keys),D.sl true 4 (List.map (TValue.e false) r19.Vals),D.int .i64 r19.Default.Kind,D.int .i64 r19.Default.Num,D.str r19.Default.Text,D.int .i64 r19.Default.Ref]]=List.map (TObject.e true) c21:=by rw [h_5,List.map_append] <;> first|rfl|simp only [eqs]
  replace h_6:s3.Objects.length + 1<=most:=h_6
  exact A
 ·exact A)
instance g_i_Heap_copied (p0:THeap):Lw (PV (THeap.e true)) (zeI p0) (zab T 168 [THeap.e false p0] []):=⟨E (zeI.eq_def ..)⟩
theorem zep (xs:List TBinding) (h:xs.length<=2147483648):zab T 175 [.sl false 5 (xs.map (TBinding.e false))] []=some (.sl true 5 (xs.map (TBinding.e false)),[],[]):=by
 cases xs with
 | nil =>
  rw [zac T (g:=v175) rfl rfl rfl _ _ rfl]
  simp (maxSteps:=9999999) (disch:=omega) only [vx,px,ty,↓reduceIte,seval,fx,vxd,Nat.reduceBNe,most,ifT,ifF,v175,zsB]
 | cons x xs =>
  rw [List.length_cons] at h
  rw [zac T (g:=v175) rfl rfl rfl _ _ rfl]
  simp (maxSteps:=9999999) (disch:=omega) only [vx,px,ty,↓reduceIte,seval,fx,vxd,Nat.reduceBNe,most,ifT,ifF,v175,zsB]
instance g_slices_Clone_Binding_Binding (p0:List TBinding):Lw (fun r x=>Pu (D.sl true 5 (List.map (TBinding.e false) r)) [] x) (zal p0) (zab T 175 [D.sl false 5 (List.map (TBinding.e false) p0)] []):=⟨by
 unfold zal
 refine Le.chk fun h=>Le.ret ?_
 exact ⟨_,zep p0 h⟩⟩
instance p_i_Scope_copied_l1 (s1 s2:TScope) (s13:List TFunction) (s14:Int):∀ (s3:TScope) (s15:Int),Lp (kN T (enF [.cell 2 (.many 3)] []) fun t=>⟨Z::.box (TScope.c false s1)::.box (TScope.c true s2)::.box (TScope.c true t)::zs 49 [],[]⟩) (zbS s1 s2 s13 s14 s3 s15) fun k=>go T (enF [.cell 2 (.many 3)] []) zsv (.lp zsw::.bl 0::.sq (.clr [0,5,8,9,10,11,12,13,14,15,16,17,18,19,20,21,22,23,24,25,26,27,28,29,30,31,32,33])::k) ⟨Z::.box (TScope.c false s1)::.box (TScope.c true s2)::.box (TScope.c true s3)::zs 8 (.ptr ⟨.slot 1,[],1⟩::sL false 4 (TFunction.e false) s13::sI s14::sI s15::zs 37 []),[]⟩:=Lp2 (zbS.partial_correctness s1 s2 s13 s14) (by
 intro rec _ s3 s15 k
 refine G0 zsv.eq_def ?_
 try conv=>arg 3;simp (maxSteps:=999999) only [push_cast,↓reduceIte,seval, *]
 refine Le.itq (fun h=>?_) (fun h=>?_)
 ·try conv=>arg 3;simp (maxSteps:=999999) only [push_cast,↓reduceIte,seval, *]
  refine Le.idx fun a17 h_1 h_2 h_3=>?_
  try conv=>arg 3;simp (maxSteps:=999999) only [push_cast,↓reduceIte,seval, *]
  refine Le.dcall ((g_slices_Clone_string_string a17.Params).h) fun r21 h_4 _ hy=>?_
  first|subst hy|obtain ⟨_,rfl⟩:=hy
  try conv=>arg 3;simp (maxSteps:=999999) only [push_cast,↓reduceIte,seval, *]
  refine Le.dcall ((g_slices_Clone_string_string a17.Locals).h) fun r24 h_5 _ hy=>?_
  first|subst hy|obtain ⟨_,rfl⟩:=hy
  try conv=>arg 3;simp (maxSteps:=999999) only [push_cast,↓reduceIte,seval, *]
  refine Le.app fun c31 h_6 h_7=>?_
  replace h_6:List.map (TFunction.e true) s3.Functions++[D.agg [D.str a17.Name,D.sl true 1 (List.map D.str r21),D.sl true 1 (List.map D.str r24),D.str a17.Label]]=List.map (TFunction.e true) c31:=by rw [h_6,List.map_append] <;> first|rfl|simp only [eqs]
  replace h_7:s3.Functions.length + 1<=most:=h_7
  exact A
 ·exact A)
instance p_i_Scope_copied_l2 (s1 s2:TScope) (s35:List TRecordType) (s36:Int):∀ (s3:TScope) (s37:Int),Lp (kN T (enF [.cell 2 (.many 3)] []) fun t=>⟨Z::Z::.box (TScope.c true s2)::.box (TScope.c true t)::zs 49 [],[]⟩) (zbT s1 s2 s35 s36 s3 s37) fun k=>go T (enF [.cell 2 (.many 3)] []) zsx (.lp zsy::.bl 2::.sq (.clr [0,1,5,7,8,9,10,11,12,13,14,15,16,17,18,19,20,21,22,23,24,25,26,27,28,29,30,31,32,33,34,35,36,37,38,39,40,41,42,43,44,45,46,47,48,49,50,51])::k) ⟨Z::.box (TScope.c false s1)::.box (TScope.c true s2)::.box (TScope.c true s3)::zs 30 (.ptr ⟨.slot 1,[],2⟩::sL false 2 (TRecordType.e false) s35::sI s36::sI s37::zs 15 []),[]⟩:=Lp2 (zbT.partial_correctness s1 s2 s35 s36) (by
 intro rec _ s3 s37 k
 refine G0 zsx.eq_def ?_
 try conv=>arg 3;simp (maxSteps:=999999) only [push_cast,↓reduceIte,seval, *]
 refine Le.itq (fun h=>?_) (fun h=>?_)
 ·try conv=>arg 3;simp (maxSteps:=999999) only [push_cast,↓reduceIte,seval, *]
  refine Le.idx fun a39 h_1 h_2 h_3=>?_
  try conv=>arg 3;simp (maxSteps:=999999) only [push_cast,↓reduceIte,seval, *]
  refine Le.call ((g_slices_Clone_string_string a39.Fields).h) fun r43 h_4 _ hy=>?_
  first|subst hy|obtain ⟨_,rfl⟩:=hy
  try conv=>arg 3;simp (maxSteps:=999999) only [push_cast,↓reduceIte,seval, *]
  refine Le.app fun c49 h_5 h_6=>?_
  replace h_5:List.map (TRecordType.e true) s3.Types++[D.agg [D.str a39.Name,D.sl true 1 (List.map D.str r43)]]=List.map (TRecordType.e true) c49:=by rw [h_5,List.map_append] <;> first|rfl|simp only [eqs]
  replace h_6:s3.Types.length + 1<=most:=h_6
  exact A
 ·exact A)
instance g_i_Scope_copied (p0:TScope):Lw (PV (TScope.e true)) (zeg p0) (zab T 169 [TScope.e false p0] []):=⟨E (zeg.eq_def ..)⟩
instance p_i_Console_copied_l1 (s1 s2:TConsole) (s19:List TFile) (s20:Int):∀ (s3:TConsole) (s21:Int),Lp (kN T (enF [.cell 2 (.many 5)] []) fun t=>⟨Z::Z::.box (TConsole.c true s2)::.box (TConsole.c true t)::zs 33 [],[]⟩) (zca s1 s2 s19 s20 s3 s21) fun k=>go T (enF [.cell 2 (.many 5)] []) zsz (.lp zsA::.bl 0::.sq (.clr [0,1,5,6,7,8,9,10,11,12,13,14,15,16,17,18,19,20,21,22,23,24,25,26,27,28,29,30,31,32,33,34,35])::k) ⟨Z::.box (TConsole.c false s1)::.box (TConsole.c true s2)::.box (TConsole.c true s3)::zs 14 (.ptr ⟨.slot 1,[],3⟩::sL false 4 (TFile.e false) s19::sI s20::sI s21::zs 15 []),[]⟩:=Lp2 (zca.partial_correctness s1 s2 s19 s20) (by
 intro rec _ s3 s21 k
 refine G0 zsz.eq_def ?_
 try conv=>arg 3;simp (maxSteps:=999999) only [push_cast,↓reduceIte,seval, *]
 refine Le.itq (fun h=>?_) (fun h=>?_)
 ·try conv=>arg 3;simp (maxSteps:=999999) only [push_cast,↓reduceIte,seval, *]
  refine Le.idx fun a23 h_1 h_2 h_3=>?_
  try conv=>arg 3;simp (maxSteps:=999999) only [push_cast,↓reduceIte,seval, *]
  refine Le.call ((g_slices_Clone_string_string a23.Lines).h) fun r27 h_4 _ hy=>?_
  first|subst hy|obtain ⟨_,rfl⟩:=hy
  try conv=>arg 3;simp (maxSteps:=999999) only [push_cast,↓reduceIte,seval, *]
  refine Le.app fun c33 h_5 h_6=>?_
  replace h_5:List.map (TFile.e true) s3.Files++[D.agg [D.str a23.Name,D.sl true 1 (List.map D.str r27),D.int .i64 a23.Mode,D.int .i64 a23.At]]=List.map (TFile.e true) c33:=by rw [h_5,List.map_append] <;> first|rfl|simp only [eqs]
  replace h_6:s3.Files.length + 1<=most:=h_6
  exact A
 ·exact A)
instance g_i_Console_copied (p0:TConsole):Lw (PV (TConsole.e true)) (zdp p0) (zab T 170 [TConsole.e false p0] []):=⟨E (zdp.eq_def ..)⟩
instance g_i_Memory_copied (p0:TMemory):Lw (PV (TMemory.e true)) (zdT p0) (zab T 85 [TMemory.e false p0] []):=⟨E (zdT.eq_def ..)⟩
instance g_i_newRunner (p0:TMemory):Lw (fun (r:Trunner) x=>x=some (D.ref 0 0,[],[(Trunner.c true r)])) (zhu p0) (zab T 32 [TMemory.e false p0] []):=⟨E (zhu.eq_def ..)⟩
instance g_strconv_FormatInt (n b:Int):Lw (fun r x=>Pu (D.str r) [] x) (zcO n b) (zab T 219 [D.int .i64 n,D.int .i64 b] []):=⟨by
 unfold zcO
 intro r hr
 exact ⟨_,by rw [zfJ (g:=zpV) T rfl,znB hr];rfl⟩⟩
instance g_i_decimal (p0:Int):Lw (PV D.str) (zhS p0) (zab T 171 [dI p0] []):=⟨E (zhS.eq_def ..)⟩
instance g_i_ToText (p0:TValue):Lw (PV fun (r:ByteArray × Bool)=>D.tup [D.str r.1,D.bool r.2]) (ziY p0) (zab T 86 [TValue.e false p0] []):=⟨E (ziY.eq_def ..)⟩
instance g_i_Console_writeLine (p1:ByteArray) (g0:Trunner):Lw (fun (r:Int × Trunner) x=>x=some (dI r.1,[],[(Trunner.c true r.2)])) (zdu p1 g0) (zab T 87 [D.ref 0 5,D.str p1] [(Trunner.c true g0)]):=⟨by
 refine E0 (h:=?_) (zdu.eq_def ..)
 try conv=>arg 3;simp (maxSteps:=999999) only [push_cast,↓reduceIte,seval, *]
 refine Le.itq (fun h=>?_) (fun h=>?_)
 ·exact A
 ·try conv=>arg 3;simp (maxSteps:=999999) only [push_cast,↓reduceIte,seval, *]
  refine Le.app fun c18 h_1 h_2=>?_
  replace h_1:List.map D.str g0.m_.Console.Output++[D.str p1]=List.map D.str c18:=by rw [h_1,List.map_append] <;> first|rfl|simp only [eqs]
  replace h_2:g0.m_.Console.Output.length + 1<=most:=h_2
  exact A⟩
instance g_cmp_isNaN_string (p0:ByteArray):Lw (PV D.bool) (zdq p0) (zab T 242 [D.str p0] []):=⟨E (zdq.eq_def ..)⟩
instance g_cmp_Compare_string (p0 p1:ByteArray):Lw (PV dI) (zct p0 p1) (zab T 222 [D.str p0,D.str p1] []):=⟨E (zct.eq_def ..)⟩
instance g_i_find_Binding_1 (p0:TBinding) (p1:ByteArray):Lw (fun (r:Int) x=>x=some (dI r,[],[[D.fn 145 []]])) (zcg p0 p1) (zab T 221 [TBinding.e false p0,D.str p1,D.ref 0 0] [[D.fn 145 []]]):=⟨E (zcg.eq_def ..)⟩
instance p_slices_BinarySearchFunc_Binding_Binding_string_l1 (s0:List TBinding) (s1:ByteArray) (s8:Int):∀ (s9 s10:Int),Lp (kN T (enF [.tmp 6,.tmp 7] []) fun t=>⟨sL false 5 (TBinding.e false) s0::sT s1::.d (D.fn 221 [D.ref 0 0])::zs 5 (sI s8::sI t::zs 39 []),[[D.fn 145 []]]⟩) (zah s0 s1 s8 s9 s10) fun k=>go T (enF [.tmp 6,.tmp 7] []) ztd (.lp zte::.bl 0::.sq (.clr [6,7,10,11,12,13,14,15,16,17,18,19,20,21,22,23,24,25,26,27,28,29,30,31,32,33,34])::k) ⟨sL false 5 (TBinding.e false) s0::sT s1::.d (D.fn 221 [D.ref 0 0])::zs 5 (sI s8::sI s9::sI s10::zs 38 []),[[D.fn 145 []]]⟩:=Lp2 (zah.partial_correctness s0 s1 s8) (by exact fun _ _ _ _ _=>G ztd.eq_def)
instance g_slices_BinarySearchFunc_Binding_Binding_string (p0:List TBinding) (p1:ByteArray):Lw (fun (r:Int × Bool) x=>x=some (D.tup [dI r.1,D.bool r.2],[],[[D.fn 145 []]])) (zay p0 p1) (zab T 220 [D.sl false 5 (List.map (TBinding.e false) p0),D.str p1,D.fn 221 [D.ref 0 0]] [[D.fn 145 []]]):=⟨E (zay.eq_def ..)⟩
instance g_i_find_Binding (p0:List TBinding) (p1:ByteArray):Lw (PV fun (r:Int × Bool)=>D.tup [dI r.1,D.bool r.2]) (zde p0 p1) (zab T 172 [D.sl false 5 (List.map (TBinding.e false) p0),D.str p1,D.fn 145 []] []):=⟨E (zde.eq_def ..)⟩
instance g_slices_Delete_Binding_Binding (a:List TBinding) (i j:Int):Lw (fun r x=>Pu (D.sl true 5 (List.map (TBinding.e false) r)) [] x) (zaK a i j) (zab T 174 [D.sl true 5 (List.map (TBinding.e false) a),D.int .i64 i,D.int .i64 j] []):=⟨by
 unfold zaK
 refine Le.chk fun h=>Le.ret ?_
 exact ⟨_,by rw [zfJ (g:=zim 5) T rfl,zll (TBinding.e false) 5 a i j h];rfl⟩⟩
instance g_slices_Insert_Binding_Binding (a:List TBinding) (i:Int) (y:TBinding):Lw (fun r x=>Pu (D.sl true 5 (List.map (TBinding.e false) r)) [] x) (zaL a i y) (zab T 224 [D.sl true 5 (List.map (TBinding.e false) a),D.int .i64 i,D.sl true 5 [D.agg [D.str y.Name,D.int .i64 y.Value.Kind,D.int .i64 y.Value.Num,D.str y.Value.Text,D.int .i64 y.Value.Ref]]] []):=⟨by
 unfold zaL
 refine Le.chk fun h=>Le.ret ?_
 exact ⟨_,by rw [zfJ (g:=zil 5) T rfl,zlk (TBinding.e false) 5 a i y (v:=D.agg [D.str y.Name,D.int .i64 y.Value.Kind,D.int .i64 y.Value.Num,D.str y.Value.Text,D.int .i64 y.Value.Ref]) rfl h];rfl⟩⟩
instance g_i_replaced_Binding (p0:List TBinding) (p1:TBinding):Lw (PV (dL true 5 (TBinding.e false))) (zcu p0 p1) (zab T 176 [D.sl false 5 (List.map (TBinding.e false) p0),TBinding.e false p1,D.fn 145 []] []):=⟨by
 refine E0 (h:=?_) (zcu.eq_def ..)
 try conv=>arg 3;simp (maxSteps:=999999) only [push_cast,↓reduceIte,seval, *]
 refine Le.call ((g_i_nameOfBinding p1).h) fun r14 h _ hy=>?_
 first|subst hy|obtain ⟨_,rfl⟩:=hy
 try conv=>arg 3;simp (maxSteps:=999999) only [push_cast,↓reduceIte,seval, *]
 refine Le.call ((g_i_find_Binding p0 r14).h) fun r16 h_1 _ hy=>?_
 first|subst hy|obtain ⟨_,rfl⟩:=hy
 try conv=>arg 3;simp (maxSteps:=999999) only [push_cast,↓reduceIte,seval, *]
 refine Le.call ((g_slices_Clone_Binding_Binding p0).h) fun r20 h_2 _ hy=>?_
 first|subst hy|obtain ⟨_,rfl⟩:=hy
 try conv=>arg 3;simp (maxSteps:=999999) only [push_cast,↓reduceIte,seval, *]
 refine Le.bool (fun h_3=>?_) (fun h_3=>?_)
 ·try conv=>arg 3;simp (maxSteps:=999999) only [push_cast,↓reduceIte,seval, *]
  refine Le.idx fun a25 h_4 h_5 h_6=>?_
  try conv=>arg 3;simp (maxSteps:=999999) only [push_cast,↓reduceIte,seval, *]
  have f:List.set (List.map (TBinding.e false) r20) r16.1.toNat (D.agg [D.str p1.Name,D.int .i64 p1.Value.Kind,D.int .i64 p1.Value.Num,D.str p1.Value.Text,D.int .i64 p1.Value.Ref])=List.map (TBinding.e false) (setN r20 r16.1.toNat p1):=zmx _ _ _ _ (by first|rfl|(simp only [TExpr.e_eq];done)|(simp only [TExpr.e_eq] <;> rfl))
  exact A
 ·exact A⟩
instance p_i_Scope_assign_j1 (s1:ByteArray) (s5:TValue) (g0:Trunner):Lp (kR (fun (r:Int × Trunner) x=>x=some (dI r.1,[],[(Trunner.c true r.2)]))) (zcP s1 s5 g0) fun k=>go T (enF [.tmp 6] []) zwB k ⟨.d (D.ref 0 2)::sT s1::Z::Z::Z::.box (TValue.c false s5)::zs 50 [],[(Trunner.c true g0)]⟩:=⟨fun k=>GG (zcP.eq_def ..) zwB.eq_def⟩
instance g_i_Scope_assign (p1:ByteArray) (p2:TValue) (g0:Trunner):Lw (fun (r:Int × Trunner) x=>x=some (dI r.1,[],[(Trunner.c true r.2)])) (zeh p1 p2 g0) (zab T 88 [D.ref 0 2,D.str p1,TValue.e false p2] [(Trunner.c true g0)]):=⟨E (zeh.eq_def ..)⟩
instance g_i_runner_writeVariable (p1:ByteArray) (p2:TValue) (g0:Trunner):Lw (fun (r:Int × Trunner) x=>x=some (dI r.1,[],[(Trunner.c true r.2)])) (zcj p1 p2 g0) (zab T 33 [D.ref 0 0,D.str p1,TValue.e false p2] [(Trunner.c true g0)]):=⟨E (zcj.eq_def ..)⟩
instance p_i_WriteVariable_j1 (s1:ByteArray) (s3:TMemory) (s5:TValue) (s6:TMemory):Lp (kR (PV fun (r:TMemory × Int)=>D.tup [TMemory.e true r.1,dI r.2])) (zcv s1 s3 s5 s6) fun k=>go T (enF [.cell 6 (.many 10),.tmp 7] []) zvt k ⟨Z::sT s1::Z::.box (TMemory.c false s3)::Z::.box (TValue.c false s5)::.box (TMemory.c true s6)::zs 33 [],[]⟩:=⟨fun k=>GG (zcv.eq_def ..) zvt.eq_def⟩
instance g_i_WriteVariable (p0:TMemory) (p1:ByteArray) (p2:TValue):Lw (PV fun (r:TMemory × Int)=>D.tup [TMemory.e true r.1,dI r.2]) (zfi p0 p1 p2) (zab T 10 [TMemory.e false p0,D.str p1,TValue.e false p2] []):=⟨E (zfi.eq_def ..)⟩
end Go.Vx.WvZ

