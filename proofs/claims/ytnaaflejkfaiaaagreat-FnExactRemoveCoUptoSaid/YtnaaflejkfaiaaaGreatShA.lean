/-
  What the plain functions give, the program gives too.
-/
import Derived.Test.YtnaaflejkfaiaaaGreatAu
set_option linter.unusedVariables false
set_option linter.unusedSimpArgs false
namespace Go.Vx.RmZ
set_option maxRecDepth 10000
set_option maxHeartbeats 2000000
attribute [local irreducible] go bk exi got
instance g_s_l00In (p0 p1 p2:Int):Lw (PV D.bool) (zcg p0 p1 p2) (zaa T 120 [dI p0,dI p1,dI p2] []):=⟨E (zcg.eq_def ..)⟩
instance g_s_l06Plain (p0:TValue) (p1 p2 p3:Bool):Lw (PV D.bool) (zec p0 p1 p2 p3) (zaa T 215 [TValue.e false p0,D.bool p1,D.bool p2,D.bool p3] []):=⟨E (zec.eq_def ..)⟩
instance g_s_l02Letter (p0:Int):Lw (PV D.bool) (zfB p0) (zaa T 247 [D.int .u8 p0] []):=⟨E (zfB.eq_def ..)⟩
instance g_s_l02Digit (p0:Int):Lw (PV D.bool) (zhw p0) (zaa T 248 [D.int .u8 p0] []):=⟨E (zhw.eq_def ..)⟩
instance p_s_l02NameEnd_l1 (s0:ByteArray):∀ (s1:Int),Lp (kN T (enF [.tmp 4] []) fun t=>⟨sT s0::sI t::zs 40 [],[]⟩) (zbl s0 s1) fun k=>go T (enF [.tmp 4] []) zsK (.lp zsL::.bl 0::.sq (.clr (rg 4 37))::k) ⟨sT s0::sI s1::zs 40 [],[]⟩:=Lp1 (zbl.partial_correctness s0) (by exact fun _ _ _ _=>G zsK.eq_def)
instance p_s_l02NameEnd_j1 (s0:ByteArray) (s1:Int):Lp (kR (PV dI)) (zfC s0 s1) fun k=>go T (enF [.tmp 4] []) zsM k ⟨sT s0::sI s1::zs 40 [],[]⟩:=⟨fun k=>GG (zfC.eq_def ..) zsM.eq_def⟩
instance g_s_l02NameEnd (p0:ByteArray) (p1:Int):Lw (PV dI) (zhf p0 p1) (zaa T 214 [D.str p0,dI p1] []):=⟨E (zhf.eq_def ..)⟩
instance g_s_IsName (p0:ByteArray):Lw (PV D.bool) (zfO p0) (zaa T 154 [D.str p0] []):=⟨E (zfO.eq_def ..)⟩
instance p_s_ValidValue_j1 (s1:TValue) (s45:Bool):Lp (kS (kN T (enF [.tmp 2] []) fun t=>⟨Z::.box (TValue.c false s1)::zs 43 (sB t::zs 9 []),[]⟩) (kR (PV D.bool))) (zem s1 s45) fun k=>go T (enF [.tmp 2] []) zsj k ⟨Z::.box (TValue.c false s1)::zs 43 (sB s45::zs 9 []),[]⟩:=⟨fun k=>GG (zem.eq_def ..) zsj.eq_def⟩
instance p_s_ValidValue_j2 (s1:TValue) (s4:Int) (s34:Bool):Lp (kS (kN T (enF [.tmp 2] []) fun t=>⟨Z::.box (TValue.c false s1)::zs 53 [],[]⟩) (kR (PV D.bool))) (zdd s1 s4 s34) fun k=>go T (enF [.tmp 2] []) zsk k ⟨Z::.box (TValue.c false s1)::Z::Z::sI s4::zs 29 (sB s34::zs 20 []),[]⟩:=⟨fun k=>GG (zdd.eq_def ..) zsk.eq_def⟩
instance g_s_ValidValue (p0:TValue):Lw (PV D.bool) (zbT p0) (zaa T 155 [TValue.e false p0] []):=⟨E (zbT.eq_def ..)⟩
instance p_s_l07ValidValues_l1 (s0:List TValue) (s1:Int):∀ (s5:Int),Lp (kS (kN T (enF [.tmp 4] []) fun t=>⟨sL false 4 (TValue.e false) s0::sI s1::zs 20 [],[]⟩) (kR (PV D.bool))) (zcs s0 s1 s5) fun k=>go T (enF [.tmp 4] []) zsU (.lp zsV::.bl 0::.sq (.clr (rg 4 18))::k) ⟨sL false 4 (TValue.e false) s0::sI s1::Z::Z::Z::sI s5::zs 16 [],[]⟩:=Lp1 (zcs.partial_correctness s0 s1) (by exact fun _ _ _ _=>G zsU.eq_def)
instance g_s_l07ValidValues (p0:List TValue) (p1:Int):Lw (PV D.bool) (zbO p0 p1) (zaa T 234 [D.sl false 4 (List.map (TValue.e false) p0),dI p1] []):=⟨E (zbO.eq_def ..)⟩
instance g_s_SameValue (p0 p1:TValue):Lw (PV D.bool) (zgy p0 p1) (zaa T 261 [TValue.e false p0,TValue.e false p1] []):=⟨E (zgy.eq_def ..)⟩
instance p_s_l07Distinct_l1 (s0:List TValue) (s3:Int):∀ (s4:Int),Lp (kS (kN T (enF [.tmp 2] []) fun t=>⟨sL false 4 (TValue.e false) s0::Z::Z::sI s3::zs 21 [],[]⟩) (kR (PV D.bool))) (zcK s0 s3 s4) fun k=>go T (enF [.tmp 2] []) zsW (.lp zsX::.bl 2::.sq (.clr [2,4,5,6,7,8,9,10,11,12,13,14,15,16,17,18,19,20,21,22,23,24])::k) ⟨sL false 4 (TValue.e false) s0::Z::Z::sI s3::sI s4::zs 20 [],[]⟩:=Lp1 (zcK.partial_correctness s0 s3) (by exact fun _ _ _ _=>G zsW.eq_def)
instance p_s_l07Distinct_l2 (s0:List TValue):∀ (s3:Int),Lp (kS (kN T (enF [.tmp 2] []) fun t=>⟨sL false 4 (TValue.e false) s0::zs 24 [],[]⟩) (kR (PV D.bool))) (zdR s0 s3) fun k=>go T (enF [.tmp 2] []) zsY (.lp zsZ::.bl 0::.sq (.clr (rg 2 23))::k) ⟨sL false 4 (TValue.e false) s0::Z::Z::sI s3::zs 21 [],[]⟩:=Lp1 (zdR.partial_correctness s0) (by exact fun _ _ _ _=>G zsY.eq_def)
instance g_s_l07Distinct (p0:List TValue):Lw (PV D.bool) (zen p0) (zaa T 235 [D.sl false 4 (List.map (TValue.e false) p0)] []):=⟨E (zen.eq_def ..)⟩
instance p_s_l07FieldNames_l1 (s0:List TValue):∀ (s3:Int),Lp (kS (kN T (enF [.tmp 2] []) fun t=>⟨sL false 4 (TValue.e false) s0::zs 35 [],[]⟩) (kR (PV D.bool))) (zcV s0 s3) fun k=>go T (enF [.tmp 2] []) zta (.lp ztb::.bl 0::.sq (.clr (rg 2 23))::k) ⟨sL false 4 (TValue.e false) s0::Z::Z::sI s3::zs 32 [],[]⟩:=Lp1 (zcV.partial_correctness s0) (by exact fun _ _ _ _=>G zta.eq_def)
instance g_s_l07FieldNames (p0:List TValue):Lw (PV D.bool) (zeo p0) (zaa T 236 [D.sl false 4 (List.map (TValue.e false) p0)] []):=⟨E (zeo.eq_def ..)⟩
instance p_s_l07Object_j1 (s1:TObject):Lp (kR (PV D.bool)) (zeM s1) fun k=>go T (enF [.tmp 2] []) zsu k ⟨Z::.box (TObject.c false s1)::zs 99 [],[]⟩:=⟨fun k=>GG (zeM.eq_def ..) zsu.eq_def⟩
instance g_s_l07Object (p0:TObject):Lw (PV D.bool) (zgz p0) (zaa T 196 [TObject.e false p0] []):=⟨E (zgz.eq_def ..)⟩
instance g_s_l07IsRef (p0:TValue):Lw (PV D.bool) (zeI p0) (zaa T 237 [TValue.e false p0] []):=⟨E (zeI.eq_def ..)⟩
instance p_s_l07Find_l1 (s0:THeap) (s1:Int):∀ (s5:Int),Lp (kS (kN T (enF [.tmp 4] []) fun t=>⟨.d (D.pim (THeap.c false s0) 0)::sI s1::zs 24 [],[]⟩) (kR (PV dI))) (zeV s0 s1 s5) fun k=>go T (enF [.tmp 4] []) ztc (.lp ztd::.bl 0::.sq (.clr (rg 4 22))::k) ⟨.d (D.pim (THeap.c false s0) 0)::sI s1::Z::Z::Z::sI s5::zs 20 [],[]⟩:=Lp1 (zeV.partial_correctness s0 s1) (by exact fun _ _ _ _=>G ztc.eq_def)
instance g_s_l07Find (p0:THeap) (p1:Int):Lw (PV dI) (zim p0 p1) (zaa T 238 [D.pim (THeap.c false p0) 0,dI p1] []):=⟨E (zim.eq_def ..)⟩
instance g_s_l07ObjectKind (p0:Int):Lw (PV dI) (zfD p0) (zaa T 239 [dI p0] []):=⟨E (zfD.eq_def ..)⟩
instance g_s_l07Fits (p0:THeap) (p1:TValue):Lw (PV D.bool) (zep p0 p1) (zaa T 198 [D.pim (THeap.c false p0) 0,TValue.e false p1] []):=⟨E (zep.eq_def ..)⟩
instance p_s_l07FitAll_l1 (s0:THeap) (s1:List TValue):∀ (s5:Int),Lp (kS (kN T (enF [.tmp 4] []) fun t=>⟨.d (D.pim (THeap.c false s0) 0)::sL false 4 (TValue.e false) s1::zs 17 [],[]⟩) (kR (PV D.bool))) (zeN s0 s1 s5) fun k=>go T (enF [.tmp 4] []) zsz (.lp zsA::.bl 0::.sq (.clr (rg 4 15))::k) ⟨.d (D.pim (THeap.c false s0) 0)::sL false 4 (TValue.e false) s1::Z::Z::Z::sI s5::zs 13 [],[]⟩:=Lp1 (zeN.partial_correctness s0 s1) (by exact fun _ _ _ _=>G zsz.eq_def)
instance g_s_l07FitAll (p0:THeap) (p1:List TValue):Lw (PV D.bool) (zeJ p0 p1) (zaa T 207 [D.pim (THeap.c false p0) 0,D.sl false 4 (List.map (TValue.e false) p1)] []):=⟨E (zeJ.eq_def ..)⟩
instance g_s_l07Refs (p0:THeap) (p1:TObject):Lw (PV D.bool) (zin p0 p1) (zaa T 197 [D.pim (THeap.c false p0) 0,D.pim (TObject.c false p1) 0] []):=⟨E (zin.eq_def ..)⟩
instance p_s_l07Ok_l1 (s0:THeap):∀ (s3:Int),Lp (kS (kN T (enF [.tmp 2] []) fun t=>⟨.d (D.pim (THeap.c false s0) 0)::zs 83 [],[]⟩) (kR (PV D.bool))) (zfw s0 s3) fun k=>go T (enF [.tmp 2] []) zrp (.lp zrq::.bl 0::.sq (.clr [2,3,4,6,7,8,9,10,11,12,13,14,15,16,17,18,19,20,21,22,23,24,25,26,27,28,29,30,31,32,33,34,35,36,37,38,39,40,41,42,43,44,45,46,47,48,49,50,51,52,53,54,55,56,57,58,59,60,61,62,63,64,65])::k) ⟨.d (D.pim (THeap.c false s0) 0)::Z::Z::sI s3::zs 80 [],[]⟩:=Lp1 (zfw.partial_correctness s0) (by exact fun _ _ _ _=>G zrp.eq_def)
instance p_s_l07Ok_l2 (s0:THeap):∀ (s5:Int),Lp (kS (kN T (enF [.tmp 2] []) fun t=>⟨.d (D.pim (THeap.c false s0) 0)::zs 83 [],[]⟩) (kR (PV D.bool))) (zgk s0 s5) fun k=>go T (enF [.tmp 2] []) zrr (.lp zrs::.bl 2::.sq (.clr (rg 2 82))::k) ⟨.d (D.pim (THeap.c false s0) 0)::zs 4 (sI s5::zs 78 []),[]⟩:=Lp1 (zgk.partial_correctness s0) (by exact fun _ _ _ _=>G zrr.eq_def)
instance p_s_l07Ok_j1 (s0:THeap):Lp (kR (PV D.bool)) (ziH s0) fun k=>go T (enF [.tmp 2] []) zrt k ⟨.d (D.pim (THeap.c false s0) 0)::zs 83 [],[]⟩:=⟨fun k=>GG (ziH.eq_def ..) zrt.eq_def⟩
instance g_s_l07Ok (p0:THeap):Lw (PV D.bool) (zlM p0) (zaa T 118 [D.pim (THeap.c false p0) 0] []):=⟨E (zlM.eq_def ..)⟩
instance g_s_IsNull (p0:TValue):Lw (PV D.bool) (zjD p0) (zaa T 156 [TValue.e false p0] []):=⟨E (zjD.eq_def ..)⟩
instance p_s_l22Vars_l1 (s0:THeap) (s1:List TBinding):∀ (s5:Int),Lp (kS (kN T (enF [.tmp 4] []) fun t=>⟨.d (D.pim (THeap.c false s0) 0)::sL false 5 (TBinding.e false) s1::zs 56 [],[]⟩) (kR (PV D.bool))) (zeW s0 s1 s5) fun k=>go T (enF [.tmp 4] []) zru (.lp zrv::.bl 0::.sq (.clr (rg 4 54))::k) ⟨.d (D.pim (THeap.c false s0) 0)::sL false 5 (TBinding.e false) s1::Z::Z::Z::sI s5::zs 52 [],[]⟩:=Lp1 (zeW.partial_correctness s0 s1) (by exact fun _ _ _ _=>G zru.eq_def)
instance g_s_l22Vars (p0:THeap) (p1:List TBinding):Lw (PV D.bool) (zgl p0 p1) (zaa T 119 [D.pim (THeap.c false p0) 0,D.sl false 5 (List.map (TBinding.e false) p1)] []):=⟨E (zgl.eq_def ..)⟩
instance p_s_l22Kids_j1 (s0 s3:Int) (s12:Bool):Lp (kS (kN T (enF [.tmp 2] []) fun t=>⟨sI s0::Z::Z::sI s3::zs 8 (sB t.1::zs 5 ([sB t.2.1,sB t.2.2.1,sB t.2.2.2.1,sB t.2.2.2.2])),[]⟩) (kR (PV dI))) (zed s0 s3 s12) fun k=>go T (enF [.tmp 2] []) ztk k ⟨sI s0::Z::Z::sI s3::zs 8 (sB s12::zs 9 []),[]⟩:=⟨fun k=>GG (zed.eq_def ..) ztk.eq_def⟩
instance p_s_l22Kids_j2 (s0 s3:Int) (s4:Bool):Lp (kS (kN T (enF [.tmp 2] []) fun t=>⟨sI s0::Z::Z::sI s3::zs 8 (sB t.1::zs 5 ([sB t.2.1,sB t.2.2.1,sB t.2.2.2.1,sB t.2.2.2.2])),[]⟩) (kR (PV dI))) (zco s0 s3 s4) fun k=>go T (enF [.tmp 2] []) ztl k ⟨sI s0::Z::Z::sI s3::sB s4::zs 17 [],[]⟩:=⟨fun k=>GG (zco.eq_def ..) ztl.eq_def⟩
instance g_s_l22Kids (p0:Int):Lw (PV dI) (zfE p0) (zaa T 243 [dI p0] []):=⟨E (zfE.eq_def ..)⟩
instance g_s_l22Operators:Lw (PV (dL true 1 D.str)) (zeO) (zaa T 263 [] []):=⟨E (zeO.eq_def ..)⟩
instance p_s_l22Among_l1 (s0:List ByteArray) (s1:ByteArray):∀ (s5:Int),Lp (kS (kN T (enF [.tmp 4] []) fun t=>⟨sL false 1 D.str s0::sT s1::zs 17 [],[]⟩) (kR (PV dI))) (zeq s0 s1 s5) fun k=>go T (enF [.tmp 4] []) ztt (.lp ztu::.bl 0::.sq (.clr (rg 4 15))::k) ⟨sL false 1 D.str s0::sT s1::Z::Z::Z::sI s5::zs 13 [],[]⟩:=Lp1 (zeq.partial_correctness s0 s1) (by exact fun _ _ _ _=>G ztt.eq_def)
instance g_s_l22Among (p0:List ByteArray) (p1:ByteArray):Lw (PV dI) (zeK p0 p1) (zaa T 262 [D.sl false 1 (List.map D.str p0),D.str p1] []):=⟨E (zeK.eq_def ..)⟩
instance p_s_l22Shape_j1 (s0:TGen) (s53:Int) (s88:Bool):Lp (kS (kN T (enF [.tmp 2] []) fun t=>⟨.d (D.pim (TGen.c false s0) 0)::zs 52 (sI s53::zs 34 (sB t::zs 36 [])),[]⟩) (kR (PV D.bool))) (zer s0 s53 s88) fun k=>go T (enF [.tmp 2] []) ztg k ⟨.d (D.pim (TGen.c false s0) 0)::zs 52 (sI s53::zs 34 (sB s88::zs 36 [])),[]⟩:=⟨fun k=>GG (zer.eq_def ..) ztg.eq_def⟩
instance p_s_l22Shape_j2 (s0:TGen):Lp (kR (PV D.bool)) (zes s0) fun k=>go T (enF [.tmp 2] []) zth k ⟨.d (D.pim (TGen.c false s0) 0)::zs 124 [],[]⟩:=⟨fun k=>GG (zes.eq_def ..) zth.eq_def⟩
instance p_s_l22Shape_j3 (s0:TGen):Lp (kR (PV D.bool)) (zdr s0) fun k=>go T (enF [.tmp 2] []) zti k ⟨.d (D.pim (TGen.c false s0) 0)::zs 124 [],[]⟩:=⟨fun k=>GG (zdr.eq_def ..) zti.eq_def⟩
instance p_s_l22Shape_j4 (s0:TGen):Lp (kR (PV D.bool)) (zgA s0) fun k=>go T (enF [.tmp 2] []) ztj k ⟨.d (D.pim (TGen.c false s0) 0)::zs 124 [],[]⟩:=⟨fun k=>GG (zgA.eq_def ..) ztj.eq_def⟩
instance g_s_l22Shape (p0:TGen):Lw (PV D.bool) (zgm p0) (zaa T 242 [D.pim (TGen.c false p0) 0] []):=⟨E (zgm.eq_def ..)⟩
noncomputable abbrev zeP (s0:TGen) (s3 s4:Int) (k:List Fr):Option Res:=go T (enF [.tmp 2] []) zsw k ⟨.d (D.pim (TGen.c false s0) 0)::Z::Z::sI s3::sI s4::zs 26 [],[]⟩
noncomputable abbrev zeQ (s0:TGen) (s3 s4:Int):List Fr->((Int × Int × Int × (List TGen) × TGen × Int × Int))->Option Res->Prop:=(kN T (enF [.tmp 2] []) fun t=>⟨.d (D.pim (TGen.c false s0) 0)::Z::Z::sI t.1::sI t.2.1::zs 14 ([sI s4,sI t.2.2.1,sI s3,.d (D.pim (TGen.c false s0) 0),.d (D.pim (TGen.c false s0) 0),.d (D.pim (TGen.c false s0) 7),sL false 8 (TGen.e false) t.2.2.2.1,sI s4,.d (D.pim (TGen.c false t.2.2.2.2.1) 0),sI t.2.2.2.2.2.1,sI t.2.2.2.2.2.2,Z]),[]⟩)
noncomputable abbrev zdK (s0:TGen) (s3 s4:Int) (k:List Fr):Option Res:=go T (enF [.tmp 2] []) zsx (.lp zsy::.bl 0::.sq (.clr [2,4,5,6,7,8,9,10,11,12,13,14,15,16,17,18,19,20,21,22,23,24,25,26,27,28,29])::k) ⟨.d (D.pim (TGen.c false s0) 0)::Z::Z::sI s3::sI s4::zs 26 [],[]⟩
noncomputable abbrev zdL (s0:TGen) (s3 s4:Int):List Fr->Int->Option Res->Prop:=(kN T (enF [.tmp 2] []) fun t=>⟨.d (D.pim (TGen.c false s0) 0)::Z::Z::sI t::zs 27 [],[]⟩)
theorem zfZ:(∀ (s0:TGen) (s3 s4:Int) r,zeX s0 s3 s4=some r->∀ k:List Fr,zeQ s0 s3 s4 k r (zeP s0 s3 s4 k))∧(∀ (p0:TGen) r,zeY p0=some r->(PV dI) r (zaa T 204 [D.pim (TGen.c false p0) 0] []))∧(∀ (s0:TGen) (s3 s4:Int) r,zbA s0 s3 s4=some r->∀ k:List Fr,zdL s0 s3 s4 k r (zdK s0 s3 s4 k)):=by
 refine zeX.mutual_partial_correctness (motive_1:=fun s0 s3 s4 r=>∀ k:List Fr,zeQ s0 s3 s4 k r (zeP s0 s3 s4 k)) (motive_2:=fun p0 r=>(PV dI) r (zaa T 204 [D.pim (TGen.c false p0) 0] [])) (motive_3:=fun s0 s3 s4 r=>∀ k:List Fr,zdL s0 s3 s4 k r (zdK s0 s3 s4 k)) ?_ ?_ ?_
 ·intro zeY i_s_l22Size
  have g_s_l22Size:∀ (p0:TGen),Lw (PV dI) (zeY p0) (zaa T 204 [D.pim (TGen.c false p0) 0] []):=fun p0=>⟨fun r hr=>i_s_l22Size p0 r hr⟩
  clear i_s_l22Size
  intro s0 s3 s4
  refine Le.pc ?_
  intro k
  refine G0 zsw.eq_def ?_
  exact A
 ·intro zbA i_s_l22Size_l1
  have p_s_l22Size_l1:∀ (s0:TGen) (s3 s4:Int),Lp (zdL s0 s3 s4) (zbA s0 s3 s4) (zdK s0 s3 s4):=fun s0 s3 s4=>⟨fun k r hr=>i_s_l22Size_l1 s0 s3 s4 r hr k⟩
  clear i_s_l22Size_l1
  intro p0
  refine (show Le (PV dI) _ (zaa T 204 [D.pim (TGen.c false p0) 0] []) from E0 (h:=?_) rfl)
  exact A
 ·intro zeX zbA i_s_l22Size_j1 i_s_l22Size_l1
  have p_s_l22Size_j1:∀ (s0:TGen) (s3 s4:Int),Lp (zeQ s0 s3 s4) (zeX s0 s3 s4) (zeP s0 s3 s4):=fun s0 s3 s4=>⟨fun k r hr=>i_s_l22Size_j1 s0 s3 s4 r hr k⟩
  have p_s_l22Size_l1:∀ (s0:TGen) (s3 s4:Int),Lp (zdL s0 s3 s4) (zbA s0 s3 s4) (zdK s0 s3 s4):=fun s0 s3 s4=>⟨fun k r hr=>i_s_l22Size_l1 s0 s3 s4 r hr k⟩
  clear i_s_l22Size_j1 i_s_l22Size_l1
  intro s0 s3 s4
  refine Le.pc ?_
  intro k
  refine G0 zsx.eq_def ?_
  exact A
instance p_s_l22Size_j1 (s0:TGen) (s3 s4:Int):Lp (zeQ s0 s3 s4) (zeX s0 s3 s4) (zeP s0 s3 s4):=⟨fun k r hr=>(zfZ).1 s0 s3 s4 r hr k⟩
instance g_s_l22Size (p0:TGen):Lw (PV dI) (zeY p0) (zaa T 204 [D.pim (TGen.c false p0) 0] []):=⟨fun r hr=>(zfZ).2.1 p0 r hr⟩
instance p_s_l22Size_l1 (s0:TGen) (s3 s4:Int):Lp (zdL s0 s3 s4) (zbA s0 s3 s4) (zdK s0 s3 s4):=⟨fun k r hr=>(zfZ).2.2 s0 s3 s4 r hr k⟩
instance g_s_l22Ok (p0:TGen):Lw (PV D.bool) (zlN p0) (zaa T 145 [D.pim (TGen.c false p0) 0] []):=⟨E (zlN.eq_def ..)⟩
noncomputable abbrev zdM (s0:THeap) (s1:TGen) (s5:Int) (k:List Fr):Option Res:=go T (enF [.tmp 4] []) zrX (.lp zrY::.bl 0::.sq (.clr (rg 4 34))::k) ⟨.d (D.pim (THeap.c false s0) 0)::.d (D.pim (TGen.c false s1) 0)::Z::Z::Z::sI s5::zs 32 [],[]⟩
noncomputable abbrev zdN (s0:THeap) (s1:TGen) (s5:Int):List Fr->((Unit ⊕ Bool))->Option Res->Prop:=(kS (kN T (enF [.tmp 4] []) fun t=>⟨.d (D.pim (THeap.c false s0) 0)::.d (D.pim (TGen.c false s1) 0)::zs 36 [],[]⟩) (kR (PV D.bool)))
noncomputable abbrev zeR (s0:THeap) (s1:TGen) (k:List Fr):Option Res:=go T (enF [.tmp 4] []) zrZ k ⟨.d (D.pim (THeap.c false s0) 0)::.d (D.pim (TGen.c false s1) 0)::zs 36 [],[]⟩
noncomputable abbrev zeS (s0:THeap) (s1:TGen):List Fr->Bool->Option Res->Prop:=(kR (PV D.bool))
theorem zga (f0:THeap):(∀ (s1:TGen) (s5:Int) r,zbU f0 s1 s5=some r->∀ k:List Fr,zdN f0 s1 s5 k r (zdM f0 s1 s5 k))∧(∀ (p1:TGen) r,zeZ f0 p1=some r->(PV D.bool) r (zaa T 146 [D.pim (THeap.c false f0) 0,D.pim (TGen.c false p1) 0] []))∧(∀ (s1:TGen) r,zee f0 s1=some r->∀ k:List Fr,zeS f0 s1 k r (zeR f0 s1 k)):=by
 refine zbU.mutual_partial_correctness f0 (motive_1:=fun s1 s5 r=>∀ k:List Fr,zdN f0 s1 s5 k r (zdM f0 s1 s5 k)) (motive_2:=fun p1 r=>(PV D.bool) r (zaa T 146 [D.pim (THeap.c false f0) 0,D.pim (TGen.c false p1) 0] [])) (motive_3:=fun s1 r=>∀ k:List Fr,zeS f0 s1 k r (zeR f0 s1 k)) ?_ ?_ ?_
 ·intro zbU zeZ i_s_l22Refs_l1 i_s_l22Refs
  have p_s_l22Refs_l1:∀ (s1:TGen) (s5:Int),Lp (zdN f0 s1 s5) (zbU s1 s5) (zdM f0 s1 s5):=fun s1 s5=>⟨fun k r hr=>i_s_l22Refs_l1 s1 s5 r hr k⟩
  have g_s_l22Refs:∀ (p1:TGen),Lw (PV D.bool) (zeZ p1) (zaa T 146 [D.pim (THeap.c false f0) 0,D.pim (TGen.c false p1) 0] []):=fun p1=>⟨fun r hr=>i_s_l22Refs p1 r hr⟩
  clear i_s_l22Refs_l1 i_s_l22Refs
  intro s1 s5
  refine Le.pc ?_
  intro k
  refine G0 zrX.eq_def ?_
  exact A
 ·intro zee i_s_l22Refs_j1
  have p_s_l22Refs_j1:∀ (s1:TGen),Lp (zeS f0 s1) (zee s1) (zeR f0 s1):=fun s1=>⟨fun k r hr=>i_s_l22Refs_j1 s1 r hr k⟩
  clear i_s_l22Refs_j1
  intro p1
  refine (show Le (PV D.bool) _ (zaa T 146 [D.pim (THeap.c false f0) 0,D.pim (TGen.c false p1) 0] []) from E0 (h:=?_) rfl)
  exact A
 ·intro zbU i_s_l22Refs_l1
  have p_s_l22Refs_l1:∀ (s1:TGen) (s5:Int),Lp (zdN f0 s1 s5) (zbU s1 s5) (zdM f0 s1 s5):=fun s1 s5=>⟨fun k r hr=>i_s_l22Refs_l1 s1 s5 r hr k⟩
  clear i_s_l22Refs_l1
  intro s1
  refine Le.pc ?_
  intro k
  refine G0 zrZ.eq_def ?_
  exact A
instance p_s_l22Refs_l1 (s0:THeap) (s1:TGen) (s5:Int):Lp (zdN s0 s1 s5) (zbU s0 s1 s5) (zdM s0 s1 s5):=⟨fun k r hr=>(zga s0).1 s1 s5 r hr k⟩
instance g_s_l22Refs (p0:THeap) (p1:TGen):Lw (PV D.bool) (zeZ p0 p1) (zaa T 146 [D.pim (THeap.c false p0) 0,D.pim (TGen.c false p1) 0] []):=⟨fun r hr=>(zga p0).2.1 p1 r hr⟩
instance p_s_l22Refs_j1 (s0:THeap) (s1:TGen):Lp (zeS s0 s1) (zee s0 s1) (zeR s0 s1):=⟨fun k r hr=>(zga s0).2.2 s1 r hr k⟩
instance g_s_l22Zero (p0:TCursor):Lw (PV D.bool) (zio p0) (zaa T 147 [D.pim (TCursor.c false p0) 0] []):=⟨E (zio.eq_def ..)⟩
instance g_s_l22Counts (p0:TGen) (p1:TCursor):Lw (PV D.bool) (zbI p0 p1) (zaa T 205 [D.pim (TGen.c false p0) 0,D.pim (TCursor.c false p1) 0] []):=⟨E (zbI.eq_def ..)⟩
instance g_s_l22Vals (p0:TGen):Lw (PV dI) (zde p0) (zaa T 206 [D.pim (TGen.c false p0) 0] []):=⟨E (zde.eq_def ..)⟩
noncomputable abbrev zcy (s0:THeap) (s1:TGen) (s2:TCursor) (s34:Int) (s38:Bool) (k:List Fr):Option Res:=go T (enF [.tmp 6] []) zsa k ⟨.d (D.pim (THeap.c false s0) 0)::.d (D.pim (TGen.c false s1) 0)::.d (D.pim (TCursor.c false s2) 0)::zs 31 (sI s34::Z::Z::Z::sB s38::zs 126 []),[]⟩
noncomputable abbrev zcz (s0:THeap) (s1:TGen) (s2:TCursor) (s34:Int) (s38:Bool):List Fr->((Bool ⊕ Bool))->Option Res->Prop:=(kS (kN T (enF [.tmp 6] []) fun t=>⟨.d (D.pim (THeap.c false s0) 0)::.d (D.pim (TGen.c false s1) 0)::.d (D.pim (TCursor.c false s2) 0)::zs 31 (sI s34::Z::Z::Z::sB t::zs 126 []),[]⟩) (kR (PV D.bool)))
noncomputable abbrev zcA (s0:THeap) (s1:TGen) (s2:TCursor) (k:List Fr):Option Res:=go T (enF [.tmp 6] []) zsg k ⟨.d (D.pim (THeap.c false s0) 0)::.d (D.pim (TGen.c false s1) 0)::.d (D.pim (TCursor.c false s2) 0)::zs 162 [],[]⟩
noncomputable abbrev zcB (s0:THeap) (s1:TGen) (s2:TCursor):List Fr->Bool->Option Res->Prop:=(kR (PV D.bool))
noncomputable abbrev zcC (s0:THeap) (s1:TGen) (s2:TCursor) (k:List Fr):Option Res:=go T (enF [.tmp 6] []) zsf k ⟨.d (D.pim (THeap.c false s0) 0)::.d (D.pim (TGen.c false s1) 0)::.d (D.pim (TCursor.c false s2) 0)::zs 162 [],[]⟩
noncomputable abbrev zcD (s0:THeap) (s1:TGen) (s2:TCursor):List Fr->Bool->Option Res->Prop:=(kR (PV D.bool))
noncomputable abbrev zcE (s0:THeap) (s1:TGen) (s2:TCursor) (k:List Fr):Option Res:=go T (enF [.tmp 6] []) zse k ⟨.d (D.pim (THeap.c false s0) 0)::.d (D.pim (TGen.c false s1) 0)::.d (D.pim (TCursor.c false s2) 0)::zs 162 [],[]⟩
noncomputable abbrev zcF (s0:THeap) (s1:TGen) (s2:TCursor):List Fr->Bool->Option Res->Prop:=(kR (PV D.bool))
noncomputable abbrev zbK (s0:THeap) (s1:TGen) (s2:TCursor) (s7:Int) (k:List Fr):Option Res:=go T (enF [.tmp 6] []) zsc (.lp zsd::.bl 1::.sq (.clr (rg 6 159))::k) ⟨.d (D.pim (THeap.c false s0) 0)::.d (D.pim (TGen.c false s1) 0)::.d (D.pim (TCursor.c false s2) 0)::zs 4 (sI s7::zs 157 []),[]⟩
noncomputable abbrev zbL (s0:THeap) (s1:TGen) (s2:TCursor) (s7:Int):List Fr->((Unit ⊕ Bool))->Option Res->Prop:=(kS (kN T (enF [.tmp 6] []) fun t=>⟨.d (D.pim (THeap.c false s0) 0)::.d (D.pim (TGen.c false s1) 0)::.d (D.pim (TCursor.c false s2) 0)::zs 162 [],[]⟩) (kR (PV D.bool)))
noncomputable abbrev zcG (s0:THeap) (s1:TGen) (s2:TCursor) (s34:Int) (s35:Bool) (k:List Fr):Option Res:=go T (enF [.tmp 6] []) zsb k ⟨.d (D.pim (THeap.c false s0) 0)::.d (D.pim (TGen.c false s1) 0)::.d (D.pim (TCursor.c false s2) 0)::zs 31 (sI s34::sB s35::zs 129 []),[]⟩
noncomputable abbrev zcH (s0:THeap) (s1:TGen) (s2:TCursor) (s34:Int) (s35:Bool):List Fr->((Unit ⊕ Bool))->Option Res->Prop:=(kS (kN T (enF [.tmp 6] []) fun t=>⟨.d (D.pim (THeap.c false s0) 0)::.d (D.pim (TGen.c false s1) 0)::.d (D.pim (TCursor.c false s2) 0)::zs 31 (sI s34::zs 130 []),[]⟩) (kR (PV D.bool)))
theorem zaP (f0:THeap):(∀ (s1:TGen) (s2:TCursor) (s34:Int) (s38:Bool) r,zbf f0 s1 s2 s34 s38=some r->∀ k:List Fr,zcz f0 s1 s2 s34 s38 k r (zcy f0 s1 s2 s34 s38 k))∧(∀ (p1:TGen) (p2:TCursor) r,zak f0 p1 p2=some r->(PV D.bool) r (zaa T 148 [D.pim (THeap.c false f0) 0,D.pim (TGen.c false p1) 0,D.pim (TCursor.c false p2) 0] []))∧(∀ (s1:TGen) (s2:TCursor) r,zau f0 s1 s2=some r->∀ k:List Fr,zcB f0 s1 s2 k r (zcA f0 s1 s2 k))∧(∀ (s1:TGen) (s2:TCursor) r,zbE f0 s1 s2=some r->∀ k:List Fr,zcD f0 s1 s2 k r (zcC f0 s1 s2 k))∧(∀ (s1:TGen) (s2:TCursor) r,zbF f0 s1 s2=some r->∀ k:List Fr,zcF f0 s1 s2 k r (zcE f0 s1 s2 k))∧(∀ (s1:TGen) (s2:TCursor) (s7:Int) r,zaH f0 s1 s2 s7=some r->∀ k:List Fr,zbL f0 s1 s2 s7 k r (zbK f0 s1 s2 s7 k))∧(∀ (s1:TGen) (s2:TCursor) (s34:Int) (s35:Bool) r,zbD f0 s1 s2 s34 s35=some r->∀ k:List Fr,zcH f0 s1 s2 s34 s35 k r (zcG f0 s1 s2 s34 s35 k)):=by
 refine zbf.mutual_partial_correctness f0 (motive_1:=fun s1 s2 s34 s38 r=>∀ k:List Fr,zcz f0 s1 s2 s34 s38 k r (zcy f0 s1 s2 s34 s38 k)) (motive_2:=fun p1 p2 r=>(PV D.bool) r (zaa T 148 [D.pim (THeap.c false f0) 0,D.pim (TGen.c false p1) 0,D.pim (TCursor.c false p2) 0] [])) (motive_3:=fun s1 s2 r=>∀ k:List Fr,zcB f0 s1 s2 k r (zcA f0 s1 s2 k)) (motive_4:=fun s1 s2 r=>∀ k:List Fr,zcD f0 s1 s2 k r (zcC f0 s1 s2 k)) (motive_5:=fun s1 s2 r=>∀ k:List Fr,zcF f0 s1 s2 k r (zcE f0 s1 s2 k)) (motive_6:=fun s1 s2 s7 r=>∀ k:List Fr,zbL f0 s1 s2 s7 k r (zbK f0 s1 s2 s7 k)) (motive_7:=fun s1 s2 s34 s35 r=>∀ k:List Fr,zcH f0 s1 s2 s34 s35 k r (zcG f0 s1 s2 s34 s35 k)) ?_ ?_ ?_ ?_ ?_ ?_ ?_
 ·intro zak i_s_l22Suspended
  have g_s_l22Suspended:∀ (p1:TGen) (p2:TCursor),Lw (PV D.bool) (zak p1 p2) (zaa T 148 [D.pim (THeap.c false f0) 0,D.pim (TGen.c false p1) 0,D.pim (TCursor.c false p2) 0] []):=fun p1 p2=>⟨fun r hr=>i_s_l22Suspended p1 p2 r hr⟩
  clear i_s_l22Suspended
  intro s1 s2 s34 s38
  refine Le.pc ?_
  intro k
  refine G0 zsa.eq_def ?_
  exact A
 ·intro zau i_s_l22Suspended_j5
  have p_s_l22Suspended_j5:∀ (s1:TGen) (s2:TCursor),Lp (zcB f0 s1 s2) (zau s1 s2) (zcA f0 s1 s2):=fun s1 s2=>⟨fun k r hr=>i_s_l22Suspended_j5 s1 s2 r hr k⟩
  clear i_s_l22Suspended_j5
  intro p1 p2
  refine (show Le (PV D.bool) _ (zaa T 148 [D.pim (THeap.c false f0) 0,D.pim (TGen.c false p1) 0,D.pim (TCursor.c false p2) 0] []) from E0 (h:=?_) rfl)
  exact A
 ·intro zbE zbD i_s_l22Suspended_j4 i_s_l22Suspended_j2
  have p_s_l22Suspended_j4:∀ (s1:TGen) (s2:TCursor),Lp (zcD f0 s1 s2) (zbE s1 s2) (zcC f0 s1 s2):=fun s1 s2=>⟨fun k r hr=>i_s_l22Suspended_j4 s1 s2 r hr k⟩
  have p_s_l22Suspended_j2:∀ (s1:TGen) (s2:TCursor) (s34:Int) (s35:Bool),Lp (zcH f0 s1 s2 s34 s35) (zbD s1 s2 s34 s35) (zcG f0 s1 s2 s34 s35):=fun s1 s2 s34 s35=>⟨fun k r hr=>i_s_l22Suspended_j2 s1 s2 s34 s35 r hr k⟩
  clear i_s_l22Suspended_j4 i_s_l22Suspended_j2
  intro s1 s2
  refine Le.pc ?_
  intro k
  refine G0 zsg.eq_def ?_
  exact A
 ·intro zbF i_s_l22Suspended_j3
  have p_s_l22Suspended_j3:∀ (s1:TGen) (s2:TCursor),Lp (zcF f0 s1 s2) (zbF s1 s2) (zcE f0 s1 s2):=fun s1 s2=>⟨fun k r hr=>i_s_l22Suspended_j3 s1 s2 r hr k⟩
  clear i_s_l22Suspended_j3
  intro s1 s2
  refine Le.pc ?_
  intro k
  refine G0 zsf.eq_def ?_
  exact A
 ·intro zaH i_s_l22Suspended_l1
  have p_s_l22Suspended_l1:∀ (s1:TGen) (s2:TCursor) (s7:Int),Lp (zbL f0 s1 s2 s7) (zaH s1 s2 s7) (zbK f0 s1 s2 s7):=fun s1 s2 s7=>⟨fun k r hr=>i_s_l22Suspended_l1 s1 s2 s7 r hr k⟩
  clear i_s_l22Suspended_l1
  intro s1 s2
  refine Le.pc ?_
  intro k
  refine G0 zse.eq_def ?_
  exact A
 ·intro zak zaH i_s_l22Suspended i_s_l22Suspended_l1
  have g_s_l22Suspended:∀ (p1:TGen) (p2:TCursor),Lw (PV D.bool) (zak p1 p2) (zaa T 148 [D.pim (THeap.c false f0) 0,D.pim (TGen.c false p1) 0,D.pim (TCursor.c false p2) 0] []):=fun p1 p2=>⟨fun r hr=>i_s_l22Suspended p1 p2 r hr⟩
  have p_s_l22Suspended_l1:∀ (s1:TGen) (s2:TCursor) (s7:Int),Lp (zbL f0 s1 s2 s7) (zaH s1 s2 s7) (zbK f0 s1 s2 s7):=fun s1 s2 s7=>⟨fun k r hr=>i_s_l22Suspended_l1 s1 s2 s7 r hr k⟩
  clear i_s_l22Suspended i_s_l22Suspended_l1
  intro s1 s2 s7
  refine Le.pc ?_
  intro k
  refine G0 zsc.eq_def ?_
  exact A
 ·intro zbf i_s_l22Suspended_j1
  have p_s_l22Suspended_j1:∀ (s1:TGen) (s2:TCursor) (s34:Int) (s38:Bool),Lp (zcz f0 s1 s2 s34 s38) (zbf s1 s2 s34 s38) (zcy f0 s1 s2 s34 s38):=fun s1 s2 s34 s38=>⟨fun k r hr=>i_s_l22Suspended_j1 s1 s2 s34 s38 r hr k⟩
  clear i_s_l22Suspended_j1
  intro s1 s2 s34 s35
  refine Le.pc ?_
  intro k
  refine G0 zsb.eq_def ?_
  exact A
instance p_s_l22Suspended_j1 (s0:THeap) (s1:TGen) (s2:TCursor) (s34:Int) (s38:Bool):Lp (zcz s0 s1 s2 s34 s38) (zbf s0 s1 s2 s34 s38) (zcy s0 s1 s2 s34 s38):=⟨fun k r hr=>(zaP s0).1 s1 s2 s34 s38 r hr k⟩
instance g_s_l22Suspended (p0:THeap) (p1:TGen) (p2:TCursor):Lw (PV D.bool) (zak p0 p1 p2) (zaa T 148 [D.pim (THeap.c false p0) 0,D.pim (TGen.c false p1) 0,D.pim (TCursor.c false p2) 0] []):=⟨fun r hr=>(zaP p0).2.1 p1 p2 r hr⟩
instance p_s_l22Suspended_j5 (s0:THeap) (s1:TGen) (s2:TCursor):Lp (zcB s0 s1 s2) (zau s0 s1 s2) (zcA s0 s1 s2):=⟨fun k r hr=>(zaP s0).2.2.1 s1 s2 r hr k⟩
instance p_s_l22Suspended_j4 (s0:THeap) (s1:TGen) (s2:TCursor):Lp (zcD s0 s1 s2) (zbE s0 s1 s2) (zcC s0 s1 s2):=⟨fun k r hr=>(zaP s0).2.2.2.1 s1 s2 r hr k⟩
instance p_s_l22Suspended_j3 (s0:THeap) (s1:TGen) (s2:TCursor):Lp (zcF s0 s1 s2) (zbF s0 s1 s2) (zcE s0 s1 s2):=⟨fun k r hr=>(zaP s0).2.2.2.2.1 s1 s2 r hr k⟩
instance p_s_l22Suspended_l1 (s0:THeap) (s1:TGen) (s2:TCursor) (s7:Int):Lp (zbL s0 s1 s2 s7) (zaH s0 s1 s2 s7) (zbK s0 s1 s2 s7):=⟨fun k r hr=>(zaP s0).2.2.2.2.2.1 s1 s2 s7 r hr k⟩
instance p_s_l22Suspended_j2 (s0:THeap) (s1:TGen) (s2:TCursor) (s34:Int) (s35:Bool):Lp (zcH s0 s1 s2 s34 s35) (zbD s0 s1 s2 s34 s35) (zcG s0 s1 s2 s34 s35):=⟨fun k r hr=>(zaP s0).2.2.2.2.2.2 s1 s2 s34 s35 r hr k⟩
instance p_s_l22Co_j1 (s0:THeap) (s1:TCoexpr):Lp (kR (PV D.bool)) (zhx s0 s1) fun k=>go T (enF [.tmp 4] []) zrw k ⟨.d (D.pim (THeap.c false s0) 0)::.d (D.pim (TCoexpr.c false s1) 0)::zs 73 [],[]⟩:=⟨fun k=>GG (zhx.eq_def ..) zrw.eq_def⟩
instance p_s_l22Co_j2 (s0:THeap) (s1:TCoexpr):Lp (kR (PV D.bool)) (ziI s0 s1) fun k=>go T (enF [.tmp 4] []) zrx k ⟨.d (D.pim (THeap.c false s0) 0)::.d (D.pim (TCoexpr.c false s1) 0)::zs 73 [],[]⟩:=⟨fun k=>GG (ziI.eq_def ..) zrx.eq_def⟩
instance p_s_l22Co_j3 (s0:THeap) (s1:TCoexpr):Lp (kR (PV D.bool)) (ziJ s0 s1) fun k=>go T (enF [.tmp 4] []) zry k ⟨.d (D.pim (THeap.c false s0) 0)::.d (D.pim (TCoexpr.c false s1) 0)::zs 73 [],[]⟩:=⟨fun k=>GG (ziJ.eq_def ..) zry.eq_def⟩
instance g_s_l22Co (p0:THeap) (p1:TCoexpr):Lw (PV D.bool) (ziK p0 p1) (zaa T 121 [D.pim (THeap.c false p0) 0,D.pim (TCoexpr.c false p1) 0] []):=⟨E (ziK.eq_def ..)⟩
instance p_s_l22Scope_l1 (s0:TGenScope):∀ (s3:Int),Lp (kS (kN T (enF [.tmp 2] []) fun t=>⟨.d (D.pim (TGenScope.c false s0) 0)::zs 79 [],[]⟩) (kR (PV D.bool))) (zds s0 s3) fun k=>go T (enF [.tmp 2] []) zvC (.lp zvD::.bl 0::.sq (.clr (rg 2 78))::k) ⟨.d (D.pim (TGenScope.c false s0) 0)::Z::Z::sI s3::zs 76 [],[]⟩:=Lp1 (zds.partial_correctness s0) (by exact fun _ _ _ _=>G zvC.eq_def)
instance p_s_l22Scope_j1 (s0:TGenScope):Lp (kR (PV D.bool)) (zgB s0) fun k=>go T (enF [.tmp 2] []) zvE k ⟨.d (D.pim (TGenScope.c false s0) 0)::zs 79 [],[]⟩:=⟨fun k=>GG (zgB.eq_def ..) zvE.eq_def⟩
instance g_s_l22Scope (p0:TGenScope):Lw (PV D.bool) (zhy p0) (zaa T 53 [D.pim (TGenScope.c false p0) 0] []):=⟨E (zhy.eq_def ..)⟩
instance p_s_l23At_l1 (s0:TGenScope) (s1:Int):∀ (s5:Int),Lp (kS (kN T (enF [.tmp 4] []) fun t=>⟨.d (D.pim (TGenScope.c false s0) 0)::sI s1::zs 24 [],[]⟩) (kR (PV dI))) (zhz s0 s1 s5) fun k=>go T (enF [.tmp 4] []) zvF (.lp zvG::.bl 0::.sq (.clr (rg 4 22))::k) ⟨.d (D.pim (TGenScope.c false s0) 0)::sI s1::Z::Z::Z::sI s5::zs 20 [],[]⟩:=Lp1 (zhz.partial_correctness s0 s1) (by exact fun _ _ _ _=>G zvF.eq_def)
instance g_s_l23At (p0:TGenScope) (p1:Int):Lw (PV dI) (zlO p0 p1) (zaa T 54 [D.pim (TGenScope.c false p0) 0,dI p1] []):=⟨E (zlO.eq_def ..)⟩
instance g_s_l22OwnVars (p0:List TBinding):Lw (PV (dL true 5 (TBinding.e false))) (zef p0) (zaa T 123 [D.sl false 5 (List.map (TBinding.e false) p0)] []):=⟨E (zef.eq_def ..)⟩
instance g_s_l07OwnValues (p0:List TValue):Lw (PV (dL true 4 (TValue.e false))) (zcR p0) (zaa T 199 [D.sl false 4 (List.map (TValue.e false) p0)] []):=⟨E (zcR.eq_def ..)⟩
instance g_s_l07OwnObject (p0:TObject):Lw (PV (TObject.e true)) (zdG p0) (zaa T 213 [TObject.e false p0] []):=⟨E (zdG.eq_def ..)⟩
instance p_s_l07Own_l1 (s0 s2:THeap):∀ (s3:THeap) (s4:Int),Lp (kN T (enF [.cell 2 (.many 2)] []) fun t=>⟨.d (D.pim (THeap.c false s0) 0)::Z::.box (THeap.c true s2)::.box (THeap.c true t)::zs 29 [],[]⟩) (zgC s0 s2 s3 s4) fun k=>go T (enF [.cell 2 (.many 2)] []) zsh (.lp zsi::.bl 0::.sq (.clr (rg 4 28))::k) ⟨.d (D.pim (THeap.c false s0) 0)::Z::.box (THeap.c true s2)::.box (THeap.c true s3)::sI s4::zs 28 [],[]⟩:=Lp2 (zgC.partial_correctness s0 s2) (by
 intro rec _ s3 s4 k
 refine G0 zsh.eq_def ?_
 try conv=>arg 3;simp (maxSteps:=999999) only [push_cast,↓reduceIte,seval, *]
 refine Le.itq (fun h=>?_) (fun h=>?_)
 ·try conv=>arg 3;simp (maxSteps:=999999) only [push_cast,↓reduceIte,seval, *]
  refine Le.idx fun a26 h_1 h_2 h_3=>?_
  try conv=>arg 3;simp (maxSteps:=999999) only [push_cast,↓reduceIte,seval, *]
  refine Le.dcall ((g_s_l07OwnObject a26).h) fun r28 h_4 _ hy=>?_
  first|subst hy|obtain ⟨_,rfl⟩:=hy
  try conv=>arg 3;simp (maxSteps:=999999) only [push_cast,↓reduceIte,seval, *]
  refine Le.app fun c30 h_5 h_6=>?_
  replace h_5:List.map (TObject.e true) s3.Objects++[D.agg [D.int .i64 r28.Id,D.int .i64 r28.Kind,D.str r28.Name,D.int .i64 r28.Low,D.sl true 4 (List.map (TValue.e false) r28.Keys),D.sl true 4 (List.map (TValue.e false) r28.Vals),D.int .i64 r28.Default.Kind,D.int .i64 r28.Default.Num,D.str r28.Default.Text,D.int .i64 r28.Default.Ref]]=List.map (TObject.e true) c30:=by rw [h_5,List.map_append] <;> first|rfl|simp only [eqs]
  replace h_6:s3.Objects.length + 1<=most:=h_6
  exact A
 ·exact A)
instance g_s_l07Own (p0:THeap):Lw (PV (THeap.e true)) (zjE p0) (zaa T 153 [D.pim (THeap.c false p0) 0] []):=⟨E (zjE.eq_def ..)⟩
noncomputable abbrev zcO (s0 s2 s3:TGen) (s4:Int) (k:List Fr):Option Res:=go T (enF [.cell 2 (.many 8)] []) zrz (.lp zrA::.bl 0::.sq (.clr (rg 4 39))::k) ⟨.d (D.pim (TGen.c false s0) 0)::Z::.box (TGen.c true s2)::.box (TGen.c true s3)::sI s4::zs 39 [],[]⟩
noncomputable abbrev zcP (s0 s2 s3:TGen) (s4:Int):List Fr->TGen->Option Res->Prop:=(kN T (enF [.cell 2 (.many 8)] []) fun t=>⟨.d (D.pim (TGen.c false s0) 0)::Z::.box (TGen.c true s2)::.box (TGen.c true t)::zs 40 [],[]⟩)
theorem zir:(∀ (s0 s2 s3:TGen) (s4:Int) r,zbi s0 s2 s3 s4=some r->∀ k:List Fr,zcP s0 s2 s3 s4 k r (zcO s0 s2 s3 s4 k))∧(∀ (p0:TGen) r,zdf p0=some r->(PV fun (r:TGen)=>D.agg [dI r.Kind,dI r.Num,D.str r.Text,dI r.Value.Kind,dI r.Value.Num,D.str r.Value.Text,dI r.Value.Ref,D.sl true 8 (List.map (TGen.e true) r.Kids)]) r (zaa T 122 [D.pim (TGen.c false p0) 0] [])):=by
 refine zbi.mutual_partial_correctness (motive_1:=fun s0 s2 s3 s4 r=>∀ k:List Fr,zcP s0 s2 s3 s4 k r (zcO s0 s2 s3 s4 k)) (motive_2:=fun p0 r=>(PV fun (r:TGen)=>D.agg [dI r.Kind,dI r.Num,D.str r.Text,dI r.Value.Kind,dI r.Value.Num,D.str r.Value.Text,dI r.Value.Ref,D.sl true 8 (List.map (TGen.e true) r.Kids)]) r (zaa T 122 [D.pim (TGen.c false p0) 0] [])) ?_ ?_
 ·intro zbi zdf i_s_l22OwnGen_l1 i_s_l22OwnGen
  have p_s_l22OwnGen_l1:∀ (s0 s2 s3:TGen) (s4:Int),Lp (zcP s0 s2 s3 s4) (zbi s0 s2 s3 s4) (zcO s0 s2 s3 s4):=fun s0 s2 s3 s4=>⟨fun k r hr=>i_s_l22OwnGen_l1 s0 s2 s3 s4 r hr k⟩
  have g_s_l22OwnGen:∀ (p0:TGen),Lw (PV fun (r:TGen)=>D.agg [dI r.Kind,dI r.Num,D.str r.Text,dI r.Value.Kind,dI r.Value.Num,D.str r.Value.Text,dI r.Value.Ref,D.sl true 8 (List.map (TGen.e true) r.Kids)]) (zdf p0) (zaa T 122 [D.pim (TGen.c false p0) 0] []):=fun p0=>⟨fun r hr=>i_s_l22OwnGen p0 r hr⟩
  clear i_s_l22OwnGen_l1 i_s_l22OwnGen
  intro s0 s2 s3 s4
  refine Le.pc ?_
  intro k
  refine G0 zrz.eq_def ?_
  try conv=>arg 3;simp (maxSteps:=999999) only [push_cast,↓reduceIte,seval, *]
  refine Le.itq (fun h=>?_) (fun h=>?_)
  ·try conv=>arg 3;simp (maxSteps:=999999) only [push_cast,↓reduceIte,seval, *]
   refine Le.idx fun a38 h_1 h_2 h_3=>?_
   try conv=>arg 3;simp (maxSteps:=999999) only [push_cast,↓reduceIte,seval, *]
   refine Le.dcall ((g_s_l22OwnGen a38).h) fun r39 h_4 _ hy=>?_
   first|subst hy|obtain ⟨_,rfl⟩:=hy
   try conv=>arg 3;simp (maxSteps:=999999) only [push_cast,↓reduceIte,seval, *]
   refine Le.app fun c41 h_5 h_6=>?_
   replace h_5:List.map (TGen.e true) s3.Kids++[D.agg [D.int .i64 r39.Kind,D.int .i64 r39.Num,D.str r39.Text,D.int .i64 r39.Value.Kind,D.int .i64 r39.Value.Num,D.str r39.Value.Text,D.int .i64 r39.Value.Ref,D.sl true 8 (List.map (TGen.e true) r39.Kids)]]=List.map (TGen.e true) c41:=by rw [h_5,List.map_append] <;> first|rfl|simp only [eqs]
   replace h_6:s3.Kids.length + 1<=most:=h_6
   exact A
  ·exact A
 ·intro zbi i_s_l22OwnGen_l1
  have p_s_l22OwnGen_l1:∀ (s0 s2 s3:TGen) (s4:Int),Lp (zcP s0 s2 s3 s4) (zbi s0 s2 s3 s4) (zcO s0 s2 s3 s4):=fun s0 s2 s3 s4=>⟨fun k r hr=>i_s_l22OwnGen_l1 s0 s2 s3 s4 r hr k⟩
  clear i_s_l22OwnGen_l1
  intro p0
  refine (show Le (PV fun (r:TGen)=>D.agg [dI r.Kind,dI r.Num,D.str r.Text,dI r.Value.Kind,dI r.Value.Num,D.str r.Value.Text,dI r.Value.Ref,D.sl true 8 (List.map (TGen.e true) r.Kids)]) _ (zaa T 122 [D.pim (TGen.c false p0) 0] []) from E0 (h:=?_) rfl)
  exact A
instance p_s_l22OwnGen_l1 (s0 s2 s3:TGen) (s4:Int):Lp (zcP s0 s2 s3 s4) (zbi s0 s2 s3 s4) (zcO s0 s2 s3 s4):=⟨fun k r hr=>(zir).1 s0 s2 s3 s4 r hr k⟩
instance g_s_l22OwnGen (p0:TGen):Lw (PV fun (r:TGen)=>D.agg [dI r.Kind,dI r.Num,D.str r.Text,dI r.Value.Kind,dI r.Value.Num,D.str r.Value.Text,dI r.Value.Ref,D.sl true 8 (List.map (TGen.e true) r.Kids)]) (zdf p0) (zaa T 122 [D.pim (TGen.c false p0) 0] []):=⟨fun r hr=>(zir).2 p0 r hr⟩
noncomputable abbrev zbM (s0 s2 s3:TCursor) (s4:Int) (k:List Fr):Option Res:=go T (enF [.cell 2 (.many 4)] []) zrB (.lp zrC::.bl 0::.sq (.clr (rg 4 36))::k) ⟨.d (D.pim (TCursor.c false s0) 0)::Z::.box (TCursor.c true s2)::.box (TCursor.c true s3)::sI s4::zs 36 [],[]⟩
noncomputable abbrev zbN (s0 s2 s3:TCursor) (s4:Int):List Fr->TCursor->Option Res->Prop:=(kN T (enF [.cell 2 (.many 4)] []) fun t=>⟨.d (D.pim (TCursor.c false s0) 0)::Z::.box (TCursor.c true s2)::.box (TCursor.c true t)::zs 37 [],[]⟩)
theorem zgO:(∀ (s0 s2 s3:TCursor) (s4:Int) r,zaN s0 s2 s3 s4=some r->∀ k:List Fr,zbN s0 s2 s3 s4 k r (zbM s0 s2 s3 s4 k))∧(∀ (p0:TCursor) r,zbB p0=some r->(PV fun (r:TCursor)=>D.agg [dI r.Phase,dI r.Count,D.sl true 4 (List.map (TValue.e false) r.Vals),D.sl true 4 (List.map (TCursor.e true) r.Kids)]) r (zaa T 124 [D.pim (TCursor.c false p0) 0] [])):=by
 refine zaN.mutual_partial_correctness (motive_1:=fun s0 s2 s3 s4 r=>∀ k:List Fr,zbN s0 s2 s3 s4 k r (zbM s0 s2 s3 s4 k)) (motive_2:=fun p0 r=>(PV fun (r:TCursor)=>D.agg [dI r.Phase,dI r.Count,D.sl true 4 (List.map (TValue.e false) r.Vals),D.sl true 4 (List.map (TCursor.e true) r.Kids)]) r (zaa T 124 [D.pim (TCursor.c false p0) 0] [])) ?_ ?_
 ·intro zaN zbB i_s_l22OwnCursor_l1 i_s_l22OwnCursor
  have p_s_l22OwnCursor_l1:∀ (s0 s2 s3:TCursor) (s4:Int),Lp (zbN s0 s2 s3 s4) (zaN s0 s2 s3 s4) (zbM s0 s2 s3 s4):=fun s0 s2 s3 s4=>⟨fun k r hr=>i_s_l22OwnCursor_l1 s0 s2 s3 s4 r hr k⟩
  have g_s_l22OwnCursor:∀ (p0:TCursor),Lw (PV fun (r:TCursor)=>D.agg [dI r.Phase,dI r.Count,D.sl true 4 (List.map (TValue.e false) r.Vals),D.sl true 4 (List.map (TCursor.e true) r.Kids)]) (zbB p0) (zaa T 124 [D.pim (TCursor.c false p0) 0] []):=fun p0=>⟨fun r hr=>i_s_l22OwnCursor p0 r hr⟩
  clear i_s_l22OwnCursor_l1 i_s_l22OwnCursor
  intro s0 s2 s3 s4
  refine Le.pc ?_
  intro k
  refine G0 zrB.eq_def ?_
  try conv=>arg 3;simp (maxSteps:=999999) only [push_cast,↓reduceIte,seval, *]
  refine Le.itq (fun h=>?_) (fun h=>?_)
  ·try conv=>arg 3;simp (maxSteps:=999999) only [push_cast,↓reduceIte,seval, *]
   refine Le.idx fun a35 h_1 h_2 h_3=>?_
   try conv=>arg 3;simp (maxSteps:=999999) only [push_cast,↓reduceIte,seval, *]
   refine Le.dcall ((g_s_l22OwnCursor a35).h) fun r36 h_4 _ hy=>?_
   first|subst hy|obtain ⟨_,rfl⟩:=hy
   try conv=>arg 3;simp (maxSteps:=999999) only [push_cast,↓reduceIte,seval, *]
   refine Le.app fun c38 h_5 h_6=>?_
   replace h_5:List.map (TCursor.e true) s3.Kids++[D.agg [D.int .i64 r36.Phase,D.int .i64 r36.Count,D.sl true 4 (List.map (TValue.e false) r36.Vals),D.sl true 4 (List.map (TCursor.e true) r36.Kids)]]=List.map (TCursor.e true) c38:=by rw [h_5,List.map_append] <;> first|rfl|simp only [eqs]
   replace h_6:s3.Kids.length + 1<=most:=h_6
   exact A
  ·exact A
 ·intro zaN i_s_l22OwnCursor_l1
  have p_s_l22OwnCursor_l1:∀ (s0 s2 s3:TCursor) (s4:Int),Lp (zbN s0 s2 s3 s4) (zaN s0 s2 s3 s4) (zbM s0 s2 s3 s4):=fun s0 s2 s3 s4=>⟨fun k r hr=>i_s_l22OwnCursor_l1 s0 s2 s3 s4 r hr k⟩
  clear i_s_l22OwnCursor_l1
  intro p0
  refine (show Le (PV fun (r:TCursor)=>D.agg [dI r.Phase,dI r.Count,D.sl true 4 (List.map (TValue.e false) r.Vals),D.sl true 4 (List.map (TCursor.e true) r.Kids)]) _ (zaa T 124 [D.pim (TCursor.c false p0) 0] []) from E0 (h:=?_) rfl)
  exact A
instance p_s_l22OwnCursor_l1 (s0 s2 s3:TCursor) (s4:Int):Lp (zbN s0 s2 s3 s4) (zaN s0 s2 s3 s4) (zbM s0 s2 s3 s4):=⟨fun k r hr=>(zgO).1 s0 s2 s3 s4 r hr k⟩
instance g_s_l22OwnCursor (p0:TCursor):Lw (PV fun (r:TCursor)=>D.agg [dI r.Phase,dI r.Count,D.sl true 4 (List.map (TValue.e false) r.Vals),D.sl true 4 (List.map (TCursor.e true) r.Kids)]) (zbB p0) (zaa T 124 [D.pim (TCursor.c false p0) 0] []):=⟨fun r hr=>(zgO).2 p0 r hr⟩
instance g_s_l22OwnCo (p0:TCoexpr):Lw (PV (TCoexpr.e true)) (zgn p0) (zaa T 55 [D.pim (TCoexpr.c false p0) 0] []):=⟨E (zgn.eq_def ..)⟩
instance p_s_l22Own_l1 (s0 s2:TGenScope):∀ (s3:TGenScope) (s4:Int),Lp (kN T (enF [.cell 2 (.many 5)] []) fun t=>⟨.d (D.pim (TGenScope.c false s0) 0)::Z::.box (TGenScope.c true s2)::.box (TGenScope.c true t)::zs 37 [],[]⟩) (zgD s0 s2 s3 s4) fun k=>go T (enF [.cell 2 (.many 5)] []) zvW (.lp zvX::.bl 0::.sq (.clr (rg 4 36))::k) ⟨.d (D.pim (TGenScope.c false s0) 0)::Z::.box (TGenScope.c true s2)::.box (TGenScope.c true s3)::sI s4::zs 36 [],[]⟩:=Lp2 (zgD.partial_correctness s0 s2) (by
 intro rec _ s3 s4 k
 refine G0 zvW.eq_def ?_
 try conv=>arg 3;simp (maxSteps:=999999) only [push_cast,↓reduceIte,seval, *]
 refine Le.itq (fun h=>?_) (fun h=>?_)
 ·try conv=>arg 3;simp (maxSteps:=999999) only [push_cast,↓reduceIte,seval, *]
  refine Le.idx fun a35 h_1 h_2 h_3=>?_
  try conv=>arg 3;simp (maxSteps:=999999) only [push_cast,↓reduceIte,seval, *]
  refine Le.dcall ((g_s_l22OwnCo a35).h) fun r36 h_4 _ hy=>?_
  first|subst hy|obtain ⟨_,rfl⟩:=hy
  try conv=>arg 3;simp (maxSteps:=999999) only [push_cast,↓reduceIte,seval, *]
  refine Le.app fun c38 h_5 h_6=>?_
  replace h_5:List.map (TCoexpr.e true) s3.Cos++[D.agg [D.int .i64 r36.Id,D.int .i64 r36.Body.Kind,D.int .i64 r36.Body.Num,D.str r36.Body.Text,D.int .i64 r36.Body.Value.Kind,D.int .i64 r36.Body.Value.Num,D.str r36.Body.Value.Text,D.int .i64 r36.Body.Value.Ref,D.sl true 8 (List.map (TGen.e true) r36.Body.Kids),D.sl true 5 (List.map (TBinding.e false) r36.Start),D.sl true 5 (List.map (TBinding.e false) r36.Vars),D.int .i64 r36.Cursor.Phase,D.int .i64 r36.Cursor.Count,D.sl true 4 (List.map (TValue.e false) r36.Cursor.Vals),D.sl true 4 (List.map (TCursor.e true) r36.Cursor.Kids),D.int .i64 r36.Count,D.bool r36.Done]]=List.map (TCoexpr.e true) c38:=by rw [h_5,List.map_append] <;> first|rfl|simp only [eqs]
  replace h_6:s3.Cos.length + 1<=most:=h_6
  exact A
 ·exact A)
instance g_s_l22Own (p0:TGenScope):Lw (PV (TGenScope.e true)) (zjF p0) (zaa T 83 [D.pim (TGenScope.c false p0) 0] []):=⟨E (zjF.eq_def ..)⟩
instance g_s_RemoveCo (p0:TGenScope) (p1:Int):Lw (kT (PV fun (r:TGenScope × Int)=>D.tup [TGenScope.e true r.1,dI r.2]) (PV fun (r:TGenScope × Int)=>D.tup [D.agg [D.sl false 5 (List.map (TBinding.e false) r.1.Vars),dI r.1.Heap.Next,D.sl false 10 (List.map (TObject.e false) r.1.Heap.Objects),D.sl true 17 (List.map (TCoexpr.e false) r.1.Cos),dI r.1.Steps],dI r.2])) (ziL p0 p1) (zaa T 33 [TGenScope.e false p0,dI p1] []):=⟨by
 refine E0 (h:=?_) (ziL.eq_def ..)
 try conv=>arg 3;simp (maxSteps:=999999) only [push_cast,↓reduceIte,seval, *]
 refine Le.call ((g_s_l22Scope p0).h) fun r9 h _ hy=>?_
 first|subst hy|obtain ⟨_,rfl⟩:=hy
 try conv=>arg 3;simp (maxSteps:=999999) only [push_cast,↓reduceIte,seval, *]
 refine Le.bool (fun h_1=>?_) (fun h_1=>?_)
 ·try conv=>arg 3;simp (maxSteps:=999999) only [push_cast,↓reduceIte,seval, *]
  refine Le.call ((g_s_l23At p0 p1).h) fun r13 h_2 _ hy=>?_
  first|subst hy|obtain ⟨_,rfl⟩:=hy
  try conv=>arg 3;simp (maxSteps:=999999) only [push_cast,↓reduceIte,seval, *]
  refine Le.itq (fun h_3=>?_) (fun h_3=>?_)
  ·exact A
  ·try conv=>arg 3;simp (maxSteps:=999999) only [push_cast,↓reduceIte,seval, *]
   refine Le.call ((g_s_l22Own p0).h) fun r17 h_4 _ hy=>?_
   first|subst hy|obtain ⟨_,rfl⟩:=hy
   try conv=>arg 3;simp (maxSteps:=999999) only [push_cast,↓reduceIte,seval, *]
   refine Le.subH fun c22 h_5 h_6 h_7=>?_
   replace h_5:List.take r13.toNat (List.map (TCoexpr.e false) r17.Cos)=List.map (TCoexpr.e false) c22:=by rw [h_5];exact zmE ..
   try conv=>arg 3;simp (maxSteps:=999999) only [push_cast,↓reduceIte,seval, *]
   refine Le.chk fun h_8=>?_
   try conv=>arg 3;simp (maxSteps:=999999) only [push_cast,↓reduceIte,seval, *]
   refine Le.subL fun c29 h_9 h_10 h_11=>?_
   replace h_9:List.take (r17.Cos.length - (IntKind.wrap .i64 (r13 + 1)).toNat) (List.drop (IntKind.wrap .i64 (r13 + 1)).toNat (List.map (TCoexpr.e false) r17.Cos))=List.map (TCoexpr.e false) c29:=by rw [h_9];exact zre ..
   try conv=>arg 3;simp (maxSteps:=999999) only [push_cast,↓reduceIte,seval, *]
   refine Le.app fun c30 h_12 h_13=>?_
   replace h_12:List.map (TCoexpr.e false) c22++List.map (TCoexpr.e false) c29=List.map (TCoexpr.e false) c30:=by rw [h_12,List.map_append] <;> first|rfl|simp only [eqs]
   replace h_13:c22.length + c29.length<=most:=h_13
   exact A
 ·exact A⟩
end Go.Vx.RmZ

