/-
  What the plain functions give, the program gives too.
-/
import Derived.Test.YtnaaflejkfaiaaaGreatAu
set_option linter.unusedVariables false
set_option linter.unusedSimpArgs false
namespace Go.Vx.RfZ
set_option linter.unusedVariables false
set_option linter.unusedSimpArgs false
set_option maxRecDepth 10000
set_option maxHeartbeats 2000000
attribute [local irreducible] go bk exi got
instance g_s_l00In (p0 p1 p2:Int):Lw (PV D.bool) (zci p0 p1 p2) (zaa T 120 [dI p0,dI p1,dI p2] []):=⟨E (zci.eq_def ..)⟩
instance g_s_l06Plain (p0:TValue) (p1 p2 p3:Bool):Lw (PV D.bool) (zec p0 p1 p2 p3) (zaa T 215 [TValue.e false p0,D.bool p1,D.bool p2,D.bool p3] []):=⟨E (zec.eq_def ..)⟩
instance g_s_l02Letter (p0:Int):Lw (PV D.bool) (zfy p0) (zaa T 247 [D.int .u8 p0] []):=⟨E (zfy.eq_def ..)⟩
instance g_s_l02Digit (p0:Int):Lw (PV D.bool) (zhr p0) (zaa T 248 [D.int .u8 p0] []):=⟨E (zhr.eq_def ..)⟩
instance p_s_l02NameEnd_l1 (s0:ByteArray):∀ (s1:Int),Lp (kN T (enF [.tmp 4] []) fun t=>⟨sT s0::sI t::zs 40 [],[]⟩) (zbm s0 s1) fun k=>go T (enF [.tmp 4] []) zsb (.lp zsc::.bl 0::.sq (.clr (rg 4 37))::k) ⟨sT s0::sI s1::zs 40 [],[]⟩:=Lp1 (zbm.partial_correctness s0) (by exact fun _ _ _ _=>G zsb.eq_def)
instance p_s_l02NameEnd_j1 (s0:ByteArray) (s1:Int):Lp (kR (PV dI)) (zfz s0 s1) fun k=>go T (enF [.tmp 4] []) zsd k ⟨sT s0::sI s1::zs 40 [],[]⟩:=⟨fun k=>GG (zfz.eq_def ..) zsd.eq_def⟩
instance g_s_l02NameEnd (p0:ByteArray) (p1:Int):Lw (PV dI) (zha p0 p1) (zaa T 214 [D.str p0,dI p1] []):=⟨E (zha.eq_def ..)⟩
instance g_s_IsName (p0:ByteArray):Lw (PV D.bool) (zfK p0) (zaa T 154 [D.str p0] []):=⟨E (zfK.eq_def ..)⟩
instance p_s_ValidValue_j1 (s1:TValue) (s45:Bool):Lp (kS (kN T (enF [.tmp 2] []) fun t=>⟨Z::.box (TValue.c false s1)::zs 43 (sB t::zs 9 []),[]⟩) (kR (PV D.bool))) (zem s1 s45) fun k=>go T (enF [.tmp 2] []) zrA k ⟨Z::.box (TValue.c false s1)::zs 43 (sB s45::zs 9 []),[]⟩:=⟨fun k=>GG (zem.eq_def ..) zrA.eq_def⟩
instance p_s_ValidValue_j2 (s1:TValue) (s4:Int) (s34:Bool):Lp (kS (kN T (enF [.tmp 2] []) fun t=>⟨Z::.box (TValue.c false s1)::zs 53 [],[]⟩) (kR (PV D.bool))) (zdf s1 s4 s34) fun k=>go T (enF [.tmp 2] []) zrB k ⟨Z::.box (TValue.c false s1)::Z::Z::sI s4::zs 29 (sB s34::zs 20 []),[]⟩:=⟨fun k=>GG (zdf.eq_def ..) zrB.eq_def⟩
instance g_s_ValidValue (p0:TValue):Lw (PV D.bool) (zbU p0) (zaa T 155 [TValue.e false p0] []):=⟨E (zbU.eq_def ..)⟩
instance p_s_l07ValidValues_l1 (s0:List TValue) (s1:Int):∀ (s5:Int),Lp (kS (kN T (enF [.tmp 4] []) fun t=>⟨sL false 4 (TValue.e false) s0::sI s1::zs 20 [],[]⟩) (kR (PV D.bool))) (zct s0 s1 s5) fun k=>go T (enF [.tmp 4] []) zsl (.lp zsm::.bl 0::.sq (.clr (rg 4 18))::k) ⟨sL false 4 (TValue.e false) s0::sI s1::Z::Z::Z::sI s5::zs 16 [],[]⟩:=Lp1 (zct.partial_correctness s0 s1) (by exact fun _ _ _ _=>G zsl.eq_def)
instance g_s_l07ValidValues (p0:List TValue) (p1:Int):Lw (PV D.bool) (zbP p0 p1) (zaa T 234 [D.sl false 4 (List.map (TValue.e false) p0),dI p1] []):=⟨E (zbP.eq_def ..)⟩
instance g_s_SameValue (p0 p1:TValue):Lw (PV D.bool) (zgw p0 p1) (zaa T 261 [TValue.e false p0,TValue.e false p1] []):=⟨E (zgw.eq_def ..)⟩
instance p_s_l07Distinct_l1 (s0:List TValue) (s3:Int):∀ (s4:Int),Lp (kS (kN T (enF [.tmp 2] []) fun t=>⟨sL false 4 (TValue.e false) s0::Z::Z::sI s3::zs 21 [],[]⟩) (kR (PV D.bool))) (zcL s0 s3 s4) fun k=>go T (enF [.tmp 2] []) zsn (.lp zso::.bl 2::.sq (.clr [2,4,5,6,7,8,9,10,11,12,13,14,15,16,17,18,19,20,21,22,23,24])::k) ⟨sL false 4 (TValue.e false) s0::Z::Z::sI s3::sI s4::zs 20 [],[]⟩:=Lp1 (zcL.partial_correctness s0 s3) (by exact fun _ _ _ _=>G zsn.eq_def)
instance p_s_l07Distinct_l2 (s0:List TValue):∀ (s3:Int),Lp (kS (kN T (enF [.tmp 2] []) fun t=>⟨sL false 4 (TValue.e false) s0::zs 24 [],[]⟩) (kR (PV D.bool))) (zdP s0 s3) fun k=>go T (enF [.tmp 2] []) zsp (.lp zsq::.bl 0::.sq (.clr (rg 2 23))::k) ⟨sL false 4 (TValue.e false) s0::Z::Z::sI s3::zs 21 [],[]⟩:=Lp1 (zdP.partial_correctness s0) (by exact fun _ _ _ _=>G zsp.eq_def)
instance g_s_l07Distinct (p0:List TValue):Lw (PV D.bool) (zen p0) (zaa T 235 [D.sl false 4 (List.map (TValue.e false) p0)] []):=⟨E (zen.eq_def ..)⟩
instance p_s_l07FieldNames_l1 (s0:List TValue):∀ (s3:Int),Lp (kS (kN T (enF [.tmp 2] []) fun t=>⟨sL false 4 (TValue.e false) s0::zs 35 [],[]⟩) (kR (PV D.bool))) (zcX s0 s3) fun k=>go T (enF [.tmp 2] []) zsr (.lp zss::.bl 0::.sq (.clr (rg 2 23))::k) ⟨sL false 4 (TValue.e false) s0::Z::Z::sI s3::zs 32 [],[]⟩:=Lp1 (zcX.partial_correctness s0) (by exact fun _ _ _ _=>G zsr.eq_def)
instance g_s_l07FieldNames (p0:List TValue):Lw (PV D.bool) (zeo p0) (zaa T 236 [D.sl false 4 (List.map (TValue.e false) p0)] []):=⟨E (zeo.eq_def ..)⟩
instance p_s_l07Object_j1 (s1:TObject):Lp (kR (PV D.bool)) (zeN s1) fun k=>go T (enF [.tmp 2] []) zrL k ⟨Z::.box (TObject.c false s1)::zs 99 [],[]⟩:=⟨fun k=>GG (zeN.eq_def ..) zrL.eq_def⟩
instance g_s_l07Object (p0:TObject):Lw (PV D.bool) (zgx p0) (zaa T 196 [TObject.e false p0] []):=⟨E (zgx.eq_def ..)⟩
instance g_s_l07IsRef (p0:TValue):Lw (PV D.bool) (zeJ p0) (zaa T 237 [TValue.e false p0] []):=⟨E (zeJ.eq_def ..)⟩
instance p_s_l07Find_l1 (s0:THeap) (s1:Int):∀ (s5:Int),Lp (kS (kN T (enF [.tmp 4] []) fun t=>⟨.d (D.pim (THeap.c false s0) 0)::sI s1::zs 24 [],[]⟩) (kR (PV dI))) (zeV s0 s1 s5) fun k=>go T (enF [.tmp 4] []) zst (.lp zsu::.bl 0::.sq (.clr (rg 4 22))::k) ⟨.d (D.pim (THeap.c false s0) 0)::sI s1::Z::Z::Z::sI s5::zs 20 [],[]⟩:=Lp1 (zeV.partial_correctness s0 s1) (by exact fun _ _ _ _=>G zst.eq_def)
instance g_s_l07Find (p0:THeap) (p1:Int):Lw (PV dI) (zig p0 p1) (zaa T 238 [D.pim (THeap.c false p0) 0,dI p1] []):=⟨E (zig.eq_def ..)⟩
instance g_s_l07ObjectKind (p0:Int):Lw (PV dI) (zfA p0) (zaa T 239 [dI p0] []):=⟨E (zfA.eq_def ..)⟩
instance g_s_l07Fits (p0:THeap) (p1:TValue):Lw (PV D.bool) (zep p0 p1) (zaa T 198 [D.pim (THeap.c false p0) 0,TValue.e false p1] []):=⟨E (zep.eq_def ..)⟩
instance p_s_l07FitAll_l1 (s0:THeap) (s1:List TValue):∀ (s5:Int),Lp (kS (kN T (enF [.tmp 4] []) fun t=>⟨.d (D.pim (THeap.c false s0) 0)::sL false 4 (TValue.e false) s1::zs 17 [],[]⟩) (kR (PV D.bool))) (zeO s0 s1 s5) fun k=>go T (enF [.tmp 4] []) zrQ (.lp zrR::.bl 0::.sq (.clr (rg 4 15))::k) ⟨.d (D.pim (THeap.c false s0) 0)::sL false 4 (TValue.e false) s1::Z::Z::Z::sI s5::zs 13 [],[]⟩:=Lp1 (zeO.partial_correctness s0 s1) (by exact fun _ _ _ _=>G zrQ.eq_def)
instance g_s_l07FitAll (p0:THeap) (p1:List TValue):Lw (PV D.bool) (zeK p0 p1) (zaa T 207 [D.pim (THeap.c false p0) 0,D.sl false 4 (List.map (TValue.e false) p1)] []):=⟨E (zeK.eq_def ..)⟩
instance g_s_l07Refs (p0:THeap) (p1:TObject):Lw (PV D.bool) (zih p0 p1) (zaa T 197 [D.pim (THeap.c false p0) 0,D.pim (TObject.c false p1) 0] []):=⟨E (zih.eq_def ..)⟩
instance p_s_l07Ok_l1 (s0:THeap):∀ (s3:Int),Lp (kS (kN T (enF [.tmp 2] []) fun t=>⟨.d (D.pim (THeap.c false s0) 0)::zs 83 [],[]⟩) (kR (PV D.bool))) (zfv s0 s3) fun k=>go T (enF [.tmp 2] []) zqG (.lp zqH::.bl 0::.sq (.clr [2,3,4,6,7,8,9,10,11,12,13,14,15,16,17,18,19,20,21,22,23,24,25,26,27,28,29,30,31,32,33,34,35,36,37,38,39,40,41,42,43,44,45,46,47,48,49,50,51,52,53,54,55,56,57,58,59,60,61,62,63,64,65])::k) ⟨.d (D.pim (THeap.c false s0) 0)::Z::Z::sI s3::zs 80 [],[]⟩:=Lp1 (zfv.partial_correctness s0) (by exact fun _ _ _ _=>G zqG.eq_def)
instance p_s_l07Ok_l2 (s0:THeap):∀ (s5:Int),Lp (kS (kN T (enF [.tmp 2] []) fun t=>⟨.d (D.pim (THeap.c false s0) 0)::zs 83 [],[]⟩) (kR (PV D.bool))) (zgf s0 s5) fun k=>go T (enF [.tmp 2] []) zqI (.lp zqJ::.bl 2::.sq (.clr (rg 2 82))::k) ⟨.d (D.pim (THeap.c false s0) 0)::zs 4 (sI s5::zs 78 []),[]⟩:=Lp1 (zgf.partial_correctness s0) (by exact fun _ _ _ _=>G zqI.eq_def)
instance p_s_l07Ok_j1 (s0:THeap):Lp (kR (PV D.bool)) (ziz s0) fun k=>go T (enF [.tmp 2] []) zqK k ⟨.d (D.pim (THeap.c false s0) 0)::zs 83 [],[]⟩:=⟨fun k=>GG (ziz.eq_def ..) zqK.eq_def⟩
instance g_s_l07Ok (p0:THeap):Lw (PV D.bool) (zlr p0) (zaa T 118 [D.pim (THeap.c false p0) 0] []):=⟨E (zlr.eq_def ..)⟩
instance g_s_IsNull (p0:TValue):Lw (PV D.bool) (zjr p0) (zaa T 156 [TValue.e false p0] []):=⟨E (zjr.eq_def ..)⟩
instance p_s_l22Vars_l1 (s0:THeap) (s1:List TBinding):∀ (s5:Int),Lp (kS (kN T (enF [.tmp 4] []) fun t=>⟨.d (D.pim (THeap.c false s0) 0)::sL false 5 (TBinding.e false) s1::zs 56 [],[]⟩) (kR (PV D.bool))) (zeW s0 s1 s5) fun k=>go T (enF [.tmp 4] []) zqL (.lp zqM::.bl 0::.sq (.clr (rg 4 54))::k) ⟨.d (D.pim (THeap.c false s0) 0)::sL false 5 (TBinding.e false) s1::Z::Z::Z::sI s5::zs 52 [],[]⟩:=Lp1 (zeW.partial_correctness s0 s1) (by exact fun _ _ _ _=>G zqL.eq_def)
instance g_s_l22Vars (p0:THeap) (p1:List TBinding):Lw (PV D.bool) (zgg p0 p1) (zaa T 119 [D.pim (THeap.c false p0) 0,D.sl false 5 (List.map (TBinding.e false) p1)] []):=⟨E (zgg.eq_def ..)⟩
instance p_s_l22Kids_j1 (s0 s3:Int) (s12:Bool):Lp (kS (kN T (enF [.tmp 2] []) fun t=>⟨sI s0::Z::Z::sI s3::zs 8 (sB t.1::zs 5 ([sB t.2.1,sB t.2.2.1,sB t.2.2.2.1,sB t.2.2.2.2])),[]⟩) (kR (PV dI))) (zed s0 s3 s12) fun k=>go T (enF [.tmp 2] []) zsB k ⟨sI s0::Z::Z::sI s3::zs 8 (sB s12::zs 9 []),[]⟩:=⟨fun k=>GG (zed.eq_def ..) zsB.eq_def⟩
instance p_s_l22Kids_j2 (s0 s3:Int) (s4:Bool):Lp (kS (kN T (enF [.tmp 2] []) fun t=>⟨sI s0::Z::Z::sI s3::zs 8 (sB t.1::zs 5 ([sB t.2.1,sB t.2.2.1,sB t.2.2.2.1,sB t.2.2.2.2])),[]⟩) (kR (PV dI))) (zcq s0 s3 s4) fun k=>go T (enF [.tmp 2] []) zsC k ⟨sI s0::Z::Z::sI s3::sB s4::zs 17 [],[]⟩:=⟨fun k=>GG (zcq.eq_def ..) zsC.eq_def⟩
instance g_s_l22Kids (p0:Int):Lw (PV dI) (zfB p0) (zaa T 243 [dI p0] []):=⟨E (zfB.eq_def ..)⟩
instance g_s_l22Operators:Lw (PV (dL true 1 D.str)) (zeP) (zaa T 263 [] []):=⟨E (zeP.eq_def ..)⟩
instance p_s_l22Among_l1 (s0:List ByteArray) (s1:ByteArray):∀ (s5:Int),Lp (kS (kN T (enF [.tmp 4] []) fun t=>⟨sL false 1 D.str s0::sT s1::zs 17 [],[]⟩) (kR (PV dI))) (zeq s0 s1 s5) fun k=>go T (enF [.tmp 4] []) zsK (.lp zsL::.bl 0::.sq (.clr (rg 4 15))::k) ⟨sL false 1 D.str s0::sT s1::Z::Z::Z::sI s5::zs 13 [],[]⟩:=Lp1 (zeq.partial_correctness s0 s1) (by exact fun _ _ _ _=>G zsK.eq_def)
instance g_s_l22Among (p0:List ByteArray) (p1:ByteArray):Lw (PV dI) (zeL p0 p1) (zaa T 262 [D.sl false 1 (List.map D.str p0),D.str p1] []):=⟨E (zeL.eq_def ..)⟩
instance p_s_l22Shape_j1 (s0:TGen) (s53:Int) (s88:Bool):Lp (kS (kN T (enF [.tmp 2] []) fun t=>⟨.d (D.pim (TGen.c false s0) 0)::zs 52 (sI s53::zs 34 (sB t::zs 36 [])),[]⟩) (kR (PV D.bool))) (zer s0 s53 s88) fun k=>go T (enF [.tmp 2] []) zsx k ⟨.d (D.pim (TGen.c false s0) 0)::zs 52 (sI s53::zs 34 (sB s88::zs 36 [])),[]⟩:=⟨fun k=>GG (zer.eq_def ..) zsx.eq_def⟩
instance p_s_l22Shape_j2 (s0:TGen):Lp (kR (PV D.bool)) (zes s0) fun k=>go T (enF [.tmp 2] []) zsy k ⟨.d (D.pim (TGen.c false s0) 0)::zs 124 [],[]⟩:=⟨fun k=>GG (zes.eq_def ..) zsy.eq_def⟩
instance p_s_l22Shape_j3 (s0:TGen):Lp (kR (PV D.bool)) (zdq s0) fun k=>go T (enF [.tmp 2] []) zsz k ⟨.d (D.pim (TGen.c false s0) 0)::zs 124 [],[]⟩:=⟨fun k=>GG (zdq.eq_def ..) zsz.eq_def⟩
instance p_s_l22Shape_j4 (s0:TGen):Lp (kR (PV D.bool)) (zgy s0) fun k=>go T (enF [.tmp 2] []) zsA k ⟨.d (D.pim (TGen.c false s0) 0)::zs 124 [],[]⟩:=⟨fun k=>GG (zgy.eq_def ..) zsA.eq_def⟩
instance g_s_l22Shape (p0:TGen):Lw (PV D.bool) (zgh p0) (zaa T 242 [D.pim (TGen.c false p0) 0] []):=⟨E (zgh.eq_def ..)⟩
noncomputable abbrev zeQ (s0:TGen) (s3 s4:Int) (k:List Fr):Option Res:=go T (enF [.tmp 2] []) zrN k ⟨.d (D.pim (TGen.c false s0) 0)::Z::Z::sI s3::sI s4::zs 26 [],[]⟩
noncomputable abbrev zeR (s0:TGen) (s3 s4:Int):List Fr→((Int × Int × Int × (List TGen) × TGen × Int × Int))→Option Res→Prop:=(kN T (enF [.tmp 2] []) fun t=>⟨.d (D.pim (TGen.c false s0) 0)::Z::Z::sI t.1::sI t.2.1::zs 14 ([sI s4,sI t.2.2.1,sI s3,.d (D.pim (TGen.c false s0) 0),.d (D.pim (TGen.c false s0) 0),.d (D.pim (TGen.c false s0) 7),sL false 8 (TGen.e false) t.2.2.2.1,sI s4,.d (D.pim (TGen.c false t.2.2.2.2.1) 0),sI t.2.2.2.2.2.1,sI t.2.2.2.2.2.2,Z]),[]⟩)
noncomputable abbrev zdI (s0:TGen) (s3 s4:Int) (k:List Fr):Option Res:=go T (enF [.tmp 2] []) zrO (.lp zrP::.bl 0::.sq (.clr [2,4,5,6,7,8,9,10,11,12,13,14,15,16,17,18,19,20,21,22,23,24,25,26,27,28,29])::k) ⟨.d (D.pim (TGen.c false s0) 0)::Z::Z::sI s3::sI s4::zs 26 [],[]⟩
noncomputable abbrev zdJ (s0:TGen) (s3 s4:Int):List Fr→Int→Option Res→Prop:=(kN T (enF [.tmp 2] []) fun t=>⟨.d (D.pim (TGen.c false s0) 0)::Z::Z::sI t::zs 27 [],[]⟩)
theorem zfV:(∀ (s0:TGen) (s3 s4:Int) r,zeX s0 s3 s4=some r→∀ k:List Fr,zeR s0 s3 s4 k r (zeQ s0 s3 s4 k))∧(∀ (p0:TGen) r,zeY p0=some r→(PV dI) r (zaa T 204 [D.pim (TGen.c false p0) 0] []))∧(∀ (s0:TGen) (s3 s4:Int) r,zbA s0 s3 s4=some r→∀ k:List Fr,zdJ s0 s3 s4 k r (zdI s0 s3 s4 k)):=by
 refine zeX.mutual_partial_correctness (motive_1:=fun s0 s3 s4 r=>∀ k:List Fr,zeR s0 s3 s4 k r (zeQ s0 s3 s4 k)) (motive_2:=fun p0 r=>(PV dI) r (zaa T 204 [D.pim (TGen.c false p0) 0] [])) (motive_3:=fun s0 s3 s4 r=>∀ k:List Fr,zdJ s0 s3 s4 k r (zdI s0 s3 s4 k)) ?_ ?_ ?_
 ·intro zeY i_s_l22Size
  have g_s_l22Size:∀ (p0:TGen),Lw (PV dI) (zeY p0) (zaa T 204 [D.pim (TGen.c false p0) 0] []):=fun p0=>⟨fun r hr=>i_s_l22Size p0 r hr⟩
  clear i_s_l22Size
  intro s0 s3 s4
  refine Le.pc ?_
  intro k
  refine G0 zrN.eq_def ?_
  exact A
 ·intro zbA i_s_l22Size_l1
  have p_s_l22Size_l1:∀ (s0:TGen) (s3 s4:Int),Lp (zdJ s0 s3 s4) (zbA s0 s3 s4) (zdI s0 s3 s4):=fun s0 s3 s4=>⟨fun k r hr=>i_s_l22Size_l1 s0 s3 s4 r hr k⟩
  clear i_s_l22Size_l1
  intro p0
  refine (show Le (PV dI) _ (zaa T 204 [D.pim (TGen.c false p0) 0] []) from E0 (h:=?_) rfl)
  exact A
 ·intro zeX zbA i_s_l22Size_j1 i_s_l22Size_l1
  have p_s_l22Size_j1:∀ (s0:TGen) (s3 s4:Int),Lp (zeR s0 s3 s4) (zeX s0 s3 s4) (zeQ s0 s3 s4):=fun s0 s3 s4=>⟨fun k r hr=>i_s_l22Size_j1 s0 s3 s4 r hr k⟩
  have p_s_l22Size_l1:∀ (s0:TGen) (s3 s4:Int),Lp (zdJ s0 s3 s4) (zbA s0 s3 s4) (zdI s0 s3 s4):=fun s0 s3 s4=>⟨fun k r hr=>i_s_l22Size_l1 s0 s3 s4 r hr k⟩
  clear i_s_l22Size_j1 i_s_l22Size_l1
  intro s0 s3 s4
  refine Le.pc ?_
  intro k
  refine G0 zrO.eq_def ?_
  exact A
instance p_s_l22Size_j1 (s0:TGen) (s3 s4:Int):Lp (zeR s0 s3 s4) (zeX s0 s3 s4) (zeQ s0 s3 s4):=⟨fun k r hr=>(zfV).1 s0 s3 s4 r hr k⟩
instance g_s_l22Size (p0:TGen):Lw (PV dI) (zeY p0) (zaa T 204 [D.pim (TGen.c false p0) 0] []):=⟨fun r hr=>(zfV).2.1 p0 r hr⟩
instance p_s_l22Size_l1 (s0:TGen) (s3 s4:Int):Lp (zdJ s0 s3 s4) (zbA s0 s3 s4) (zdI s0 s3 s4):=⟨fun k r hr=>(zfV).2.2 s0 s3 s4 r hr k⟩
instance g_s_l22Ok (p0:TGen):Lw (PV D.bool) (zls p0) (zaa T 145 [D.pim (TGen.c false p0) 0] []):=⟨E (zls.eq_def ..)⟩
noncomputable abbrev zdK (s0:THeap) (s1:TGen) (s5:Int) (k:List Fr):Option Res:=go T (enF [.tmp 4] []) zro (.lp zrp::.bl 0::.sq (.clr (rg 4 34))::k) ⟨.d (D.pim (THeap.c false s0) 0)::.d (D.pim (TGen.c false s1) 0)::Z::Z::Z::sI s5::zs 32 [],[]⟩
noncomputable abbrev zdL (s0:THeap) (s1:TGen) (s5:Int):List Fr→((Unit ⊕ Bool))→Option Res→Prop:=(kS (kN T (enF [.tmp 4] []) fun t=>⟨.d (D.pim (THeap.c false s0) 0)::.d (D.pim (TGen.c false s1) 0)::zs 36 [],[]⟩) (kR (PV D.bool)))
noncomputable abbrev zeS (s0:THeap) (s1:TGen) (k:List Fr):Option Res:=go T (enF [.tmp 4] []) zrq k ⟨.d (D.pim (THeap.c false s0) 0)::.d (D.pim (TGen.c false s1) 0)::zs 36 [],[]⟩
noncomputable abbrev zeT (s0:THeap) (s1:TGen):List Fr→Bool→Option Res→Prop:=(kR (PV D.bool))
theorem zfW (f0:THeap):(∀ (s1:TGen) (s5:Int) r,zbV f0 s1 s5=some r→∀ k:List Fr,zdL f0 s1 s5 k r (zdK f0 s1 s5 k))∧(∀ (p1:TGen) r,zeZ f0 p1=some r→(PV D.bool) r (zaa T 146 [D.pim (THeap.c false f0) 0,D.pim (TGen.c false p1) 0] []))∧(∀ (s1:TGen) r,zee f0 s1=some r→∀ k:List Fr,zeT f0 s1 k r (zeS f0 s1 k)):=by
 refine zbV.mutual_partial_correctness f0 (motive_1:=fun s1 s5 r=>∀ k:List Fr,zdL f0 s1 s5 k r (zdK f0 s1 s5 k)) (motive_2:=fun p1 r=>(PV D.bool) r (zaa T 146 [D.pim (THeap.c false f0) 0,D.pim (TGen.c false p1) 0] [])) (motive_3:=fun s1 r=>∀ k:List Fr,zeT f0 s1 k r (zeS f0 s1 k)) ?_ ?_ ?_
 ·intro zbV zeZ i_s_l22Refs_l1 i_s_l22Refs
  have p_s_l22Refs_l1:∀ (s1:TGen) (s5:Int),Lp (zdL f0 s1 s5) (zbV s1 s5) (zdK f0 s1 s5):=fun s1 s5=>⟨fun k r hr=>i_s_l22Refs_l1 s1 s5 r hr k⟩
  have g_s_l22Refs:∀ (p1:TGen),Lw (PV D.bool) (zeZ p1) (zaa T 146 [D.pim (THeap.c false f0) 0,D.pim (TGen.c false p1) 0] []):=fun p1=>⟨fun r hr=>i_s_l22Refs p1 r hr⟩
  clear i_s_l22Refs_l1 i_s_l22Refs
  intro s1 s5
  refine Le.pc ?_
  intro k
  refine G0 zro.eq_def ?_
  exact A
 ·intro zee i_s_l22Refs_j1
  have p_s_l22Refs_j1:∀ (s1:TGen),Lp (zeT f0 s1) (zee s1) (zeS f0 s1):=fun s1=>⟨fun k r hr=>i_s_l22Refs_j1 s1 r hr k⟩
  clear i_s_l22Refs_j1
  intro p1
  refine (show Le (PV D.bool) _ (zaa T 146 [D.pim (THeap.c false f0) 0,D.pim (TGen.c false p1) 0] []) from E0 (h:=?_) rfl)
  exact A
 ·intro zbV i_s_l22Refs_l1
  have p_s_l22Refs_l1:∀ (s1:TGen) (s5:Int),Lp (zdL f0 s1 s5) (zbV s1 s5) (zdK f0 s1 s5):=fun s1 s5=>⟨fun k r hr=>i_s_l22Refs_l1 s1 s5 r hr k⟩
  clear i_s_l22Refs_l1
  intro s1
  refine Le.pc ?_
  intro k
  refine G0 zrq.eq_def ?_
  exact A
instance p_s_l22Refs_l1 (s0:THeap) (s1:TGen) (s5:Int):Lp (zdL s0 s1 s5) (zbV s0 s1 s5) (zdK s0 s1 s5):=⟨fun k r hr=>(zfW s0).1 s1 s5 r hr k⟩
instance g_s_l22Refs (p0:THeap) (p1:TGen):Lw (PV D.bool) (zeZ p0 p1) (zaa T 146 [D.pim (THeap.c false p0) 0,D.pim (TGen.c false p1) 0] []):=⟨fun r hr=>(zfW p0).2.1 p1 r hr⟩
instance p_s_l22Refs_j1 (s0:THeap) (s1:TGen):Lp (zeT s0 s1) (zee s0 s1) (zeS s0 s1):=⟨fun k r hr=>(zfW s0).2.2 s1 r hr k⟩
instance g_s_l22Zero (p0:TCursor):Lw (PV D.bool) (zii p0) (zaa T 147 [D.pim (TCursor.c false p0) 0] []):=⟨E (zii.eq_def ..)⟩
instance g_s_l22Counts (p0:TGen) (p1:TCursor):Lw (PV D.bool) (zbI p0 p1) (zaa T 205 [D.pim (TGen.c false p0) 0,D.pim (TCursor.c false p1) 0] []):=⟨E (zbI.eq_def ..)⟩
instance g_s_l22Vals (p0:TGen):Lw (PV dI) (zdg p0) (zaa T 206 [D.pim (TGen.c false p0) 0] []):=⟨E (zdg.eq_def ..)⟩
noncomputable abbrev zcA (s0:THeap) (s1:TGen) (s2:TCursor) (s34:Int) (s38:Bool) (k:List Fr):Option Res:=go T (enF [.tmp 6] []) zrr k ⟨.d (D.pim (THeap.c false s0) 0)::.d (D.pim (TGen.c false s1) 0)::.d (D.pim (TCursor.c false s2) 0)::zs 31 (sI s34::Z::Z::Z::sB s38::zs 126 []),[]⟩
noncomputable abbrev zcB (s0:THeap) (s1:TGen) (s2:TCursor) (s34:Int) (s38:Bool):List Fr→((Bool ⊕ Bool))→Option Res→Prop:=(kS (kN T (enF [.tmp 6] []) fun t=>⟨.d (D.pim (THeap.c false s0) 0)::.d (D.pim (TGen.c false s1) 0)::.d (D.pim (TCursor.c false s2) 0)::zs 31 (sI s34::Z::Z::Z::sB t::zs 126 []),[]⟩) (kR (PV D.bool)))
noncomputable abbrev zcC (s0:THeap) (s1:TGen) (s2:TCursor) (k:List Fr):Option Res:=go T (enF [.tmp 6] []) zrx k ⟨.d (D.pim (THeap.c false s0) 0)::.d (D.pim (TGen.c false s1) 0)::.d (D.pim (TCursor.c false s2) 0)::zs 162 [],[]⟩
noncomputable abbrev zcD (s0:THeap) (s1:TGen) (s2:TCursor):List Fr→Bool→Option Res→Prop:=(kR (PV D.bool))
noncomputable abbrev zcE (s0:THeap) (s1:TGen) (s2:TCursor) (k:List Fr):Option Res:=go T (enF [.tmp 6] []) zrw k ⟨.d (D.pim (THeap.c false s0) 0)::.d (D.pim (TGen.c false s1) 0)::.d (D.pim (TCursor.c false s2) 0)::zs 162 [],[]⟩
noncomputable abbrev zcF (s0:THeap) (s1:TGen) (s2:TCursor):List Fr→Bool→Option Res→Prop:=(kR (PV D.bool))
noncomputable abbrev zcG (s0:THeap) (s1:TGen) (s2:TCursor) (k:List Fr):Option Res:=go T (enF [.tmp 6] []) zrv k ⟨.d (D.pim (THeap.c false s0) 0)::.d (D.pim (TGen.c false s1) 0)::.d (D.pim (TCursor.c false s2) 0)::zs 162 [],[]⟩
noncomputable abbrev zcH (s0:THeap) (s1:TGen) (s2:TCursor):List Fr→Bool→Option Res→Prop:=(kR (PV D.bool))
noncomputable abbrev zbL (s0:THeap) (s1:TGen) (s2:TCursor) (s7:Int) (k:List Fr):Option Res:=go T (enF [.tmp 6] []) zrt (.lp zru::.bl 1::.sq (.clr (rg 6 159))::k) ⟨.d (D.pim (THeap.c false s0) 0)::.d (D.pim (TGen.c false s1) 0)::.d (D.pim (TCursor.c false s2) 0)::zs 4 (sI s7::zs 157 []),[]⟩
noncomputable abbrev zbM (s0:THeap) (s1:TGen) (s2:TCursor) (s7:Int):List Fr→((Unit ⊕ Bool))→Option Res→Prop:=(kS (kN T (enF [.tmp 6] []) fun t=>⟨.d (D.pim (THeap.c false s0) 0)::.d (D.pim (TGen.c false s1) 0)::.d (D.pim (TCursor.c false s2) 0)::zs 162 [],[]⟩) (kR (PV D.bool)))
noncomputable abbrev zcI (s0:THeap) (s1:TGen) (s2:TCursor) (s34:Int) (s35:Bool) (k:List Fr):Option Res:=go T (enF [.tmp 6] []) zrs k ⟨.d (D.pim (THeap.c false s0) 0)::.d (D.pim (TGen.c false s1) 0)::.d (D.pim (TCursor.c false s2) 0)::zs 31 (sI s34::sB s35::zs 129 []),[]⟩
noncomputable abbrev zcJ (s0:THeap) (s1:TGen) (s2:TCursor) (s34:Int) (s35:Bool):List Fr→((Unit ⊕ Bool))→Option Res→Prop:=(kS (kN T (enF [.tmp 6] []) fun t=>⟨.d (D.pim (THeap.c false s0) 0)::.d (D.pim (TGen.c false s1) 0)::.d (D.pim (TCursor.c false s2) 0)::zs 31 (sI s34::zs 130 []),[]⟩) (kR (PV D.bool)))
theorem zaN (f0:THeap):(∀ (s1:TGen) (s2:TCursor) (s34:Int) (s38:Bool) r,zbc f0 s1 s2 s34 s38=some r→∀ k:List Fr,zcB f0 s1 s2 s34 s38 k r (zcA f0 s1 s2 s34 s38 k))∧(∀ (p1:TGen) (p2:TCursor) r,zaj f0 p1 p2=some r→(PV D.bool) r (zaa T 148 [D.pim (THeap.c false f0) 0,D.pim (TGen.c false p1) 0,D.pim (TCursor.c false p2) 0] []))∧(∀ (s1:TGen) (s2:TCursor) r,zas f0 s1 s2=some r→∀ k:List Fr,zcD f0 s1 s2 k r (zcC f0 s1 s2 k))∧(∀ (s1:TGen) (s2:TCursor) r,zbE f0 s1 s2=some r→∀ k:List Fr,zcF f0 s1 s2 k r (zcE f0 s1 s2 k))∧(∀ (s1:TGen) (s2:TCursor) r,zbF f0 s1 s2=some r→∀ k:List Fr,zcH f0 s1 s2 k r (zcG f0 s1 s2 k))∧(∀ (s1:TGen) (s2:TCursor) (s7:Int) r,zaC f0 s1 s2 s7=some r→∀ k:List Fr,zbM f0 s1 s2 s7 k r (zbL f0 s1 s2 s7 k))∧(∀ (s1:TGen) (s2:TCursor) (s34:Int) (s35:Bool) r,zbD f0 s1 s2 s34 s35=some r→∀ k:List Fr,zcJ f0 s1 s2 s34 s35 k r (zcI f0 s1 s2 s34 s35 k)):=by
 refine zbc.mutual_partial_correctness f0 (motive_1:=fun s1 s2 s34 s38 r=>∀ k:List Fr,zcB f0 s1 s2 s34 s38 k r (zcA f0 s1 s2 s34 s38 k)) (motive_2:=fun p1 p2 r=>(PV D.bool) r (zaa T 148 [D.pim (THeap.c false f0) 0,D.pim (TGen.c false p1) 0,D.pim (TCursor.c false p2) 0] [])) (motive_3:=fun s1 s2 r=>∀ k:List Fr,zcD f0 s1 s2 k r (zcC f0 s1 s2 k)) (motive_4:=fun s1 s2 r=>∀ k:List Fr,zcF f0 s1 s2 k r (zcE f0 s1 s2 k)) (motive_5:=fun s1 s2 r=>∀ k:List Fr,zcH f0 s1 s2 k r (zcG f0 s1 s2 k)) (motive_6:=fun s1 s2 s7 r=>∀ k:List Fr,zbM f0 s1 s2 s7 k r (zbL f0 s1 s2 s7 k)) (motive_7:=fun s1 s2 s34 s35 r=>∀ k:List Fr,zcJ f0 s1 s2 s34 s35 k r (zcI f0 s1 s2 s34 s35 k)) ?_ ?_ ?_ ?_ ?_ ?_ ?_
 ·intro zaj i_s_l22Suspended
  have g_s_l22Suspended:∀ (p1:TGen) (p2:TCursor),Lw (PV D.bool) (zaj p1 p2) (zaa T 148 [D.pim (THeap.c false f0) 0,D.pim (TGen.c false p1) 0,D.pim (TCursor.c false p2) 0] []):=fun p1 p2=>⟨fun r hr=>i_s_l22Suspended p1 p2 r hr⟩
  clear i_s_l22Suspended
  intro s1 s2 s34 s38
  refine Le.pc ?_
  intro k
  refine G0 zrr.eq_def ?_
  exact A
 ·intro zas i_s_l22Suspended_j5
  have p_s_l22Suspended_j5:∀ (s1:TGen) (s2:TCursor),Lp (zcD f0 s1 s2) (zas s1 s2) (zcC f0 s1 s2):=fun s1 s2=>⟨fun k r hr=>i_s_l22Suspended_j5 s1 s2 r hr k⟩
  clear i_s_l22Suspended_j5
  intro p1 p2
  refine (show Le (PV D.bool) _ (zaa T 148 [D.pim (THeap.c false f0) 0,D.pim (TGen.c false p1) 0,D.pim (TCursor.c false p2) 0] []) from E0 (h:=?_) rfl)
  exact A
 ·intro zbE zbD i_s_l22Suspended_j4 i_s_l22Suspended_j2
  have p_s_l22Suspended_j4:∀ (s1:TGen) (s2:TCursor),Lp (zcF f0 s1 s2) (zbE s1 s2) (zcE f0 s1 s2):=fun s1 s2=>⟨fun k r hr=>i_s_l22Suspended_j4 s1 s2 r hr k⟩
  have p_s_l22Suspended_j2:∀ (s1:TGen) (s2:TCursor) (s34:Int) (s35:Bool),Lp (zcJ f0 s1 s2 s34 s35) (zbD s1 s2 s34 s35) (zcI f0 s1 s2 s34 s35):=fun s1 s2 s34 s35=>⟨fun k r hr=>i_s_l22Suspended_j2 s1 s2 s34 s35 r hr k⟩
  clear i_s_l22Suspended_j4 i_s_l22Suspended_j2
  intro s1 s2
  refine Le.pc ?_
  intro k
  refine G0 zrx.eq_def ?_
  exact A
 ·intro zbF i_s_l22Suspended_j3
  have p_s_l22Suspended_j3:∀ (s1:TGen) (s2:TCursor),Lp (zcH f0 s1 s2) (zbF s1 s2) (zcG f0 s1 s2):=fun s1 s2=>⟨fun k r hr=>i_s_l22Suspended_j3 s1 s2 r hr k⟩
  clear i_s_l22Suspended_j3
  intro s1 s2
  refine Le.pc ?_
  intro k
  refine G0 zrw.eq_def ?_
  exact A
 ·intro zaC i_s_l22Suspended_l1
  have p_s_l22Suspended_l1:∀ (s1:TGen) (s2:TCursor) (s7:Int),Lp (zbM f0 s1 s2 s7) (zaC s1 s2 s7) (zbL f0 s1 s2 s7):=fun s1 s2 s7=>⟨fun k r hr=>i_s_l22Suspended_l1 s1 s2 s7 r hr k⟩
  clear i_s_l22Suspended_l1
  intro s1 s2
  refine Le.pc ?_
  intro k
  refine G0 zrv.eq_def ?_
  exact A
 ·intro zaj zaC i_s_l22Suspended i_s_l22Suspended_l1
  have g_s_l22Suspended:∀ (p1:TGen) (p2:TCursor),Lw (PV D.bool) (zaj p1 p2) (zaa T 148 [D.pim (THeap.c false f0) 0,D.pim (TGen.c false p1) 0,D.pim (TCursor.c false p2) 0] []):=fun p1 p2=>⟨fun r hr=>i_s_l22Suspended p1 p2 r hr⟩
  have p_s_l22Suspended_l1:∀ (s1:TGen) (s2:TCursor) (s7:Int),Lp (zbM f0 s1 s2 s7) (zaC s1 s2 s7) (zbL f0 s1 s2 s7):=fun s1 s2 s7=>⟨fun k r hr=>i_s_l22Suspended_l1 s1 s2 s7 r hr k⟩
  clear i_s_l22Suspended i_s_l22Suspended_l1
  intro s1 s2 s7
  refine Le.pc ?_
  intro k
  refine G0 zrt.eq_def ?_
  exact A
 ·intro zbc i_s_l22Suspended_j1
  have p_s_l22Suspended_j1:∀ (s1:TGen) (s2:TCursor) (s34:Int) (s38:Bool),Lp (zcB f0 s1 s2 s34 s38) (zbc s1 s2 s34 s38) (zcA f0 s1 s2 s34 s38):=fun s1 s2 s34 s38=>⟨fun k r hr=>i_s_l22Suspended_j1 s1 s2 s34 s38 r hr k⟩
  clear i_s_l22Suspended_j1
  intro s1 s2 s34 s35
  refine Le.pc ?_
  intro k
  refine G0 zrs.eq_def ?_
  exact A
instance p_s_l22Suspended_j1 (s0:THeap) (s1:TGen) (s2:TCursor) (s34:Int) (s38:Bool):Lp (zcB s0 s1 s2 s34 s38) (zbc s0 s1 s2 s34 s38) (zcA s0 s1 s2 s34 s38):=⟨fun k r hr=>(zaN s0).1 s1 s2 s34 s38 r hr k⟩
instance g_s_l22Suspended (p0:THeap) (p1:TGen) (p2:TCursor):Lw (PV D.bool) (zaj p0 p1 p2) (zaa T 148 [D.pim (THeap.c false p0) 0,D.pim (TGen.c false p1) 0,D.pim (TCursor.c false p2) 0] []):=⟨fun r hr=>(zaN p0).2.1 p1 p2 r hr⟩
instance p_s_l22Suspended_j5 (s0:THeap) (s1:TGen) (s2:TCursor):Lp (zcD s0 s1 s2) (zas s0 s1 s2) (zcC s0 s1 s2):=⟨fun k r hr=>(zaN s0).2.2.1 s1 s2 r hr k⟩
instance p_s_l22Suspended_j4 (s0:THeap) (s1:TGen) (s2:TCursor):Lp (zcF s0 s1 s2) (zbE s0 s1 s2) (zcE s0 s1 s2):=⟨fun k r hr=>(zaN s0).2.2.2.1 s1 s2 r hr k⟩
instance p_s_l22Suspended_j3 (s0:THeap) (s1:TGen) (s2:TCursor):Lp (zcH s0 s1 s2) (zbF s0 s1 s2) (zcG s0 s1 s2):=⟨fun k r hr=>(zaN s0).2.2.2.2.1 s1 s2 r hr k⟩
instance p_s_l22Suspended_l1 (s0:THeap) (s1:TGen) (s2:TCursor) (s7:Int):Lp (zbM s0 s1 s2 s7) (zaC s0 s1 s2 s7) (zbL s0 s1 s2 s7):=⟨fun k r hr=>(zaN s0).2.2.2.2.2.1 s1 s2 s7 r hr k⟩
instance p_s_l22Suspended_j2 (s0:THeap) (s1:TGen) (s2:TCursor) (s34:Int) (s35:Bool):Lp (zcJ s0 s1 s2 s34 s35) (zbD s0 s1 s2 s34 s35) (zcI s0 s1 s2 s34 s35):=⟨fun k r hr=>(zaN s0).2.2.2.2.2.2 s1 s2 s34 s35 r hr k⟩
instance p_s_l22Co_j1 (s0:THeap) (s1:TCoexpr):Lp (kR (PV D.bool)) (zhs s0 s1) fun k=>go T (enF [.tmp 4] []) zqN k ⟨.d (D.pim (THeap.c false s0) 0)::.d (D.pim (TCoexpr.c false s1) 0)::zs 73 [],[]⟩:=⟨fun k=>GG (zhs.eq_def ..) zqN.eq_def⟩
instance p_s_l22Co_j2 (s0:THeap) (s1:TCoexpr):Lp (kR (PV D.bool)) (ziA s0 s1) fun k=>go T (enF [.tmp 4] []) zqO k ⟨.d (D.pim (THeap.c false s0) 0)::.d (D.pim (TCoexpr.c false s1) 0)::zs 73 [],[]⟩:=⟨fun k=>GG (ziA.eq_def ..) zqO.eq_def⟩
instance p_s_l22Co_j3 (s0:THeap) (s1:TCoexpr):Lp (kR (PV D.bool)) (ziB s0 s1) fun k=>go T (enF [.tmp 4] []) zqP k ⟨.d (D.pim (THeap.c false s0) 0)::.d (D.pim (TCoexpr.c false s1) 0)::zs 73 [],[]⟩:=⟨fun k=>GG (ziB.eq_def ..) zqP.eq_def⟩
instance g_s_l22Co (p0:THeap) (p1:TCoexpr):Lw (PV D.bool) (ziC p0 p1) (zaa T 121 [D.pim (THeap.c false p0) 0,D.pim (TCoexpr.c false p1) 0] []):=⟨E (ziC.eq_def ..)⟩
instance p_s_l22Scope_l1 (s0:TGenScope):∀ (s3:Int),Lp (kS (kN T (enF [.tmp 2] []) fun t=>⟨.d (D.pim (TGenScope.c false s0) 0)::zs 79 [],[]⟩) (kR (PV D.bool))) (zdr s0 s3) fun k=>go T (enF [.tmp 2] []) zuL (.lp zuM::.bl 0::.sq (.clr (rg 2 78))::k) ⟨.d (D.pim (TGenScope.c false s0) 0)::Z::Z::sI s3::zs 76 [],[]⟩:=Lp1 (zdr.partial_correctness s0) (by exact fun _ _ _ _=>G zuL.eq_def)
instance p_s_l22Scope_j1 (s0:TGenScope):Lp (kR (PV D.bool)) (zgz s0) fun k=>go T (enF [.tmp 2] []) zuN k ⟨.d (D.pim (TGenScope.c false s0) 0)::zs 79 [],[]⟩:=⟨fun k=>GG (zgz.eq_def ..) zuN.eq_def⟩
instance g_s_l22Scope (p0:TGenScope):Lw (PV D.bool) (zht p0) (zaa T 53 [D.pim (TGenScope.c false p0) 0] []):=⟨E (zht.eq_def ..)⟩
instance p_s_l23At_l1 (s0:TGenScope) (s1:Int):∀ (s5:Int),Lp (kS (kN T (enF [.tmp 4] []) fun t=>⟨.d (D.pim (TGenScope.c false s0) 0)::sI s1::zs 24 [],[]⟩) (kR (PV dI))) (zhu s0 s1 s5) fun k=>go T (enF [.tmp 4] []) zuO (.lp zuP::.bl 0::.sq (.clr (rg 4 22))::k) ⟨.d (D.pim (TGenScope.c false s0) 0)::sI s1::Z::Z::Z::sI s5::zs 20 [],[]⟩:=Lp1 (zhu.partial_correctness s0 s1) (by exact fun _ _ _ _=>G zuO.eq_def)
instance g_s_l23At (p0:TGenScope) (p1:Int):Lw (PV dI) (zlt p0 p1) (zaa T 54 [D.pim (TGenScope.c false p0) 0,dI p1] []):=⟨E (zlt.eq_def ..)⟩
instance g_s_l22OwnVars (p0:List TBinding):Lw (PV (dL true 5 (TBinding.e false))) (zbW p0) (zaa T 123 [D.sl false 5 (List.map (TBinding.e false) p0)] []):=⟨E (zbW.eq_def ..)⟩
instance g_s_l07OwnValues (p0:List TValue):Lw (PV (dL true 4 (TValue.e false))) (zcS p0) (zaa T 199 [D.sl false 4 (List.map (TValue.e false) p0)] []):=⟨E (zcS.eq_def ..)⟩
instance g_s_l07OwnObject (p0:TObject):Lw (PV (TObject.e true)) (zdE p0) (zaa T 213 [TObject.e false p0] []):=⟨E (zdE.eq_def ..)⟩
instance p_s_l07Own_l1 (s0 s2:THeap):∀ (s3:THeap) (s4:Int),Lp (kN T (enF [.cell 2 (.many 2)] []) fun t=>⟨.d (D.pim (THeap.c false s0) 0)::Z::.box (THeap.c true s2)::.box (THeap.c true t)::zs 29 [],[]⟩) (zgA s0 s2 s3 s4) fun k=>go T (enF [.cell 2 (.many 2)] []) zry (.lp zrz::.bl 0::.sq (.clr (rg 4 28))::k) ⟨.d (D.pim (THeap.c false s0) 0)::Z::.box (THeap.c true s2)::.box (THeap.c true s3)::sI s4::zs 28 [],[]⟩:=Lp2 (zgA.partial_correctness s0 s2) (by
 intro rec _ s3 s4 k
 refine G0 zry.eq_def ?_
 try conv=>arg 3;simp (maxSteps:=999999) only [push_cast,↓reduceIte,seval, *]
 refine Le.itq (fun h=>?_) (fun h=>?_)
 ·try conv=>arg 3;simp (maxSteps:=999999) only [push_cast,↓reduceIte,seval, *]
  refine Le.idx fun a26 h_1 h_2 h_3=>?_
  try conv=>arg 3;simp (maxSteps:=999999) only [push_cast,↓reduceIte,seval, *]
  refine Le.dcall ((g_s_l07OwnObject a26).h) fun r28 h_4 _ hy=>?_
  first|subst hy|obtain ⟨_,rfl⟩:=hy
  try conv=>arg 3;simp (maxSteps:=999999) only [push_cast,↓reduceIte,seval, *]
  refine Le.app fun c30 h_5 h_6=>?_
  replace h_5:List.map (TObject.e true) s3.Objects++[D.agg [D.int .i64 r28.Id,D.int .i64 r28.Kind,D.str r28.Name,D.int .i64 r28.Low,D.sl true 4 (List.map (TValue.e false) r28.Keys),D.sl true 4 (List.map (TValue.e false) r28.Vals),D.int .i64 r28.Default.Kind,D.int .i64 r28.Default.Num,D.str r28.Default.Text,D.int .i64 r28.Default.Ref]]=List.map (TObject.e true) c30:=by rw [h_5,List.map_append] <;> first|rfl|simp only [eqs]
  replace h_6:s3.Objects.length + 1≤most:=h_6
  exact A
 ·exact A)
instance g_s_l07Own (p0:THeap):Lw (PV (THeap.e true)) (zjs p0) (zaa T 153 [D.pim (THeap.c false p0) 0] []):=⟨E (zjs.eq_def ..)⟩
noncomputable abbrev zcP (s0 s2 s3:TGen) (s4:Int) (k:List Fr):Option Res:=go T (enF [.cell 2 (.many 8)] []) zqQ (.lp zqR::.bl 0::.sq (.clr (rg 4 39))::k) ⟨.d (D.pim (TGen.c false s0) 0)::Z::.box (TGen.c true s2)::.box (TGen.c true s3)::sI s4::zs 39 [],[]⟩
noncomputable abbrev zcQ (s0 s2 s3:TGen) (s4:Int):List Fr→TGen→Option Res→Prop:=(kN T (enF [.cell 2 (.many 8)] []) fun t=>⟨.d (D.pim (TGen.c false s0) 0)::Z::.box (TGen.c true s2)::.box (TGen.c true t)::zs 40 [],[]⟩)
theorem zil:(∀ (s0 s2 s3:TGen) (s4:Int) r,zbi s0 s2 s3 s4=some r→∀ k:List Fr,zcQ s0 s2 s3 s4 k r (zcP s0 s2 s3 s4 k))∧(∀ (p0:TGen) r,zcu p0=some r→(PV fun (r:TGen)=>D.agg [dI r.Kind,dI r.Num,D.str r.Text,dI r.Value.Kind,dI r.Value.Num,D.str r.Value.Text,dI r.Value.Ref,D.sl true 8 (List.map (TGen.e true) r.Kids)]) r (zaa T 122 [D.pim (TGen.c false p0) 0] [])):=by
 refine zbi.mutual_partial_correctness (motive_1:=fun s0 s2 s3 s4 r=>∀ k:List Fr,zcQ s0 s2 s3 s4 k r (zcP s0 s2 s3 s4 k)) (motive_2:=fun p0 r=>(PV fun (r:TGen)=>D.agg [dI r.Kind,dI r.Num,D.str r.Text,dI r.Value.Kind,dI r.Value.Num,D.str r.Value.Text,dI r.Value.Ref,D.sl true 8 (List.map (TGen.e true) r.Kids)]) r (zaa T 122 [D.pim (TGen.c false p0) 0] [])) ?_ ?_
 ·intro zbi zcu i_s_l22OwnGen_l1 i_s_l22OwnGen
  have p_s_l22OwnGen_l1:∀ (s0 s2 s3:TGen) (s4:Int),Lp (zcQ s0 s2 s3 s4) (zbi s0 s2 s3 s4) (zcP s0 s2 s3 s4):=fun s0 s2 s3 s4=>⟨fun k r hr=>i_s_l22OwnGen_l1 s0 s2 s3 s4 r hr k⟩
  have g_s_l22OwnGen:∀ (p0:TGen),Lw (PV fun (r:TGen)=>D.agg [dI r.Kind,dI r.Num,D.str r.Text,dI r.Value.Kind,dI r.Value.Num,D.str r.Value.Text,dI r.Value.Ref,D.sl true 8 (List.map (TGen.e true) r.Kids)]) (zcu p0) (zaa T 122 [D.pim (TGen.c false p0) 0] []):=fun p0=>⟨fun r hr=>i_s_l22OwnGen p0 r hr⟩
  clear i_s_l22OwnGen_l1 i_s_l22OwnGen
  intro s0 s2 s3 s4
  refine Le.pc ?_
  intro k
  refine G0 zqQ.eq_def ?_
  try conv=>arg 3;simp (maxSteps:=999999) only [push_cast,↓reduceIte,seval, *]
  refine Le.itq (fun h=>?_) (fun h=>?_)
  ·try conv=>arg 3;simp (maxSteps:=999999) only [push_cast,↓reduceIte,seval, *]
   refine Le.idx fun a38 h_1 h_2 h_3=>?_
   try conv=>arg 3;simp (maxSteps:=999999) only [push_cast,↓reduceIte,seval, *]
   refine Le.dcall ((g_s_l22OwnGen a38).h) fun r39 h_4 _ hy=>?_
   first|subst hy|obtain ⟨_,rfl⟩:=hy
   try conv=>arg 3;simp (maxSteps:=999999) only [push_cast,↓reduceIte,seval, *]
   refine Le.app fun c41 h_5 h_6=>?_
   replace h_5:List.map (TGen.e true) s3.Kids++[D.agg [D.int .i64 r39.Kind,D.int .i64 r39.Num,D.str r39.Text,D.int .i64 r39.Value.Kind,D.int .i64 r39.Value.Num,D.str r39.Value.Text,D.int .i64 r39.Value.Ref,D.sl true 8 (List.map (TGen.e true) r39.Kids)]]=List.map (TGen.e true) c41:=by rw [h_5,List.map_append] <;> first|rfl|simp only [eqs]
   replace h_6:s3.Kids.length + 1≤most:=h_6
   exact A
  ·exact A
 ·intro zbi i_s_l22OwnGen_l1
  have p_s_l22OwnGen_l1:∀ (s0 s2 s3:TGen) (s4:Int),Lp (zcQ s0 s2 s3 s4) (zbi s0 s2 s3 s4) (zcP s0 s2 s3 s4):=fun s0 s2 s3 s4=>⟨fun k r hr=>i_s_l22OwnGen_l1 s0 s2 s3 s4 r hr k⟩
  clear i_s_l22OwnGen_l1
  intro p0
  refine (show Le (PV fun (r:TGen)=>D.agg [dI r.Kind,dI r.Num,D.str r.Text,dI r.Value.Kind,dI r.Value.Num,D.str r.Value.Text,dI r.Value.Ref,D.sl true 8 (List.map (TGen.e true) r.Kids)]) _ (zaa T 122 [D.pim (TGen.c false p0) 0] []) from E0 (h:=?_) rfl)
  exact A
instance p_s_l22OwnGen_l1 (s0 s2 s3:TGen) (s4:Int):Lp (zcQ s0 s2 s3 s4) (zbi s0 s2 s3 s4) (zcP s0 s2 s3 s4):=⟨fun k r hr=>(zil).1 s0 s2 s3 s4 r hr k⟩
instance g_s_l22OwnGen (p0:TGen):Lw (PV fun (r:TGen)=>D.agg [dI r.Kind,dI r.Num,D.str r.Text,dI r.Value.Kind,dI r.Value.Num,D.str r.Value.Text,dI r.Value.Ref,D.sl true 8 (List.map (TGen.e true) r.Kids)]) (zcu p0) (zaa T 122 [D.pim (TGen.c false p0) 0] []):=⟨fun r hr=>(zil).2 p0 r hr⟩
noncomputable abbrev zbN (s0 s2 s3:TCursor) (s4:Int) (k:List Fr):Option Res:=go T (enF [.cell 2 (.many 4)] []) zqS (.lp zqT::.bl 0::.sq (.clr (rg 4 36))::k) ⟨.d (D.pim (TCursor.c false s0) 0)::Z::.box (TCursor.c true s2)::.box (TCursor.c true s3)::sI s4::zs 36 [],[]⟩
noncomputable abbrev zbO (s0 s2 s3:TCursor) (s4:Int):List Fr→TCursor→Option Res→Prop:=(kN T (enF [.cell 2 (.many 4)] []) fun t=>⟨.d (D.pim (TCursor.c false s0) 0)::Z::.box (TCursor.c true s2)::.box (TCursor.c true t)::zs 37 [],[]⟩)
theorem zgM:(∀ (s0 s2 s3:TCursor) (s4:Int) r,zaI s0 s2 s3 s4=some r→∀ k:List Fr,zbO s0 s2 s3 s4 k r (zbN s0 s2 s3 s4 k))∧(∀ (p0:TCursor) r,zbB p0=some r→(PV fun (r:TCursor)=>D.agg [dI r.Phase,dI r.Count,D.sl true 4 (List.map (TValue.e false) r.Vals),D.sl true 4 (List.map (TCursor.e true) r.Kids)]) r (zaa T 124 [D.pim (TCursor.c false p0) 0] [])):=by
 refine zaI.mutual_partial_correctness (motive_1:=fun s0 s2 s3 s4 r=>∀ k:List Fr,zbO s0 s2 s3 s4 k r (zbN s0 s2 s3 s4 k)) (motive_2:=fun p0 r=>(PV fun (r:TCursor)=>D.agg [dI r.Phase,dI r.Count,D.sl true 4 (List.map (TValue.e false) r.Vals),D.sl true 4 (List.map (TCursor.e true) r.Kids)]) r (zaa T 124 [D.pim (TCursor.c false p0) 0] [])) ?_ ?_
 ·intro zaI zbB i_s_l22OwnCursor_l1 i_s_l22OwnCursor
  have p_s_l22OwnCursor_l1:∀ (s0 s2 s3:TCursor) (s4:Int),Lp (zbO s0 s2 s3 s4) (zaI s0 s2 s3 s4) (zbN s0 s2 s3 s4):=fun s0 s2 s3 s4=>⟨fun k r hr=>i_s_l22OwnCursor_l1 s0 s2 s3 s4 r hr k⟩
  have g_s_l22OwnCursor:∀ (p0:TCursor),Lw (PV fun (r:TCursor)=>D.agg [dI r.Phase,dI r.Count,D.sl true 4 (List.map (TValue.e false) r.Vals),D.sl true 4 (List.map (TCursor.e true) r.Kids)]) (zbB p0) (zaa T 124 [D.pim (TCursor.c false p0) 0] []):=fun p0=>⟨fun r hr=>i_s_l22OwnCursor p0 r hr⟩
  clear i_s_l22OwnCursor_l1 i_s_l22OwnCursor
  intro s0 s2 s3 s4
  refine Le.pc ?_
  intro k
  refine G0 zqS.eq_def ?_
  try conv=>arg 3;simp (maxSteps:=999999) only [push_cast,↓reduceIte,seval, *]
  refine Le.itq (fun h=>?_) (fun h=>?_)
  ·try conv=>arg 3;simp (maxSteps:=999999) only [push_cast,↓reduceIte,seval, *]
   refine Le.idx fun a35 h_1 h_2 h_3=>?_
   try conv=>arg 3;simp (maxSteps:=999999) only [push_cast,↓reduceIte,seval, *]
   refine Le.dcall ((g_s_l22OwnCursor a35).h) fun r36 h_4 _ hy=>?_
   first|subst hy|obtain ⟨_,rfl⟩:=hy
   try conv=>arg 3;simp (maxSteps:=999999) only [push_cast,↓reduceIte,seval, *]
   refine Le.app fun c38 h_5 h_6=>?_
   replace h_5:List.map (TCursor.e true) s3.Kids++[D.agg [D.int .i64 r36.Phase,D.int .i64 r36.Count,D.sl true 4 (List.map (TValue.e false) r36.Vals),D.sl true 4 (List.map (TCursor.e true) r36.Kids)]]=List.map (TCursor.e true) c38:=by rw [h_5,List.map_append] <;> first|rfl|simp only [eqs]
   replace h_6:s3.Kids.length + 1≤most:=h_6
   exact A
  ·exact A
 ·intro zaI i_s_l22OwnCursor_l1
  have p_s_l22OwnCursor_l1:∀ (s0 s2 s3:TCursor) (s4:Int),Lp (zbO s0 s2 s3 s4) (zaI s0 s2 s3 s4) (zbN s0 s2 s3 s4):=fun s0 s2 s3 s4=>⟨fun k r hr=>i_s_l22OwnCursor_l1 s0 s2 s3 s4 r hr k⟩
  clear i_s_l22OwnCursor_l1
  intro p0
  refine (show Le (PV fun (r:TCursor)=>D.agg [dI r.Phase,dI r.Count,D.sl true 4 (List.map (TValue.e false) r.Vals),D.sl true 4 (List.map (TCursor.e true) r.Kids)]) _ (zaa T 124 [D.pim (TCursor.c false p0) 0] []) from E0 (h:=?_) rfl)
  exact A
instance p_s_l22OwnCursor_l1 (s0 s2 s3:TCursor) (s4:Int):Lp (zbO s0 s2 s3 s4) (zaI s0 s2 s3 s4) (zbN s0 s2 s3 s4):=⟨fun k r hr=>(zgM).1 s0 s2 s3 s4 r hr k⟩
instance g_s_l22OwnCursor (p0:TCursor):Lw (PV fun (r:TCursor)=>D.agg [dI r.Phase,dI r.Count,D.sl true 4 (List.map (TValue.e false) r.Vals),D.sl true 4 (List.map (TCursor.e true) r.Kids)]) (zbB p0) (zaa T 124 [D.pim (TCursor.c false p0) 0] []):=⟨fun r hr=>(zgM).2 p0 r hr⟩
instance g_s_l22OwnCo (p0:TCoexpr):Lw (PV (TCoexpr.e true)) (zgi p0) (zaa T 55 [D.pim (TCoexpr.c false p0) 0] []):=⟨E (zgi.eq_def ..)⟩
instance p_s_l22Own_l1 (s0 s2:TGenScope):∀ (s3:TGenScope) (s4:Int),Lp (kN T (enF [.cell 2 (.many 5)] []) fun t=>⟨.d (D.pim (TGenScope.c false s0) 0)::Z::.box (TGenScope.c true s2)::.box (TGenScope.c true t)::zs 37 [],[]⟩) (zgB s0 s2 s3 s4) fun k=>go T (enF [.cell 2 (.many 5)] []) zvj (.lp zvk::.bl 0::.sq (.clr (rg 4 36))::k) ⟨.d (D.pim (TGenScope.c false s0) 0)::Z::.box (TGenScope.c true s2)::.box (TGenScope.c true s3)::sI s4::zs 36 [],[]⟩:=Lp2 (zgB.partial_correctness s0 s2) (by
 intro rec _ s3 s4 k
 refine G0 zvj.eq_def ?_
 try conv=>arg 3;simp (maxSteps:=999999) only [push_cast,↓reduceIte,seval, *]
 refine Le.itq (fun h=>?_) (fun h=>?_)
 ·try conv=>arg 3;simp (maxSteps:=999999) only [push_cast,↓reduceIte,seval, *]
  refine Le.idx fun a35 h_1 h_2 h_3=>?_
  try conv=>arg 3;simp (maxSteps:=999999) only [push_cast,↓reduceIte,seval, *]
  refine Le.dcall ((g_s_l22OwnCo a35).h) fun r36 h_4 _ hy=>?_
  first|subst hy|obtain ⟨_,rfl⟩:=hy
  try conv=>arg 3;simp (maxSteps:=999999) only [push_cast,↓reduceIte,seval, *]
  refine Le.app fun c38 h_5 h_6=>?_
  replace h_5:List.map (TCoexpr.e true) s3.Cos++[D.agg [D.int .i64 r36.Id,D.int .i64 r36.Body.Kind,D.int .i64 r36.Body.Num,D.str r36.Body.Text,D.int .i64 r36.Body.Value.Kind,D.int .i64 r36.Body.Value.Num,D.str r36.Body.Value.Text,D.int .i64 r36.Body.Value.Ref,D.sl true 8 (List.map (TGen.e true) r36.Body.Kids),D.sl true 5 (List.map (TBinding.e false) r36.Start),D.sl true 5 (List.map (TBinding.e false) r36.Vars),D.int .i64 r36.Cursor.Phase,D.int .i64 r36.Cursor.Count,D.sl true 4 (List.map (TValue.e false) r36.Cursor.Vals),D.sl true 4 (List.map (TCursor.e true) r36.Cursor.Kids),D.int .i64 r36.Count,D.bool r36.Done]]=List.map (TCoexpr.e true) c38:=by rw [h_5,List.map_append] <;> first|rfl|simp only [eqs]
  replace h_6:s3.Cos.length + 1≤most:=h_6
  exact A
 ·exact A)
instance g_s_l22Own (p0:TGenScope):Lw (PV (TGenScope.e true)) (zjt p0) (zaa T 83 [D.pim (TGenScope.c false p0) 0] []):=⟨E (zjt.eq_def ..)⟩
instance p_s_l23Add_j1 (s0:TGenScope) (s1:TGen) (s2:List TBinding) (s6:TGenScope) (s9:Int):Lp (kR (PV fun (r:TGenScope × Int × Int)=>D.tup [TGenScope.e true r.1,dI r.2.1,dI r.2.2])) (zhR s0 s1 s2 s6 s9) fun k=>go T (enF [.cell 6 (.many 5),.tmp 7,.tmp 8] []) zvb k ⟨.d (D.pim (TGenScope.c false s0) 0)::.d (D.pim (TGen.c false s1) 0)::sL false 5 (TBinding.e false) s2::Z::Z::Z::.box (TGenScope.c true s6)::Z::Z::sI s9::zs 47 [],[]⟩:=⟨fun k=>by
 refine G1 (zhR.eq_def ..) zvb.eq_def ?_
 try conv=>arg 3;simp (maxSteps:=999999) only [push_cast,↓reduceIte,seval, *]
 refine Le.call ((g_s_l22Own s0).h) fun r41 h _ hy=>?_
 first|subst hy|obtain ⟨_,rfl⟩:=hy
 try conv=>arg 3;simp (maxSteps:=999999) only [push_cast,↓reduceIte,seval, *]
 refine Le.dcall ((g_s_l22OwnGen s1).h) fun r46 h_1 _ hy=>?_
 first|subst hy|obtain ⟨_,rfl⟩:=hy
 try conv=>arg 3;simp (maxSteps:=999999) only [push_cast,↓reduceIte,seval, *]
 refine Le.dcall ((g_s_l22OwnVars s2).h) fun r48 h_2 _ hy=>?_
 first|subst hy|obtain ⟨_,rfl⟩:=hy
 try conv=>arg 3;simp (maxSteps:=999999) only [push_cast,↓reduceIte,seval, *]
 refine Le.dcall ((g_s_l22OwnVars s2).h) fun r50 h_3 _ hy=>?_
 first|subst hy|obtain ⟨_,rfl⟩:=hy
 try conv=>arg 3;simp (maxSteps:=999999) only [push_cast,↓reduceIte,seval, *]
 refine Le.app fun c53 h_4 h_5=>?_
 replace h_4:List.map (TCoexpr.e true) r41.Cos++[D.agg [D.int .i64 s9,D.int .i64 r46.Kind,D.int .i64 r46.Num,D.str r46.Text,D.int .i64 r46.Value.Kind,D.int .i64 r46.Value.Num,D.str r46.Value.Text,D.int .i64 r46.Value.Ref,D.sl true 8 (List.map (TGen.e true) r46.Kids),D.sl true 5 (List.map (TBinding.e false) r48),D.sl true 5 (List.map (TBinding.e false) r50),D.int .i64 0,D.int .i64 0,D.sl true 4 [],D.sl true 4 [],D.int .i64 0,D.bool false]]=List.map (TCoexpr.e true) c53:=by rw [h_4,List.map_append] <;> first|rfl|simp only [eqs]
 replace h_5:r41.Cos.length + 1≤most:=h_5
 exact A⟩
instance p_s_l23Add_j2 (s0:TGenScope) (s1:TGen) (s2:List TBinding) (s6:TGenScope) (s9:Int):Lp (kR (PV fun (r:TGenScope × Int × Int)=>D.tup [TGenScope.e true r.1,dI r.2.1,dI r.2.2])) (zfC s0 s1 s2 s6 s9) fun k=>go T (enF [.cell 6 (.many 5),.tmp 7,.tmp 8] []) zvc k ⟨.d (D.pim (TGenScope.c false s0) 0)::.d (D.pim (TGen.c false s1) 0)::sL false 5 (TBinding.e false) s2::Z::Z::Z::.box (TGenScope.c true s6)::Z::Z::sI s9::zs 47 [],[]⟩:=⟨fun k=>GG (zfC.eq_def ..) zvc.eq_def⟩
instance g_s_l23Add (p0:TGenScope) (p1:TGen) (p2:List TBinding):Lw (PV fun (r:TGenScope × Int × Int)=>D.tup [TGenScope.e true r.1,dI r.2.1,dI r.2.2]) (zju p0 p1 p2) (zaa T 74 [D.pim (TGenScope.c false p0) 0,D.pim (TGen.c false p1) 0,D.sl false 5 (List.map (TBinding.e false) p2)] []):=⟨E (zju.eq_def ..)⟩
instance g_s_RefreshCo (p0:TGenScope) (p1:Int):Lw (PV fun (r:TGenScope × Int × Int)=>D.tup [TGenScope.e true r.1,dI r.2.1,dI r.2.2]) (zhS p0 p1) (zaa T 35 [TGenScope.e false p0,dI p1] []):=⟨E (zhS.eq_def ..)⟩
end Go.Vx.RfZ
