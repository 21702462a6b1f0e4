/-
  What the plain functions give, the program gives too.
-/
import Derived.Test.YtnaaflejkfaiaaaGreatAu
set_option linter.unusedVariables false
set_option linter.unusedSimpArgs false
namespace Go.Vx.CrZ
set_option linter.unusedVariables false
set_option linter.unusedSimpArgs false
set_option maxRecDepth 10000
set_option maxHeartbeats 2000000
attribute [local irreducible] go bk exi got
instance g_s_l00In (p0 p1 p2:Int):Lw (PV D.bool) (zch p0 p1 p2) (zaa T 120 [dI p0,dI p1,dI p2] []):=⟨E (zch.eq_def ..)⟩
instance g_s_l06Plain (p0:TValue) (p1 p2 p3:Bool):Lw (PV D.bool) (zdX p0 p1 p2 p3) (zaa T 215 [TValue.e false p0,D.bool p1,D.bool p2,D.bool p3] []):=⟨E (zdX.eq_def ..)⟩
instance g_s_l02Letter (p0:Int):Lw (PV D.bool) (zfw p0) (zaa T 247 [D.int .u8 p0] []):=⟨E (zfw.eq_def ..)⟩
instance g_s_l02Digit (p0:Int):Lw (PV D.bool) (zhs p0) (zaa T 248 [D.int .u8 p0] []):=⟨E (zhs.eq_def ..)⟩
instance p_s_l02NameEnd_l1 (s0:ByteArray):∀ (s1:Int),Lp (kN T (enF [.tmp 4] []) fun t=>⟨sT s0::sI t::zs 40 [],[]⟩) (zbm s0 s1) fun k=>go T (enF [.tmp 4] []) zrS (.lp zrT::.bl 0::.sq (.clr (rg 4 37))::k) ⟨sT s0::sI s1::zs 40 [],[]⟩:=Lp1 (zbm.partial_correctness s0) (by exact fun _ _ _ _=>G zrS.eq_def)
instance p_s_l02NameEnd_j1 (s0:ByteArray) (s1:Int):Lp (kR (PV dI)) (zfx s0 s1) fun k=>go T (enF [.tmp 4] []) zrU k ⟨sT s0::sI s1::zs 40 [],[]⟩:=⟨fun k=>GG (zfx.eq_def ..) zrU.eq_def⟩
instance g_s_l02NameEnd (p0:ByteArray) (p1:Int):Lw (PV dI) (zha p0 p1) (zaa T 214 [D.str p0,dI p1] []):=⟨E (zha.eq_def ..)⟩
instance g_s_IsName (p0:ByteArray):Lw (PV D.bool) (zfJ p0) (zaa T 154 [D.str p0] []):=⟨E (zfJ.eq_def ..)⟩
instance p_s_ValidValue_j1 (s1:TValue) (s45:Bool):Lp (kS (kN T (enF [.tmp 2] []) fun t=>⟨Z::.box (TValue.c false s1)::zs 43 (sB t::zs 9 []),[]⟩) (kR (PV D.bool))) (zei s1 s45) fun k=>go T (enF [.tmp 2] []) zrr k ⟨Z::.box (TValue.c false s1)::zs 43 (sB s45::zs 9 []),[]⟩:=⟨fun k=>GG (zei.eq_def ..) zrr.eq_def⟩
instance p_s_ValidValue_j2 (s1:TValue) (s4:Int) (s34:Bool):Lp (kS (kN T (enF [.tmp 2] []) fun t=>⟨Z::.box (TValue.c false s1)::zs 53 [],[]⟩) (kR (PV D.bool))) (zde s1 s4 s34) fun k=>go T (enF [.tmp 2] []) zrs k ⟨Z::.box (TValue.c false s1)::Z::Z::sI s4::zs 29 (sB s34::zs 20 []),[]⟩:=⟨fun k=>GG (zde.eq_def ..) zrs.eq_def⟩
instance g_s_ValidValue (p0:TValue):Lw (PV D.bool) (zbT p0) (zaa T 155 [TValue.e false p0] []):=⟨E (zbT.eq_def ..)⟩
instance p_s_l07ValidValues_l1 (s0:List TValue) (s1:Int):∀ (s5:Int),Lp (kS (kN T (enF [.tmp 4] []) fun t=>⟨sL false 4 (TValue.e false) s0::sI s1::zs 20 [],[]⟩) (kR (PV D.bool))) (zcs s0 s1 s5) fun k=>go T (enF [.tmp 4] []) zsc (.lp zsd::.bl 0::.sq (.clr (rg 4 18))::k) ⟨sL false 4 (TValue.e false) s0::sI s1::Z::Z::Z::sI s5::zs 16 [],[]⟩:=Lp1 (zcs.partial_correctness s0 s1) (by exact fun _ _ _ _=>G zsc.eq_def)
instance g_s_l07ValidValues (p0:List TValue) (p1:Int):Lw (PV D.bool) (zbO p0 p1) (zaa T 234 [D.sl false 4 (List.map (TValue.e false) p0),dI p1] []):=⟨E (zbO.eq_def ..)⟩
instance g_s_SameValue (p0 p1:TValue):Lw (PV D.bool) (zgv p0 p1) (zaa T 261 [TValue.e false p0,TValue.e false p1] []):=⟨E (zgv.eq_def ..)⟩
instance p_s_l07Distinct_l1 (s0:List TValue) (s3:Int):∀ (s4:Int),Lp (kS (kN T (enF [.tmp 2] []) fun t=>⟨sL false 4 (TValue.e false) s0::Z::Z::sI s3::zs 21 [],[]⟩) (kR (PV D.bool))) (zcK s0 s3 s4) fun k=>go T (enF [.tmp 2] []) zse (.lp zsf::.bl 2::.sq (.clr [2,4,5,6,7,8,9,10,11,12,13,14,15,16,17,18,19,20,21,22,23,24])::k) ⟨sL false 4 (TValue.e false) s0::Z::Z::sI s3::sI s4::zs 20 [],[]⟩:=Lp1 (zcK.partial_correctness s0 s3) (by exact fun _ _ _ _=>G zse.eq_def)
instance p_s_l07Distinct_l2 (s0:List TValue):∀ (s3:Int),Lp (kS (kN T (enF [.tmp 2] []) fun t=>⟨sL false 4 (TValue.e false) s0::zs 24 [],[]⟩) (kR (PV D.bool))) (zdL s0 s3) fun k=>go T (enF [.tmp 2] []) zsg (.lp zsh::.bl 0::.sq (.clr (rg 2 23))::k) ⟨sL false 4 (TValue.e false) s0::Z::Z::sI s3::zs 21 [],[]⟩:=Lp1 (zdL.partial_correctness s0) (by exact fun _ _ _ _=>G zsg.eq_def)
instance g_s_l07Distinct (p0:List TValue):Lw (PV D.bool) (zej p0) (zaa T 235 [D.sl false 4 (List.map (TValue.e false) p0)] []):=⟨E (zej.eq_def ..)⟩
instance p_s_l07FieldNames_l1 (s0:List TValue):∀ (s3:Int),Lp (kS (kN T (enF [.tmp 2] []) fun t=>⟨sL false 4 (TValue.e false) s0::zs 35 [],[]⟩) (kR (PV D.bool))) (zcW s0 s3) fun k=>go T (enF [.tmp 2] []) zsi (.lp zsj::.bl 0::.sq (.clr (rg 2 23))::k) ⟨sL false 4 (TValue.e false) s0::Z::Z::sI s3::zs 32 [],[]⟩:=Lp1 (zcW.partial_correctness s0) (by exact fun _ _ _ _=>G zsi.eq_def)
instance g_s_l07FieldNames (p0:List TValue):Lw (PV D.bool) (zek p0) (zaa T 236 [D.sl false 4 (List.map (TValue.e false) p0)] []):=⟨E (zek.eq_def ..)⟩
instance p_s_l07Object_j1 (s1:TObject):Lp (kR (PV D.bool)) (zeK s1) fun k=>go T (enF [.tmp 2] []) zrC k ⟨Z::.box (TObject.c false s1)::zs 99 [],[]⟩:=⟨fun k=>GG (zeK.eq_def ..) zrC.eq_def⟩
instance g_s_l07Object (p0:TObject):Lw (PV D.bool) (zgw p0) (zaa T 196 [TObject.e false p0] []):=⟨E (zgw.eq_def ..)⟩
instance g_s_l07IsRef (p0:TValue):Lw (PV D.bool) (zeG p0) (zaa T 237 [TValue.e false p0] []):=⟨E (zeG.eq_def ..)⟩
instance p_s_l07Find_l1 (s0:THeap) (s1:Int):∀ (s5:Int),Lp (kS (kN T (enF [.tmp 4] []) fun t=>⟨.d (D.pim (THeap.c false s0) 0)::sI s1::zs 24 [],[]⟩) (kR (PV dI))) (zeS s0 s1 s5) fun k=>go T (enF [.tmp 4] []) zsk (.lp zsl::.bl 0::.sq (.clr (rg 4 22))::k) ⟨.d (D.pim (THeap.c false s0) 0)::sI s1::Z::Z::Z::sI s5::zs 20 [],[]⟩:=Lp1 (zeS.partial_correctness s0 s1) (by exact fun _ _ _ _=>G zsk.eq_def)
instance g_s_l07Find (p0:THeap) (p1:Int):Lw (PV dI) (zic p0 p1) (zaa T 238 [D.pim (THeap.c false p0) 0,dI p1] []):=⟨E (zic.eq_def ..)⟩
instance g_s_l07ObjectKind (p0:Int):Lw (PV dI) (zfy p0) (zaa T 239 [dI p0] []):=⟨E (zfy.eq_def ..)⟩
instance g_s_l07Fits (p0:THeap) (p1:TValue):Lw (PV D.bool) (zel p0 p1) (zaa T 198 [D.pim (THeap.c false p0) 0,TValue.e false p1] []):=⟨E (zel.eq_def ..)⟩
instance p_s_l07FitAll_l1 (s0:THeap) (s1:List TValue):∀ (s5:Int),Lp (kS (kN T (enF [.tmp 4] []) fun t=>⟨.d (D.pim (THeap.c false s0) 0)::sL false 4 (TValue.e false) s1::zs 17 [],[]⟩) (kR (PV D.bool))) (zeL s0 s1 s5) fun k=>go T (enF [.tmp 4] []) zrH (.lp zrI::.bl 0::.sq (.clr (rg 4 15))::k) ⟨.d (D.pim (THeap.c false s0) 0)::sL false 4 (TValue.e false) s1::Z::Z::Z::sI s5::zs 13 [],[]⟩:=Lp1 (zeL.partial_correctness s0 s1) (by exact fun _ _ _ _=>G zrH.eq_def)
instance g_s_l07FitAll (p0:THeap) (p1:List TValue):Lw (PV D.bool) (zeH p0 p1) (zaa T 207 [D.pim (THeap.c false p0) 0,D.sl false 4 (List.map (TValue.e false) p1)] []):=⟨E (zeH.eq_def ..)⟩
instance g_s_l07Refs (p0:THeap) (p1:TObject):Lw (PV D.bool) (zid p0 p1) (zaa T 197 [D.pim (THeap.c false p0) 0,D.pim (TObject.c false p1) 0] []):=⟨E (zid.eq_def ..)⟩
instance p_s_l07Ok_l1 (s0:THeap):∀ (s3:Int),Lp (kS (kN T (enF [.tmp 2] []) fun t=>⟨.d (D.pim (THeap.c false s0) 0)::zs 83 [],[]⟩) (kR (PV D.bool))) (zfr s0 s3) fun k=>go T (enF [.tmp 2] []) zqz (.lp zqA::.bl 0::.sq (.clr [2,3,4,6,7,8,9,10,11,12,13,14,15,16,17,18,19,20,21,22,23,24,25,26,27,28,29,30,31,32,33,34,35,36,37,38,39,40,41,42,43,44,45,46,47,48,49,50,51,52,53,54,55,56,57,58,59,60,61,62,63,64,65])::k) ⟨.d (D.pim (THeap.c false s0) 0)::Z::Z::sI s3::zs 80 [],[]⟩:=Lp1 (zfr.partial_correctness s0) (by exact fun _ _ _ _=>G zqz.eq_def)
instance p_s_l07Ok_l2 (s0:THeap):∀ (s5:Int),Lp (kS (kN T (enF [.tmp 2] []) fun t=>⟨.d (D.pim (THeap.c false s0) 0)::zs 83 [],[]⟩) (kR (PV D.bool))) (zgd s0 s5) fun k=>go T (enF [.tmp 2] []) zqB (.lp zqC::.bl 2::.sq (.clr (rg 2 82))::k) ⟨.d (D.pim (THeap.c false s0) 0)::zs 4 (sI s5::zs 78 []),[]⟩:=Lp1 (zgd.partial_correctness s0) (by exact fun _ _ _ _=>G zqB.eq_def)
instance p_s_l07Ok_j1 (s0:THeap):Lp (kR (PV D.bool)) (ziv s0) fun k=>go T (enF [.tmp 2] []) zqD k ⟨.d (D.pim (THeap.c false s0) 0)::zs 83 [],[]⟩:=⟨fun k=>GG (ziv.eq_def ..) zqD.eq_def⟩
instance g_s_l07Ok (p0:THeap):Lw (PV D.bool) (zlo p0) (zaa T 118 [D.pim (THeap.c false p0) 0] []):=⟨E (zlo.eq_def ..)⟩
instance g_s_IsNull (p0:TValue):Lw (PV D.bool) (zjo p0) (zaa T 156 [TValue.e false p0] []):=⟨E (zjo.eq_def ..)⟩
instance p_s_l22Vars_l1 (s0:THeap) (s1:List TBinding):∀ (s5:Int),Lp (kS (kN T (enF [.tmp 4] []) fun t=>⟨.d (D.pim (THeap.c false s0) 0)::sL false 5 (TBinding.e false) s1::zs 56 [],[]⟩) (kR (PV D.bool))) (zeT s0 s1 s5) fun k=>go T (enF [.tmp 4] []) zqE (.lp zqF::.bl 0::.sq (.clr (rg 4 54))::k) ⟨.d (D.pim (THeap.c false s0) 0)::sL false 5 (TBinding.e false) s1::Z::Z::Z::sI s5::zs 52 [],[]⟩:=Lp1 (zeT.partial_correctness s0 s1) (by exact fun _ _ _ _=>G zqE.eq_def)
instance g_s_l22Vars (p0:THeap) (p1:List TBinding):Lw (PV D.bool) (zge p0 p1) (zaa T 119 [D.pim (THeap.c false p0) 0,D.sl false 5 (List.map (TBinding.e false) p1)] []):=⟨E (zge.eq_def ..)⟩
instance p_s_l22Kids_j1 (s0 s3:Int) (s12:Bool):Lp (kS (kN T (enF [.tmp 2] []) fun t=>⟨sI s0::Z::Z::sI s3::zs 8 (sB t.1::zs 5 ([sB t.2.1,sB t.2.2.1,sB t.2.2.2.1,sB t.2.2.2.2])),[]⟩) (kR (PV dI))) (zdY s0 s3 s12) fun k=>go T (enF [.tmp 2] []) zss k ⟨sI s0::Z::Z::sI s3::zs 8 (sB s12::zs 9 []),[]⟩:=⟨fun k=>GG (zdY.eq_def ..) zss.eq_def⟩
instance p_s_l22Kids_j2 (s0 s3:Int) (s4:Bool):Lp (kS (kN T (enF [.tmp 2] []) fun t=>⟨sI s0::Z::Z::sI s3::zs 8 (sB t.1::zs 5 ([sB t.2.1,sB t.2.2.1,sB t.2.2.2.1,sB t.2.2.2.2])),[]⟩) (kR (PV dI))) (zcp s0 s3 s4) fun k=>go T (enF [.tmp 2] []) zst k ⟨sI s0::Z::Z::sI s3::sB s4::zs 17 [],[]⟩:=⟨fun k=>GG (zcp.eq_def ..) zst.eq_def⟩
instance g_s_l22Kids (p0:Int):Lw (PV dI) (zfz p0) (zaa T 243 [dI p0] []):=⟨E (zfz.eq_def ..)⟩
instance g_s_l22Operators:Lw (PV (dL true 1 D.str)) (zeM) (zaa T 263 [] []):=⟨E (zeM.eq_def ..)⟩
instance p_s_l22Among_l1 (s0:List ByteArray) (s1:ByteArray):∀ (s5:Int),Lp (kS (kN T (enF [.tmp 4] []) fun t=>⟨sL false 1 D.str s0::sT s1::zs 17 [],[]⟩) (kR (PV dI))) (zem s0 s1 s5) fun k=>go T (enF [.tmp 4] []) zsB (.lp zsC::.bl 0::.sq (.clr (rg 4 15))::k) ⟨sL false 1 D.str s0::sT s1::Z::Z::Z::sI s5::zs 13 [],[]⟩:=Lp1 (zem.partial_correctness s0 s1) (by exact fun _ _ _ _=>G zsB.eq_def)
instance g_s_l22Among (p0:List ByteArray) (p1:ByteArray):Lw (PV dI) (zeI p0 p1) (zaa T 262 [D.sl false 1 (List.map D.str p0),D.str p1] []):=⟨E (zeI.eq_def ..)⟩
instance p_s_l22Shape_j1 (s0:TGen) (s53:Int) (s88:Bool):Lp (kS (kN T (enF [.tmp 2] []) fun t=>⟨.d (D.pim (TGen.c false s0) 0)::zs 52 (sI s53::zs 34 (sB t::zs 36 [])),[]⟩) (kR (PV D.bool))) (zen s0 s53 s88) fun k=>go T (enF [.tmp 2] []) zso k ⟨.d (D.pim (TGen.c false s0) 0)::zs 52 (sI s53::zs 34 (sB s88::zs 36 [])),[]⟩:=⟨fun k=>GG (zen.eq_def ..) zso.eq_def⟩
instance p_s_l22Shape_j2 (s0:TGen):Lp (kR (PV D.bool)) (zeo s0) fun k=>go T (enF [.tmp 2] []) zsp k ⟨.d (D.pim (TGen.c false s0) 0)::zs 124 [],[]⟩:=⟨fun k=>GG (zeo.eq_def ..) zsp.eq_def⟩
instance p_s_l22Shape_j3 (s0:TGen):Lp (kR (PV D.bool)) (zdo s0) fun k=>go T (enF [.tmp 2] []) zsq k ⟨.d (D.pim (TGen.c false s0) 0)::zs 124 [],[]⟩:=⟨fun k=>GG (zdo.eq_def ..) zsq.eq_def⟩
instance p_s_l22Shape_j4 (s0:TGen):Lp (kR (PV D.bool)) (zgx s0) fun k=>go T (enF [.tmp 2] []) zsr k ⟨.d (D.pim (TGen.c false s0) 0)::zs 124 [],[]⟩:=⟨fun k=>GG (zgx.eq_def ..) zsr.eq_def⟩
instance g_s_l22Shape (p0:TGen):Lw (PV D.bool) (zgf p0) (zaa T 242 [D.pim (TGen.c false p0) 0] []):=⟨E (zgf.eq_def ..)⟩
noncomputable abbrev zeN (s0:TGen) (s3 s4:Int) (k:List Fr):Option Res:=go T (enF [.tmp 2] []) zrE k ⟨.d (D.pim (TGen.c false s0) 0)::Z::Z::sI s3::sI s4::zs 26 [],[]⟩
noncomputable abbrev zeO (s0:TGen) (s3 s4:Int):List Fr→((Int × Int × Int × (List TGen) × TGen × Int × Int))→Option Res→Prop:=(kN T (enF [.tmp 2] []) fun t=>⟨.d (D.pim (TGen.c false s0) 0)::Z::Z::sI t.1::sI t.2.1::zs 14 ([sI s4,sI t.2.2.1,sI s3,.d (D.pim (TGen.c false s0) 0),.d (D.pim (TGen.c false s0) 0),.d (D.pim (TGen.c false s0) 7),sL false 8 (TGen.e false) t.2.2.2.1,sI s4,.d (D.pim (TGen.c false t.2.2.2.2.1) 0),sI t.2.2.2.2.2.1,sI t.2.2.2.2.2.2,Z]),[]⟩)
noncomputable abbrev zdF (s0:TGen) (s3 s4:Int) (k:List Fr):Option Res:=go T (enF [.tmp 2] []) zrF (.lp zrG::.bl 0::.sq (.clr [2,4,5,6,7,8,9,10,11,12,13,14,15,16,17,18,19,20,21,22,23,24,25,26,27,28,29])::k) ⟨.d (D.pim (TGen.c false s0) 0)::Z::Z::sI s3::sI s4::zs 26 [],[]⟩
noncomputable abbrev zdG (s0:TGen) (s3 s4:Int):List Fr→Int→Option Res→Prop:=(kN T (enF [.tmp 2] []) fun t=>⟨.d (D.pim (TGen.c false s0) 0)::Z::Z::sI t::zs 27 [],[]⟩)
theorem zfU:(∀ (s0:TGen) (s3 s4:Int) r,zeU s0 s3 s4=some r→∀ k:List Fr,zeO s0 s3 s4 k r (zeN s0 s3 s4 k))∧(∀ (p0:TGen) r,zeV p0=some r→(PV dI) r (zaa T 204 [D.pim (TGen.c false p0) 0] []))∧(∀ (s0:TGen) (s3 s4:Int) r,zbz s0 s3 s4=some r→∀ k:List Fr,zdG s0 s3 s4 k r (zdF s0 s3 s4 k)):=by
 refine zeU.mutual_partial_correctness (motive_1:=fun s0 s3 s4 r=>∀ k:List Fr,zeO s0 s3 s4 k r (zeN s0 s3 s4 k)) (motive_2:=fun p0 r=>(PV dI) r (zaa T 204 [D.pim (TGen.c false p0) 0] [])) (motive_3:=fun s0 s3 s4 r=>∀ k:List Fr,zdG s0 s3 s4 k r (zdF s0 s3 s4 k)) ?_ ?_ ?_
 ·intro zeV i_s_l22Size
  have g_s_l22Size:∀ (p0:TGen),Lw (PV dI) (zeV p0) (zaa T 204 [D.pim (TGen.c false p0) 0] []):=fun p0=>⟨fun r hr=>i_s_l22Size p0 r hr⟩
  clear i_s_l22Size
  intro s0 s3 s4
  refine Le.pc ?_
  intro k
  refine G0 zrE.eq_def ?_
  exact A
 ·intro zbz i_s_l22Size_l1
  have p_s_l22Size_l1:∀ (s0:TGen) (s3 s4:Int),Lp (zdG s0 s3 s4) (zbz s0 s3 s4) (zdF s0 s3 s4):=fun s0 s3 s4=>⟨fun k r hr=>i_s_l22Size_l1 s0 s3 s4 r hr k⟩
  clear i_s_l22Size_l1
  intro p0
  refine (show Le (PV dI) _ (zaa T 204 [D.pim (TGen.c false p0) 0] []) from E0 (h:=?_) rfl)
  exact A
 ·intro zeU zbz i_s_l22Size_j1 i_s_l22Size_l1
  have p_s_l22Size_j1:∀ (s0:TGen) (s3 s4:Int),Lp (zeO s0 s3 s4) (zeU s0 s3 s4) (zeN s0 s3 s4):=fun s0 s3 s4=>⟨fun k r hr=>i_s_l22Size_j1 s0 s3 s4 r hr k⟩
  have p_s_l22Size_l1:∀ (s0:TGen) (s3 s4:Int),Lp (zdG s0 s3 s4) (zbz s0 s3 s4) (zdF s0 s3 s4):=fun s0 s3 s4=>⟨fun k r hr=>i_s_l22Size_l1 s0 s3 s4 r hr k⟩
  clear i_s_l22Size_j1 i_s_l22Size_l1
  intro s0 s3 s4
  refine Le.pc ?_
  intro k
  refine G0 zrF.eq_def ?_
  exact A
instance p_s_l22Size_j1 (s0:TGen) (s3 s4:Int):Lp (zeO s0 s3 s4) (zeU s0 s3 s4) (zeN s0 s3 s4):=⟨fun k r hr=>(zfU).1 s0 s3 s4 r hr k⟩
instance g_s_l22Size (p0:TGen):Lw (PV dI) (zeV p0) (zaa T 204 [D.pim (TGen.c false p0) 0] []):=⟨fun r hr=>(zfU).2.1 p0 r hr⟩
instance p_s_l22Size_l1 (s0:TGen) (s3 s4:Int):Lp (zdG s0 s3 s4) (zbz s0 s3 s4) (zdF s0 s3 s4):=⟨fun k r hr=>(zfU).2.2 s0 s3 s4 r hr k⟩
instance g_s_l22Ok (p0:TGen):Lw (PV D.bool) (zjR p0) (zaa T 145 [D.pim (TGen.c false p0) 0] []):=⟨E (zjR.eq_def ..)⟩
noncomputable abbrev zdH (s0:THeap) (s1:TGen) (s5:Int) (k:List Fr):Option Res:=go T (enF [.tmp 4] []) zrf (.lp zrg::.bl 0::.sq (.clr (rg 4 34))::k) ⟨.d (D.pim (THeap.c false s0) 0)::.d (D.pim (TGen.c false s1) 0)::Z::Z::Z::sI s5::zs 32 [],[]⟩
noncomputable abbrev zdI (s0:THeap) (s1:TGen) (s5:Int):List Fr→((Unit ⊕ Bool))→Option Res→Prop:=(kS (kN T (enF [.tmp 4] []) fun t=>⟨.d (D.pim (THeap.c false s0) 0)::.d (D.pim (TGen.c false s1) 0)::zs 36 [],[]⟩) (kR (PV D.bool)))
noncomputable abbrev zeP (s0:THeap) (s1:TGen) (k:List Fr):Option Res:=go T (enF [.tmp 4] []) zrh k ⟨.d (D.pim (THeap.c false s0) 0)::.d (D.pim (TGen.c false s1) 0)::zs 36 [],[]⟩
noncomputable abbrev zeQ (s0:THeap) (s1:TGen):List Fr→Bool→Option Res→Prop:=(kR (PV D.bool))
theorem zfV (f0:THeap):(∀ (s1:TGen) (s5:Int) r,zbU f0 s1 s5=some r→∀ k:List Fr,zdI f0 s1 s5 k r (zdH f0 s1 s5 k))∧(∀ (p1:TGen) r,zep f0 p1=some r→(PV D.bool) r (zaa T 146 [D.pim (THeap.c false f0) 0,D.pim (TGen.c false p1) 0] []))∧(∀ (s1:TGen) r,zdZ f0 s1=some r→∀ k:List Fr,zeQ f0 s1 k r (zeP f0 s1 k)):=by
 refine zbU.mutual_partial_correctness f0 (motive_1:=fun s1 s5 r=>∀ k:List Fr,zdI f0 s1 s5 k r (zdH f0 s1 s5 k)) (motive_2:=fun p1 r=>(PV D.bool) r (zaa T 146 [D.pim (THeap.c false f0) 0,D.pim (TGen.c false p1) 0] [])) (motive_3:=fun s1 r=>∀ k:List Fr,zeQ f0 s1 k r (zeP f0 s1 k)) ?_ ?_ ?_
 ·intro zbU zep i_s_l22Refs_l1 i_s_l22Refs
  have p_s_l22Refs_l1:∀ (s1:TGen) (s5:Int),Lp (zdI f0 s1 s5) (zbU s1 s5) (zdH f0 s1 s5):=fun s1 s5=>⟨fun k r hr=>i_s_l22Refs_l1 s1 s5 r hr k⟩
  have g_s_l22Refs:∀ (p1:TGen),Lw (PV D.bool) (zep p1) (zaa T 146 [D.pim (THeap.c false f0) 0,D.pim (TGen.c false p1) 0] []):=fun p1=>⟨fun r hr=>i_s_l22Refs p1 r hr⟩
  clear i_s_l22Refs_l1 i_s_l22Refs
  intro s1 s5
  refine Le.pc ?_
  intro k
  refine G0 zrf.eq_def ?_
  exact A
 ·intro zdZ i_s_l22Refs_j1
  have p_s_l22Refs_j1:∀ (s1:TGen),Lp (zeQ f0 s1) (zdZ s1) (zeP f0 s1):=fun s1=>⟨fun k r hr=>i_s_l22Refs_j1 s1 r hr k⟩
  clear i_s_l22Refs_j1
  intro p1
  refine (show Le (PV D.bool) _ (zaa T 146 [D.pim (THeap.c false f0) 0,D.pim (TGen.c false p1) 0] []) from E0 (h:=?_) rfl)
  exact A
 ·intro zbU i_s_l22Refs_l1
  have p_s_l22Refs_l1:∀ (s1:TGen) (s5:Int),Lp (zdI f0 s1 s5) (zbU s1 s5) (zdH f0 s1 s5):=fun s1 s5=>⟨fun k r hr=>i_s_l22Refs_l1 s1 s5 r hr k⟩
  clear i_s_l22Refs_l1
  intro s1
  refine Le.pc ?_
  intro k
  refine G0 zrh.eq_def ?_
  exact A
instance p_s_l22Refs_l1 (s0:THeap) (s1:TGen) (s5:Int):Lp (zdI s0 s1 s5) (zbU s0 s1 s5) (zdH s0 s1 s5):=⟨fun k r hr=>(zfV s0).1 s1 s5 r hr k⟩
instance g_s_l22Refs (p0:THeap) (p1:TGen):Lw (PV D.bool) (zep p0 p1) (zaa T 146 [D.pim (THeap.c false p0) 0,D.pim (TGen.c false p1) 0] []):=⟨fun r hr=>(zfV p0).2.1 p1 r hr⟩
instance p_s_l22Refs_j1 (s0:THeap) (s1:TGen):Lp (zeQ s0 s1) (zdZ s0 s1) (zeP s0 s1):=⟨fun k r hr=>(zfV s0).2.2 s1 r hr k⟩
instance g_s_l22Zero (p0:TCursor):Lw (PV D.bool) (zgg p0) (zaa T 147 [D.pim (TCursor.c false p0) 0] []):=⟨E (zgg.eq_def ..)⟩
instance g_s_l22Counts (p0:TGen) (p1:TCursor):Lw (PV D.bool) (zbG p0 p1) (zaa T 205 [D.pim (TGen.c false p0) 0,D.pim (TCursor.c false p1) 0] []):=⟨E (zbG.eq_def ..)⟩
instance g_s_l22Vals (p0:TGen):Lw (PV dI) (zdf p0) (zaa T 206 [D.pim (TGen.c false p0) 0] []):=⟨E (zdf.eq_def ..)⟩
noncomputable abbrev zcz (s0:THeap) (s1:TGen) (s2:TCursor) (s34:Int) (s38:Bool) (k:List Fr):Option Res:=go T (enF [.tmp 6] []) zri k ⟨.d (D.pim (THeap.c false s0) 0)::.d (D.pim (TGen.c false s1) 0)::.d (D.pim (TCursor.c false s2) 0)::zs 31 (sI s34::Z::Z::Z::sB s38::zs 126 []),[]⟩
noncomputable abbrev zcA (s0:THeap) (s1:TGen) (s2:TCursor) (s34:Int) (s38:Bool):List Fr→((Bool ⊕ Bool))→Option Res→Prop:=(kS (kN T (enF [.tmp 6] []) fun t=>⟨.d (D.pim (THeap.c false s0) 0)::.d (D.pim (TGen.c false s1) 0)::.d (D.pim (TCursor.c false s2) 0)::zs 31 (sI s34::Z::Z::Z::sB t::zs 126 []),[]⟩) (kR (PV D.bool)))
noncomputable abbrev zcB (s0:THeap) (s1:TGen) (s2:TCursor) (k:List Fr):Option Res:=go T (enF [.tmp 6] []) zro k ⟨.d (D.pim (THeap.c false s0) 0)::.d (D.pim (TGen.c false s1) 0)::.d (D.pim (TCursor.c false s2) 0)::zs 162 [],[]⟩
noncomputable abbrev zcC (s0:THeap) (s1:TGen) (s2:TCursor):List Fr→Bool→Option Res→Prop:=(kR (PV D.bool))
noncomputable abbrev zcD (s0:THeap) (s1:TGen) (s2:TCursor) (k:List Fr):Option Res:=go T (enF [.tmp 6] []) zrn k ⟨.d (D.pim (THeap.c false s0) 0)::.d (D.pim (TGen.c false s1) 0)::.d (D.pim (TCursor.c false s2) 0)::zs 162 [],[]⟩
noncomputable abbrev zcE (s0:THeap) (s1:TGen) (s2:TCursor):List Fr→Bool→Option Res→Prop:=(kR (PV D.bool))
noncomputable abbrev zcF (s0:THeap) (s1:TGen) (s2:TCursor) (k:List Fr):Option Res:=go T (enF [.tmp 6] []) zrm k ⟨.d (D.pim (THeap.c false s0) 0)::.d (D.pim (TGen.c false s1) 0)::.d (D.pim (TCursor.c false s2) 0)::zs 162 [],[]⟩
noncomputable abbrev zcG (s0:THeap) (s1:TGen) (s2:TCursor):List Fr→Bool→Option Res→Prop:=(kR (PV D.bool))
noncomputable abbrev zbK (s0:THeap) (s1:TGen) (s2:TCursor) (s7:Int) (k:List Fr):Option Res:=go T (enF [.tmp 6] []) zrk (.lp zrl::.bl 1::.sq (.clr (rg 6 159))::k) ⟨.d (D.pim (THeap.c false s0) 0)::.d (D.pim (TGen.c false s1) 0)::.d (D.pim (TCursor.c false s2) 0)::zs 4 (sI s7::zs 157 []),[]⟩
noncomputable abbrev zbL (s0:THeap) (s1:TGen) (s2:TCursor) (s7:Int):List Fr→((Unit ⊕ Bool))→Option Res→Prop:=(kS (kN T (enF [.tmp 6] []) fun t=>⟨.d (D.pim (THeap.c false s0) 0)::.d (D.pim (TGen.c false s1) 0)::.d (D.pim (TCursor.c false s2) 0)::zs 162 [],[]⟩) (kR (PV D.bool)))
noncomputable abbrev zcH (s0:THeap) (s1:TGen) (s2:TCursor) (s34:Int) (s35:Bool) (k:List Fr):Option Res:=go T (enF [.tmp 6] []) zrj k ⟨.d (D.pim (THeap.c false s0) 0)::.d (D.pim (TGen.c false s1) 0)::.d (D.pim (TCursor.c false s2) 0)::zs 31 (sI s34::sB s35::zs 129 []),[]⟩
noncomputable abbrev zcI (s0:THeap) (s1:TGen) (s2:TCursor) (s34:Int) (s35:Bool):List Fr→((Unit ⊕ Bool))→Option Res→Prop:=(kS (kN T (enF [.tmp 6] []) fun t=>⟨.d (D.pim (THeap.c false s0) 0)::.d (D.pim (TGen.c false s1) 0)::.d (D.pim (TCursor.c false s2) 0)::zs 31 (sI s34::zs 130 []),[]⟩) (kR (PV D.bool)))
theorem zaM (f0:THeap):(∀ (s1:TGen) (s2:TCursor) (s34:Int) (s38:Bool) r,zbb f0 s1 s2 s34 s38=some r→∀ k:List Fr,zcA f0 s1 s2 s34 s38 k r (zcz f0 s1 s2 s34 s38 k))∧(∀ (p1:TGen) (p2:TCursor) r,zaj f0 p1 p2=some r→(PV D.bool) r (zaa T 148 [D.pim (THeap.c false f0) 0,D.pim (TGen.c false p1) 0,D.pim (TCursor.c false p2) 0] []))∧(∀ (s1:TGen) (s2:TCursor) r,zas f0 s1 s2=some r→∀ k:List Fr,zcC f0 s1 s2 k r (zcB f0 s1 s2 k))∧(∀ (s1:TGen) (s2:TCursor) r,zbC f0 s1 s2=some r→∀ k:List Fr,zcE f0 s1 s2 k r (zcD f0 s1 s2 k))∧(∀ (s1:TGen) (s2:TCursor) r,zbD f0 s1 s2=some r→∀ k:List Fr,zcG f0 s1 s2 k r (zcF f0 s1 s2 k))∧(∀ (s1:TGen) (s2:TCursor) (s7:Int) r,zaC f0 s1 s2 s7=some r→∀ k:List Fr,zbL f0 s1 s2 s7 k r (zbK f0 s1 s2 s7 k))∧(∀ (s1:TGen) (s2:TCursor) (s34:Int) (s35:Bool) r,zbB f0 s1 s2 s34 s35=some r→∀ k:List Fr,zcI f0 s1 s2 s34 s35 k r (zcH f0 s1 s2 s34 s35 k)):=by
 refine zbb.mutual_partial_correctness f0 (motive_1:=fun s1 s2 s34 s38 r=>∀ k:List Fr,zcA f0 s1 s2 s34 s38 k r (zcz f0 s1 s2 s34 s38 k)) (motive_2:=fun p1 p2 r=>(PV D.bool) r (zaa T 148 [D.pim (THeap.c false f0) 0,D.pim (TGen.c false p1) 0,D.pim (TCursor.c false p2) 0] [])) (motive_3:=fun s1 s2 r=>∀ k:List Fr,zcC f0 s1 s2 k r (zcB f0 s1 s2 k)) (motive_4:=fun s1 s2 r=>∀ k:List Fr,zcE f0 s1 s2 k r (zcD f0 s1 s2 k)) (motive_5:=fun s1 s2 r=>∀ k:List Fr,zcG f0 s1 s2 k r (zcF f0 s1 s2 k)) (motive_6:=fun s1 s2 s7 r=>∀ k:List Fr,zbL f0 s1 s2 s7 k r (zbK f0 s1 s2 s7 k)) (motive_7:=fun s1 s2 s34 s35 r=>∀ k:List Fr,zcI f0 s1 s2 s34 s35 k r (zcH f0 s1 s2 s34 s35 k)) ?_ ?_ ?_ ?_ ?_ ?_ ?_
 ·intro zaj i_s_l22Suspended
  have g_s_l22Suspended:∀ (p1:TGen) (p2:TCursor),Lw (PV D.bool) (zaj p1 p2) (zaa T 148 [D.pim (THeap.c false f0) 0,D.pim (TGen.c false p1) 0,D.pim (TCursor.c false p2) 0] []):=fun p1 p2=>⟨fun r hr=>i_s_l22Suspended p1 p2 r hr⟩
  clear i_s_l22Suspended
  intro s1 s2 s34 s38
  refine Le.pc ?_
  intro k
  refine G0 zri.eq_def ?_
  exact A
 ·intro zas i_s_l22Suspended_j5
  have p_s_l22Suspended_j5:∀ (s1:TGen) (s2:TCursor),Lp (zcC f0 s1 s2) (zas s1 s2) (zcB f0 s1 s2):=fun s1 s2=>⟨fun k r hr=>i_s_l22Suspended_j5 s1 s2 r hr k⟩
  clear i_s_l22Suspended_j5
  intro p1 p2
  refine (show Le (PV D.bool) _ (zaa T 148 [D.pim (THeap.c false f0) 0,D.pim (TGen.c false p1) 0,D.pim (TCursor.c false p2) 0] []) from E0 (h:=?_) rfl)
  exact A
 ·intro zbC zbB i_s_l22Suspended_j4 i_s_l22Suspended_j2
  have p_s_l22Suspended_j4:∀ (s1:TGen) (s2:TCursor),Lp (zcE f0 s1 s2) (zbC s1 s2) (zcD f0 s1 s2):=fun s1 s2=>⟨fun k r hr=>i_s_l22Suspended_j4 s1 s2 r hr k⟩
  have p_s_l22Suspended_j2:∀ (s1:TGen) (s2:TCursor) (s34:Int) (s35:Bool),Lp (zcI f0 s1 s2 s34 s35) (zbB s1 s2 s34 s35) (zcH f0 s1 s2 s34 s35):=fun s1 s2 s34 s35=>⟨fun k r hr=>i_s_l22Suspended_j2 s1 s2 s34 s35 r hr k⟩
  clear i_s_l22Suspended_j4 i_s_l22Suspended_j2
  intro s1 s2
  refine Le.pc ?_
  intro k
  refine G0 zro.eq_def ?_
  exact A
 ·intro zbD i_s_l22Suspended_j3
  have p_s_l22Suspended_j3:∀ (s1:TGen) (s2:TCursor),Lp (zcG f0 s1 s2) (zbD s1 s2) (zcF f0 s1 s2):=fun s1 s2=>⟨fun k r hr=>i_s_l22Suspended_j3 s1 s2 r hr k⟩
  clear i_s_l22Suspended_j3
  intro s1 s2
  refine Le.pc ?_
  intro k
  refine G0 zrn.eq_def ?_
  exact A
 ·intro zaC i_s_l22Suspended_l1
  have p_s_l22Suspended_l1:∀ (s1:TGen) (s2:TCursor) (s7:Int),Lp (zbL f0 s1 s2 s7) (zaC s1 s2 s7) (zbK f0 s1 s2 s7):=fun s1 s2 s7=>⟨fun k r hr=>i_s_l22Suspended_l1 s1 s2 s7 r hr k⟩
  clear i_s_l22Suspended_l1
  intro s1 s2
  refine Le.pc ?_
  intro k
  refine G0 zrm.eq_def ?_
  exact A
 ·intro zaj zaC i_s_l22Suspended i_s_l22Suspended_l1
  have g_s_l22Suspended:∀ (p1:TGen) (p2:TCursor),Lw (PV D.bool) (zaj p1 p2) (zaa T 148 [D.pim (THeap.c false f0) 0,D.pim (TGen.c false p1) 0,D.pim (TCursor.c false p2) 0] []):=fun p1 p2=>⟨fun r hr=>i_s_l22Suspended p1 p2 r hr⟩
  have p_s_l22Suspended_l1:∀ (s1:TGen) (s2:TCursor) (s7:Int),Lp (zbL f0 s1 s2 s7) (zaC s1 s2 s7) (zbK f0 s1 s2 s7):=fun s1 s2 s7=>⟨fun k r hr=>i_s_l22Suspended_l1 s1 s2 s7 r hr k⟩
  clear i_s_l22Suspended i_s_l22Suspended_l1
  intro s1 s2 s7
  refine Le.pc ?_
  intro k
  refine G0 zrk.eq_def ?_
  exact A
 ·intro zbb i_s_l22Suspended_j1
  have p_s_l22Suspended_j1:∀ (s1:TGen) (s2:TCursor) (s34:Int) (s38:Bool),Lp (zcA f0 s1 s2 s34 s38) (zbb s1 s2 s34 s38) (zcz f0 s1 s2 s34 s38):=fun s1 s2 s34 s38=>⟨fun k r hr=>i_s_l22Suspended_j1 s1 s2 s34 s38 r hr k⟩
  clear i_s_l22Suspended_j1
  intro s1 s2 s34 s35
  refine Le.pc ?_
  intro k
  refine G0 zrj.eq_def ?_
  exact A
instance p_s_l22Suspended_j1 (s0:THeap) (s1:TGen) (s2:TCursor) (s34:Int) (s38:Bool):Lp (zcA s0 s1 s2 s34 s38) (zbb s0 s1 s2 s34 s38) (zcz s0 s1 s2 s34 s38):=⟨fun k r hr=>(zaM s0).1 s1 s2 s34 s38 r hr k⟩
instance g_s_l22Suspended (p0:THeap) (p1:TGen) (p2:TCursor):Lw (PV D.bool) (zaj p0 p1 p2) (zaa T 148 [D.pim (THeap.c false p0) 0,D.pim (TGen.c false p1) 0,D.pim (TCursor.c false p2) 0] []):=⟨fun r hr=>(zaM p0).2.1 p1 p2 r hr⟩
instance p_s_l22Suspended_j5 (s0:THeap) (s1:TGen) (s2:TCursor):Lp (zcC s0 s1 s2) (zas s0 s1 s2) (zcB s0 s1 s2):=⟨fun k r hr=>(zaM s0).2.2.1 s1 s2 r hr k⟩
instance p_s_l22Suspended_j4 (s0:THeap) (s1:TGen) (s2:TCursor):Lp (zcE s0 s1 s2) (zbC s0 s1 s2) (zcD s0 s1 s2):=⟨fun k r hr=>(zaM s0).2.2.2.1 s1 s2 r hr k⟩
instance p_s_l22Suspended_j3 (s0:THeap) (s1:TGen) (s2:TCursor):Lp (zcG s0 s1 s2) (zbD s0 s1 s2) (zcF s0 s1 s2):=⟨fun k r hr=>(zaM s0).2.2.2.2.1 s1 s2 r hr k⟩
instance p_s_l22Suspended_l1 (s0:THeap) (s1:TGen) (s2:TCursor) (s7:Int):Lp (zbL s0 s1 s2 s7) (zaC s0 s1 s2 s7) (zbK s0 s1 s2 s7):=⟨fun k r hr=>(zaM s0).2.2.2.2.2.1 s1 s2 s7 r hr k⟩
instance p_s_l22Suspended_j2 (s0:THeap) (s1:TGen) (s2:TCursor) (s34:Int) (s35:Bool):Lp (zcI s0 s1 s2 s34 s35) (zbB s0 s1 s2 s34 s35) (zcH s0 s1 s2 s34 s35):=⟨fun k r hr=>(zaM s0).2.2.2.2.2.2 s1 s2 s34 s35 r hr k⟩
instance p_s_l22Co_j1 (s0:THeap) (s1:TCoexpr):Lp (kR (PV D.bool)) (zht s0 s1) fun k=>go T (enF [.tmp 4] []) zqG k ⟨.d (D.pim (THeap.c false s0) 0)::.d (D.pim (TCoexpr.c false s1) 0)::zs 73 [],[]⟩:=⟨fun k=>GG (zht.eq_def ..) zqG.eq_def⟩
instance p_s_l22Co_j2 (s0:THeap) (s1:TCoexpr):Lp (kR (PV D.bool)) (ziw s0 s1) fun k=>go T (enF [.tmp 4] []) zqH k ⟨.d (D.pim (THeap.c false s0) 0)::.d (D.pim (TCoexpr.c false s1) 0)::zs 73 [],[]⟩:=⟨fun k=>GG (ziw.eq_def ..) zqH.eq_def⟩
instance p_s_l22Co_j3 (s0:THeap) (s1:TCoexpr):Lp (kR (PV D.bool)) (zix s0 s1) fun k=>go T (enF [.tmp 4] []) zqI k ⟨.d (D.pim (THeap.c false s0) 0)::.d (D.pim (TCoexpr.c false s1) 0)::zs 73 [],[]⟩:=⟨fun k=>GG (zix.eq_def ..) zqI.eq_def⟩
instance g_s_l22Co (p0:THeap) (p1:TCoexpr):Lw (PV D.bool) (ziy p0 p1) (zaa T 121 [D.pim (THeap.c false p0) 0,D.pim (TCoexpr.c false p1) 0] []):=⟨E (ziy.eq_def ..)⟩
instance p_s_l22Scope_l1 (s0:TGenScope):∀ (s3:Int),Lp (kS (kN T (enF [.tmp 2] []) fun t=>⟨.d (D.pim (TGenScope.c false s0) 0)::zs 79 [],[]⟩) (kR (PV D.bool))) (zdp s0 s3) fun k=>go T (enF [.tmp 2] []) zuE (.lp zuF::.bl 0::.sq (.clr (rg 2 78))::k) ⟨.d (D.pim (TGenScope.c false s0) 0)::Z::Z::sI s3::zs 76 [],[]⟩:=Lp1 (zdp.partial_correctness s0) (by exact fun _ _ _ _=>G zuE.eq_def)
instance p_s_l22Scope_j1 (s0:TGenScope):Lp (kR (PV D.bool)) (zgy s0) fun k=>go T (enF [.tmp 2] []) zuG k ⟨.d (D.pim (TGenScope.c false s0) 0)::zs 79 [],[]⟩:=⟨fun k=>GG (zgy.eq_def ..) zuG.eq_def⟩
instance g_s_l22Scope (p0:TGenScope):Lw (PV D.bool) (zfs p0) (zaa T 53 [D.pim (TGenScope.c false p0) 0] []):=⟨E (zfs.eq_def ..)⟩
instance g_s_l22State (p0:TGenScope) (p1:TGen) (p2:TCursor):Lw (PV D.bool) (ziz p0 p1 p2) (zaa T 73 [D.pim (TGenScope.c false p0) 0,D.pim (TGen.c false p1) 0,D.pim (TCursor.c false p2) 0] []):=⟨E (ziz.eq_def ..)⟩
instance g_s_l22OwnVars (p0:List TBinding):Lw (PV (dL true 5 (TBinding.e false))) (zbV p0) (zaa T 123 [D.sl false 5 (List.map (TBinding.e false) p0)] []):=⟨E (zbV.eq_def ..)⟩
instance g_s_l07OwnValues (p0:List TValue):Lw (PV (dL true 4 (TValue.e false))) (zcR p0) (zaa T 199 [D.sl false 4 (List.map (TValue.e false) p0)] []):=⟨E (zcR.eq_def ..)⟩
instance g_s_l07OwnObject (p0:TObject):Lw (PV (TObject.e true)) (zdB p0) (zaa T 213 [TObject.e false p0] []):=⟨E (zdB.eq_def ..)⟩
instance p_s_l07Own_l1 (s0 s2:THeap):∀ (s3:THeap) (s4:Int),Lp (kN T (enF [.cell 2 (.many 2)] []) fun t=>⟨.d (D.pim (THeap.c false s0) 0)::Z::.box (THeap.c true s2)::.box (THeap.c true t)::zs 29 [],[]⟩) (zgz s0 s2 s3 s4) fun k=>go T (enF [.cell 2 (.many 2)] []) zrp (.lp zrq::.bl 0::.sq (.clr (rg 4 28))::k) ⟨.d (D.pim (THeap.c false s0) 0)::Z::.box (THeap.c true s2)::.box (THeap.c true s3)::sI s4::zs 28 [],[]⟩:=Lp2 (zgz.partial_correctness s0 s2) (by
 intro rec _ s3 s4 k
 refine G0 zrp.eq_def ?_
 try conv=>arg 3;simp (maxSteps:=999999) only [push_cast,↓reduceIte,seval, *]
 refine Le.itq (fun h=>?_) (fun h=>?_)
 ·try conv=>arg 3;simp (maxSteps:=999999) only [push_cast,↓reduceIte,seval, *]
  refine Le.idx fun a26 h_1 h_2 h_3=>?_
  try conv=>arg 3;simp (maxSteps:=999999) only [push_cast,↓reduceIte,seval, *]
  refine Le.dcall ((g_s_l07OwnObject a26).h) fun r28 h_4 _ hy=>?_
  first|subst hy|obtain ⟨_,rfl⟩:=hy
  try conv=>arg 3;simp (maxSteps:=999999) only [push_cast,↓reduceIte,seval, *]
  refine Le.app fun c30 h_5 h_6=>?_
  replace h_5:List.map (TObject.e true) s3.Objects++[D.agg [D.int .i64 r28.Id,D.int .i64 r28.Kind,D.str r28.Name,D.int .i64 r28.Low,D.sl true 4 (List.map (TValue.e false) r28.Keys),D.sl true 4 (List.map (TValue.e false) r28.Vals),D.int .i64 r28.Default.Kind,D.int .i64 r28.Default.Num,D.str r28.Default.Text,D.int .i64 r28.Default.Ref]]=List.map (TObject.e true) c30:=by rw [h_5,List.map_append] <;> first|rfl|simp only [eqs]
  replace h_6:s3.Objects.length + 1≤most:=h_6
  exact A
 ·exact A)
instance g_s_l07Own (p0:THeap):Lw (PV (THeap.e true)) (zjp p0) (zaa T 153 [D.pim (THeap.c false p0) 0] []):=⟨E (zjp.eq_def ..)⟩
noncomputable abbrev zcO (s0 s2 s3:TGen) (s4:Int) (k:List Fr):Option Res:=go T (enF [.cell 2 (.many 8)] []) zqJ (.lp zqK::.bl 0::.sq (.clr (rg 4 39))::k) ⟨.d (D.pim (TGen.c false s0) 0)::Z::.box (TGen.c true s2)::.box (TGen.c true s3)::sI s4::zs 39 [],[]⟩
noncomputable abbrev zcP (s0 s2 s3:TGen) (s4:Int):List Fr→TGen→Option Res→Prop:=(kN T (enF [.cell 2 (.many 8)] []) fun t=>⟨.d (D.pim (TGen.c false s0) 0)::Z::.box (TGen.c true s2)::.box (TGen.c true t)::zs 40 [],[]⟩)
theorem zif:(∀ (s0 s2 s3:TGen) (s4:Int) r,zbh s0 s2 s3 s4=some r→∀ k:List Fr,zcP s0 s2 s3 s4 k r (zcO s0 s2 s3 s4 k))∧(∀ (p0:TGen) r,zct p0=some r→(PV fun (r:TGen)=>D.agg [dI r.Kind,dI r.Num,D.str r.Text,dI r.Value.Kind,dI r.Value.Num,D.str r.Value.Text,dI r.Value.Ref,D.sl true 8 (List.map (TGen.e true) r.Kids)]) r (zaa T 122 [D.pim (TGen.c false p0) 0] [])):=by
 refine zbh.mutual_partial_correctness (motive_1:=fun s0 s2 s3 s4 r=>∀ k:List Fr,zcP s0 s2 s3 s4 k r (zcO s0 s2 s3 s4 k)) (motive_2:=fun p0 r=>(PV fun (r:TGen)=>D.agg [dI r.Kind,dI r.Num,D.str r.Text,dI r.Value.Kind,dI r.Value.Num,D.str r.Value.Text,dI r.Value.Ref,D.sl true 8 (List.map (TGen.e true) r.Kids)]) r (zaa T 122 [D.pim (TGen.c false p0) 0] [])) ?_ ?_
 ·intro zbh zct i_s_l22OwnGen_l1 i_s_l22OwnGen
  have p_s_l22OwnGen_l1:∀ (s0 s2 s3:TGen) (s4:Int),Lp (zcP s0 s2 s3 s4) (zbh s0 s2 s3 s4) (zcO s0 s2 s3 s4):=fun s0 s2 s3 s4=>⟨fun k r hr=>i_s_l22OwnGen_l1 s0 s2 s3 s4 r hr k⟩
  have g_s_l22OwnGen:∀ (p0:TGen),Lw (PV fun (r:TGen)=>D.agg [dI r.Kind,dI r.Num,D.str r.Text,dI r.Value.Kind,dI r.Value.Num,D.str r.Value.Text,dI r.Value.Ref,D.sl true 8 (List.map (TGen.e true) r.Kids)]) (zct p0) (zaa T 122 [D.pim (TGen.c false p0) 0] []):=fun p0=>⟨fun r hr=>i_s_l22OwnGen p0 r hr⟩
  clear i_s_l22OwnGen_l1 i_s_l22OwnGen
  intro s0 s2 s3 s4
  refine Le.pc ?_
  intro k
  refine G0 zqJ.eq_def ?_
  try conv=>arg 3;simp (maxSteps:=999999) only [push_cast,↓reduceIte,seval, *]
  refine Le.itq (fun h=>?_) (fun h=>?_)
  ·try conv=>arg 3;simp (maxSteps:=999999) only [push_cast,↓reduceIte,seval, *]
   refine Le.idx fun a38 h_1 h_2 h_3=>?_
   try conv=>arg 3;simp (maxSteps:=999999) only [push_cast,↓reduceIte,seval, *]
   refine Le.dcall ((g_s_l22OwnGen a38).h) fun r39 h_4 _ hy=>?_
   first|subst hy|obtain ⟨_,rfl⟩:=hy
   try conv=>arg 3;simp (maxSteps:=999999) only [push_cast,↓reduceIte,seval, *]
   refine Le.app fun c41 h_5 h_6=>?_
   replace h_5:List.map (TGen.e true) s3.Kids++[D.agg [D.int .i64 r39.Kind,D.int .i64 r39.Num,D.str r39.Text,D.int .i64 r39.Value.Kind,D.int .i64 r39.Value.Num,D.str r39.Value.Text,D.int .i64 r39.Value.Ref,D.sl true 8 (List.map (TGen.e true) r39.Kids)]]=List.map (TGen.e true) c41:=by rw [h_5,List.map_append] <;> first|rfl|simp only [eqs]
   replace h_6:s3.Kids.length + 1≤most:=h_6
   exact A
  ·exact A
 ·intro zbh i_s_l22OwnGen_l1
  have p_s_l22OwnGen_l1:∀ (s0 s2 s3:TGen) (s4:Int),Lp (zcP s0 s2 s3 s4) (zbh s0 s2 s3 s4) (zcO s0 s2 s3 s4):=fun s0 s2 s3 s4=>⟨fun k r hr=>i_s_l22OwnGen_l1 s0 s2 s3 s4 r hr k⟩
  clear i_s_l22OwnGen_l1
  intro p0
  refine (show Le (PV fun (r:TGen)=>D.agg [dI r.Kind,dI r.Num,D.str r.Text,dI r.Value.Kind,dI r.Value.Num,D.str r.Value.Text,dI r.Value.Ref,D.sl true 8 (List.map (TGen.e true) r.Kids)]) _ (zaa T 122 [D.pim (TGen.c false p0) 0] []) from E0 (h:=?_) rfl)
  exact A
instance p_s_l22OwnGen_l1 (s0 s2 s3:TGen) (s4:Int):Lp (zcP s0 s2 s3 s4) (zbh s0 s2 s3 s4) (zcO s0 s2 s3 s4):=⟨fun k r hr=>(zif).1 s0 s2 s3 s4 r hr k⟩
instance g_s_l22OwnGen (p0:TGen):Lw (PV fun (r:TGen)=>D.agg [dI r.Kind,dI r.Num,D.str r.Text,dI r.Value.Kind,dI r.Value.Num,D.str r.Value.Text,dI r.Value.Ref,D.sl true 8 (List.map (TGen.e true) r.Kids)]) (zct p0) (zaa T 122 [D.pim (TGen.c false p0) 0] []):=⟨fun r hr=>(zif).2 p0 r hr⟩
noncomputable abbrev zbM (s0 s2 s3:TCursor) (s4:Int) (k:List Fr):Option Res:=go T (enF [.cell 2 (.many 4)] []) zqL (.lp zqM::.bl 0::.sq (.clr (rg 4 36))::k) ⟨.d (D.pim (TCursor.c false s0) 0)::Z::.box (TCursor.c true s2)::.box (TCursor.c true s3)::sI s4::zs 36 [],[]⟩
noncomputable abbrev zbN (s0 s2 s3:TCursor) (s4:Int):List Fr→TCursor→Option Res→Prop:=(kN T (enF [.cell 2 (.many 4)] []) fun t=>⟨.d (D.pim (TCursor.c false s0) 0)::Z::.box (TCursor.c true s2)::.box (TCursor.c true t)::zs 37 [],[]⟩)
theorem zgL:(∀ (s0 s2 s3:TCursor) (s4:Int) r,zaH s0 s2 s3 s4=some r→∀ k:List Fr,zbN s0 s2 s3 s4 k r (zbM s0 s2 s3 s4 k))∧(∀ (p0:TCursor) r,zbA p0=some r→(PV fun (r:TCursor)=>D.agg [dI r.Phase,dI r.Count,D.sl true 4 (List.map (TValue.e false) r.Vals),D.sl true 4 (List.map (TCursor.e true) r.Kids)]) r (zaa T 124 [D.pim (TCursor.c false p0) 0] [])):=by
 refine zaH.mutual_partial_correctness (motive_1:=fun s0 s2 s3 s4 r=>∀ k:List Fr,zbN s0 s2 s3 s4 k r (zbM s0 s2 s3 s4 k)) (motive_2:=fun p0 r=>(PV fun (r:TCursor)=>D.agg [dI r.Phase,dI r.Count,D.sl true 4 (List.map (TValue.e false) r.Vals),D.sl true 4 (List.map (TCursor.e true) r.Kids)]) r (zaa T 124 [D.pim (TCursor.c false p0) 0] [])) ?_ ?_
 ·intro zaH zbA i_s_l22OwnCursor_l1 i_s_l22OwnCursor
  have p_s_l22OwnCursor_l1:∀ (s0 s2 s3:TCursor) (s4:Int),Lp (zbN s0 s2 s3 s4) (zaH s0 s2 s3 s4) (zbM s0 s2 s3 s4):=fun s0 s2 s3 s4=>⟨fun k r hr=>i_s_l22OwnCursor_l1 s0 s2 s3 s4 r hr k⟩
  have g_s_l22OwnCursor:∀ (p0:TCursor),Lw (PV fun (r:TCursor)=>D.agg [dI r.Phase,dI r.Count,D.sl true 4 (List.map (TValue.e false) r.Vals),D.sl true 4 (List.map (TCursor.e true) r.Kids)]) (zbA p0) (zaa T 124 [D.pim (TCursor.c false p0) 0] []):=fun p0=>⟨fun r hr=>i_s_l22OwnCursor p0 r hr⟩
  clear i_s_l22OwnCursor_l1 i_s_l22OwnCursor
  intro s0 s2 s3 s4
  refine Le.pc ?_
  intro k
  refine G0 zqL.eq_def ?_
  try conv=>arg 3;simp (maxSteps:=999999) only [push_cast,↓reduceIte,seval, *]
  refine Le.itq (fun h=>?_) (fun h=>?_)
  ·try conv=>arg 3;simp (maxSteps:=999999) only [push_cast,↓reduceIte,seval, *]
   refine Le.idx fun a35 h_1 h_2 h_3=>?_
   try conv=>arg 3;simp (maxSteps:=999999) only [push_cast,↓reduceIte,seval, *]
   refine Le.dcall ((g_s_l22OwnCursor a35).h) fun r36 h_4 _ hy=>?_
   first|subst hy|obtain ⟨_,rfl⟩:=hy
   try conv=>arg 3;simp (maxSteps:=999999) only [push_cast,↓reduceIte,seval, *]
   refine Le.app fun c38 h_5 h_6=>?_
   replace h_5:List.map (TCursor.e true) s3.Kids++[D.agg [D.int .i64 r36.Phase,D.int .i64 r36.Count,D.sl true 4 (List.map (TValue.e false) r36.Vals),D.sl true 4 (List.map (TCursor.e true) r36.Kids)]]=List.map (TCursor.e true) c38:=by rw [h_5,List.map_append] <;> first|rfl|simp only [eqs]
   replace h_6:s3.Kids.length + 1≤most:=h_6
   exact A
  ·exact A
 ·intro zaH i_s_l22OwnCursor_l1
  have p_s_l22OwnCursor_l1:∀ (s0 s2 s3:TCursor) (s4:Int),Lp (zbN s0 s2 s3 s4) (zaH s0 s2 s3 s4) (zbM s0 s2 s3 s4):=fun s0 s2 s3 s4=>⟨fun k r hr=>i_s_l22OwnCursor_l1 s0 s2 s3 s4 r hr k⟩
  clear i_s_l22OwnCursor_l1
  intro p0
  refine (show Le (PV fun (r:TCursor)=>D.agg [dI r.Phase,dI r.Count,D.sl true 4 (List.map (TValue.e false) r.Vals),D.sl true 4 (List.map (TCursor.e true) r.Kids)]) _ (zaa T 124 [D.pim (TCursor.c false p0) 0] []) from E0 (h:=?_) rfl)
  exact A
instance p_s_l22OwnCursor_l1 (s0 s2 s3:TCursor) (s4:Int):Lp (zbN s0 s2 s3 s4) (zaH s0 s2 s3 s4) (zbM s0 s2 s3 s4):=⟨fun k r hr=>(zgL).1 s0 s2 s3 s4 r hr k⟩
instance g_s_l22OwnCursor (p0:TCursor):Lw (PV fun (r:TCursor)=>D.agg [dI r.Phase,dI r.Count,D.sl true 4 (List.map (TValue.e false) r.Vals),D.sl true 4 (List.map (TCursor.e true) r.Kids)]) (zbA p0) (zaa T 124 [D.pim (TCursor.c false p0) 0] []):=⟨fun r hr=>(zgL).2 p0 r hr⟩
instance g_s_l22OwnCo (p0:TCoexpr):Lw (PV (TCoexpr.e true)) (zgh p0) (zaa T 55 [D.pim (TCoexpr.c false p0) 0] []):=⟨E (zgh.eq_def ..)⟩
instance p_s_l22Own_l1 (s0 s2:TGenScope):∀ (s3:TGenScope) (s4:Int),Lp (kN T (enF [.cell 2 (.many 5)] []) fun t=>⟨.d (D.pim (TGenScope.c false s0) 0)::Z::.box (TGenScope.c true s2)::.box (TGenScope.c true t)::zs 37 [],[]⟩) (zgA s0 s2 s3 s4) fun k=>go T (enF [.cell 2 (.many 5)] []) zva (.lp zvb::.bl 0::.sq (.clr (rg 4 36))::k) ⟨.d (D.pim (TGenScope.c false s0) 0)::Z::.box (TGenScope.c true s2)::.box (TGenScope.c true s3)::sI s4::zs 36 [],[]⟩:=Lp2 (zgA.partial_correctness s0 s2) (by
 intro rec _ s3 s4 k
 refine G0 zva.eq_def ?_
 try conv=>arg 3;simp (maxSteps:=999999) only [push_cast,↓reduceIte,seval, *]
 refine Le.itq (fun h=>?_) (fun h=>?_)
 ·try conv=>arg 3;simp (maxSteps:=999999) only [push_cast,↓reduceIte,seval, *]
  refine Le.idx fun a35 h_1 h_2 h_3=>?_
  try conv=>arg 3;simp (maxSteps:=999999) only [push_cast,↓reduceIte,seval, *]
  refine Le.dcall ((g_s_l22OwnCo a35).h) fun r36 h_4 _ hy=>?_
  first|subst hy|obtain ⟨_,rfl⟩:=hy
  try conv=>arg 3;simp (maxSteps:=999999) only [push_cast,↓reduceIte,seval, *]
  refine Le.app fun c38 h_5 h_6=>?_
  replace h_5:List.map (TCoexpr.e true) s3.Cos++[D.agg [D.int .i64 r36.Id,D.int .i64 r36.Body.Kind,D.int .i64 r36.Body.Num,D.str r36.Body.Text,D.int .i64 r36.Body.Value.Kind,D.int .i64 r36.Body.Value.Num,D.str r36.Body.Value.Text,D.int .i64 r36.Body.Value.Ref,D.sl true 8 (List.map (TGen.e true) r36.Body.Kids),D.sl true 5 (List.map (TBinding.e false) r36.Start),D.sl true 5 (List.map (TBinding.e false) r36.Vars),D.int .i64 r36.Cursor.Phase,D.int .i64 r36.Cursor.Count,D.sl true 4 (List.map (TValue.e false) r36.Cursor.Vals),D.sl true 4 (List.map (TCursor.e true) r36.Cursor.Kids),D.int .i64 r36.Count,D.bool r36.Done]]=List.map (TCoexpr.e true) c38:=by rw [h_5,List.map_append] <;> first|rfl|simp only [eqs]
  replace h_6:s3.Cos.length + 1≤most:=h_6
  exact A
 ·exact A)
instance g_s_l22Own (p0:TGenScope):Lw (PV (TGenScope.e true)) (zjq p0) (zaa T 83 [D.pim (TGenScope.c false p0) 0] []):=⟨E (zjq.eq_def ..)⟩
instance p_s_l23Add_j1 (s0:TGenScope) (s1:TGen) (s2:List TBinding) (s6:TGenScope) (s9:Int):Lp (kR (PV fun (r:TGenScope × Int × Int)=>D.tup [TGenScope.e true r.1,dI r.2.1,dI r.2.2])) (zhP s0 s1 s2 s6 s9) fun k=>go T (enF [.cell 6 (.many 5),.tmp 7,.tmp 8] []) zuS k ⟨.d (D.pim (TGenScope.c false s0) 0)::.d (D.pim (TGen.c false s1) 0)::sL false 5 (TBinding.e false) s2::Z::Z::Z::.box (TGenScope.c true s6)::Z::Z::sI s9::zs 47 [],[]⟩:=⟨fun k=>by
 refine G1 (zhP.eq_def ..) zuS.eq_def ?_
 try conv=>arg 3;simp (maxSteps:=999999) only [push_cast,↓reduceIte,seval, *]
 refine Le.call ((g_s_l22Own s0).h) fun r41 h _ hy=>?_
 first|subst hy|obtain ⟨_,rfl⟩:=hy
 try conv=>arg 3;simp (maxSteps:=999999) only [push_cast,↓reduceIte,seval, *]
 refine Le.dcall ((g_s_l22OwnGen s1).h) fun r46 h_1 _ hy=>?_
 first|subst hy|obtain ⟨_,rfl⟩:=hy
 try conv=>arg 3;simp (maxSteps:=999999) only [push_cast,↓reduceIte,seval, *]
 refine Le.dcall ((g_s_l22OwnVars s2).h) fun r48 h_2 _ hy=>?_
 first|subst hy|obtain ⟨_,rfl⟩:=hy
 try conv=>arg 3;simp (maxSteps:=999999) only [push_cast,↓reduceIte,seval, *]
 refine Le.dcall ((g_s_l22OwnVars s2).h) fun r50 h_3 _ hy=>?_
 first|subst hy|obtain ⟨_,rfl⟩:=hy
 try conv=>arg 3;simp (maxSteps:=999999) only [push_cast,↓reduceIte,seval, *]
 refine Le.app fun c53 h_4 h_5=>?_
 replace h_4:List.map (TCoexpr.e true) r41.Cos++[D.agg [D.int .i64 s9,D.int .i64 r46.Kind,D.int .i64 r46.Num,D.str r46.Text,D.int .i64 r46.Value.Kind,D.int .i64 r46.Value.Num,D.str r46.Value.Text,D.int .i64 r46.Value.Ref,D.sl true 8 (List.map (TGen.e true) r46.Kids),D.sl true 5 (List.map (TBinding.e false) r48),D.sl true 5 (List.map (TBinding.e false) r50),D.int .i64 0,D.int .i64 0,D.sl true 4 [],D.sl true 4 [],D.int .i64 0,D.bool false]]=List.map (TCoexpr.e true) c53:=by rw [h_4,List.map_append] <;> first|rfl|simp only [eqs]
 replace h_5:r41.Cos.length + 1≤most:=h_5
 exact A⟩
instance p_s_l23Add_j2 (s0:TGenScope) (s1:TGen) (s2:List TBinding) (s6:TGenScope) (s9:Int):Lp (kR (PV fun (r:TGenScope × Int × Int)=>D.tup [TGenScope.e true r.1,dI r.2.1,dI r.2.2])) (zfA s0 s1 s2 s6 s9) fun k=>go T (enF [.cell 6 (.many 5),.tmp 7,.tmp 8] []) zuT k ⟨.d (D.pim (TGenScope.c false s0) 0)::.d (D.pim (TGen.c false s1) 0)::sL false 5 (TBinding.e false) s2::Z::Z::Z::.box (TGenScope.c true s6)::Z::Z::sI s9::zs 47 [],[]⟩:=⟨fun k=>GG (zfA.eq_def ..) zuT.eq_def⟩
instance g_s_l23Add (p0:TGenScope) (p1:TGen) (p2:List TBinding):Lw (PV fun (r:TGenScope × Int × Int)=>D.tup [TGenScope.e true r.1,dI r.2.1,dI r.2.2]) (zjr p0 p1 p2) (zaa T 74 [D.pim (TGenScope.c false p0) 0,D.pim (TGen.c false p1) 0,D.sl false 5 (List.map (TBinding.e false) p2)] []):=⟨E (zjr.eq_def ..)⟩
instance g_s_CreateCo (p0:TGenScope) (p1:TGen):Lw (PV fun (r:TGenScope × Int × Int)=>D.tup [TGenScope.e true r.1,dI r.2.1,dI r.2.2]) (ziA p0 p1) (zaa T 27 [TGenScope.e false p0,D.agg [dI p1.Kind,dI p1.Num,D.str p1.Text,dI p1.Value.Kind,dI p1.Value.Num,D.str p1.Value.Text,dI p1.Value.Ref,D.sl false 8 (List.map (TGen.e false) p1.Kids)]] []):=⟨E (ziA.eq_def ..)⟩
end Go.Vx.CrZ
