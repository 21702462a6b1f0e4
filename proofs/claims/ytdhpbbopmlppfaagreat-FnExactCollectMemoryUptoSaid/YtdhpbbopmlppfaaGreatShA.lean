/-
  What the plain functions give, the program gives too.
-/
import Derived.Test.YtdhpbbopmlppfaaGreatAu
set_option linter.unusedVariables false
set_option linter.unusedSimpArgs false
namespace Go.Vx.CmZ
set_option linter.unusedVariables false
set_option linter.unusedSimpArgs false
set_option maxRecDepth 10000
set_option maxHeartbeats 2000000
attribute [local irreducible] go bk exi got
instance g_s_l00In (p0 p1 p2:Int):Lw (PV D.bool) (zdA p0 p1 p2) (zab T 142 [dI p0,dI p1,dI p2] []):=⟨E (zdA.eq_def ..)⟩
instance g_s_l06Plain (p0:TValue) (p1 p2 p3:Bool):Lw (PV D.bool) (zdu p0 p1 p2 p3) (zab T 146 [TValue.e false p0,D.bool p1,D.bool p2,D.bool p3] []):=⟨E (zdu.eq_def ..)⟩
instance g_s_l02Letter (p0:Int):Lw (PV D.bool) (zeU p0) (zab T 184 [D.int .u8 p0] []):=⟨E (zeU.eq_def ..)⟩
instance g_s_l02Digit (p0:Int):Lw (PV D.bool) (zhd p0) (zab T 185 [D.int .u8 p0] []):=⟨E (zhd.eq_def ..)⟩
instance p_s_l02NameEnd_l1 (s0:ByteArray):∀ (s1:Int),Lp (kN T (enF [.tmp 4] []) fun t=>⟨sT s0::sI t::zs 40 [],[]⟩) (zbc s0 s1) fun k=>go T (enF [.tmp 4] []) zrA (.lp zrB::.bl 0::.sq (.clr (rg 4 37))::k) ⟨sT s0::sI s1::zs 40 [],[]⟩:=Lp1 (zbc.partial_correctness s0) (by exact fun _ _ _ _=>G zrA.eq_def)
instance p_s_l02NameEnd_j1 (s0:ByteArray) (s1:Int):Lp (kR (PV dI)) (zeV s0 s1) fun k=>go T (enF [.tmp 4] []) zrC k ⟨sT s0::sI s1::zs 40 [],[]⟩:=⟨fun k=>GG (zeV.eq_def ..) zrC.eq_def⟩
instance g_s_l02NameEnd (p0:ByteArray) (p1:Int):Lw (PV dI) (zgF p0 p1) (zab T 145 [D.str p0,dI p1] []):=⟨E (zgF.eq_def ..)⟩
instance g_s_IsName (p0:ByteArray):Lw (PV D.bool) (zde p0) (zab T 83 [D.str p0] []):=⟨E (zde.eq_def ..)⟩
instance p_s_ValidValue_j1 (s1:TValue) (s45:Bool):Lp (kS (kN T (enF [.tmp 2] []) fun t=>⟨Z::.box (TValue.c false s1)::zs 43 (sB t::zs 9 []),[]⟩) (kR (PV D.bool))) (zdB s1 s45) fun k=>go T (enF [.tmp 2] []) zvZ k ⟨Z::.box (TValue.c false s1)::zs 43 (sB s45::zs 9 []),[]⟩:=⟨fun k=>GG (zdB.eq_def ..) zvZ.eq_def⟩
instance p_s_ValidValue_j2 (s1:TValue) (s4:Int) (s34:Bool):Lp (kS (kN T (enF [.tmp 2] []) fun t=>⟨Z::.box (TValue.c false s1)::zs 53 [],[]⟩) (kR (PV D.bool))) (zcu s1 s4 s34) fun k=>go T (enF [.tmp 2] []) zwa k ⟨Z::.box (TValue.c false s1)::Z::Z::sI s4::zs 29 (sB s34::zs 20 []),[]⟩:=⟨fun k=>GG (zcu.eq_def ..) zwa.eq_def⟩
instance g_s_ValidValue (p0:TValue):Lw (PV D.bool) (zbV p0) (zab T 84 [TValue.e false p0] []):=⟨E (zbV.eq_def ..)⟩
instance p_s_l07ValidValues_l1 (s0:List TValue) (s1:Int):∀ (s5:Int),Lp (kS (kN T (enF [.tmp 4] []) fun t=>⟨sL false 4 (TValue.e false) s0::sI s1::zs 20 [],[]⟩) (kR (PV D.bool))) (zbX s0 s1 s5) fun k=>go T (enF [.tmp 4] []) zsi (.lp zsj::.bl 0::.sq (.clr (rg 4 18))::k) ⟨sL false 4 (TValue.e false) s0::sI s1::Z::Z::Z::sI s5::zs 16 [],[]⟩:=Lp1 (zbX.partial_correctness s0 s1) (by exact fun _ _ _ _=>G zsi.eq_def)
instance g_s_l07ValidValues (p0:List TValue) (p1:Int):Lw (PV D.bool) (zbt p0 p1) (zab T 181 [D.sl false 4 (List.map (TValue.e false) p0),dI p1] []):=⟨E (zbt.eq_def ..)⟩
instance g_s_SameValue (p0 p1:TValue):Lw (PV D.bool) (zga p0 p1) (zab T 203 [TValue.e false p0,TValue.e false p1] []):=⟨E (zga.eq_def ..)⟩
instance p_s_l07Distinct_l1 (s0:List TValue) (s3:Int):∀ (s4:Int),Lp (kS (kN T (enF [.tmp 2] []) fun t=>⟨sL false 4 (TValue.e false) s0::Z::Z::sI s3::zs 21 [],[]⟩) (kR (PV D.bool))) (zcg s0 s3 s4) fun k=>go T (enF [.tmp 2] []) zsk (.lp zsl::.bl 2::.sq (.clr [2,4,5,6,7,8,9,10,11,12,13,14,15,16,17,18,19,20,21,22,23,24])::k) ⟨sL false 4 (TValue.e false) s0::Z::Z::sI s3::sI s4::zs 20 [],[]⟩:=Lp1 (zcg.partial_correctness s0 s3) (by exact fun _ _ _ _=>G zsk.eq_def)
instance p_s_l07Distinct_l2 (s0:List TValue):∀ (s3:Int),Lp (kS (kN T (enF [.tmp 2] []) fun t=>⟨sL false 4 (TValue.e false) s0::zs 24 [],[]⟩) (kR (PV D.bool))) (zdf s0 s3) fun k=>go T (enF [.tmp 2] []) zsm (.lp zsn::.bl 0::.sq (.clr (rg 2 23))::k) ⟨sL false 4 (TValue.e false) s0::Z::Z::sI s3::zs 21 [],[]⟩:=Lp1 (zdf.partial_correctness s0) (by exact fun _ _ _ _=>G zsm.eq_def)
instance g_s_l07Distinct (p0:List TValue):Lw (PV D.bool) (zdC p0) (zab T 182 [D.sl false 4 (List.map (TValue.e false) p0)] []):=⟨E (zdC.eq_def ..)⟩
instance p_s_l07FieldNames_l1 (s0:List TValue):∀ (s3:Int),Lp (kS (kN T (enF [.tmp 2] []) fun t=>⟨sL false 4 (TValue.e false) s0::zs 35 [],[]⟩) (kR (PV D.bool))) (zcm s0 s3) fun k=>go T (enF [.tmp 2] []) zso (.lp zsp::.bl 0::.sq (.clr (rg 2 23))::k) ⟨sL false 4 (TValue.e false) s0::Z::Z::sI s3::zs 32 [],[]⟩:=Lp1 (zcm.partial_correctness s0) (by exact fun _ _ _ _=>G zso.eq_def)
instance g_s_l07FieldNames (p0:List TValue):Lw (PV D.bool) (zdD p0) (zab T 183 [D.sl false 4 (List.map (TValue.e false) p0)] []):=⟨E (zdD.eq_def ..)⟩
instance p_s_l07Object_j1 (s1:TObject):Lp (kR (PV D.bool)) (zed s1) fun k=>go T (enF [.tmp 2] []) zrz k ⟨Z::.box (TObject.c false s1)::zs 99 [],[]⟩:=⟨fun k=>GG (zed.eq_def ..) zrz.eq_def⟩
instance g_s_l07Object (p0:TObject):Lw (PV D.bool) (zgb p0) (zab T 143 [TObject.e false p0] []):=⟨E (zgb.eq_def ..)⟩
instance g_s_l07IsRef (p0:TValue):Lw (PV D.bool) (zdZ p0) (zab T 187 [TValue.e false p0] []):=⟨E (zdZ.eq_def ..)⟩
instance p_s_l07Find_l1 (s0:THeap) (s1:Int):∀ (s5:Int),Lp (kS (kN T (enF [.tmp 4] []) fun t=>⟨.d (D.pim (THeap.c false s0) 0)::sI s1::zs 24 [],[]⟩) (kR (PV dI))) (zej s0 s1 s5) fun k=>go T (enF [.tmp 4] []) zrM (.lp zrN::.bl 0::.sq (.clr (rg 4 22))::k) ⟨.d (D.pim (THeap.c false s0) 0)::sI s1::Z::Z::Z::sI s5::zs 20 [],[]⟩:=Lp1 (zej.partial_correctness s0 s1) (by exact fun _ _ _ _=>G zrM.eq_def)
instance g_s_l07Find (p0:THeap) (p1:Int):Lw (PV dI) (zeW p0 p1) (zab T 153 [D.pim (THeap.c false p0) 0,dI p1] []):=⟨E (zeW.eq_def ..)⟩
instance g_s_l07ObjectKind (p0:Int):Lw (PV dI) (zeX p0) (zab T 188 [dI p0] []):=⟨E (zeX.eq_def ..)⟩
instance g_s_l07Fits (p0:THeap) (p1:TValue):Lw (PV D.bool) (zeY p0 p1) (zab T 150 [D.pim (THeap.c false p0) 0,TValue.e false p1] []):=⟨E (zeY.eq_def ..)⟩
instance p_s_l07FitAll_l1 (s0:THeap) (s1:List TValue):∀ (s5:Int),Lp (kS (kN T (enF [.tmp 4] []) fun t=>⟨.d (D.pim (THeap.c false s0) 0)::sL false 4 (TValue.e false) s1::zs 17 [],[]⟩) (kR (PV D.bool))) (zee s0 s1 s5) fun k=>go T (enF [.tmp 4] []) zrI (.lp zrJ::.bl 0::.sq (.clr (rg 4 15))::k) ⟨.d (D.pim (THeap.c false s0) 0)::sL false 4 (TValue.e false) s1::Z::Z::Z::sI s5::zs 13 [],[]⟩:=Lp1 (zee.partial_correctness s0 s1) (by exact fun _ _ _ _=>G zrI.eq_def)
instance g_s_l07FitAll (p0:THeap) (p1:List TValue):Lw (PV D.bool) (zea p0 p1) (zab T 151 [D.pim (THeap.c false p0) 0,D.sl false 4 (List.map (TValue.e false) p1)] []):=⟨E (zea.eq_def ..)⟩
instance g_s_l07Refs (p0:THeap) (p1:TObject):Lw (PV D.bool) (zhL p0 p1) (zab T 144 [D.pim (THeap.c false p0) 0,D.pim (TObject.c false p1) 0] []):=⟨E (zhL.eq_def ..)⟩
instance p_s_l07Ok_l1 (s0:THeap):∀ (s3:Int),Lp (kS (kN T (enF [.tmp 2] []) fun t=>⟨.d (D.pim (THeap.c false s0) 0)::zs 83 [],[]⟩) (kR (PV D.bool))) (zeP s0 s3) fun k=>go T (enF [.tmp 2] []) zvU (.lp zvV::.bl 0::.sq (.clr [2,3,4,6,7,8,9,10,11,12,13,14,15,16,17,18,19,20,21,22,23,24,25,26,27,28,29,30,31,32,33,34,35,36,37,38,39,40,41,42,43,44,45,46,47,48,49,50,51,52,53,54,55,56,57,58,59,60,61,62,63,64,65])::k) ⟨.d (D.pim (THeap.c false s0) 0)::Z::Z::sI s3::zs 80 [],[]⟩:=Lp1 (zeP.partial_correctness s0) (by exact fun _ _ _ _=>G zvU.eq_def)
instance p_s_l07Ok_l2 (s0:THeap):∀ (s5:Int),Lp (kS (kN T (enF [.tmp 2] []) fun t=>⟨.d (D.pim (THeap.c false s0) 0)::zs 83 [],[]⟩) (kR (PV D.bool))) (zfL s0 s5) fun k=>go T (enF [.tmp 2] []) zvW (.lp zvX::.bl 2::.sq (.clr (rg 2 82))::k) ⟨.d (D.pim (THeap.c false s0) 0)::zs 4 (sI s5::zs 78 []),[]⟩:=Lp1 (zfL.partial_correctness s0) (by exact fun _ _ _ _=>G zvW.eq_def)
instance p_s_l07Ok_j1 (s0:THeap):Lp (kR (PV D.bool)) (zii s0) fun k=>go T (enF [.tmp 2] []) zvY k ⟨.d (D.pim (THeap.c false s0) 0)::zs 83 [],[]⟩:=⟨fun k=>GG (zii.eq_def ..) zvY.eq_def⟩
instance g_s_l07Ok (p0:THeap):Lw (PV D.bool) (zij p0) (zab T 82 [D.pim (THeap.c false p0) 0] []):=⟨E (zij.eq_def ..)⟩
instance g_s_ValidHeap (p0:THeap):Lw (PV D.bool) (zeZ p0) (zab T 36 [THeap.e false p0] []):=⟨E (zeZ.eq_def ..)⟩
instance g_s_IsNull (p0:TValue):Lw (PV D.bool) (zkX p0) (zab T 85 [TValue.e false p0] []):=⟨E (zkX.eq_def ..)⟩
instance p_s_l17At_l1 (s0:List ByteArray) (s1:ByteArray):∀ (s5:Int),Lp (kS (kN T (enF [.tmp 4] []) fun t=>⟨sL false 1 D.str s0::sT s1::zs 17 [],[]⟩) (kR (PV dI))) (zfM s0 s1 s5) fun k=>go T (enF [.tmp 4] []) zsq (.lp zsr::.bl 0::.sq (.clr (rg 4 15))::k) ⟨sL false 1 D.str s0::sT s1::Z::Z::Z::sI s5::zs 13 [],[]⟩:=Lp1 (zfM.partial_correctness s0 s1) (by exact fun _ _ _ _=>G zsq.eq_def)
instance g_s_l17At (p0:List ByteArray) (p1:ByteArray):Lw (PV dI) (zkY p0 p1) (zab T 186 [D.sl false 1 (List.map D.str p0),D.str p1] []):=⟨E (zkY.eq_def ..)⟩
instance p_s_l18Names_l1 (s0:List ByteArray):∀ (s3:Int),Lp (kS (kN T (enF [.tmp 2] []) fun t=>⟨sL false 1 D.str s0::zs 25 [],[]⟩) (kR (PV D.bool))) (zeA s0 s3) fun k=>go T (enF [.tmp 2] []) zrD (.lp zrE::.bl 0::.sq (.clr (rg 2 24))::k) ⟨sL false 1 D.str s0::Z::Z::sI s3::zs 22 [],[]⟩:=Lp1 (zeA.partial_correctness s0) (by exact fun _ _ _ _=>G zrD.eq_def)
instance g_s_l18Names (p0:List ByteArray):Lw (PV D.bool) (zfN p0) (zab T 147 [D.sl false 1 (List.map D.str p0)] []):=⟨E (zfN.eq_def ..)⟩
instance p_s_l18Function_j1 (s1:TFunction):Lp (kR (PV D.bool)) (zer s1) fun k=>go T (enF [.tmp 2] []) zwb k ⟨Z::.box (TFunction.c false s1)::zs 31 [],[]⟩:=⟨fun k=>by
 refine G1 (zer.eq_def ..) zwb.eq_def ?_
 try conv=>arg 3;simp (maxSteps:=999999) only [push_cast,↓reduceIte,seval, *]
 refine Le.chk fun h=>?_
 try conv=>arg 3;simp (maxSteps:=999999) only [push_cast,↓reduceIte,seval, *]
 refine Le.app fun c31 h_1 h_2=>?_
 replace h_1:List.map D.str s1.Params++List.map D.str s1.Locals=List.map D.str c31:=by rw [h_1,List.map_append] <;> rfl
 replace h_2:s1.Params.length + s1.Locals.length≤most:=h_2
 exact A⟩
instance g_s_l18Function (p0:TFunction):Lw (PV D.bool) (zeB p0) (zab T 86 [TFunction.e false p0] []):=⟨E (zeB.eq_def ..)⟩
instance g_s_l18Type (p0:TRecordType):Lw (PV D.bool) (zhM p0) (zab T 87 [TRecordType.e false p0] []):=⟨E (zhM.eq_def ..)⟩
instance p_s_ValidScope_l1 (s1:TScope):∀ (s3:Int),Lp (kS (kN T (enF [.tmp 2] []) fun t=>⟨Z::.box (TScope.c false s1)::zs 132 [],[]⟩) (kR (PV D.bool))) (zbL s1 s3) fun k=>go T (enF [.tmp 2] []) zuS (.lp zuT::.bl 0::.sq (.clr [0,2,3,4,7,8,9,10,11,12,13,14,15,16,17,18,19,20,21,22,23,24,25,26,27,28,29,30,31,32,33,34,35,36,37,38,39,40,41,42,43,44,45,46,47,48,49,50,51,52,53,54,55,56,57,58,59,60,61,62,63,64,65])::k) ⟨Z::.box (TScope.c false s1)::Z::sI s3::zs 130 [],[]⟩:=Lp1 (zbL.partial_correctness s1) (by exact fun _ _ _ _=>G zuS.eq_def)
instance p_s_ValidScope_l2 (s1:TScope):∀ (s5:Int),Lp (kS (kN T (enF [.tmp 2] []) fun t=>⟨Z::.box (TScope.c false s1)::zs 132 [],[]⟩) (kR (PV D.bool))) (zbM s1 s5) fun k=>go T (enF [.tmp 2] []) zuU (.lp zuV::.bl 2::.sq (.clr [0,2,3,4,5,7,8,9,10,11,12,13,14,15,16,17,18,19,20,21,22,23,24,25,26,27,28,29,30,31,32,33,34,35,36,37,38,39,40,41,42,43,44,45,46,47,48,49,50,51,52,53,54,55,56,57,58,59,60,61,62,63,64,65,66,67,68,69,70,71,72,73,74,75,76,77,78,79,80,81,82,83,84,85,86,87,88,89,90,91,92,93,94,95,96,97,98,99])::k) ⟨Z::.box (TScope.c false s1)::Z::Z::Z::sI s5::zs 128 [],[]⟩:=Lp1 (zbM.partial_correctness s1) (by exact fun _ _ _ _=>G zuU.eq_def)
instance p_s_ValidScope_l3 (s1:TScope):∀ (s6:Int),Lp (kS (kN T (enF [.tmp 2] []) fun t=>⟨zs 134 [],[]⟩) (kR (PV D.bool))) (zbN s1 s6) fun k=>go T (enF [.tmp 2] []) zuW (.lp zuX::.bl 4::.sq (.clr (rg 0 134))::k) ⟨Z::.box (TScope.c false s1)::zs 4 (sI s6::zs 127 []),[]⟩:=Lp1 (zbN.partial_correctness s1) (by exact fun _ _ _ _=>G zuW.eq_def)
instance p_s_ValidScope_j1 (s1:TScope):Lp (kR (PV D.bool)) (zfa s1) fun k=>go T (enF [.tmp 2] []) zuY k ⟨Z::.box (TScope.c false s1)::zs 132 [],[]⟩:=⟨fun k=>GG (zfa.eq_def ..) zuY.eq_def⟩
instance g_s_ValidScope (p0:TScope):Lw (PV D.bool) (zcv p0) (zab T 37 [TScope.e false p0] []):=⟨E (zcv.eq_def ..)⟩
instance p_s_l21Lines_l1 (s0:List ByteArray) (s1 s2:Int):∀ (s7:Int),Lp (kS (kN T (enF [.tmp 6] []) fun t=>⟨sL false 1 D.str s0::sI s1::sI s2::zs 22 [],[]⟩) (kR (PV D.bool))) (zdE s0 s1 s2 s7) fun k=>go T (enF [.tmp 6] []) zrF (.lp zrG::.bl 0::.sq (.clr (rg 6 19))::k) ⟨sL false 1 D.str s0::sI s1::sI s2::zs 4 (sI s7::zs 17 []),[]⟩:=Lp1 (zdE.partial_correctness s0 s1 s2) (by exact fun _ _ _ _=>G zrF.eq_def)
instance g_s_l21Lines (p0:List ByteArray) (p1 p2:Int):Lw (PV D.bool) (zeb p0 p1 p2) (zab T 148 [D.sl false 1 (List.map D.str p0),dI p1,dI p2] []):=⟨E (zeb.eq_def ..)⟩
instance p_s_l21File_j1 (s1:TFile):Lp (kR (PV D.bool)) (zgG s1) fun k=>go T (enF [.tmp 2] []) zrH k ⟨Z::.box (TFile.c false s1)::zs 33 [],[]⟩:=⟨fun k=>GG (zgG.eq_def ..) zrH.eq_def⟩
instance g_s_l21File (p0:TFile):Lw (PV D.bool) (zhN p0) (zab T 149 [TFile.e false p0] []):=⟨E (zhN.eq_def ..)⟩
instance p_s_l21Ok_l1 (s0:TConsole):∀ (s3:Int),Lp (kS (kN T (enF [.tmp 2] []) fun t=>⟨.d (D.pim (TConsole.c false s0) 0)::zs 88 [],[]⟩) (kR (PV D.bool))) (zeQ s0 s3) fun k=>go T (enF [.tmp 2] []) zwc (.lp zwd::.bl 0::.sq (.clr (rg 2 87))::k) ⟨.d (D.pim (TConsole.c false s0) 0)::Z::Z::sI s3::zs 85 [],[]⟩:=Lp1 (zeQ.partial_correctness s0) (by exact fun _ _ _ _=>G zwc.eq_def)
instance p_s_l21Ok_j1 (s0:TConsole):Lp (kR (PV D.bool)) (zik s0) fun k=>go T (enF [.tmp 2] []) zwe k ⟨.d (D.pim (TConsole.c false s0) 0)::zs 88 [],[]⟩:=⟨fun k=>GG (zik.eq_def ..) zwe.eq_def⟩
instance g_s_l21Ok (p0:TConsole):Lw (PV D.bool) (zng p0) (zab T 88 [D.pim (TConsole.c false p0) 0] []):=⟨E (zng.eq_def ..)⟩
instance g_s_ValidConsole (p0:TConsole):Lw (PV D.bool) (zef p0) (zab T 38 [TConsole.e false p0] []):=⟨E (zef.eq_def ..)⟩
instance p_s_ScopeRoots_l1 (s1:TScope):∀ (s3:List TValue) (s4:Int),Lp (kN T (enF [.tmp 2] []) fun t=>⟨Z::Z::Z::sL true 4 (TValue.e false) t::zs 22 [],[]⟩) (zdF s1 s3 s4) fun k=>go T (enF [.tmp 2] []) zvb (.lp zvc::.bl 0::.sq (.clr [0,1,2,4,5,6,7,8,9,10,11,12,13,14,15,16,17,18,19,20,21,22,23,24])::k) ⟨Z::.box (TScope.c false s1)::Z::sL true 4 (TValue.e false) s3::sI s4::zs 21 [],[]⟩:=Lp2 (zdF.partial_correctness s1) (by
 intro rec _ s3 s4 k
 refine G0 zvb.eq_def ?_
 try conv=>arg 3;simp (maxSteps:=999999) only [push_cast,↓reduceIte,seval, *]
 refine Le.itq (fun h=>?_) (fun h=>?_)
 ·try conv=>arg 3;simp (maxSteps:=999999) only [push_cast,↓reduceIte,seval, *]
  refine Le.idx fun a20 h_1 h_2 h_3=>?_
  try conv=>arg 3;simp (maxSteps:=999999) only [push_cast,↓reduceIte,seval, *]
  refine Le.app fun c24 h_4 h_5=>?_
  replace h_4:List.map (TValue.e false) s3++[D.agg [D.int .i64 a20.Value.Kind,D.int .i64 a20.Value.Num,D.str a20.Value.Text,D.int .i64 a20.Value.Ref]]=List.map (TValue.e false) c24:=by rw [h_4,List.map_append] <;> rfl
  replace h_5:s3.length + 1≤most:=h_5
  exact A
 ·exact A)
instance g_s_ScopeRoots (p0:TScope):Lw (PV (dL true 4 (TValue.e false))) (zek p0) (zab T 40 [TScope.e false p0] []):=⟨E (zek.eq_def ..)⟩
instance g_s_FitsHeap (p0:THeap) (p1:TValue):Lw (PV D.bool) (zhe p0 p1) (zab T 89 [THeap.e false p0,TValue.e false p1] []):=⟨E (zhe.eq_def ..)⟩
instance p_s_l17Fits_l1 (s1:List TValue) (s2:THeap):∀ (s5:Int),Lp (kS (kN T (enF [.tmp 4] []) fun t=>⟨Z::sL false 4 (TValue.e false) s1::.box (THeap.c false s2)::zs 18 [],[]⟩) (kR (PV D.bool))) (zel s1 s2 s5) fun k=>go T (enF [.tmp 4] []) zuZ (.lp zva::.bl 0::.sq (.clr [0,4,5,6,7,8,9,10,11,12,13,14,15,16,17,18])::k) ⟨Z::sL false 4 (TValue.e false) s1::.box (THeap.c false s2)::Z::Z::sI s5::zs 15 [],[]⟩:=Lp1 (zel.partial_correctness s1 s2) (by exact fun _ _ _ _=>G zuZ.eq_def)
instance g_s_l17Fits (p0:THeap) (p1:List TValue):Lw (PV D.bool) (zhO p0 p1) (zab T 39 [THeap.e false p0,D.sl false 4 (List.map (TValue.e false) p1)] []):=⟨E (zhO.eq_def ..)⟩
instance g_s_ValidMemory (p0:TMemory):Lw (PV D.bool) (zeC p0) (zab T 14 [TMemory.e false p0] []):=⟨E (zeC.eq_def ..)⟩
instance g_s_l08Valid (p0:THeap) (p1:List TValue):Lw (PV D.bool) (zil p0 p1) (zab T 90 [D.pim (THeap.c false p0) 0,D.sl false 4 (List.map (TValue.e false) p1)] []):=⟨E (zil.eq_def ..)⟩
instance p_s_l00Has_l1 (s0:List Int) (s1:Int):∀ (s5:Int),Lp (kS (kN T (enF [.tmp 4] []) fun t=>⟨sL false 1 dI s0::sI s1::zs 16 [],[]⟩) (kR (PV D.bool))) (zgc s0 s1 s5) fun k=>go T (enF [.tmp 4] []) zsD (.lp zsE::.bl 0::.sq (.clr (rg 4 14))::k) ⟨sL false 1 dI s0::sI s1::Z::Z::Z::sI s5::zs 12 [],[]⟩:=Lp1 (zgc.partial_correctness s0 s1) (by exact fun _ _ _ _=>G zsD.eq_def)
instance g_s_l00Has (p0:List Int) (p1:Int):Lw (PV D.bool) (ziK p0 p1) (zab T 204 [D.sl false 1 (List.map dI p0),dI p1] []):=⟨E (ziK.eq_def ..)⟩
instance p_s_l08Visit_j1 (s0:List Int) (s1:List TValue) (s5:Int):Lp (kN T (enF [.tmp 4] []) fun t=>⟨sL true 1 dI t.1::sL false 4 (TValue.e false) s1::Z::Z::Z::sI s5::zs 22 ([sL false 4 (TValue.e false) s1,sI s5,.d (D.pim (TValue.c false t.2.1) 0),.d (D.pim (TValue.c false t.2.2.1) 3),sI t.2.2.2.1,sL true 1 dI t.2.2.2.2,Z,Z]),[]⟩) (zgd s0 s1 s5) fun k=>go T (enF [.tmp 4] []) zss k ⟨sL true 1 dI s0::sL false 4 (TValue.e false) s1::Z::Z::Z::sI s5::zs 30 [],[]⟩:=⟨fun k=>by
 refine G1 (zgd.eq_def ..) zss.eq_def ?_
 try conv=>arg 3;simp (maxSteps:=999999) only [push_cast,↓reduceIte,seval, *]
 refine Le.idx fun a30 h h_1 h_2=>?_
 try conv=>arg 3;simp (maxSteps:=999999) only [push_cast,↓reduceIte,seval, *]
 refine Le.app fun c34 h_3 h_4=>?_
 replace h_3:List.map (D.int .i64) s0++[D.int .i64 a30.Ref]=List.map (D.int .i64) c34:=by rw [h_3,List.map_append] <;> rfl
 replace h_4:s0.length + 1≤most:=h_4
 exact A⟩
instance p_s_l08Visit_l1 (s1:List TValue):∀ (s0:List Int) (s5:Int),Lp (kN T (enF [.tmp 4] []) fun t=>⟨sL true 1 dI t::sL false 4 (TValue.e false) s1::zs 34 [],[]⟩) (zcI s1 s0 s5) fun k=>go T (enF [.tmp 4] []) zst (.lp zsu::.bl 0::.sq (.clr (rg 4 31))::k) ⟨sL true 1 dI s0::sL false 4 (TValue.e false) s1::Z::Z::Z::sI s5::zs 30 [],[]⟩:=Lp2 (zcI.partial_correctness s1) (by exact fun _ _ _ _ _=>G zst.eq_def)
instance g_s_l08Visit (p0:List Int) (p1:List TValue):Lw (PV (dL true 1 dI)) (zeR p0 p1) (zab T 189 [D.sl true 1 (List.map dI p0),D.sl false 4 (List.map (TValue.e false) p1)] []):=⟨E (zeR.eq_def ..)⟩
instance p_s_l08Contents_l1 (s0:TObject):∀ (s3:List TValue) (s4:Int),Lp (kN T (enF [.tmp 2] []) fun t=>⟨.d (D.pim (TObject.c false s0) 0)::Z::Z::sL true 4 (TValue.e false) t::zs 44 [],[]⟩) (zdg s0 s3 s4) fun k=>go T (enF [.tmp 2] []) zsv (.lp zsw::.bl 0::.sq (.clr [2,4,5,6,7,8,9,10,11,12,13,14,15,16,17,18,19,20,21,22,23,24,25,26,27,28,29,30,31,32,33,34,35,36,37,38,39,40])::k) ⟨.d (D.pim (TObject.c false s0) 0)::Z::Z::sL true 4 (TValue.e false) s3::sI s4::zs 43 [],[]⟩:=Lp2 (zdg.partial_correctness s0) (by
 intro rec _ s3 s4 k
 refine G0 zsv.eq_def ?_
 try conv=>arg 3;simp (maxSteps:=999999) only [push_cast,↓reduceIte,seval, *]
 refine Le.itq (fun h=>?_) (fun h=>?_)
 ·try conv=>arg 3;simp (maxSteps:=999999) only [push_cast,↓reduceIte,seval, *]
  refine Le.idx fun a30 h_1 h_2 h_3=>?_
  try conv=>arg 3;simp (maxSteps:=999999) only [push_cast,↓reduceIte,seval, *]
  refine Le.idx fun a37 h_4 h_5 h_6=>?_
  try conv=>arg 3;simp (maxSteps:=999999) only [push_cast,↓reduceIte,seval, *]
  refine Le.app fun c40 h_7 h_8=>?_
  replace h_7:List.map (TValue.e false) s3++[D.agg [D.int .i64 a30.Kind,D.int .i64 a30.Num,D.str a30.Text,D.int .i64 a30.Ref],D.agg [D.int .i64 a37.Kind,D.int .i64 a37.Num,D.str a37.Text,D.int .i64 a37.Ref]]=List.map (TValue.e false) c40:=by rw [h_7,List.map_append] <;> rfl
  replace h_8:s3.length + 2≤most:=h_8
  exact A
 ·exact A)
instance g_s_l08Contents (p0:TObject):Lw (kT (PV (dL true 4 (TValue.e false))) (PV (dL false 4 (TValue.e false)))) (zeD p0) (zab T 190 [D.pim (TObject.c false p0) 0] []):=⟨by
 refine E0 (h:=?_) (zeD.eq_def ..)
 try conv=>arg 3;simp (maxSteps:=999999) only [push_cast,↓reduceIte,seval, *]
 refine Le.itq (fun h=>?_) (fun h=>?_)
 ·try conv=>arg 3;simp (maxSteps:=999999) only [push_cast,↓reduceIte,seval, *]
  refine Le.via ((p_s_l08Contents_l1 p0 ([]) 0).h _) fun t h_1 _ hy=>?_
  try dsimp only [kS,kT,kN,kX,kR] at hy;first|subst hy|obtain ⟨_,rfl⟩:=hy
  try conv=>arg 3;simp (maxSteps:=999999) only [push_cast,↓reduceIte,seval, *]
  refine Le.app fun c47 h_2 h_3=>?_
  replace h_2:List.map (TValue.e false) t++[D.agg [D.int .i64 p0.Default.Kind,D.int .i64 p0.Default.Num,D.str p0.Default.Text,D.int .i64 p0.Default.Ref]]=List.map (TValue.e false) c47:=by rw [h_2,List.map_append] <;> rfl
  replace h_3:t.length + 1≤most:=h_3
  exact A
 ·exact A⟩
instance p_s_l08Trace_l1 (s0:THeap) (s1:List TValue):∀ (s5:List Int) (s6:Int),Lp (kN T (enF [.tmp 4] []) fun t=>⟨.d (D.pim (THeap.c false s0) 0)::sL false 4 (TValue.e false) s1::Z::Z::Z::sL true 1 dI t::zs 25 [],[]⟩) (zcJ s0 s1 s5 s6) fun k=>go T (enF [.tmp 4] []) zrK (.lp zrL::.bl 0::.sq (.clr [4,6,7,8,9,10,11,12,13,14,15,16,17,18,19,20,21,22,23,24,25,26,27,28,29])::k) ⟨.d (D.pim (THeap.c false s0) 0)::sL false 4 (TValue.e false) s1::Z::Z::Z::sL true 1 dI s5::sI s6::zs 24 [],[]⟩:=Lp2 (zcJ.partial_correctness s0 s1) (by exact fun _ _ _ _ _=>G zrK.eq_def)
instance g_s_l08Trace (p0:THeap) (p1:List TValue):Lw (PV (dL true 1 dI)) (zhf p0 p1) (zab T 152 [D.pim (THeap.c false p0) 0,D.sl false 4 (List.map (TValue.e false) p1)] []):=⟨E (zhf.eq_def ..)⟩
instance p_s_l08New_l1 (s0:List Int) (s1:Int):∀ (s5:Int),Lp (kS (kN T (enF [.tmp 4] []) fun t=>⟨sL false 1 dI s0::sI s1::zs 18 [],[]⟩) (kR (PV dI))) (zge s0 s1 s5) fun k=>go T (enF [.tmp 4] []) zsx (.lp zsy::.bl 0::.sq (.clr (rg 4 16))::k) ⟨sL false 1 dI s0::sI s1::Z::Z::Z::sI s5::zs 14 [],[]⟩:=Lp1 (zge.partial_correctness s0 s1) (by exact fun _ _ _ _=>G zsx.eq_def)
instance g_s_l08New (p0:List Int) (p1:Int):Lw (PV dI) (ziL p0 p1) (zab T 191 [D.sl false 1 (List.map dI p0),dI p1] []):=⟨E (ziL.eq_def ..)⟩
instance g_s_l08Move (p0:List Int) (p1:TValue):Lw (PV (TValue.e false)) (zgH p0 p1) (zab T 155 [D.sl false 1 (List.map dI p0),TValue.e false p1] []):=⟨E (zgH.eq_def ..)⟩
instance p_s_l08MoveAll_l1 (s0:List Int) (s1:List TValue):∀ (s5:List TValue) (s6:Int),Lp (kN T (enF [.tmp 4] []) fun t=>⟨sL false 1 dI s0::sL false 4 (TValue.e false) s1::Z::Z::Z::sL true 4 (TValue.e false) t::zs 18 [],[]⟩) (zdG s0 s1 s5 s6) fun k=>go T (enF [.tmp 4] []) zrO (.lp zrP::.bl 0::.sq (.clr [4,6,7,8,9,10,11,12,13,14,15,16,17,18,19,20,21,22])::k) ⟨sL false 1 dI s0::sL false 4 (TValue.e false) s1::Z::Z::Z::sL true 4 (TValue.e false) s5::sI s6::zs 17 [],[]⟩:=Lp2 (zdG.partial_correctness s0 s1) (by
 intro rec _ s5 s6 k
 refine G0 zrO.eq_def ?_
 try conv=>arg 3;simp (maxSteps:=999999) only [push_cast,↓reduceIte,seval, *]
 refine Le.itq (fun h=>?_) (fun h=>?_)
 ·try conv=>arg 3;simp (maxSteps:=999999) only [push_cast,↓reduceIte,seval, *]
  refine Le.idx fun a18 h_1 h_2 h_3=>?_
  try conv=>arg 3;simp (maxSteps:=999999) only [push_cast,↓reduceIte,seval, *]
  refine Le.call ((g_s_l08Move s0 a18).h) fun r20 h_4 _ hy=>?_
  first|subst hy|obtain ⟨_,rfl⟩:=hy
  try conv=>arg 3;simp (maxSteps:=999999) only [push_cast,↓reduceIte,seval, *]
  refine Le.app fun c22 h_5 h_6=>?_
  replace h_5:List.map (TValue.e false) s5++[D.agg [D.int .i64 r20.Kind,D.int .i64 r20.Num,D.str r20.Text,D.int .i64 r20.Ref]]=List.map (TValue.e false) c22:=by rw [h_5,List.map_append] <;> rfl
  replace h_6:s5.length + 1≤most:=h_6
  exact A
 ·exact A)
instance g_s_l08MoveAll (p0:List Int) (p1:List TValue):Lw (PV (dL true 4 (TValue.e false))) (zdv p0 p1) (zab T 154 [D.sl false 1 (List.map dI p0),D.sl false 4 (List.map (TValue.e false) p1)] []):=⟨E (zdv.eq_def ..)⟩
instance p_s_l08Collect_l1 (s0:THeap) (s1:List TValue) (s4:THeap) (s6:List Int):∀ (s7:THeap) (s8:Int),Lp (kN T (enF [.cell 4 (.many 2),.tmp 5] []) fun t=>⟨.d (D.pim (THeap.c false s0) 0)::sL false 4 (TValue.e false) s1::Z::Z::.box (THeap.c true s4)::Z::sL true 1 dI s6::.box (THeap.c true t)::zs 54 [],[]⟩) (zcw s0 s1 s4 s6 s7 s8) fun k=>go T (enF [.cell 4 (.many 2),.tmp 5] []) zwf (.lp zwg::.bl 0::.sq (.clr [5,8,9,10,11,12,13,14,15,16,17,18,19,20,21,22,23,24,25,26,27,28,29,30,31,32,33,34,35,36,37,38,39,40,41,42,43,44,45,46,47,48,49,50,51,52,53,54,55,56,57])::k) ⟨.d (D.pim (THeap.c false s0) 0)::sL false 4 (TValue.e false) s1::Z::Z::.box (THeap.c true s4)::Z::sL true 1 dI s6::.box (THeap.c true s7)::sI s8::zs 53 [],[]⟩:=Lp2 (zcw.partial_correctness s0 s1 s4 s6) (by
 intro rec _ s7 s8 k
 refine G0 zwf.eq_def ?_
 try conv=>arg 3;simp (maxSteps:=999999) only [push_cast,↓reduceIte,seval, *]
 refine Le.itq (fun h=>?_) (fun h=>?_)
 ·try conv=>arg 3;simp (maxSteps:=999999) only [push_cast,↓reduceIte,seval, *]
  refine Le.idx fun a29 h_1 h_2 h_3=>?_
  try conv=>arg 3;simp (maxSteps:=999999) only [push_cast,↓reduceIte,seval, *]
  refine Le.dcall ((g_s_l07Find s0 a29).h) fun r31 h_4 _ hy=>?_
  first|subst hy|obtain ⟨_,rfl⟩:=hy
  try conv=>arg 3;simp (maxSteps:=999999) only [push_cast,↓reduceIte,seval, *]
  refine Le.idx fun a32 h_5 h_6 h_7=>?_
  try conv=>arg 3;simp (maxSteps:=999999) only [push_cast,↓reduceIte,seval, *]
  refine Le.call ((g_s_l08MoveAll s6 a32.Keys).h) fun r40 h_8 _ hy=>?_
  first|subst hy|obtain ⟨_,rfl⟩:=hy
  try conv=>arg 3;simp (maxSteps:=999999) only [push_cast,↓reduceIte,seval, *]
  refine Le.call ((g_s_l08MoveAll s6 a32.Vals).h) fun r45 h_9 _ hy=>?_
  first|subst hy|obtain ⟨_,rfl⟩:=hy
  try conv=>arg 3;simp (maxSteps:=999999) only [push_cast,↓reduceIte,seval, *]
  refine Le.call ((g_s_l08Move s6 a32.Default).h) fun r50 h_10 _ hy=>?_
  first|subst hy|obtain ⟨_,rfl⟩:=hy
  try conv=>arg 3;simp (maxSteps:=999999) only [push_cast,↓reduceIte,seval, *]
  refine Le.app fun c56 h_11 h_12=>?_
  replace h_11:List.map (TObject.e true) s7.Objects++[D.agg [D.int .i64 (IntKind.wrap .i64 (s8 + 1)),D.int .i64 a32.Kind,D.str a32.Name,D.int .i64 a32.Low,D.sl true 4 (List.map (TValue.e false) r40),D.sl true 4 (List.map (TValue.e false) r45),D.int .i64 r50.Kind,D.int .i64 r50.Num,D.str r50.Text,D.int .i64 r50.Ref]]=List.map (TObject.e true) c56:=by rw [h_11,List.map_append] <;> rfl
  replace h_12:s7.Objects.length + 1≤most:=h_12
  exact A
 ·exact A)
instance g_s_l08Collect (p0:THeap) (p1:List TValue):Lw (PV fun (r:THeap × (List TValue))=>D.tup [THeap.e true r.1,D.sl true 4 (List.map (TValue.e false) r.2)]) (zgI p0 p1) (zab T 91 [D.pim (THeap.c false p0) 0,D.sl false 4 (List.map (TValue.e false) p1)] []):=⟨E (zgI.eq_def ..)⟩
instance g_s_Collect (p0:THeap) (p1:List TValue):Lw (PV fun (r:THeap × (List TValue) × Int)=>D.tup [THeap.e true r.1,D.sl true 4 (List.map (TValue.e false) r.2.1),dI r.2.2]) (zhP p0 p1) (zab T 41 [THeap.e false p0,D.sl false 4 (List.map (TValue.e false) p1)] []):=⟨E (zhP.eq_def ..)⟩
instance p_s_l17Heap_l1 (s1 s2:THeap):∀ (s3:THeap) (s4:Int),Lp (kN T (enF [.cell 2 (.many 2)] []) fun t=>⟨Z::Z::.box (THeap.c true s2)::.box (THeap.c true t)::zs 34 [],[]⟩) (zfp s1 s2 s3 s4) fun k=>go T (enF [.cell 2 (.many 2)] []) zwh (.lp zwi::.bl 0::.sq (.clr [0,1,4,5,6,7,8,9,10,11,12,13,14,15,16,17,18,19,20,21,22,23,24,25,26,27,28,29,30,31,32,33,34,35,36])::k) ⟨Z::.box (THeap.c false s1)::.box (THeap.c true s2)::.box (THeap.c true s3)::sI s4::zs 33 [],[]⟩:=Lp2 (zfp.partial_correctness s1 s2) (by
 intro rec _ s3 s4 k
 refine G0 zwh.eq_def ?_
 try conv=>arg 3;simp (maxSteps:=999999) only [push_cast,↓reduceIte,seval, *]
 refine Le.itq (fun h=>?_) (fun h=>?_)
 ·try conv=>arg 3;simp (maxSteps:=999999) only [push_cast,↓reduceIte,seval, *]
  refine Le.idx fun a19 h_1 h_2 h_3=>?_
  try conv=>arg 3;simp (maxSteps:=999999) only [push_cast,↓reduceIte,seval, *]
  refine Le.chk fun h_4=>?_
  try conv=>arg 3;simp (maxSteps:=999999) only [push_cast,↓reduceIte,seval, *]
  refine Le.chk fun h_5=>?_
  try conv=>arg 3;simp (maxSteps:=999999) only [push_cast,↓reduceIte,seval, *]
  refine Le.app fun c35 h_6 h_7=>?_
  replace h_6:List.map (TObject.e true) s3.Objects++[D.agg [D.int .i64 a19.Id,D.int .i64 a19.Kind,D.str a19.Name,D.int .i64 a19.Low,D.sl true 4 (List.map (TValue.e false) a19.Keys),D.sl true 4 (List.map (TValue.e false) a19.Vals),D.int .i64 a19.Default.Kind,D.int .i64 a19.Default.Num,D.str a19.Default.Text,D.int .i64 a19.Default.Ref]]=List.map (TObject.e true) c35:=by rw [h_6,List.map_append] <;> rfl
  replace h_7:s3.Objects.length + 1≤most:=h_7
  exact A
 ·exact A)
instance g_s_l17Heap (p0:THeap):Lw (PV (THeap.e true)) (zhQ p0) (zab T 92 [THeap.e false p0] []):=⟨E (zhQ.eq_def ..)⟩
instance g_s_l18OwnFunction (p0:TFunction):Lw (PV (TFunction.e true)) (zdh p0) (zab T 156 [TFunction.e false p0] []):=⟨E (zdh.eq_def ..)⟩
instance g_s_l18OwnType (p0:TRecordType):Lw (PV (TRecordType.e true)) (zfq p0) (zab T 157 [TRecordType.e false p0] []):=⟨E (zfq.eq_def ..)⟩
instance p_s_l18Own_l1 (s1 s2:TScope):∀ (s3:TScope) (s4:Int),Lp (kN T (enF [.cell 2 (.many 3)] []) fun t=>⟨Z::.box (TScope.c false s1)::.box (TScope.c true s2)::.box (TScope.c true t)::zs 44 [],[]⟩) (zfb s1 s2 s3 s4) fun k=>go T (enF [.cell 2 (.many 3)] []) zwj (.lp zwk::.bl 0::.sq (.clr [0,4,6,7,8,9,10,11,12,13,14,15,16,17,18,19,20,21,22,23,24,25,26,27,28])::k) ⟨Z::.box (TScope.c false s1)::.box (TScope.c true s2)::.box (TScope.c true s3)::sI s4::zs 43 [],[]⟩:=Lp2 (zfb.partial_correctness s1 s2) (by
 intro rec _ s3 s4 k
 refine G0 zwj.eq_def ?_
 try conv=>arg 3;simp (maxSteps:=999999) only [push_cast,↓reduceIte,seval, *]
 refine Le.itq (fun h=>?_) (fun h=>?_)
 ·try conv=>arg 3;simp (maxSteps:=999999) only [push_cast,↓reduceIte,seval, *]
  refine Le.idx fun a23 h_1 h_2 h_3=>?_
  try conv=>arg 3;simp (maxSteps:=999999) only [push_cast,↓reduceIte,seval, *]
  refine Le.dcall ((g_s_l18OwnFunction a23).h) fun r25 h_4 _ hy=>?_
  first|subst hy|obtain ⟨_,rfl⟩:=hy
  try conv=>arg 3;simp (maxSteps:=999999) only [push_cast,↓reduceIte,seval, *]
  refine Le.app fun c27 h_5 h_6=>?_
  replace h_5:List.map (TFunction.e true) s3.Functions++[D.agg [D.str r25.Name,D.sl true 1 (List.map D.str r25.Params),D.sl true 1 (List.map D.str r25.Locals),D.str r25.Label]]=List.map (TFunction.e true) c27:=by rw [h_5,List.map_append] <;> rfl
  replace h_6:s3.Functions.length + 1≤most:=h_6
  exact A
 ·exact A)
instance p_s_l18Own_l2 (s1 s2:TScope):∀ (s3:TScope) (s5:Int),Lp (kN T (enF [.cell 2 (.many 3)] []) fun t=>⟨Z::Z::.box (TScope.c true s2)::.box (TScope.c true t)::zs 44 [],[]⟩) (zfc s1 s2 s3 s5) fun k=>go T (enF [.cell 2 (.many 3)] []) zwl (.lp zwm::.bl 2::.sq (.clr [0,1,4,5,6,7,8,9,10,11,12,13,14,15,16,17,18,19,20,21,22,23,24,25,26,27,28,29,30,31,32,33,34,35,36,37,38,39,40,41,42,43,44,45,46])::k) ⟨Z::.box (TScope.c false s1)::.box (TScope.c true s2)::.box (TScope.c true s3)::Z::sI s5::zs 42 [],[]⟩:=Lp2 (zfc.partial_correctness s1 s2) (by
 intro rec _ s3 s5 k
 refine G0 zwl.eq_def ?_
 try conv=>arg 3;simp (maxSteps:=999999) only [push_cast,↓reduceIte,seval, *]
 refine Le.itq (fun h=>?_) (fun h=>?_)
 ·try conv=>arg 3;simp (maxSteps:=999999) only [push_cast,↓reduceIte,seval, *]
  refine Le.idx fun a41 h_1 h_2 h_3=>?_
  try conv=>arg 3;simp (maxSteps:=999999) only [push_cast,↓reduceIte,seval, *]
  refine Le.dcall ((g_s_l18OwnType a41).h) fun r43 h_4 _ hy=>?_
  first|subst hy|obtain ⟨_,rfl⟩:=hy
  try conv=>arg 3;simp (maxSteps:=999999) only [push_cast,↓reduceIte,seval, *]
  refine Le.app fun c45 h_5 h_6=>?_
  replace h_5:List.map (TRecordType.e true) s3.Types++[D.agg [D.str r43.Name,D.sl true 1 (List.map D.str r43.Fields)]]=List.map (TRecordType.e true) c45:=by rw [h_5,List.map_append] <;> rfl
  replace h_6:s3.Types.length + 1≤most:=h_6
  exact A
 ·exact A)
instance g_s_l18Own (p0:TScope):Lw (PV (TScope.e true)) (zhR p0) (zab T 93 [TScope.e false p0] []):=⟨E (zhR.eq_def ..)⟩
instance p_s_l17Console_l1 (s1 s2:TConsole):∀ (s3:TConsole) (s4:Int),Lp (kN T (enF [.cell 2 (.many 5)] []) fun t=>⟨Z::Z::.box (TConsole.c true s2)::.box (TConsole.c true t)::zs 41 [],[]⟩) (zdH s1 s2 s3 s4) fun k=>go T (enF [.cell 2 (.many 5)] []) zwn (.lp zwo::.bl 0::.sq (.clr [0,1,4,5,6,7,8,9,10,11,12,13,14,15,16,17,18,19,20,21,22,23,24,25,26,27,28,29,30,31,32,33,34,35,36,37,38,39,40,41,42,43])::k) ⟨Z::.box (TConsole.c false s1)::.box (TConsole.c true s2)::.box (TConsole.c true s3)::sI s4::zs 40 [],[]⟩:=Lp2 (zdH.partial_correctness s1 s2) (by
 intro rec _ s3 s4 k
 refine G0 zwn.eq_def ?_
 try conv=>arg 3;simp (maxSteps:=999999) only [push_cast,↓reduceIte,seval, *]
 refine Le.itq (fun h=>?_) (fun h=>?_)
 ·try conv=>arg 3;simp (maxSteps:=999999) only [push_cast,↓reduceIte,seval, *]
  refine Le.idx fun a31 h_1 h_2 h_3=>?_
  try conv=>arg 3;simp (maxSteps:=999999) only [push_cast,↓reduceIte,seval, *]
  refine Le.chk fun h_4=>?_
  try conv=>arg 3;simp (maxSteps:=999999) only [push_cast,↓reduceIte,seval, *]
  refine Le.app fun c42 h_5 h_6=>?_
  replace h_5:List.map (TFile.e true) s3.Files++[D.agg [D.str a31.Name,D.sl true 1 (List.map D.str a31.Lines),D.int .i64 a31.Mode,D.int .i64 a31.At]]=List.map (TFile.e true) c42:=by rw [h_5,List.map_append] <;> rfl
  replace h_6:s3.Files.length + 1≤most:=h_6
  exact A
 ·exact A)
instance g_s_l17Console (p0:TConsole):Lw (PV (TConsole.e true)) (zfr p0) (zab T 94 [TConsole.e false p0] []):=⟨E (zfr.eq_def ..)⟩
instance g_s_l19Own (p0:TMemory):Lw (PV (TMemory.e true)) (zkZ p0) (zab T 42 [TMemory.e false p0] []):=⟨E (zkZ.eq_def ..)⟩
instance p_s_WithRoots_l1 (s1:List TValue) (s4:TScope):∀ (s6:TScope) (s7:Int),Lp (kN T (enF [.cell 4 (.many 3),.tmp 5] []) fun t=>⟨Z::sL false 4 (TValue.e false) s1::Z::Z::.box (TScope.c true s4)::Z::.box (TScope.c true t)::zs 35 [],[]⟩) (zcY s1 s4 s6 s7) fun k=>go T (enF [.cell 4 (.many 3),.tmp 5] []) zvd (.lp zve::.bl 0::.sq (.clr [0,2,5,7,8,9,10,11,12,13,14,15,16,17,18,19,20,21,22,23,24,25,26,27,28,29,30,31,32,33,34,35,36])::k) ⟨Z::sL false 4 (TValue.e false) s1::Z::Z::.box (TScope.c true s4)::Z::.box (TScope.c true s6)::sI s7::zs 34 [],[]⟩:=Lp2 (zcY.partial_correctness s1 s4) (by
 intro rec _ s6 s7 k
 refine G0 zvd.eq_def ?_
 try conv=>arg 3;simp (maxSteps:=999999) only [push_cast,↓reduceIte,seval, *]
 refine Le.itq (fun h=>?_) (fun h=>?_)
 ·try conv=>arg 3;simp (maxSteps:=999999) only [push_cast,↓reduceIte,seval, *]
  refine Le.idx fun a33 h_1 h_2 h_3=>?_
  try conv=>arg 3;simp (maxSteps:=999999) only [push_cast,↓reduceIte,seval, *]
  refine Le.idx fun a35 h_4 h_5 h_6=>?_
  try conv=>arg 3;simp (maxSteps:=999999) only [push_cast,↓reduceIte,seval, *]
  have f:List.set (List.map (TBinding.e false) s6.Vars) s7.toNat (D.agg [D.str a35.Name,D.int .i64 a33.Kind,D.int .i64 a33.Num,D.str a33.Text,D.int .i64 a33.Ref])=List.map (TBinding.e false) (setN s6.Vars s7.toNat (TBinding.mk a35.Name a33)):=zgB _ _ _ _ rfl
  exact A
 ·exact A)
instance p_s_WithRoots_j1 (s1:List TValue) (s2 s4:TScope):Lp (kR (PV fun (r:TScope × Bool)=>D.tup [TScope.e true r.1,D.bool r.2])) (zfz s1 s2 s4) fun k=>go T (enF [.cell 4 (.many 3),.tmp 5] []) zvf k ⟨Z::sL false 4 (TValue.e false) s1::.box (TScope.c false s2)::Z::.box (TScope.c true s4)::zs 37 [],[]⟩:=⟨fun k=>GG (zfz.eq_def ..) zvf.eq_def⟩
instance g_s_WithRoots (p0:TScope) (p1:List TValue):Lw (PV fun (r:TScope × Bool)=>D.tup [TScope.e true r.1,D.bool r.2]) (zht p0 p1) (zab T 43 [TScope.e false p0,D.sl false 4 (List.map (TValue.e false) p1)] []):=⟨E (zht.eq_def ..)⟩
instance g_s_l20Collect (p0:TMemory):Lw (PV (TMemory.e true)) (zgJ p0) (zab T 15 [TMemory.e false p0] []):=⟨E (zgJ.eq_def ..)⟩
instance g_s_CollectMemory (p0:TMemory):Lw (PV fun (r:TMemory × Int)=>D.tup [TMemory.e true r.1,dI r.2]) (zfd p0) (zab T 5 [TMemory.e false p0] []):=⟨E (zfd.eq_def ..)⟩
end Go.Vx.CmZ
