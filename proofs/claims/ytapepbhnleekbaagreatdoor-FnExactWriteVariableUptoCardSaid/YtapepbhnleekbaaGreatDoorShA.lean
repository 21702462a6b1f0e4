/-
  What the plain functions give, the program gives too.
-/
import Derived.Test.YtapepbhnleekbaaGreatDoorAu
set_option linter.unusedVariables false
set_option linter.unusedSimpArgs false
namespace Go.Vx.WvZ
set_option maxRecDepth 10000
set_option maxHeartbeats 2000000
attribute [local irreducible] go bk exi got
instance g_s_l00In (p0 p1 p2:Int):Lw (PV D.bool) (zdC p0 p1 p2) (zab T 124 [dI p0,dI p1,dI p2] []):=⟨E (zdC.eq_def ..)⟩
instance g_s_l06Plain (p0:TValue) (p1 p2 p3:Bool):Lw (PV D.bool) (zdx p0 p1 p2 p3) (zab T 200 [TValue.e false p0,D.bool p1,D.bool p2,D.bool p3] []):=⟨E (zdx.eq_def ..)⟩
instance g_s_l02Letter (p0:Int):Lw (PV D.bool) (zeW p0) (zab T 122 [D.int .u8 p0] []):=⟨E (zeW.eq_def ..)⟩
instance g_s_l02Digit (p0:Int):Lw (PV D.bool) (zha p0) (zab T 123 [D.int .u8 p0] []):=⟨E (zha.eq_def ..)⟩
instance p_s_l02NameEnd_l1 (s0:ByteArray):∀ (s1:Int),Lp (kN T (enF [.tmp 4] []) fun t=>⟨sT s0::sI t::zs 40 [],[]⟩) (zbd s0 s1) fun k=>go T (enF [.tmp 4] []) zvM (.lp zvN::.bl 0::.sq (.clr (rg 4 37))::k) ⟨sT s0::sI s1::zs 40 [],[]⟩:=Lp1 (zbd.partial_correctness s0) (by exact fun _ _ _ _=>G zvM.eq_def)
instance p_s_l02NameEnd_j1 (s0:ByteArray) (s1:Int):Lp (kR (PV dI)) (zeX s0 s1) fun k=>go T (enF [.tmp 4] []) zvO k ⟨sT s0::sI s1::zs 40 [],[]⟩:=⟨fun k=>GG (zeX.eq_def ..) zvO.eq_def⟩
instance g_s_l02NameEnd (p0:ByteArray) (p1:Int):Lw (PV dI) (zgE p0 p1) (zab T 58 [D.str p0,dI p1] []):=⟨E (zgE.eq_def ..)⟩
instance g_s_IsName (p0:ByteArray):Lw (PV D.bool) (zcH p0) (zab T 22 [D.str p0] []):=⟨E (zcH.eq_def ..)⟩
instance p_s_ValidValue_j1 (s1:TValue) (s45:Bool):Lp (kS (kN T (enF [.tmp 2] []) fun t=>⟨Z::.box (TValue.c false s1)::zs 43 (sB t::zs 9 []),[]⟩) (kR (PV D.bool))) (zdD s1 s45) fun k=>go T (enF [.tmp 2] []) zrH k ⟨Z::.box (TValue.c false s1)::zs 43 (sB s45::zs 9 []),[]⟩:=⟨fun k=>GG (zdD.eq_def ..) zrH.eq_def⟩
instance p_s_ValidValue_j2 (s1:TValue) (s4:Int) (s34:Bool):Lp (kS (kN T (enF [.tmp 2] []) fun t=>⟨Z::.box (TValue.c false s1)::zs 53 [],[]⟩) (kR (PV D.bool))) (zcy s1 s4 s34) fun k=>go T (enF [.tmp 2] []) zrI k ⟨Z::.box (TValue.c false s1)::Z::Z::sI s4::zs 29 (sB s34::zs 20 []),[]⟩:=⟨fun k=>GG (zcy.eq_def ..) zrI.eq_def⟩
instance g_s_ValidValue (p0:TValue):Lw (PV D.bool) (zbv p0) (zab T 117 [TValue.e false p0] []):=⟨E (zbv.eq_def ..)⟩
instance p_s_l07ValidValues_l1 (s0:List TValue) (s1:Int):∀ (s5:Int),Lp (kS (kN T (enF [.tmp 4] []) fun t=>⟨sL false 4 (TValue.e false) s0::sI s1::zs 20 [],[]⟩) (kR (PV D.bool))) (zbU s0 s1 s5) fun k=>go T (enF [.tmp 4] []) zsM (.lp zsN::.bl 0::.sq (.clr (rg 4 18))::k) ⟨sL false 4 (TValue.e false) s0::sI s1::Z::Z::Z::sI s5::zs 16 [],[]⟩:=Lp1 (zbU.partial_correctness s0 s1) (by exact fun _ _ _ _=>G zsM.eq_def)
instance g_s_l07ValidValues (p0:List TValue) (p1:Int):Lw (PV D.bool) (zbs p0 p1) (zab T 204 [D.sl false 4 (List.map (TValue.e false) p0),dI p1] []):=⟨E (zbs.eq_def ..)⟩
instance g_s_SameValue (p0 p1:TValue):Lw (PV D.bool) (zgb p0 p1) (zab T 235 [TValue.e false p0,TValue.e false p1] []):=⟨E (zgb.eq_def ..)⟩
instance p_s_l07Distinct_l1 (s0:List TValue) (s3:Int):∀ (s4:Int),Lp (kS (kN T (enF [.tmp 2] []) fun t=>⟨sL false 4 (TValue.e false) s0::Z::Z::sI s3::zs 21 [],[]⟩) (kR (PV D.bool))) (zcd s0 s3 s4) fun k=>go T (enF [.tmp 2] []) zsO (.lp zsP::.bl 2::.sq (.clr [2,4,5,6,7,8,9,10,11,12,13,14,15,16,17,18,19,20,21,22,23,24])::k) ⟨sL false 4 (TValue.e false) s0::Z::Z::sI s3::sI s4::zs 20 [],[]⟩:=Lp1 (zcd.partial_correctness s0 s3) (by exact fun _ _ _ _=>G zsO.eq_def)
instance p_s_l07Distinct_l2 (s0:List TValue):∀ (s3:Int),Lp (kS (kN T (enF [.tmp 2] []) fun t=>⟨sL false 4 (TValue.e false) s0::zs 24 [],[]⟩) (kR (PV D.bool))) (zdg s0 s3) fun k=>go T (enF [.tmp 2] []) zsQ (.lp zsR::.bl 0::.sq (.clr (rg 2 23))::k) ⟨sL false 4 (TValue.e false) s0::Z::Z::sI s3::zs 21 [],[]⟩:=Lp1 (zdg.partial_correctness s0) (by exact fun _ _ _ _=>G zsQ.eq_def)
instance g_s_l07Distinct (p0:List TValue):Lw (PV D.bool) (zdE p0) (zab T 205 [D.sl false 4 (List.map (TValue.e false) p0)] []):=⟨E (zdE.eq_def ..)⟩
instance p_s_l07FieldNames_l1 (s0:List TValue):∀ (s3:Int),Lp (kS (kN T (enF [.tmp 2] []) fun t=>⟨sL false 4 (TValue.e false) s0::zs 35 [],[]⟩) (kR (PV D.bool))) (zcm s0 s3) fun k=>go T (enF [.tmp 2] []) zsS (.lp zsT::.bl 0::.sq (.clr (rg 2 23))::k) ⟨sL false 4 (TValue.e false) s0::Z::Z::sI s3::zs 32 [],[]⟩:=Lp1 (zcm.partial_correctness s0) (by exact fun _ _ _ _=>G zsS.eq_def)
instance g_s_l07FieldNames (p0:List TValue):Lw (PV D.bool) (zdF p0) (zab T 206 [D.sl false 4 (List.map (TValue.e false) p0)] []):=⟨E (zdF.eq_def ..)⟩
instance p_s_l07Object_j1 (s1:TObject):Lp (kR (PV D.bool)) (zed s1) fun k=>go T (enF [.tmp 2] []) zrN k ⟨Z::.box (TObject.c false s1)::zs 99 [],[]⟩:=⟨fun k=>GG (zed.eq_def ..) zrN.eq_def⟩
instance g_s_l07Object (p0:TObject):Lw (PV D.bool) (zgc p0) (zab T 125 [TObject.e false p0] []):=⟨E (zgc.eq_def ..)⟩
instance g_s_l07IsRef (p0:TValue):Lw (PV D.bool) (zin p0) (zab T 127 [TValue.e false p0] []):=⟨E (zin.eq_def ..)⟩
instance p_s_l07Find_l1 (s0:THeap) (s1:Int):∀ (s5:Int),Lp (kS (kN T (enF [.tmp 4] []) fun t=>⟨.d (D.pim (THeap.c false s0) 0)::sI s1::zs 24 [],[]⟩) (kR (PV dI))) (zei s0 s1 s5) fun k=>go T (enF [.tmp 4] []) zrO (.lp zrP::.bl 0::.sq (.clr (rg 4 22))::k) ⟨.d (D.pim (THeap.c false s0) 0)::sI s1::Z::Z::Z::sI s5::zs 20 [],[]⟩:=Lp1 (zei.partial_correctness s0 s1) (by exact fun _ _ _ _=>G zrO.eq_def)
instance g_s_l07Find (p0:THeap) (p1:Int):Lw (PV dI) (zhK p0 p1) (zab T 128 [D.pim (THeap.c false p0) 0,dI p1] []):=⟨E (zhK.eq_def ..)⟩
instance g_s_l07ObjectKind (p0:Int):Lw (PV dI) (zeY p0) (zab T 129 [dI p0] []):=⟨E (zeY.eq_def ..)⟩
instance g_s_l07Fits (p0:THeap) (p1:TValue):Lw (PV D.bool) (zeZ p0 p1) (zab T 60 [D.pim (THeap.c false p0) 0,TValue.e false p1] []):=⟨E (zeZ.eq_def ..)⟩
instance p_s_l07FitAll_l1 (s0:THeap) (s1:List TValue):∀ (s5:Int),Lp (kS (kN T (enF [.tmp 4] []) fun t=>⟨.d (D.pim (THeap.c false s0) 0)::sL false 4 (TValue.e false) s1::zs 17 [],[]⟩) (kR (PV D.bool))) (zee s0 s1 s5) fun k=>go T (enF [.tmp 4] []) zsU (.lp zsV::.bl 0::.sq (.clr (rg 4 15))::k) ⟨.d (D.pim (THeap.c false s0) 0)::sL false 4 (TValue.e false) s1::Z::Z::Z::sI s5::zs 13 [],[]⟩:=Lp1 (zee.partial_correctness s0 s1) (by exact fun _ _ _ _=>G zsU.eq_def)
instance g_s_l07FitAll (p0:THeap) (p1:List TValue):Lw (PV D.bool) (zfa p0 p1) (zab T 207 [D.pim (THeap.c false p0) 0,D.sl false 4 (List.map (TValue.e false) p1)] []):=⟨E (zfa.eq_def ..)⟩
instance g_s_l07Refs (p0:THeap) (p1:TObject):Lw (PV D.bool) (zhL p0 p1) (zab T 126 [D.pim (THeap.c false p0) 0,D.pim (TObject.c false p1) 0] []):=⟨E (zhL.eq_def ..)⟩
instance p_s_l07Ok_l1 (s0:THeap):∀ (s3:Int),Lp (kS (kN T (enF [.tmp 2] []) fun t=>⟨.d (D.pim (THeap.c false s0) 0)::zs 83 [],[]⟩) (kR (PV D.bool))) (zeR s0 s3) fun k=>go T (enF [.tmp 2] []) zvP (.lp zvQ::.bl 0::.sq (.clr [2,3,4,6,7,8,9,10,11,12,13,14,15,16,17,18,19,20,21,22,23,24,25,26,27,28,29,30,31,32,33,34,35,36,37,38,39,40,41,42,43,44,45,46,47,48,49,50,51,52,53,54,55,56,57,58,59,60,61,62,63,64,65])::k) ⟨.d (D.pim (THeap.c false s0) 0)::Z::Z::sI s3::zs 80 [],[]⟩:=Lp1 (zeR.partial_correctness s0) (by exact fun _ _ _ _=>G zvP.eq_def)
instance p_s_l07Ok_l2 (s0:THeap):∀ (s5:Int),Lp (kS (kN T (enF [.tmp 2] []) fun t=>⟨.d (D.pim (THeap.c false s0) 0)::zs 83 [],[]⟩) (kR (PV D.bool))) (zfP s0 s5) fun k=>go T (enF [.tmp 2] []) zvR (.lp zvS::.bl 2::.sq (.clr (rg 2 82))::k) ⟨.d (D.pim (THeap.c false s0) 0)::zs 4 (sI s5::zs 78 []),[]⟩:=Lp1 (zfP.partial_correctness s0) (by exact fun _ _ _ _=>G zvR.eq_def)
instance p_s_l07Ok_j1 (s0:THeap):Lp (kR (PV D.bool)) (zio s0) fun k=>go T (enF [.tmp 2] []) zvT k ⟨.d (D.pim (THeap.c false s0) 0)::zs 83 [],[]⟩:=⟨fun k=>GG (zio.eq_def ..) zvT.eq_def⟩
instance g_s_l07Ok (p0:THeap):Lw (PV D.bool) (zjA p0) (zab T 59 [D.pim (THeap.c false p0) 0] []):=⟨E (zjA.eq_def ..)⟩
instance g_s_ValidHeap (p0:THeap):Lw (PV D.bool) (zfb p0) (zab T 53 [THeap.e false p0] []):=⟨E (zfb.eq_def ..)⟩
instance g_s_IsNull (p0:TValue):Lw (PV D.bool) (ziS p0) (zab T 118 [TValue.e false p0] []):=⟨E (ziS.eq_def ..)⟩
instance p_s_l17At_l1 (s0:List ByteArray) (s1:ByteArray):∀ (s5:Int),Lp (kS (kN T (enF [.tmp 4] []) fun t=>⟨sL false 1 D.str s0::sT s1::zs 17 [],[]⟩) (kR (PV dI))) (zfQ s0 s1 s5) fun k=>go T (enF [.tmp 4] []) ztj (.lp ztk::.bl 0::.sq (.clr (rg 4 15))::k) ⟨sL false 1 D.str s0::sT s1::Z::Z::Z::sI s5::zs 13 [],[]⟩:=Lp1 (zfQ.partial_correctness s0 s1) (by exact fun _ _ _ _=>G ztj.eq_def)
instance g_s_l17At (p0:List ByteArray) (p1:ByteArray):Lw (PV dI) (zlA p0 p1) (zab T 234 [D.sl false 1 (List.map D.str p0),D.str p1] []):=⟨E (zlA.eq_def ..)⟩
instance p_s_l18Names_l1 (s0:List ByteArray):∀ (s3:Int),Lp (kS (kN T (enF [.tmp 2] []) fun t=>⟨sL false 1 D.str s0::zs 25 [],[]⟩) (kR (PV D.bool))) (zeB s0 s3) fun k=>go T (enF [.tmp 2] []) zsH (.lp zsI::.bl 0::.sq (.clr (rg 2 24))::k) ⟨sL false 1 D.str s0::Z::Z::sI s3::zs 22 [],[]⟩:=Lp1 (zeB.partial_correctness s0) (by exact fun _ _ _ _=>G zsH.eq_def)
instance g_s_l18Names (p0:List ByteArray):Lw (PV D.bool) (zfR p0) (zab T 201 [D.sl false 1 (List.map D.str p0)] []):=⟨E (zfR.eq_def ..)⟩
instance p_s_l18Function_j1 (s1:TFunction):Lp (kR (PV D.bool)) (zer s1) fun k=>go T (enF [.tmp 2] []) zrJ k ⟨Z::.box (TFunction.c false s1)::zs 31 [],[]⟩:=⟨fun k=>by
 refine G1 (zer.eq_def ..) zrJ.eq_def ?_
 try conv=>arg 3;simp (maxSteps:=999999) only [push_cast,↓reduceIte,seval, *]
 refine Le.chk fun h=>?_
 try conv=>arg 3;simp (maxSteps:=999999) only [push_cast,↓reduceIte,seval, *]
 refine Le.app fun c31 h_1 h_2=>?_
 replace h_1:List.map D.str s1.Params++List.map D.str s1.Locals=List.map D.str c31:=by rw [h_1,List.map_append] <;> first|rfl|simp only [eqs]
 replace h_2:s1.Params.length + s1.Locals.length<=most:=h_2
 exact A⟩
instance g_s_l18Function (p0:TFunction):Lw (PV D.bool) (zeC p0) (zab T 119 [TFunction.e false p0] []):=⟨E (zeC.eq_def ..)⟩
instance g_s_l18Type (p0:TRecordType):Lw (PV D.bool) (zhM p0) (zab T 120 [TRecordType.e false p0] []):=⟨E (zhM.eq_def ..)⟩
instance p_s_ValidScope_l1 (s1:TScope):∀ (s3:Int),Lp (kS (kN T (enF [.tmp 2] []) fun t=>⟨Z::.box (TScope.c false s1)::zs 132 [],[]⟩) (kR (PV D.bool))) (zbL s1 s3) fun k=>go T (enF [.tmp 2] []) zvB (.lp zvC::.bl 0::.sq (.clr [0,2,3,4,7,8,9,10,11,12,13,14,15,16,17,18,19,20,21,22,23,24,25,26,27,28,29,30,31,32,33,34,35,36,37,38,39,40,41,42,43,44,45,46,47,48,49,50,51,52,53,54,55,56,57,58,59,60,61,62,63,64,65])::k) ⟨Z::.box (TScope.c false s1)::Z::sI s3::zs 130 [],[]⟩:=Lp1 (zbL.partial_correctness s1) (by exact fun _ _ _ _=>G zvB.eq_def)
instance p_s_ValidScope_l2 (s1:TScope):∀ (s5:Int),Lp (kS (kN T (enF [.tmp 2] []) fun t=>⟨Z::.box (TScope.c false s1)::zs 132 [],[]⟩) (kR (PV D.bool))) (zbM s1 s5) fun k=>go T (enF [.tmp 2] []) zvD (.lp zvE::.bl 2::.sq (.clr [0,2,3,4,5,7,8,9,10,11,12,13,14,15,16,17,18,19,20,21,22,23,24,25,26,27,28,29,30,31,32,33,34,35,36,37,38,39,40,41,42,43,44,45,46,47,48,49,50,51,52,53,54,55,56,57,58,59,60,61,62,63,64,65,66,67,68,69,70,71,72,73,74,75,76,77,78,79,80,81,82,83,84,85,86,87,88,89,90,91,92,93,94,95,96,97,98,99])::k) ⟨Z::.box (TScope.c false s1)::Z::Z::Z::sI s5::zs 128 [],[]⟩:=Lp1 (zbM.partial_correctness s1) (by exact fun _ _ _ _=>G zvD.eq_def)
instance p_s_ValidScope_l3 (s1:TScope):∀ (s6:Int),Lp (kS (kN T (enF [.tmp 2] []) fun t=>⟨zs 134 [],[]⟩) (kR (PV D.bool))) (zbN s1 s6) fun k=>go T (enF [.tmp 2] []) zvF (.lp zvG::.bl 4::.sq (.clr (rg 0 134))::k) ⟨Z::.box (TScope.c false s1)::zs 4 (sI s6::zs 127 []),[]⟩:=Lp1 (zbN.partial_correctness s1) (by exact fun _ _ _ _=>G zvF.eq_def)
instance p_s_ValidScope_j1 (s1:TScope):Lp (kR (PV D.bool)) (zfc s1) fun k=>go T (enF [.tmp 2] []) zvH k ⟨Z::.box (TScope.c false s1)::zs 132 [],[]⟩:=⟨fun k=>GG (zfc.eq_def ..) zvH.eq_def⟩
instance g_s_ValidScope (p0:TScope):Lw (PV D.bool) (zej p0) (zab T 54 [TScope.e false p0] []):=⟨E (zej.eq_def ..)⟩
instance p_s_l21Lines_l1 (s0:List ByteArray) (s1 s2:Int):∀ (s7:Int),Lp (kS (kN T (enF [.tmp 6] []) fun t=>⟨sL false 1 D.str s0::sI s1::sI s2::zs 22 [],[]⟩) (kR (PV D.bool))) (zdG s0 s1 s2 s7) fun k=>go T (enF [.tmp 6] []) zsJ (.lp zsK::.bl 0::.sq (.clr (rg 6 19))::k) ⟨sL false 1 D.str s0::sI s1::sI s2::zs 4 (sI s7::zs 17 []),[]⟩:=Lp1 (zdG.partial_correctness s0 s1 s2) (by exact fun _ _ _ _=>G zsJ.eq_def)
instance g_s_l21Lines (p0:List ByteArray) (p1 p2:Int):Lw (PV D.bool) (zdY p0 p1 p2) (zab T 202 [D.sl false 1 (List.map D.str p0),dI p1,dI p2] []):=⟨E (zdY.eq_def ..)⟩
instance p_s_l21File_j1 (s1:TFile):Lp (kR (PV D.bool)) (zgF s1) fun k=>go T (enF [.tmp 2] []) zsL k ⟨Z::.box (TFile.c false s1)::zs 33 [],[]⟩:=⟨fun k=>GG (zgF.eq_def ..) zsL.eq_def⟩
instance g_s_l21File (p0:TFile):Lw (PV D.bool) (zhN p0) (zab T 203 [TFile.e false p0] []):=⟨E (zhN.eq_def ..)⟩
instance p_s_l21Ok_l1 (s0:TConsole):∀ (s3:Int),Lp (kS (kN T (enF [.tmp 2] []) fun t=>⟨.d (D.pim (TConsole.c false s0) 0)::zs 88 [],[]⟩) (kR (PV D.bool))) (zeS s0 s3) fun k=>go T (enF [.tmp 2] []) zrK (.lp zrL::.bl 0::.sq (.clr (rg 2 87))::k) ⟨.d (D.pim (TConsole.c false s0) 0)::Z::Z::sI s3::zs 85 [],[]⟩:=Lp1 (zeS.partial_correctness s0) (by exact fun _ _ _ _=>G zrK.eq_def)
instance p_s_l21Ok_j1 (s0:TConsole):Lp (kR (PV D.bool)) (zip s0) fun k=>go T (enF [.tmp 2] []) zrM k ⟨.d (D.pim (TConsole.c false s0) 0)::zs 88 [],[]⟩:=⟨fun k=>GG (zip.eq_def ..) zrM.eq_def⟩
instance g_s_l21Ok (p0:TConsole):Lw (PV D.bool) (ziq p0) (zab T 121 [D.pim (TConsole.c false p0) 0] []):=⟨E (ziq.eq_def ..)⟩
instance g_s_ValidConsole (p0:TConsole):Lw (PV D.bool) (zcW p0) (zab T 55 [TConsole.e false p0] []):=⟨E (zcW.eq_def ..)⟩
instance p_s_ScopeRoots_l1 (s1:TScope):∀ (s3:List TValue) (s4:Int),Lp (kN T (enF [.tmp 2] []) fun t=>⟨Z::Z::Z::sL true 4 (TValue.e false) t::zs 22 [],[]⟩) (zdH s1 s3 s4) fun k=>go T (enF [.tmp 2] []) zvK (.lp zvL::.bl 0::.sq (.clr [0,1,2,4,5,6,7,8,9,10,11,12,13,14,15,16,17,18,19,20,21,22,23,24])::k) ⟨Z::.box (TScope.c false s1)::Z::sL true 4 (TValue.e false) s3::sI s4::zs 21 [],[]⟩:=Lp2 (zdH.partial_correctness s1) (by
 intro rec _ s3 s4 k
 refine G0 zvK.eq_def ?_
 try conv=>arg 3;simp (maxSteps:=999999) only [push_cast,↓reduceIte,seval, *]
 refine Le.itq (fun h=>?_) (fun h=>?_)
 ·try conv=>arg 3;simp (maxSteps:=999999) only [push_cast,↓reduceIte,seval, *]
  refine Le.idx fun a20 h_1 h_2 h_3=>?_
  try conv=>arg 3;simp (maxSteps:=999999) only [push_cast,↓reduceIte,seval, *]
  refine Le.app fun c24 h_4 h_5=>?_
  replace h_4:List.map (TValue.e false) s3++[D.agg [D.int .i64 a20.Value.Kind,D.int .i64 a20.Value.Num,D.str a20.Value.Text,D.int .i64 a20.Value.Ref]]=List.map (TValue.e false) c24:=by rw [h_4,List.map_append] <;> first|rfl|simp only [eqs]
  replace h_5:s3.length + 1<=most:=h_5
  exact A
 ·exact A)
instance g_s_ScopeRoots (p0:TScope):Lw (PV (dL true 4 (TValue.e false))) (zfp p0) (zab T 57 [TScope.e false p0] []):=⟨E (zfp.eq_def ..)⟩
instance g_s_FitsHeap (p0:THeap) (p1:TValue):Lw (PV D.bool) (zeT p0 p1) (zab T 23 [THeap.e false p0,TValue.e false p1] []):=⟨E (zeT.eq_def ..)⟩
instance p_s_l17Fits_l1 (s1:List TValue) (s2:THeap):∀ (s5:Int),Lp (kS (kN T (enF [.tmp 4] []) fun t=>⟨Z::sL false 4 (TValue.e false) s1::.box (THeap.c false s2)::zs 18 [],[]⟩) (kR (PV D.bool))) (zek s1 s2 s5) fun k=>go T (enF [.tmp 4] []) zvI (.lp zvJ::.bl 0::.sq (.clr [0,4,5,6,7,8,9,10,11,12,13,14,15,16,17,18])::k) ⟨Z::sL false 4 (TValue.e false) s1::.box (THeap.c false s2)::Z::Z::sI s5::zs 15 [],[]⟩:=Lp1 (zek.partial_correctness s1 s2) (by exact fun _ _ _ _=>G zvI.eq_def)
instance g_s_l17Fits (p0:THeap) (p1:List TValue):Lw (PV D.bool) (zhO p0 p1) (zab T 56 [THeap.e false p0,D.sl false 4 (List.map (TValue.e false) p1)] []):=⟨E (zhO.eq_def ..)⟩
instance g_s_ValidMemory (p0:TMemory):Lw (PV D.bool) (zeD p0) (zab T 21 [TMemory.e false p0] []):=⟨E (zeD.eq_def ..)⟩
instance p_s_l17Heap_l1 (s1 s2:THeap):∀ (s3:THeap) (s4:Int),Lp (kN T (enF [.cell 2 (.many 2)] []) fun t=>⟨Z::Z::.box (THeap.c true s2)::.box (THeap.c true t)::zs 34 [],[]⟩) (zfq s1 s2 s3 s4) fun k=>go T (enF [.cell 2 (.many 2)] []) zvU (.lp zvV::.bl 0::.sq (.clr [0,1,4,5,6,7,8,9,10,11,12,13,14,15,16,17,18,19,20,21,22,23,24,25,26,27,28,29,30,31,32,33,34,35,36])::k) ⟨Z::.box (THeap.c false s1)::.box (THeap.c true s2)::.box (THeap.c true s3)::sI s4::zs 33 [],[]⟩:=Lp2 (zfq.partial_correctness s1 s2) (by
 intro rec _ s3 s4 k
 refine G0 zvU.eq_def ?_
 try conv=>arg 3;simp (maxSteps:=999999) only [push_cast,↓reduceIte,seval, *]
 refine Le.itq (fun h=>?_) (fun h=>?_)
 ·try conv=>arg 3;simp (maxSteps:=999999) only [push_cast,↓reduceIte,seval, *]
  refine Le.idx fun a19 h_1 h_2 h_3=>?_
  try conv=>arg 3;simp (maxSteps:=999999) only [push_cast,↓reduceIte,seval, *]
  refine Le.chk fun h_4=>?_
  try conv=>arg 3;simp (maxSteps:=999999) only [push_cast,↓reduceIte,seval, *]
  refine Le.chk fun h_5=>?_
  try conv=>arg 3;simp (maxSteps:=999999) only [push_cast,↓reduceIte,seval, *]
  refine Le.app fun c35 h_6 h_7=>?_
  replace h_6:List.map (TObject.e true) s3.Objects++[D.agg [D.int .i64 a19.Id,D.int .i64 a19.Kind,D.str a19.Name,D.int .i64 a19.Low,D.sl true 4 (List.map (TValue.e false) a19.Keys),D.sl true 4 (List.map (TValue.e false) a19.Vals),D.int .i64 a19.Default.Kind,D.int .i64 a19.Default.Num,D.str a19.Default.Text,D.int .i64 a19.Default.Ref]]=List.map (TObject.e true) c35:=by rw [h_6,List.map_append] <;> first|rfl|simp only [eqs]
  replace h_7:s3.Objects.length + 1<=most:=h_7
  exact A
 ·exact A)
instance g_s_l17Heap (p0:THeap):Lw (PV (THeap.e true)) (zhP p0) (zab T 61 [THeap.e false p0] []):=⟨E (zhP.eq_def ..)⟩
instance g_s_l18OwnFunction (p0:TFunction):Lw (PV (TFunction.e true)) (zdh p0) (zab T 130 [TFunction.e false p0] []):=⟨E (zdh.eq_def ..)⟩
instance g_s_l18OwnType (p0:TRecordType):Lw (PV (TRecordType.e true)) (zfr p0) (zab T 131 [TRecordType.e false p0] []):=⟨E (zfr.eq_def ..)⟩
instance p_s_l18Own_l1 (s1 s2:TScope):∀ (s3:TScope) (s4:Int),Lp (kN T (enF [.cell 2 (.many 3)] []) fun t=>⟨Z::.box (TScope.c false s1)::.box (TScope.c true s2)::.box (TScope.c true t)::zs 44 [],[]⟩) (zfd s1 s2 s3 s4) fun k=>go T (enF [.cell 2 (.many 3)] []) zvW (.lp zvX::.bl 0::.sq (.clr [0,4,6,7,8,9,10,11,12,13,14,15,16,17,18,19,20,21,22,23,24,25,26,27,28])::k) ⟨Z::.box (TScope.c false s1)::.box (TScope.c true s2)::.box (TScope.c true s3)::sI s4::zs 43 [],[]⟩:=Lp2 (zfd.partial_correctness s1 s2) (by
 intro rec _ s3 s4 k
 refine G0 zvW.eq_def ?_
 try conv=>arg 3;simp (maxSteps:=999999) only [push_cast,↓reduceIte,seval, *]
 refine Le.itq (fun h=>?_) (fun h=>?_)
 ·try conv=>arg 3;simp (maxSteps:=999999) only [push_cast,↓reduceIte,seval, *]
  refine Le.idx fun a23 h_1 h_2 h_3=>?_
  try conv=>arg 3;simp (maxSteps:=999999) only [push_cast,↓reduceIte,seval, *]
  refine Le.dcall ((g_s_l18OwnFunction a23).h) fun r25 h_4 _ hy=>?_
  first|subst hy|obtain ⟨_,rfl⟩:=hy
  try conv=>arg 3;simp (maxSteps:=999999) only [push_cast,↓reduceIte,seval, *]
  refine Le.app fun c27 h_5 h_6=>?_
  replace h_5:List.map (TFunction.e true) s3.Functions++[D.agg [D.str r25.Name,D.sl true 1 (List.map D.str r25.Params),D.sl true 1 (List.map D.str r25.Locals),D.str r25.Label]]=List.map (TFunction.e true) c27:=by rw [h_5,List.map_append] <;> first|rfl|simp only [eqs]
  replace h_6:s3.Functions.length + 1<=most:=h_6
  exact A
 ·exact A)
instance p_s_l18Own_l2 (s1 s2:TScope):∀ (s3:TScope) (s5:Int),Lp (kN T (enF [.cell 2 (.many 3)] []) fun t=>⟨Z::Z::.box (TScope.c true s2)::.box (TScope.c true t)::zs 44 [],[]⟩) (zfe s1 s2 s3 s5) fun k=>go T (enF [.cell 2 (.many 3)] []) zvY (.lp zvZ::.bl 2::.sq (.clr [0,1,4,5,6,7,8,9,10,11,12,13,14,15,16,17,18,19,20,21,22,23,24,25,26,27,28,29,30,31,32,33,34,35,36,37,38,39,40,41,42,43,44,45,46])::k) ⟨Z::.box (TScope.c false s1)::.box (TScope.c true s2)::.box (TScope.c true s3)::Z::sI s5::zs 42 [],[]⟩:=Lp2 (zfe.partial_correctness s1 s2) (by
 intro rec _ s3 s5 k
 refine G0 zvY.eq_def ?_
 try conv=>arg 3;simp (maxSteps:=999999) only [push_cast,↓reduceIte,seval, *]
 refine Le.itq (fun h=>?_) (fun h=>?_)
 ·try conv=>arg 3;simp (maxSteps:=999999) only [push_cast,↓reduceIte,seval, *]
  refine Le.idx fun a41 h_1 h_2 h_3=>?_
  try conv=>arg 3;simp (maxSteps:=999999) only [push_cast,↓reduceIte,seval, *]
  refine Le.dcall ((g_s_l18OwnType a41).h) fun r43 h_4 _ hy=>?_
  first|subst hy|obtain ⟨_,rfl⟩:=hy
  try conv=>arg 3;simp (maxSteps:=999999) only [push_cast,↓reduceIte,seval, *]
  refine Le.app fun c45 h_5 h_6=>?_
  replace h_5:List.map (TRecordType.e true) s3.Types++[D.agg [D.str r43.Name,D.sl true 1 (List.map D.str r43.Fields)]]=List.map (TRecordType.e true) c45:=by rw [h_5,List.map_append] <;> first|rfl|simp only [eqs]
  replace h_6:s3.Types.length + 1<=most:=h_6
  exact A
 ·exact A)
instance g_s_l18Own (p0:TScope):Lw (PV (TScope.e true)) (zhQ p0) (zab T 62 [TScope.e false p0] []):=⟨E (zhQ.eq_def ..)⟩
instance p_s_l17Console_l1 (s1 s2:TConsole):∀ (s3:TConsole) (s4:Int),Lp (kN T (enF [.cell 2 (.many 5)] []) fun t=>⟨Z::Z::.box (TConsole.c true s2)::.box (TConsole.c true t)::zs 41 [],[]⟩) (zdI s1 s2 s3 s4) fun k=>go T (enF [.cell 2 (.many 5)] []) zwa (.lp zwb::.bl 0::.sq (.clr [0,1,4,5,6,7,8,9,10,11,12,13,14,15,16,17,18,19,20,21,22,23,24,25,26,27,28,29,30,31,32,33,34,35,36,37,38,39,40,41,42,43])::k) ⟨Z::.box (TConsole.c false s1)::.box (TConsole.c true s2)::.box (TConsole.c true s3)::sI s4::zs 40 [],[]⟩:=Lp2 (zdI.partial_correctness s1 s2) (by
 intro rec _ s3 s4 k
 refine G0 zwa.eq_def ?_
 try conv=>arg 3;simp (maxSteps:=999999) only [push_cast,↓reduceIte,seval, *]
 refine Le.itq (fun h=>?_) (fun h=>?_)
 ·try conv=>arg 3;simp (maxSteps:=999999) only [push_cast,↓reduceIte,seval, *]
  refine Le.idx fun a31 h_1 h_2 h_3=>?_
  try conv=>arg 3;simp (maxSteps:=999999) only [push_cast,↓reduceIte,seval, *]
  refine Le.chk fun h_4=>?_
  try conv=>arg 3;simp (maxSteps:=999999) only [push_cast,↓reduceIte,seval, *]
  refine Le.app fun c42 h_5 h_6=>?_
  replace h_5:List.map (TFile.e true) s3.Files++[D.agg [D.str a31.Name,D.sl true 1 (List.map D.str a31.Lines),D.int .i64 a31.Mode,D.int .i64 a31.At]]=List.map (TFile.e true) c42:=by rw [h_5,List.map_append] <;> first|rfl|simp only [eqs]
  replace h_6:s3.Files.length + 1<=most:=h_6
  exact A
 ·exact A)
instance g_s_l17Console (p0:TConsole):Lw (PV (TConsole.e true)) (zfs p0) (zab T 63 [TConsole.e false p0] []):=⟨E (zfs.eq_def ..)⟩
instance g_s_l19Own (p0:TMemory):Lw (PV (TMemory.e true)) (ziT p0) (zab T 24 [TMemory.e false p0] []):=⟨E (ziT.eq_def ..)⟩
instance p_s_l06Digits_j1 (s0:Int) (s3:ByteArray) (s4 s5:Int):Lp (kN T (enF [.tmp 2] []) fun t=>⟨sI s0::Z::Z::sT t.1::sI s4::sI s5::zs 13 (sI s5::sI t.2.1::.d (D.int .u8 t.2.2.1)::sL true 1 (D.int .u8) t.2.2.2.1::sT t.2.2.2.2.1::sT s3::sT t.2.2.2.2.2::zs 5 []),[]⟩) (zcX s0 s3 s4 s5) fun k=>go T (enF [.tmp 2] []) zrQ k ⟨sI s0::Z::Z::sT s3::sI s4::sI s5::zs 25 [],[]⟩:=⟨fun k=>GG (zcX.eq_def ..) zrQ.eq_def⟩
instance p_s_l06Digits_l1 (s0:Int):∀ (s3:ByteArray) (s4:Int),Lp (kN T (enF [.tmp 2] []) fun t=>⟨sI s0::Z::Z::sT t::zs 27 [],[]⟩) (zbA s0 s3 s4) fun k=>go T (enF [.tmp 2] []) zrR (.lp zrS::.bl 0::.sq (.clr [2,4,5,6,7,8,9,10,11,12,13,14,15,16,17,18,19,20,21,22,23,24,25])::k) ⟨sI s0::Z::Z::sT s3::sI s4::zs 26 [],[]⟩:=Lp2 (zbA.partial_correctness s0) (by exact fun _ _ _ _ _=>G zrR.eq_def)
instance g_s_l06Digits (p0:Int):Lw (PV D.str) (zgd p0) (zab T 132 [dI p0] []):=⟨E (zgd.eq_def ..)⟩
instance g_s_ToText (p0:TValue):Lw (PV fun (r:ByteArray × Bool)=>D.tup [D.str r.1,D.bool r.2]) (ziU p0) (zab T 64 [TValue.e false p0] []):=⟨E (ziU.eq_def ..)⟩
instance g_s_l21Texts (p0:List ByteArray):Lw (PV (dL true 1 D.str)) (zdZ p0) (zab T 208 [D.sl false 1 (List.map D.str p0)] []):=⟨E (zdZ.eq_def ..)⟩
instance p_s_l21Own_l1 (s0 s2:TConsole):∀ (s3:TConsole) (s4:Int),Lp (kN T (enF [.cell 2 (.many 5)] []) fun t=>⟨.d (D.pim (TConsole.c false s0) 0)::Z::.box (TConsole.c true s2)::.box (TConsole.c true t)::zs 49 [],[]⟩) (zge s0 s2 s3 s4) fun k=>go T (enF [.cell 2 (.many 5)] []) zrT (.lp zrU::.bl 0::.sq (.clr (rg 4 48))::k) ⟨.d (D.pim (TConsole.c false s0) 0)::Z::.box (TConsole.c true s2)::.box (TConsole.c true s3)::sI s4::zs 48 [],[]⟩:=Lp2 (zge.partial_correctness s0 s2) (by
 intro rec _ s3 s4 k
 refine G0 zrT.eq_def ?_
 try conv=>arg 3;simp (maxSteps:=999999) only [push_cast,↓reduceIte,seval, *]
 refine Le.itq (fun h=>?_) (fun h=>?_)
 ·try conv=>arg 3;simp (maxSteps:=999999) only [push_cast,↓reduceIte,seval, *]
  refine Le.idx fun a40 h_1 h_2 h_3=>?_
  try conv=>arg 3;simp (maxSteps:=999999) only [push_cast,↓reduceIte,seval, *]
  refine Le.call ((g_s_l21Texts a40.Lines).h) fun r44 h_4 _ hy=>?_
  first|subst hy|obtain ⟨_,rfl⟩:=hy
  try conv=>arg 3;simp (maxSteps:=999999) only [push_cast,↓reduceIte,seval, *]
  refine Le.app fun c50 h_5 h_6=>?_
  replace h_5:List.map (TFile.e true) s3.Files++[D.agg [D.str a40.Name,D.sl true 1 (List.map D.str r44),D.int .i64 a40.Mode,D.int .i64 a40.At]]=List.map (TFile.e true) c50:=by rw [h_5,List.map_append] <;> first|rfl|simp only [eqs]
  replace h_6:s3.Files.length + 1<=most:=h_6
  exact A
 ·exact A)
instance g_s_l21Own (p0:TConsole):Lw (PV (TConsole.e true)) (ziV p0) (zab T 133 [D.pim (TConsole.c false p0) 0] []):=⟨E (ziV.eq_def ..)⟩
instance p_s_WriteLine_j1 (s1:ByteArray) (s4 g0:TConsole):Lp (kR (PV fun (r:TConsole × Int)=>D.tup [TConsole.e true r.1,dI r.2])) (zfA s1 s4 g0) fun k=>go T (enF [.cell 4 (.many 5),.tmp 5] []) zwc k ⟨Z::sT s1::.d (D.ref 0 0)::Z::.box (TConsole.c true s4)::zs 23 [],[(TConsole.c false g0)]⟩:=⟨fun k=>by
 refine G1 (zfA.eq_def ..) zwc.eq_def ?_
 try conv=>arg 3;simp (maxSteps:=999999) only [push_cast,↓reduceIte,seval, *]
 refine Le.itq (fun h=>?_) (fun h=>?_)
 ·exact A
 ·try conv=>arg 3;simp (maxSteps:=999999) only [push_cast,↓reduceIte,seval, *]
  refine Le.call ((g_s_l21Own g0).h) fun r20 h_1 _ hy=>?_
  first|subst hy|obtain ⟨_,rfl⟩:=hy
  try conv=>arg 3;simp (maxSteps:=999999) only [push_cast,↓reduceIte,seval, *]
  refine Le.app fun c25 h_2 h_3=>?_
  replace h_2:List.map D.str r20.Output++[D.str s1]=List.map D.str c25:=by rw [h_2,List.map_append] <;> first|rfl|simp only [eqs]
  replace h_3:r20.Output.length + 1<=most:=h_3
  exact A⟩
instance g_s_WriteLine (p0:TConsole) (p1:ByteArray):Lw (PV fun (r:TConsole × Int)=>D.tup [TConsole.e true r.1,dI r.2]) (zhs p0 p1) (zab T 65 [TConsole.e false p0,D.str p1] []):=⟨E (zhs.eq_def ..)⟩
instance p_s_l18Assign_j1 (s1:ByteArray) (s3:TScope) (s5:TValue) (s6 s8:TScope) (s9:List TBinding) (s10:Int):Lp (kN T (enF [.cell 6 (.many 3),.tmp 7] []) fun t=>⟨Z::sT s1::Z::.box (TScope.c false s3)::Z::.box (TValue.c false s5)::.box (TScope.c true s6)::Z::.box (TScope.c true s8)::sL true 5 (TBinding.e false) t.1::sI t.2.1::zs 19 (.ptr ⟨.slot 3,[],0⟩::sL false 5 (TBinding.e false) t.2.2.1::sI s10::.d (D.pim (TBinding.c false t.2.2.2.1) 0)::.d (TBinding.e false t.2.2.2.2.1)::sL true 5 (TBinding.e false) t.2.2.2.2.2.1::Z::sI s10::sI t.2.2.2.2.2.2::zs 39 []),[]⟩) (zfB s1 s3 s5 s6 s8 s9 s10) fun k=>go T (enF [.cell 6 (.many 3),.tmp 7] []) zwd k ⟨Z::sT s1::Z::.box (TScope.c false s3)::Z::.box (TValue.c false s5)::.box (TScope.c true s6)::Z::.box (TScope.c true s8)::sL true 5 (TBinding.e false) s9::sI s10::zs 67 [],[]⟩:=⟨fun k=>by
 refine G1 (zfB.eq_def ..) zwd.eq_def ?_
 try conv=>arg 3;simp (maxSteps:=999999) only [push_cast,↓reduceIte,seval, *]
 refine Le.idx fun a33 h h_1 h_2=>?_
 try conv=>arg 3;simp (maxSteps:=999999) only [push_cast,↓reduceIte,seval, *]
 refine Le.app fun c36 h_3 h_4=>?_
 replace h_3:List.map (TBinding.e false) s9++[D.agg [D.str a33.Name,D.int .i64 a33.Value.Kind,D.int .i64 a33.Value.Num,D.str a33.Value.Text,D.int .i64 a33.Value.Ref]]=List.map (TBinding.e false) c36:=by rw [h_3,List.map_append] <;> first|rfl|simp only [eqs]
 replace h_4:s9.length + 1<=most:=h_4
 exact A⟩
instance p_s_l18Assign_l1 (s1:ByteArray) (s3:TScope) (s5:TValue) (s6 s8:TScope):∀ (s9:List TBinding) (s10:Int),Lp (kN T (enF [.cell 6 (.many 3),.tmp 7] []) fun t=>⟨Z::sT s1::Z::.box (TScope.c false s3)::Z::.box (TValue.c false s5)::.box (TScope.c true s6)::Z::.box (TScope.c true s8)::sL true 5 (TBinding.e false) t.1::sI t.2::zs 67 [],[]⟩) (zcY s1 s3 s5 s6 s8 s9 s10) fun k=>go T (enF [.cell 6 (.many 3),.tmp 7] []) zwe (.lp zwf::.bl 0::.sq (.clr [0,2,7,11,12,13,14,15,16,17,18,19,20,21,22,23,24,25,26,27,28,29,30,31,32,33,34,35,36,37,38])::k) ⟨Z::sT s1::Z::.box (TScope.c false s3)::Z::.box (TValue.c false s5)::.box (TScope.c true s6)::Z::.box (TScope.c true s8)::sL true 5 (TBinding.e false) s9::sI s10::zs 67 [],[]⟩:=Lp2 (zcY.partial_correctness s1 s3 s5 s6 s8) (by exact fun _ _ _ _ _=>G zwe.eq_def)
instance p_s_l18Assign_j2 (s1:ByteArray) (s3 s6 s8:TScope) (s9:List TBinding) (s10:Int):Lp (kR (PV fun (r:TScope × Int)=>D.tup [TScope.e true r.1,dI r.2])) (zci s1 s3 s6 s8 s9 s10) fun k=>go T (enF [.cell 6 (.many 3),.tmp 7] []) zwg k ⟨Z::sT s1::Z::.box (TScope.c false s3)::Z::Z::.box (TScope.c true s6)::Z::.box (TScope.c true s8)::sL true 5 (TBinding.e false) s9::sI s10::zs 67 [],[]⟩:=⟨fun k=>by
 refine G1 (zci.eq_def ..) zwg.eq_def ?_
 try conv=>arg 3;simp (maxSteps:=999999) only [push_cast,↓reduceIte,seval, *]
 refine Le.subL fun c69 h h_1 h_2=>?_
 replace h:List.take (s3.Vars.length - s10.toNat) (List.drop s10.toNat (List.map (TBinding.e false) s3.Vars))=List.map (TBinding.e false) c69:=by rw [h];exact zrp ..
 try conv=>arg 3;simp (maxSteps:=999999) only [push_cast,↓reduceIte,seval, *]
 refine Le.app fun c70 h_3 h_4=>?_
 replace h_3:List.map (TBinding.e false) s9++List.map (TBinding.e false) c69=List.map (TBinding.e false) c70:=by rw [h_3,List.map_append] <;> first|rfl|simp only [eqs]
 replace h_4:s9.length + c69.length<=most:=h_4
 exact A⟩
instance p_s_l18Assign_j3 (s1:ByteArray) (s3 s6 s8:TScope) (s9:List TBinding) (s10:Int):Lp (kR (PV fun (r:TScope × Int)=>D.tup [TScope.e true r.1,dI r.2])) (zcZ s1 s3 s6 s8 s9 s10) fun k=>go T (enF [.cell 6 (.many 3),.tmp 7] []) zwh k ⟨Z::sT s1::Z::.box (TScope.c false s3)::Z::Z::.box (TScope.c true s6)::Z::.box (TScope.c true s8)::sL true 5 (TBinding.e false) s9::sI s10::zs 67 [],[]⟩:=⟨fun k=>GG (zcZ.eq_def ..) zwh.eq_def⟩
instance g_s_l18Assign (p0:TScope) (p1:ByteArray) (p2:TValue):Lw (PV fun (r:TScope × Int)=>D.tup [TScope.e true r.1,dI r.2]) (zgf p0 p1 p2) (zab T 66 [TScope.e false p0,D.str p1,TValue.e false p2] []):=⟨by
 refine E0 (h:=?_) (zgf.eq_def ..)
 try conv=>arg 3;simp (maxSteps:=999999) only [push_cast,↓reduceIte,seval, *]
 refine Le.call ((g_s_l18Own p0).h) fun r12 h _ hy=>?_
 first|subst hy|obtain ⟨_,rfl⟩:=hy
 try conv=>arg 3;simp (maxSteps:=999999) only [push_cast,↓reduceIte,seval, *]
 refine Le.via ((p_s_l18Assign_l1 p1 p0 p2 (TScope.mk ([]) ([]) ([])) r12 ([]) 0).h _) fun t h_1 _ hy=>?_
 try dsimp only [kS,kT,kN,kX,kR] at hy;first|subst hy|obtain ⟨_,rfl⟩:=hy
 try conv=>arg 3;simp (maxSteps:=999999) only [push_cast,↓reduceIte,seval, *]
 refine Le.call ((g_s_IsNull p2).h) fun r40 h_2 _ hy=>?_
 first|subst hy|obtain ⟨_,rfl⟩:=hy
 try conv=>arg 3;simp (maxSteps:=999999) only [push_cast,↓reduceIte,seval, *]
 refine Le.bool (fun h_3=>?_) (fun h_3=>?_)
 ·exact A
 ·try conv=>arg 3;simp (maxSteps:=999999) only [push_cast,↓reduceIte,seval, *]
  refine Le.app fun c47 h_4 h_5=>?_
  replace h_4:List.map (TBinding.e false) t.1++[D.agg [D.str p1,D.int .i64 p2.Kind,D.int .i64 p2.Num,D.str p2.Text,D.int .i64 p2.Ref]]=List.map (TBinding.e false) c47:=by rw [h_4,List.map_append] <;> first|rfl|simp only [eqs]
  replace h_5:t.1.length + 1<=most:=h_5
  exact A⟩
instance g_s_l19Write (p1:ByteArray) (p2:TValue) (g0:TMemory):Lw (fun (r:Int × TMemory) x=>x=some (dI r.1,[],[(TMemory.c true r.2)])) (zir p1 p2 g0) (zab T 25 [D.ref 0 0,D.str p1,TValue.e false p2] [(TMemory.c true g0)]):=⟨E (zir.eq_def ..)⟩
instance p_s_WriteVariable_j1 (s1:ByteArray) (s3:TMemory) (s5:TValue) (s6:TMemory):Lp (kR (PV fun (r:TMemory × Int)=>D.tup [TMemory.e true r.1,dI r.2])) (zcn s1 s3 s5 s6) fun k=>go T (enF [.cell 6 (.many 10),.tmp 7] []) zAD k ⟨Z::sT s1::Z::.box (TMemory.c false s3)::Z::.box (TValue.c false s5)::.box (TMemory.c true s6)::zs 29 [],[]⟩:=⟨fun k=>GG (zcn.eq_def ..) zAD.eq_def⟩
instance g_s_WriteVariable (p0:TMemory) (p1:ByteArray) (p2:TValue):Lw (PV fun (r:TMemory × Int)=>D.tup [TMemory.e true r.1,dI r.2]) (zff p0 p1 p2) (zab T 7 [TMemory.e false p0,D.str p1,TValue.e false p2] []):=⟨E (zff.eq_def ..)⟩
end Go.Vx.WvZ

