/-
  What the plain functions give, the program gives too.
-/
import Derived.Test.YtnaaflejkfaiaaaGreatAu
set_option linter.unusedVariables false
set_option linter.unusedSimpArgs false
namespace Go.Vx.CpZ
set_option linter.unusedVariables false
set_option linter.unusedSimpArgs false
set_option maxRecDepth 10000
set_option maxHeartbeats 2000000
attribute [local irreducible] go bk exi got
instance g_s_l00In (p0 p1 p2:Int):Lw (PV D.bool) (zce p0 p1 p2) (zaa T 120 [dI p0,dI p1,dI p2] []):=⟨E (zce.eq_def ..)⟩
instance g_s_l06Plain (p0:TValue) (p1 p2 p3:Bool):Lw (PV D.bool) (zdP p0 p1 p2 p3) (zaa T 215 [TValue.e false p0,D.bool p1,D.bool p2,D.bool p3] []):=⟨E (zdP.eq_def ..)⟩
instance g_s_l02Letter (p0:Int):Lw (PV D.bool) (zfn p0) (zaa T 247 [D.int .u8 p0] []):=⟨E (zfn.eq_def ..)⟩
instance g_s_l02Digit (p0:Int):Lw (PV D.bool) (zhb p0) (zaa T 248 [D.int .u8 p0] []):=⟨E (zhb.eq_def ..)⟩
instance p_s_l02NameEnd_l1 (s0:ByteArray):∀ (s1:Int),Lp (kN T (enF [.tmp 4] []) fun t=>⟨sT s0::sI t::zs 40 [],[]⟩) (zbl s0 s1) fun k=>go T (enF [.tmp 4] []) zrq (.lp zrr::.bl 0::.sq (.clr (rg 4 37))::k) ⟨sT s0::sI s1::zs 40 [],[]⟩:=Lp1 (zbl.partial_correctness s0) (by exact fun _ _ _ _=>G zrq.eq_def)
instance p_s_l02NameEnd_j1 (s0:ByteArray) (s1:Int):Lp (kR (PV dI)) (zfo s0 s1) fun k=>go T (enF [.tmp 4] []) zrs k ⟨sT s0::sI s1::zs 40 [],[]⟩:=⟨fun k=>GG (zfo.eq_def ..) zrs.eq_def⟩
instance g_s_l02NameEnd (p0:ByteArray) (p1:Int):Lw (PV dI) (zgN p0 p1) (zaa T 214 [D.str p0,dI p1] []):=⟨E (zgN.eq_def ..)⟩
instance g_s_IsName (p0:ByteArray):Lw (PV D.bool) (zfy p0) (zaa T 154 [D.str p0] []):=⟨E (zfy.eq_def ..)⟩
instance p_s_ValidValue_j1 (s1:TValue) (s45:Bool):Lp (kS (kN T (enF [.tmp 2] []) fun t=>⟨Z::.box (TValue.c false s1)::zs 43 (sB t::zs 9 []),[]⟩) (kR (PV D.bool))) (zea s1 s45) fun k=>go T (enF [.tmp 2] []) zqP k ⟨Z::.box (TValue.c false s1)::zs 43 (sB s45::zs 9 []),[]⟩:=⟨fun k=>GG (zea.eq_def ..) zqP.eq_def⟩
instance p_s_ValidValue_j2 (s1:TValue) (s4:Int) (s34:Bool):Lp (kS (kN T (enF [.tmp 2] []) fun t=>⟨Z::.box (TValue.c false s1)::zs 53 [],[]⟩) (kR (PV D.bool))) (zcY s1 s4 s34) fun k=>go T (enF [.tmp 2] []) zqQ k ⟨Z::.box (TValue.c false s1)::Z::Z::sI s4::zs 29 (sB s34::zs 20 []),[]⟩:=⟨fun k=>GG (zcY.eq_def ..) zqQ.eq_def⟩
instance g_s_ValidValue (p0:TValue):Lw (PV D.bool) (zbS p0) (zaa T 155 [TValue.e false p0] []):=⟨E (zbS.eq_def ..)⟩
instance p_s_l07ValidValues_l1 (s0:List TValue) (s1:Int):∀ (s5:Int),Lp (kS (kN T (enF [.tmp 4] []) fun t=>⟨sL false 4 (TValue.e false) s0::sI s1::zs 20 [],[]⟩) (kR (PV D.bool))) (zcp s0 s1 s5) fun k=>go T (enF [.tmp 4] []) zrA (.lp zrB::.bl 0::.sq (.clr (rg 4 18))::k) ⟨sL false 4 (TValue.e false) s0::sI s1::Z::Z::Z::sI s5::zs 16 [],[]⟩:=Lp1 (zcp.partial_correctness s0 s1) (by exact fun _ _ _ _=>G zrA.eq_def)
instance g_s_l07ValidValues (p0:List TValue) (p1:Int):Lw (PV D.bool) (zbN p0 p1) (zaa T 234 [D.sl false 4 (List.map (TValue.e false) p0),dI p1] []):=⟨E (zbN.eq_def ..)⟩
instance g_s_SameValue (p0 p1:TValue):Lw (PV D.bool) (zgn p0 p1) (zaa T 261 [TValue.e false p0,TValue.e false p1] []):=⟨E (zgn.eq_def ..)⟩
instance p_s_l07Distinct_l1 (s0:List TValue) (s3:Int):∀ (s4:Int),Lp (kS (kN T (enF [.tmp 2] []) fun t=>⟨sL false 4 (TValue.e false) s0::Z::Z::sI s3::zs 21 [],[]⟩) (kR (PV D.bool))) (zcF s0 s3 s4) fun k=>go T (enF [.tmp 2] []) zrC (.lp zrD::.bl 2::.sq (.clr [2,4,5,6,7,8,9,10,11,12,13,14,15,16,17,18,19,20,21,22,23,24])::k) ⟨sL false 4 (TValue.e false) s0::Z::Z::sI s3::sI s4::zs 20 [],[]⟩:=Lp1 (zcF.partial_correctness s0 s3) (by exact fun _ _ _ _=>G zrC.eq_def)
instance p_s_l07Distinct_l2 (s0:List TValue):∀ (s3:Int),Lp (kS (kN T (enF [.tmp 2] []) fun t=>⟨sL false 4 (TValue.e false) s0::zs 24 [],[]⟩) (kR (PV D.bool))) (zdG s0 s3) fun k=>go T (enF [.tmp 2] []) zrE (.lp zrF::.bl 0::.sq (.clr (rg 2 23))::k) ⟨sL false 4 (TValue.e false) s0::Z::Z::sI s3::zs 21 [],[]⟩:=Lp1 (zdG.partial_correctness s0) (by exact fun _ _ _ _=>G zrE.eq_def)
instance g_s_l07Distinct (p0:List TValue):Lw (PV D.bool) (zeb p0) (zaa T 235 [D.sl false 4 (List.map (TValue.e false) p0)] []):=⟨E (zeb.eq_def ..)⟩
instance p_s_l07FieldNames_l1 (s0:List TValue):∀ (s3:Int),Lp (kS (kN T (enF [.tmp 2] []) fun t=>⟨sL false 4 (TValue.e false) s0::zs 35 [],[]⟩) (kR (PV D.bool))) (zcP s0 s3) fun k=>go T (enF [.tmp 2] []) zrG (.lp zrH::.bl 0::.sq (.clr (rg 2 23))::k) ⟨sL false 4 (TValue.e false) s0::Z::Z::sI s3::zs 32 [],[]⟩:=Lp1 (zcP.partial_correctness s0) (by exact fun _ _ _ _=>G zrG.eq_def)
instance g_s_l07FieldNames (p0:List TValue):Lw (PV D.bool) (zec p0) (zaa T 236 [D.sl false 4 (List.map (TValue.e false) p0)] []):=⟨E (zec.eq_def ..)⟩
instance p_s_l07Object_j1 (s1:TObject):Lp (kR (PV D.bool)) (zeB s1) fun k=>go T (enF [.tmp 2] []) zra k ⟨Z::.box (TObject.c false s1)::zs 99 [],[]⟩:=⟨fun k=>GG (zeB.eq_def ..) zra.eq_def⟩
instance g_s_l07Object (p0:TObject):Lw (PV D.bool) (zgo p0) (zaa T 196 [TObject.e false p0] []):=⟨E (zgo.eq_def ..)⟩
instance g_s_l07IsRef (p0:TValue):Lw (PV D.bool) (zex p0) (zaa T 237 [TValue.e false p0] []):=⟨E (zex.eq_def ..)⟩
instance p_s_l07Find_l1 (s1:Int) (g0:List TBinding) (g0_1:Int) (g0_2:List TObject) (g0_3:List TCoexpr) (g0_4:Int):∀ (s5:Int),Lp (kS (kN T (enF [.tmp 4] []) fun t=>⟨.d (D.ref 0 1)::sI s1::zs 24 [],[[D.sl false 5 (List.map (TBinding.e false) g0),dI g0_1,D.sl false 10 (List.map (TObject.e false) g0_2),D.sl false 17 (List.map (TCoexpr.e false) g0_3),dI g0_4]]⟩) (kR (fun (r:Int) x=>x=some (dI r,[],[[D.sl false 5 (List.map (TBinding.e false) g0),dI g0_1,D.sl false 10 (List.map (TObject.e false) g0_2),D.sl false 17 (List.map (TCoexpr.e false) g0_3),dI g0_4]])))) (zeJ s1 g0 g0_1 g0_2 g0_3 g0_4 s5) fun k=>go T (enF [.tmp 4] []) zrI (.lp zrJ::.bl 0::.sq (.clr (rg 4 22))::k) ⟨.d (D.ref 0 1)::sI s1::Z::Z::Z::sI s5::zs 20 [],[[D.sl false 5 (List.map (TBinding.e false) g0),dI g0_1,D.sl false 10 (List.map (TObject.e false) g0_2),D.sl false 17 (List.map (TCoexpr.e false) g0_3),dI g0_4]]⟩:=Lp1 (zeJ.partial_correctness s1 g0 g0_1 g0_2 g0_3 g0_4) (by exact fun _ _ _ _=>G zrI.eq_def)
instance g_s_l07Find (p1:Int) (g0:List TBinding) (g0_1:Int) (g0_2:List TObject) (g0_3:List TCoexpr) (g0_4:Int):Lw (fun (r:Int) x=>x=some (dI r,[],[[D.sl false 5 (List.map (TBinding.e false) g0),dI g0_1,D.sl false 10 (List.map (TObject.e false) g0_2),D.sl false 17 (List.map (TCoexpr.e false) g0_3),dI g0_4]])) (zhN p1 g0 g0_1 g0_2 g0_3 g0_4) (zaa T 238 [D.ref 0 1,dI p1] [[D.sl false 5 (List.map (TBinding.e false) g0),dI g0_1,D.sl false 10 (List.map (TObject.e false) g0_2),D.sl false 17 (List.map (TCoexpr.e false) g0_3),dI g0_4]]):=⟨E (zhN.eq_def ..)⟩
instance g_s_l07ObjectKind (p0:Int):Lw (PV dI) (zfp p0) (zaa T 239 [dI p0] []):=⟨E (zfp.eq_def ..)⟩
instance g_s_l07Fits (p1:TValue) (g0:List TBinding) (g0_1:Int) (g0_2:List TObject) (g0_3:List TCoexpr) (g0_4:Int):Lw (fun (r:Bool) x=>x=some (D.bool r,[],[[D.sl false 5 (List.map (TBinding.e false) g0),dI g0_1,D.sl false 10 (List.map (TObject.e false) g0_2),D.sl false 17 (List.map (TCoexpr.e false) g0_3),dI g0_4]])) (zed p1 g0 g0_1 g0_2 g0_3 g0_4) (zaa T 198 [D.ref 0 1,TValue.e false p1] [[D.sl false 5 (List.map (TBinding.e false) g0),dI g0_1,D.sl false 10 (List.map (TObject.e false) g0_2),D.sl false 17 (List.map (TCoexpr.e false) g0_3),dI g0_4]]):=⟨E (zed.eq_def ..)⟩
instance p_s_l07FitAll_l1 (s1:List TValue) (g0:List TBinding) (g0_1:Int) (g0_2:List TObject) (g0_3:List TCoexpr) (g0_4:Int):∀ (s5:Int),Lp (kS (kN T (enF [.tmp 4] []) fun t=>⟨.d (D.ref 0 1)::sL false 4 (TValue.e false) s1::zs 17 [],[[D.sl false 5 (List.map (TBinding.e false) g0),dI g0_1,D.sl false 10 (List.map (TObject.e false) g0_2),D.sl false 17 (List.map (TCoexpr.e false) g0_3),dI g0_4]]⟩) (kR (fun (r:Bool) x=>x=some (D.bool r,[],[[D.sl false 5 (List.map (TBinding.e false) g0),dI g0_1,D.sl false 10 (List.map (TObject.e false) g0_2),D.sl false 17 (List.map (TCoexpr.e false) g0_3),dI g0_4]])))) (zeC s1 g0 g0_1 g0_2 g0_3 g0_4 s5) fun k=>go T (enF [.tmp 4] []) zrf (.lp zrg::.bl 0::.sq (.clr (rg 4 15))::k) ⟨.d (D.ref 0 1)::sL false 4 (TValue.e false) s1::Z::Z::Z::sI s5::zs 13 [],[[D.sl false 5 (List.map (TBinding.e false) g0),dI g0_1,D.sl false 10 (List.map (TObject.e false) g0_2),D.sl false 17 (List.map (TCoexpr.e false) g0_3),dI g0_4]]⟩:=Lp1 (zeC.partial_correctness s1 g0 g0_1 g0_2 g0_3 g0_4) (by exact fun _ _ _ _=>G zrf.eq_def)
instance g_s_l07FitAll (p1:List TValue) (g0:List TBinding) (g0_1:Int) (g0_2:List TObject) (g0_3:List TCoexpr) (g0_4:Int):Lw (fun (r:Bool) x=>x=some (D.bool r,[],[[D.sl false 5 (List.map (TBinding.e false) g0),dI g0_1,D.sl false 10 (List.map (TObject.e false) g0_2),D.sl false 17 (List.map (TCoexpr.e false) g0_3),dI g0_4]])) (zey p1 g0 g0_1 g0_2 g0_3 g0_4) (zaa T 207 [D.ref 0 1,D.sl false 4 (List.map (TValue.e false) p1)] [[D.sl false 5 (List.map (TBinding.e false) g0),dI g0_1,D.sl false 10 (List.map (TObject.e false) g0_2),D.sl false 17 (List.map (TCoexpr.e false) g0_3),dI g0_4]]):=⟨E (zey.eq_def ..)⟩
instance g_s_l07Refs (p1:TObject) (g0:List TBinding) (g0_1:Int) (g0_2:List TObject) (g0_3:List TCoexpr) (g0_4:Int):Lw (fun (r:Bool) x=>x=some (D.bool r,[],[[D.sl false 5 (List.map (TBinding.e false) g0),dI g0_1,D.sl false 10 (List.map (TObject.e false) g0_2),D.sl false 17 (List.map (TCoexpr.e false) g0_3),dI g0_4]])) (zhO p1 g0 g0_1 g0_2 g0_3 g0_4) (zaa T 197 [D.ref 0 1,D.pim (TObject.c false p1) 0] [[D.sl false 5 (List.map (TBinding.e false) g0),dI g0_1,D.sl false 10 (List.map (TObject.e false) g0_2),D.sl false 17 (List.map (TCoexpr.e false) g0_3),dI g0_4]]):=⟨E (zhO.eq_def ..)⟩
instance p_s_l07Ok_l1 (g0:List TBinding) (g0_1:Int) (g0_2:List TObject) (g0_3:List TCoexpr) (g0_4:Int):∀ (s3:Int),Lp (kS (kN T (enF [.tmp 2] []) fun t=>⟨.d (D.ref 0 1)::zs 83 [],[[D.sl false 5 (List.map (TBinding.e false) g0),dI g0_1,D.sl false 10 (List.map (TObject.e false) g0_2),D.sl false 17 (List.map (TCoexpr.e false) g0_3),dI g0_4]]⟩) (kR (fun (r:Bool) x=>x=some (D.bool r,[],[[D.sl false 5 (List.map (TBinding.e false) g0),dI g0_1,D.sl false 10 (List.map (TObject.e false) g0_2),D.sl false 17 (List.map (TCoexpr.e false) g0_3),dI g0_4]])))) (zfk g0 g0_1 g0_2 g0_3 g0_4 s3) fun k=>go T (enF [.tmp 2] []) zpX (.lp zpY::.bl 0::.sq (.clr [2,3,4,6,7,8,9,10,11,12,13,14,15,16,17,18,19,20,21,22,23,24,25,26,27,28,29,30,31,32,33,34,35,36,37,38,39,40,41,42,43,44,45,46,47,48,49,50,51,52,53,54,55,56,57,58,59,60,61,62,63,64,65])::k) ⟨.d (D.ref 0 1)::Z::Z::sI s3::zs 80 [],[[D.sl false 5 (List.map (TBinding.e false) g0),dI g0_1,D.sl false 10 (List.map (TObject.e false) g0_2),D.sl false 17 (List.map (TCoexpr.e false) g0_3),dI g0_4]]⟩:=Lp1 (zfk.partial_correctness g0 g0_1 g0_2 g0_3 g0_4) (by exact fun _ _ _ _=>G zpX.eq_def)
instance p_s_l07Ok_l2 (g0:List TBinding) (g0_1:Int) (g0_2:List TObject) (g0_3:List TCoexpr) (g0_4:Int):∀ (s5:Int),Lp (kS (kN T (enF [.tmp 2] []) fun t=>⟨.d (D.ref 0 1)::zs 83 [],[[D.sl false 5 (List.map (TBinding.e false) g0),dI g0_1,D.sl false 10 (List.map (TObject.e false) g0_2),D.sl false 17 (List.map (TCoexpr.e false) g0_3),dI g0_4]]⟩) (kR (fun (r:Bool) x=>x=some (D.bool r,[],[[D.sl false 5 (List.map (TBinding.e false) g0),dI g0_1,D.sl false 10 (List.map (TObject.e false) g0_2),D.sl false 17 (List.map (TCoexpr.e false) g0_3),dI g0_4]])))) (zfX g0 g0_1 g0_2 g0_3 g0_4 s5) fun k=>go T (enF [.tmp 2] []) zpZ (.lp zqa::.bl 2::.sq (.clr (rg 2 82))::k) ⟨.d (D.ref 0 1)::zs 4 (sI s5::zs 78 []),[[D.sl false 5 (List.map (TBinding.e false) g0),dI g0_1,D.sl false 10 (List.map (TObject.e false) g0_2),D.sl false 17 (List.map (TCoexpr.e false) g0_3),dI g0_4]]⟩:=Lp1 (zfX.partial_correctness g0 g0_1 g0_2 g0_3 g0_4) (by exact fun _ _ _ _=>G zpZ.eq_def)
instance p_s_l07Ok_j1 (g0:List TBinding) (g0_1:Int) (g0_2:List TObject) (g0_3:List TCoexpr) (g0_4:Int):Lp (kR (fun (r:Bool) x=>x=some (D.bool r,[],[[D.sl false 5 (List.map (TBinding.e false) g0),dI g0_1,D.sl false 10 (List.map (TObject.e false) g0_2),D.sl false 17 (List.map (TCoexpr.e false) g0_3),dI g0_4]]))) (zif g0 g0_1 g0_2 g0_3 g0_4) fun k=>go T (enF [.tmp 2] []) zqb k ⟨.d (D.ref 0 1)::zs 83 [],[[D.sl false 5 (List.map (TBinding.e false) g0),dI g0_1,D.sl false 10 (List.map (TObject.e false) g0_2),D.sl false 17 (List.map (TCoexpr.e false) g0_3),dI g0_4]]⟩:=⟨fun k=>GG (zif.eq_def ..) zqb.eq_def⟩
instance g_s_l07Ok (g0:List TBinding) (g0_1:Int) (g0_2:List TObject) (g0_3:List TCoexpr) (g0_4:Int):Lw (fun (r:Bool) x=>x=some (D.bool r,[],[[D.sl false 5 (List.map (TBinding.e false) g0),dI g0_1,D.sl false 10 (List.map (TObject.e false) g0_2),D.sl false 17 (List.map (TCoexpr.e false) g0_3),dI g0_4]])) (zkW g0 g0_1 g0_2 g0_3 g0_4) (zaa T 118 [D.ref 0 1] [[D.sl false 5 (List.map (TBinding.e false) g0),dI g0_1,D.sl false 10 (List.map (TObject.e false) g0_2),D.sl false 17 (List.map (TCoexpr.e false) g0_3),dI g0_4]]):=⟨E (zkW.eq_def ..)⟩
instance g_s_IsNull (p0:TValue):Lw (PV D.bool) (ziV p0) (zaa T 156 [TValue.e false p0] []):=⟨E (ziV.eq_def ..)⟩
instance p_s_l22Vars_l1 (s1 g0:List TBinding) (g0_1:Int) (g0_2:List TObject) (g0_3:List TCoexpr) (g0_4:Int):∀ (s5:Int),Lp (kS (kN T (enF [.tmp 4] []) fun t=>⟨.d (D.ref 0 1)::sL false 5 (TBinding.e false) s1::zs 56 [],[[D.sl false 5 (List.map (TBinding.e false) g0),dI g0_1,D.sl false 10 (List.map (TObject.e false) g0_2),D.sl false 17 (List.map (TCoexpr.e false) g0_3),dI g0_4]]⟩) (kR (fun (r:Bool) x=>x=some (D.bool r,[],[[D.sl false 5 (List.map (TBinding.e false) g0),dI g0_1,D.sl false 10 (List.map (TObject.e false) g0_2),D.sl false 17 (List.map (TCoexpr.e false) g0_3),dI g0_4]])))) (zeK s1 g0 g0_1 g0_2 g0_3 g0_4 s5) fun k=>go T (enF [.tmp 4] []) zqc (.lp zqd::.bl 0::.sq (.clr (rg 4 54))::k) ⟨.d (D.ref 0 1)::sL false 5 (TBinding.e false) s1::Z::Z::Z::sI s5::zs 52 [],[[D.sl false 5 (List.map (TBinding.e false) g0),dI g0_1,D.sl false 10 (List.map (TObject.e false) g0_2),D.sl false 17 (List.map (TCoexpr.e false) g0_3),dI g0_4]]⟩:=Lp1 (zeK.partial_correctness s1 g0 g0_1 g0_2 g0_3 g0_4) (by exact fun _ _ _ _=>G zqc.eq_def)
instance g_s_l22Vars (p1 g0:List TBinding) (g0_1:Int) (g0_2:List TObject) (g0_3:List TCoexpr) (g0_4:Int):Lw (fun (r:Bool) x=>x=some (D.bool r,[],[[D.sl false 5 (List.map (TBinding.e false) g0),dI g0_1,D.sl false 10 (List.map (TObject.e false) g0_2),D.sl false 17 (List.map (TCoexpr.e false) g0_3),dI g0_4]])) (zfY p1 g0 g0_1 g0_2 g0_3 g0_4) (zaa T 119 [D.ref 0 1,D.sl false 5 (List.map (TBinding.e false) p1)] [[D.sl false 5 (List.map (TBinding.e false) g0),dI g0_1,D.sl false 10 (List.map (TObject.e false) g0_2),D.sl false 17 (List.map (TCoexpr.e false) g0_3),dI g0_4]]):=⟨E (zfY.eq_def ..)⟩
instance p_s_l22Kids_j1 (s0 s3:Int) (s12:Bool):Lp (kS (kN T (enF [.tmp 2] []) fun t=>⟨sI s0::Z::Z::sI s3::zs 8 (sB t.1::zs 5 ([sB t.2.1,sB t.2.2.1,sB t.2.2.2.1,sB t.2.2.2.2])),[]⟩) (kR (PV dI))) (zdQ s0 s3 s12) fun k=>go T (enF [.tmp 2] []) zrQ k ⟨sI s0::Z::Z::sI s3::zs 8 (sB s12::zs 9 []),[]⟩:=⟨fun k=>GG (zdQ.eq_def ..) zrQ.eq_def⟩
instance p_s_l22Kids_j2 (s0 s3:Int) (s4:Bool):Lp (kS (kN T (enF [.tmp 2] []) fun t=>⟨sI s0::Z::Z::sI s3::zs 8 (sB t.1::zs 5 ([sB t.2.1,sB t.2.2.1,sB t.2.2.2.1,sB t.2.2.2.2])),[]⟩) (kR (PV dI))) (zcm s0 s3 s4) fun k=>go T (enF [.tmp 2] []) zrR k ⟨sI s0::Z::Z::sI s3::sB s4::zs 17 [],[]⟩:=⟨fun k=>GG (zcm.eq_def ..) zrR.eq_def⟩
instance g_s_l22Kids (p0:Int):Lw (PV dI) (zfq p0) (zaa T 243 [dI p0] []):=⟨E (zfq.eq_def ..)⟩
instance g_s_l22Operators:Lw (PV (dL true 1 D.str)) (zeD) (zaa T 263 [] []):=⟨E (zeD.eq_def ..)⟩
instance p_s_l22Among_l1 (s0:List ByteArray) (s1:ByteArray):∀ (s5:Int),Lp (kS (kN T (enF [.tmp 4] []) fun t=>⟨sL false 1 D.str s0::sT s1::zs 17 [],[]⟩) (kR (PV dI))) (zee s0 s1 s5) fun k=>go T (enF [.tmp 4] []) zrZ (.lp zsa::.bl 0::.sq (.clr (rg 4 15))::k) ⟨sL false 1 D.str s0::sT s1::Z::Z::Z::sI s5::zs 13 [],[]⟩:=Lp1 (zee.partial_correctness s0 s1) (by exact fun _ _ _ _=>G zrZ.eq_def)
instance g_s_l22Among (p0:List ByteArray) (p1:ByteArray):Lw (PV dI) (zez p0 p1) (zaa T 262 [D.sl false 1 (List.map D.str p0),D.str p1] []):=⟨E (zez.eq_def ..)⟩
instance p_s_l22Shape_j1 (s0:TGen) (s53:Int) (s88:Bool):Lp (kS (kN T (enF [.tmp 2] []) fun t=>⟨.d (D.pim (TGen.c false s0) 0)::zs 52 (sI s53::zs 34 (sB t::zs 36 [])),[]⟩) (kR (PV D.bool))) (zef s0 s53 s88) fun k=>go T (enF [.tmp 2] []) zrM k ⟨.d (D.pim (TGen.c false s0) 0)::zs 52 (sI s53::zs 34 (sB s88::zs 36 [])),[]⟩:=⟨fun k=>GG (zef.eq_def ..) zrM.eq_def⟩
instance p_s_l22Shape_j2 (s0:TGen):Lp (kR (PV D.bool)) (zeg s0) fun k=>go T (enF [.tmp 2] []) zrN k ⟨.d (D.pim (TGen.c false s0) 0)::zs 124 [],[]⟩:=⟨fun k=>GG (zeg.eq_def ..) zrN.eq_def⟩
instance p_s_l22Shape_j3 (s0:TGen):Lp (kR (PV D.bool)) (zdk s0) fun k=>go T (enF [.tmp 2] []) zrO k ⟨.d (D.pim (TGen.c false s0) 0)::zs 124 [],[]⟩:=⟨fun k=>GG (zdk.eq_def ..) zrO.eq_def⟩
instance p_s_l22Shape_j4 (s0:TGen):Lp (kR (PV D.bool)) (zgp s0) fun k=>go T (enF [.tmp 2] []) zrP k ⟨.d (D.pim (TGen.c false s0) 0)::zs 124 [],[]⟩:=⟨fun k=>GG (zgp.eq_def ..) zrP.eq_def⟩
instance g_s_l22Shape (p0:TGen):Lw (PV D.bool) (zfZ p0) (zaa T 242 [D.pim (TGen.c false p0) 0] []):=⟨E (zfZ.eq_def ..)⟩
noncomputable abbrev zeE (s0:TGen) (s3 s4:Int) (k:List Fr):Option Res:=go T (enF [.tmp 2] []) zrc k ⟨.d (D.pim (TGen.c false s0) 0)::Z::Z::sI s3::sI s4::zs 26 [],[]⟩
noncomputable abbrev zeF (s0:TGen) (s3 s4:Int):List Fr→((Int × Int × Int × (List TGen) × TGen × Int × Int))→Option Res→Prop:=(kN T (enF [.tmp 2] []) fun t=>⟨.d (D.pim (TGen.c false s0) 0)::Z::Z::sI t.1::sI t.2.1::zs 14 ([sI s4,sI t.2.2.1,sI s3,.d (D.pim (TGen.c false s0) 0),.d (D.pim (TGen.c false s0) 0),.d (D.pim (TGen.c false s0) 7),sL false 8 (TGen.e false) t.2.2.2.1,sI s4,.d (D.pim (TGen.c false t.2.2.2.2.1) 0),sI t.2.2.2.2.2.1,sI t.2.2.2.2.2.2,Z]),[]⟩)
noncomputable abbrev zdz (s0:TGen) (s3 s4:Int) (k:List Fr):Option Res:=go T (enF [.tmp 2] []) zrd (.lp zre::.bl 0::.sq (.clr [2,4,5,6,7,8,9,10,11,12,13,14,15,16,17,18,19,20,21,22,23,24,25,26,27,28,29])::k) ⟨.d (D.pim (TGen.c false s0) 0)::Z::Z::sI s3::sI s4::zs 26 [],[]⟩
noncomputable abbrev zdA (s0:TGen) (s3 s4:Int):List Fr→Int→Option Res→Prop:=(kN T (enF [.tmp 2] []) fun t=>⟨.d (D.pim (TGen.c false s0) 0)::Z::Z::sI t::zs 27 [],[]⟩)
theorem zfM:(∀ (s0:TGen) (s3 s4:Int) r,zeL s0 s3 s4=some r→∀ k:List Fr,zeF s0 s3 s4 k r (zeE s0 s3 s4 k))∧(∀ (p0:TGen) r,zeM p0=some r→(PV dI) r (zaa T 204 [D.pim (TGen.c false p0) 0] []))∧(∀ (s0:TGen) (s3 s4:Int) r,zbz s0 s3 s4=some r→∀ k:List Fr,zdA s0 s3 s4 k r (zdz s0 s3 s4 k)):=by
 refine zeL.mutual_partial_correctness (motive_1:=fun s0 s3 s4 r=>∀ k:List Fr,zeF s0 s3 s4 k r (zeE s0 s3 s4 k)) (motive_2:=fun p0 r=>(PV dI) r (zaa T 204 [D.pim (TGen.c false p0) 0] [])) (motive_3:=fun s0 s3 s4 r=>∀ k:List Fr,zdA s0 s3 s4 k r (zdz s0 s3 s4 k)) ?_ ?_ ?_
 ·intro zeM i_s_l22Size
  have g_s_l22Size:∀ (p0:TGen),Lw (PV dI) (zeM p0) (zaa T 204 [D.pim (TGen.c false p0) 0] []):=fun p0=>⟨fun r hr=>i_s_l22Size p0 r hr⟩
  clear i_s_l22Size
  intro s0 s3 s4
  refine Le.pc ?_
  intro k
  refine G0 zrc.eq_def ?_
  exact A
 ·intro zbz i_s_l22Size_l1
  have p_s_l22Size_l1:∀ (s0:TGen) (s3 s4:Int),Lp (zdA s0 s3 s4) (zbz s0 s3 s4) (zdz s0 s3 s4):=fun s0 s3 s4=>⟨fun k r hr=>i_s_l22Size_l1 s0 s3 s4 r hr k⟩
  clear i_s_l22Size_l1
  intro p0
  refine (show Le (PV dI) _ (zaa T 204 [D.pim (TGen.c false p0) 0] []) from E0 (h:=?_) rfl)
  exact A
 ·intro zeL zbz i_s_l22Size_j1 i_s_l22Size_l1
  have p_s_l22Size_j1:∀ (s0:TGen) (s3 s4:Int),Lp (zeF s0 s3 s4) (zeL s0 s3 s4) (zeE s0 s3 s4):=fun s0 s3 s4=>⟨fun k r hr=>i_s_l22Size_j1 s0 s3 s4 r hr k⟩
  have p_s_l22Size_l1:∀ (s0:TGen) (s3 s4:Int),Lp (zdA s0 s3 s4) (zbz s0 s3 s4) (zdz s0 s3 s4):=fun s0 s3 s4=>⟨fun k r hr=>i_s_l22Size_l1 s0 s3 s4 r hr k⟩
  clear i_s_l22Size_j1 i_s_l22Size_l1
  intro s0 s3 s4
  refine Le.pc ?_
  intro k
  refine G0 zrd.eq_def ?_
  exact A
instance p_s_l22Size_j1 (s0:TGen) (s3 s4:Int):Lp (zeF s0 s3 s4) (zeL s0 s3 s4) (zeE s0 s3 s4):=⟨fun k r hr=>(zfM).1 s0 s3 s4 r hr k⟩
instance g_s_l22Size (p0:TGen):Lw (PV dI) (zeM p0) (zaa T 204 [D.pim (TGen.c false p0) 0] []):=⟨fun r hr=>(zfM).2.1 p0 r hr⟩
instance p_s_l22Size_l1 (s0:TGen) (s3 s4:Int):Lp (zdA s0 s3 s4) (zbz s0 s3 s4) (zdz s0 s3 s4):=⟨fun k r hr=>(zfM).2.2 s0 s3 s4 r hr k⟩
instance g_s_l22Ok (p0:TGen):Lw (PV D.bool) (zkX p0) (zaa T 145 [D.pim (TGen.c false p0) 0] []):=⟨E (zkX.eq_def ..)⟩
noncomputable abbrev zdB (s1:TGen) (s5:Int) (g0:List TBinding) (g0_1:Int) (g0_2:List TObject) (g0_3:List TCoexpr) (g0_4:Int) (k:List Fr):Option Res:=go T (enF [.tmp 4] []) zqF (.lp zqG::.bl 0::.sq (.clr (rg 4 34))::k) ⟨.d (D.ref 0 1)::.d (D.pim (TGen.c false s1) 0)::Z::Z::Z::sI s5::zs 32 [],[[D.sl false 5 (List.map (TBinding.e false) g0),dI g0_1,D.sl false 10 (List.map (TObject.e false) g0_2),D.sl false 17 (List.map (TCoexpr.e false) g0_3),dI g0_4]]⟩
noncomputable abbrev zdC (s1:TGen) (s5:Int) (g0:List TBinding) (g0_1:Int) (g0_2:List TObject) (g0_3:List TCoexpr) (g0_4:Int):List Fr→((Unit ⊕ Bool))→Option Res→Prop:=(kS (kN T (enF [.tmp 4] []) fun t=>⟨.d (D.ref 0 1)::.d (D.pim (TGen.c false s1) 0)::zs 36 [],[[D.sl false 5 (List.map (TBinding.e false) g0),dI g0_1,D.sl false 10 (List.map (TObject.e false) g0_2),D.sl false 17 (List.map (TCoexpr.e false) g0_3),dI g0_4]]⟩) (kR (fun (r:Bool) x=>x=some (D.bool r,[],[[D.sl false 5 (List.map (TBinding.e false) g0),dI g0_1,D.sl false 10 (List.map (TObject.e false) g0_2),D.sl false 17 (List.map (TCoexpr.e false) g0_3),dI g0_4]]))))
noncomputable abbrev zeG (s1:TGen) (g0:List TBinding) (g0_1:Int) (g0_2:List TObject) (g0_3:List TCoexpr) (g0_4:Int) (k:List Fr):Option Res:=go T (enF [.tmp 4] []) zqH k ⟨.d (D.ref 0 1)::.d (D.pim (TGen.c false s1) 0)::zs 36 [],[[D.sl false 5 (List.map (TBinding.e false) g0),dI g0_1,D.sl false 10 (List.map (TObject.e false) g0_2),D.sl false 17 (List.map (TCoexpr.e false) g0_3),dI g0_4]]⟩
noncomputable abbrev zeH (s1:TGen) (g0:List TBinding) (g0_1:Int) (g0_2:List TObject) (g0_3:List TCoexpr) (g0_4:Int):List Fr→Bool→Option Res→Prop:=(kR (fun (r:Bool) x=>x=some (D.bool r,[],[[D.sl false 5 (List.map (TBinding.e false) g0),dI g0_1,D.sl false 10 (List.map (TObject.e false) g0_2),D.sl false 17 (List.map (TCoexpr.e false) g0_3),dI g0_4]])))
theorem zfN (f0:List TBinding) (f1:Int) (f2:List TObject) (f3:List TCoexpr) (f4:Int):(∀ (s1:TGen) (s5:Int) r,zbT s1 s5 f0 f1 f2 f3 f4=some r→∀ k:List Fr,zdC s1 s5 f0 f1 f2 f3 f4 k r (zdB s1 s5 f0 f1 f2 f3 f4 k))∧(∀ (p1:TGen) r,zeN p1 f0 f1 f2 f3 f4=some r→(fun (r:Bool) x=>x=some (D.bool r,[],[[D.sl false 5 (List.map (TBinding.e false) f0),dI f1,D.sl false 10 (List.map (TObject.e false) f2),D.sl false 17 (List.map (TCoexpr.e false) f3),dI f4]])) r (zaa T 146 [D.ref 0 1,D.pim (TGen.c false p1) 0] [[D.sl false 5 (List.map (TBinding.e false) f0),dI f1,D.sl false 10 (List.map (TObject.e false) f2),D.sl false 17 (List.map (TCoexpr.e false) f3),dI f4]]))∧(∀ (s1:TGen) r,zdR s1 f0 f1 f2 f3 f4=some r→∀ k:List Fr,zeH s1 f0 f1 f2 f3 f4 k r (zeG s1 f0 f1 f2 f3 f4 k)):=by
 refine zbT.mutual_partial_correctness f0 f1 f2 f3 f4 (motive_1:=fun s1 s5 r=>∀ k:List Fr,zdC s1 s5 f0 f1 f2 f3 f4 k r (zdB s1 s5 f0 f1 f2 f3 f4 k)) (motive_2:=fun p1 r=>(fun (r:Bool) x=>x=some (D.bool r,[],[[D.sl false 5 (List.map (TBinding.e false) f0),dI f1,D.sl false 10 (List.map (TObject.e false) f2),D.sl false 17 (List.map (TCoexpr.e false) f3),dI f4]])) r (zaa T 146 [D.ref 0 1,D.pim (TGen.c false p1) 0] [[D.sl false 5 (List.map (TBinding.e false) f0),dI f1,D.sl false 10 (List.map (TObject.e false) f2),D.sl false 17 (List.map (TCoexpr.e false) f3),dI f4]])) (motive_3:=fun s1 r=>∀ k:List Fr,zeH s1 f0 f1 f2 f3 f4 k r (zeG s1 f0 f1 f2 f3 f4 k)) ?_ ?_ ?_
 ·intro zbT zeN i_s_l22Refs_l1 i_s_l22Refs
  have p_s_l22Refs_l1:∀ (s1:TGen) (s5:Int),Lp (zdC s1 s5 f0 f1 f2 f3 f4) (zbT s1 s5) (zdB s1 s5 f0 f1 f2 f3 f4):=fun s1 s5=>⟨fun k r hr=>i_s_l22Refs_l1 s1 s5 r hr k⟩
  have g_s_l22Refs:∀ (p1:TGen),Lw (fun (r:Bool) x=>x=some (D.bool r,[],[[D.sl false 5 (List.map (TBinding.e false) f0),dI f1,D.sl false 10 (List.map (TObject.e false) f2),D.sl false 17 (List.map (TCoexpr.e false) f3),dI f4]])) (zeN p1) (zaa T 146 [D.ref 0 1,D.pim (TGen.c false p1) 0] [[D.sl false 5 (List.map (TBinding.e false) f0),dI f1,D.sl false 10 (List.map (TObject.e false) f2),D.sl false 17 (List.map (TCoexpr.e false) f3),dI f4]]):=fun p1=>⟨fun r hr=>i_s_l22Refs p1 r hr⟩
  clear i_s_l22Refs_l1 i_s_l22Refs
  intro s1 s5
  refine Le.pc ?_
  intro k
  refine G0 zqF.eq_def ?_
  exact A
 ·intro zdR i_s_l22Refs_j1
  have p_s_l22Refs_j1:∀ (s1:TGen),Lp (zeH s1 f0 f1 f2 f3 f4) (zdR s1) (zeG s1 f0 f1 f2 f3 f4):=fun s1=>⟨fun k r hr=>i_s_l22Refs_j1 s1 r hr k⟩
  clear i_s_l22Refs_j1
  intro p1
  refine (show Le (fun (r:Bool) x=>x=some (D.bool r,[],[[D.sl false 5 (List.map (TBinding.e false) f0),dI f1,D.sl false 10 (List.map (TObject.e false) f2),D.sl false 17 (List.map (TCoexpr.e false) f3),dI f4]])) _ (zaa T 146 [D.ref 0 1,D.pim (TGen.c false p1) 0] [[D.sl false 5 (List.map (TBinding.e false) f0),dI f1,D.sl false 10 (List.map (TObject.e false) f2),D.sl false 17 (List.map (TCoexpr.e false) f3),dI f4]]) from E0 (h:=?_) rfl)
  exact A
 ·intro zbT i_s_l22Refs_l1
  have p_s_l22Refs_l1:∀ (s1:TGen) (s5:Int),Lp (zdC s1 s5 f0 f1 f2 f3 f4) (zbT s1 s5) (zdB s1 s5 f0 f1 f2 f3 f4):=fun s1 s5=>⟨fun k r hr=>i_s_l22Refs_l1 s1 s5 r hr k⟩
  clear i_s_l22Refs_l1
  intro s1
  refine Le.pc ?_
  intro k
  refine G0 zqH.eq_def ?_
  exact A
instance p_s_l22Refs_l1 (s1:TGen) (s5:Int) (g0:List TBinding) (g0_1:Int) (g0_2:List TObject) (g0_3:List TCoexpr) (g0_4:Int):Lp (zdC s1 s5 g0 g0_1 g0_2 g0_3 g0_4) (zbT s1 s5 g0 g0_1 g0_2 g0_3 g0_4) (zdB s1 s5 g0 g0_1 g0_2 g0_3 g0_4):=⟨fun k r hr=>(zfN g0 g0_1 g0_2 g0_3 g0_4).1 s1 s5 r hr k⟩
instance g_s_l22Refs (p1:TGen) (g0:List TBinding) (g0_1:Int) (g0_2:List TObject) (g0_3:List TCoexpr) (g0_4:Int):Lw (fun (r:Bool) x=>x=some (D.bool r,[],[[D.sl false 5 (List.map (TBinding.e false) g0),dI g0_1,D.sl false 10 (List.map (TObject.e false) g0_2),D.sl false 17 (List.map (TCoexpr.e false) g0_3),dI g0_4]])) (zeN p1 g0 g0_1 g0_2 g0_3 g0_4) (zaa T 146 [D.ref 0 1,D.pim (TGen.c false p1) 0] [[D.sl false 5 (List.map (TBinding.e false) g0),dI g0_1,D.sl false 10 (List.map (TObject.e false) g0_2),D.sl false 17 (List.map (TCoexpr.e false) g0_3),dI g0_4]]):=⟨fun r hr=>(zfN g0 g0_1 g0_2 g0_3 g0_4).2.1 p1 r hr⟩
instance p_s_l22Refs_j1 (s1:TGen) (g0:List TBinding) (g0_1:Int) (g0_2:List TObject) (g0_3:List TCoexpr) (g0_4:Int):Lp (zeH s1 g0 g0_1 g0_2 g0_3 g0_4) (zdR s1 g0 g0_1 g0_2 g0_3 g0_4) (zeG s1 g0 g0_1 g0_2 g0_3 g0_4):=⟨fun k r hr=>(zfN g0 g0_1 g0_2 g0_3 g0_4).2.2 s1 r hr k⟩
instance g_s_l22Zero (p0:TCursor):Lw (PV D.bool) (zhP p0) (zaa T 147 [D.pim (TCursor.c false p0) 0] []):=⟨E (zhP.eq_def ..)⟩
instance g_s_l22Counts (p0:TGen) (p1:TCursor):Lw (PV D.bool) (zbH p0 p1) (zaa T 205 [D.pim (TGen.c false p0) 0,D.pim (TCursor.c false p1) 0] []):=⟨E (zbH.eq_def ..)⟩
instance g_s_l22Vals (p0:TGen):Lw (PV dI) (zcZ p0) (zaa T 206 [D.pim (TGen.c false p0) 0] []):=⟨E (zcZ.eq_def ..)⟩
noncomputable abbrev zcv (s1:TGen) (s2:TCursor) (s34:Int) (s38:Bool) (g0:List TBinding) (g0_1:Int) (g0_2:List TObject) (g0_3:List TCoexpr) (g0_4:Int) (k:List Fr):Option Res:=go T (enF [.tmp 6] []) zqI k ⟨.d (D.ref 0 1)::.d (D.pim (TGen.c false s1) 0)::.d (D.pim (TCursor.c false s2) 0)::zs 31 (sI s34::Z::Z::Z::sB s38::zs 126 []),[[D.sl false 5 (List.map (TBinding.e false) g0),dI g0_1,D.sl false 10 (List.map (TObject.e false) g0_2),D.sl false 17 (List.map (TCoexpr.e false) g0_3),dI g0_4]]⟩
noncomputable abbrev zcw (s1:TGen) (s2:TCursor) (s34:Int) (s38:Bool) (g0:List TBinding) (g0_1:Int) (g0_2:List TObject) (g0_3:List TCoexpr) (g0_4:Int):List Fr→((Bool ⊕ Bool))→Option Res→Prop:=(kS (kN T (enF [.tmp 6] []) fun t=>⟨.d (D.ref 0 1)::.d (D.pim (TGen.c false s1) 0)::.d (D.pim (TCursor.c false s2) 0)::zs 31 (sI s34::Z::Z::Z::sB t::zs 126 []),[[D.sl false 5 (List.map (TBinding.e false) g0),dI g0_1,D.sl false 10 (List.map (TObject.e false) g0_2),D.sl false 17 (List.map (TCoexpr.e false) g0_3),dI g0_4]]⟩) (kR (fun (r:Bool) x=>x=some (D.bool r,[],[[D.sl false 5 (List.map (TBinding.e false) g0),dI g0_1,D.sl false 10 (List.map (TObject.e false) g0_2),D.sl false 17 (List.map (TCoexpr.e false) g0_3),dI g0_4]]))))
noncomputable abbrev zcx (s1:TGen) (s2:TCursor) (g0:List TBinding) (g0_1:Int) (g0_2:List TObject) (g0_3:List TCoexpr) (g0_4:Int) (k:List Fr):Option Res:=go T (enF [.tmp 6] []) zqO k ⟨.d (D.ref 0 1)::.d (D.pim (TGen.c false s1) 0)::.d (D.pim (TCursor.c false s2) 0)::zs 162 [],[[D.sl false 5 (List.map (TBinding.e false) g0),dI g0_1,D.sl false 10 (List.map (TObject.e false) g0_2),D.sl false 17 (List.map (TCoexpr.e false) g0_3),dI g0_4]]⟩
noncomputable abbrev zcy (s1:TGen) (s2:TCursor) (g0:List TBinding) (g0_1:Int) (g0_2:List TObject) (g0_3:List TCoexpr) (g0_4:Int):List Fr→Bool→Option Res→Prop:=(kR (fun (r:Bool) x=>x=some (D.bool r,[],[[D.sl false 5 (List.map (TBinding.e false) g0),dI g0_1,D.sl false 10 (List.map (TObject.e false) g0_2),D.sl false 17 (List.map (TCoexpr.e false) g0_3),dI g0_4]])))
noncomputable abbrev zcz (s1:TGen) (s2:TCursor) (g0:List TBinding) (g0_1:Int) (g0_2:List TObject) (g0_3:List TCoexpr) (g0_4:Int) (k:List Fr):Option Res:=go T (enF [.tmp 6] []) zqN k ⟨.d (D.ref 0 1)::.d (D.pim (TGen.c false s1) 0)::.d (D.pim (TCursor.c false s2) 0)::zs 162 [],[[D.sl false 5 (List.map (TBinding.e false) g0),dI g0_1,D.sl false 10 (List.map (TObject.e false) g0_2),D.sl false 17 (List.map (TCoexpr.e false) g0_3),dI g0_4]]⟩
noncomputable abbrev zcA (s1:TGen) (s2:TCursor) (g0:List TBinding) (g0_1:Int) (g0_2:List TObject) (g0_3:List TCoexpr) (g0_4:Int):List Fr→Bool→Option Res→Prop:=(kR (fun (r:Bool) x=>x=some (D.bool r,[],[[D.sl false 5 (List.map (TBinding.e false) g0),dI g0_1,D.sl false 10 (List.map (TObject.e false) g0_2),D.sl false 17 (List.map (TCoexpr.e false) g0_3),dI g0_4]])))
noncomputable abbrev zcB (s1:TGen) (s2:TCursor) (g0:List TBinding) (g0_1:Int) (g0_2:List TObject) (g0_3:List TCoexpr) (g0_4:Int) (k:List Fr):Option Res:=go T (enF [.tmp 6] []) zqM k ⟨.d (D.ref 0 1)::.d (D.pim (TGen.c false s1) 0)::.d (D.pim (TCursor.c false s2) 0)::zs 162 [],[[D.sl false 5 (List.map (TBinding.e false) g0),dI g0_1,D.sl false 10 (List.map (TObject.e false) g0_2),D.sl false 17 (List.map (TCoexpr.e false) g0_3),dI g0_4]]⟩
noncomputable abbrev zcC (s1:TGen) (s2:TCursor) (g0:List TBinding) (g0_1:Int) (g0_2:List TObject) (g0_3:List TCoexpr) (g0_4:Int):List Fr→Bool→Option Res→Prop:=(kR (fun (r:Bool) x=>x=some (D.bool r,[],[[D.sl false 5 (List.map (TBinding.e false) g0),dI g0_1,D.sl false 10 (List.map (TObject.e false) g0_2),D.sl false 17 (List.map (TCoexpr.e false) g0_3),dI g0_4]])))
noncomputable abbrev zbI (s1:TGen) (s2:TCursor) (s7:Int) (g0:List TBinding) (g0_1:Int) (g0_2:List TObject) (g0_3:List TCoexpr) (g0_4:Int) (k:List Fr):Option Res:=go T (enF [.tmp 6] []) zqK (.lp zqL::.bl 1::.sq (.clr (rg 6 159))::k) ⟨.d (D.ref 0 1)::.d (D.pim (TGen.c false s1) 0)::.d (D.pim (TCursor.c false s2) 0)::zs 4 (sI s7::zs 157 []),[[D.sl false 5 (List.map (TBinding.e false) g0),dI g0_1,D.sl false 10 (List.map (TObject.e false) g0_2),D.sl false 17 (List.map (TCoexpr.e false) g0_3),dI g0_4]]⟩
noncomputable abbrev zbJ (s1:TGen) (s2:TCursor) (s7:Int) (g0:List TBinding) (g0_1:Int) (g0_2:List TObject) (g0_3:List TCoexpr) (g0_4:Int):List Fr→((Unit ⊕ Bool))→Option Res→Prop:=(kS (kN T (enF [.tmp 6] []) fun t=>⟨.d (D.ref 0 1)::.d (D.pim (TGen.c false s1) 0)::.d (D.pim (TCursor.c false s2) 0)::zs 162 [],[[D.sl false 5 (List.map (TBinding.e false) g0),dI g0_1,D.sl false 10 (List.map (TObject.e false) g0_2),D.sl false 17 (List.map (TCoexpr.e false) g0_3),dI g0_4]]⟩) (kR (fun (r:Bool) x=>x=some (D.bool r,[],[[D.sl false 5 (List.map (TBinding.e false) g0),dI g0_1,D.sl false 10 (List.map (TObject.e false) g0_2),D.sl false 17 (List.map (TCoexpr.e false) g0_3),dI g0_4]]))))
noncomputable abbrev zcD (s1:TGen) (s2:TCursor) (s34:Int) (s35:Bool) (g0:List TBinding) (g0_1:Int) (g0_2:List TObject) (g0_3:List TCoexpr) (g0_4:Int) (k:List Fr):Option Res:=go T (enF [.tmp 6] []) zqJ k ⟨.d (D.ref 0 1)::.d (D.pim (TGen.c false s1) 0)::.d (D.pim (TCursor.c false s2) 0)::zs 31 (sI s34::sB s35::zs 129 []),[[D.sl false 5 (List.map (TBinding.e false) g0),dI g0_1,D.sl false 10 (List.map (TObject.e false) g0_2),D.sl false 17 (List.map (TCoexpr.e false) g0_3),dI g0_4]]⟩
noncomputable abbrev zcE (s1:TGen) (s2:TCursor) (s34:Int) (s35:Bool) (g0:List TBinding) (g0_1:Int) (g0_2:List TObject) (g0_3:List TCoexpr) (g0_4:Int):List Fr→((Unit ⊕ Bool))→Option Res→Prop:=(kS (kN T (enF [.tmp 6] []) fun t=>⟨.d (D.ref 0 1)::.d (D.pim (TGen.c false s1) 0)::.d (D.pim (TCursor.c false s2) 0)::zs 31 (sI s34::zs 130 []),[[D.sl false 5 (List.map (TBinding.e false) g0),dI g0_1,D.sl false 10 (List.map (TObject.e false) g0_2),D.sl false 17 (List.map (TCoexpr.e false) g0_3),dI g0_4]]⟩) (kR (fun (r:Bool) x=>x=some (D.bool r,[],[[D.sl false 5 (List.map (TBinding.e false) g0),dI g0_1,D.sl false 10 (List.map (TObject.e false) g0_2),D.sl false 17 (List.map (TCoexpr.e false) g0_3),dI g0_4]]))))
theorem zaM (f0:List TBinding) (f1:Int) (f2:List TObject) (f3:List TCoexpr) (f4:Int):(∀ (s1:TGen) (s2:TCursor) (s34:Int) (s38:Bool) r,zba s1 s2 s34 s38 f0 f1 f2 f3 f4=some r→∀ k:List Fr,zcw s1 s2 s34 s38 f0 f1 f2 f3 f4 k r (zcv s1 s2 s34 s38 f0 f1 f2 f3 f4 k))∧(∀ (p1:TGen) (p2:TCursor) r,zaj p1 p2 f0 f1 f2 f3 f4=some r→(fun (r:Bool) x=>x=some (D.bool r,[],[[D.sl false 5 (List.map (TBinding.e false) f0),dI f1,D.sl false 10 (List.map (TObject.e false) f2),D.sl false 17 (List.map (TCoexpr.e false) f3),dI f4]])) r (zaa T 148 [D.ref 0 1,D.pim (TGen.c false p1) 0,D.pim (TCursor.c false p2) 0] [[D.sl false 5 (List.map (TBinding.e false) f0),dI f1,D.sl false 10 (List.map (TObject.e false) f2),D.sl false 17 (List.map (TCoexpr.e false) f3),dI f4]]))∧(∀ (s1:TGen) (s2:TCursor) r,zar s1 s2 f0 f1 f2 f3 f4=some r→∀ k:List Fr,zcy s1 s2 f0 f1 f2 f3 f4 k r (zcx s1 s2 f0 f1 f2 f3 f4 k))∧(∀ (s1:TGen) (s2:TCursor) r,zbD s1 s2 f0 f1 f2 f3 f4=some r→∀ k:List Fr,zcA s1 s2 f0 f1 f2 f3 f4 k r (zcz s1 s2 f0 f1 f2 f3 f4 k))∧(∀ (s1:TGen) (s2:TCursor) r,zbE s1 s2 f0 f1 f2 f3 f4=some r→∀ k:List Fr,zcC s1 s2 f0 f1 f2 f3 f4 k r (zcB s1 s2 f0 f1 f2 f3 f4 k))∧(∀ (s1:TGen) (s2:TCursor) (s7:Int) r,zaz s1 s2 s7 f0 f1 f2 f3 f4=some r→∀ k:List Fr,zbJ s1 s2 s7 f0 f1 f2 f3 f4 k r (zbI s1 s2 s7 f0 f1 f2 f3 f4 k))∧(∀ (s1:TGen) (s2:TCursor) (s34:Int) (s35:Bool) r,zbC s1 s2 s34 s35 f0 f1 f2 f3 f4=some r→∀ k:List Fr,zcE s1 s2 s34 s35 f0 f1 f2 f3 f4 k r (zcD s1 s2 s34 s35 f0 f1 f2 f3 f4 k)):=by
 refine zba.mutual_partial_correctness f0 f1 f2 f3 f4 (motive_1:=fun s1 s2 s34 s38 r=>∀ k:List Fr,zcw s1 s2 s34 s38 f0 f1 f2 f3 f4 k r (zcv s1 s2 s34 s38 f0 f1 f2 f3 f4 k)) (motive_2:=fun p1 p2 r=>(fun (r:Bool) x=>x=some (D.bool r,[],[[D.sl false 5 (List.map (TBinding.e false) f0),dI f1,D.sl false 10 (List.map (TObject.e false) f2),D.sl false 17 (List.map (TCoexpr.e false) f3),dI f4]])) r (zaa T 148 [D.ref 0 1,D.pim (TGen.c false p1) 0,D.pim (TCursor.c false p2) 0] [[D.sl false 5 (List.map (TBinding.e false) f0),dI f1,D.sl false 10 (List.map (TObject.e false) f2),D.sl false 17 (List.map (TCoexpr.e false) f3),dI f4]])) (motive_3:=fun s1 s2 r=>∀ k:List Fr,zcy s1 s2 f0 f1 f2 f3 f4 k r (zcx s1 s2 f0 f1 f2 f3 f4 k)) (motive_4:=fun s1 s2 r=>∀ k:List Fr,zcA s1 s2 f0 f1 f2 f3 f4 k r (zcz s1 s2 f0 f1 f2 f3 f4 k)) (motive_5:=fun s1 s2 r=>∀ k:List Fr,zcC s1 s2 f0 f1 f2 f3 f4 k r (zcB s1 s2 f0 f1 f2 f3 f4 k)) (motive_6:=fun s1 s2 s7 r=>∀ k:List Fr,zbJ s1 s2 s7 f0 f1 f2 f3 f4 k r (zbI s1 s2 s7 f0 f1 f2 f3 f4 k)) (motive_7:=fun s1 s2 s34 s35 r=>∀ k:List Fr,zcE s1 s2 s34 s35 f0 f1 f2 f3 f4 k r (zcD s1 s2 s34 s35 f0 f1 f2 f3 f4 k)) ?_ ?_ ?_ ?_ ?_ ?_ ?_
 ·intro zaj i_s_l22Suspended
  have g_s_l22Suspended:∀ (p1:TGen) (p2:TCursor),Lw (fun (r:Bool) x=>x=some (D.bool r,[],[[D.sl false 5 (List.map (TBinding.e false) f0),dI f1,D.sl false 10 (List.map (TObject.e false) f2),D.sl false 17 (List.map (TCoexpr.e false) f3),dI f4]])) (zaj p1 p2) (zaa T 148 [D.ref 0 1,D.pim (TGen.c false p1) 0,D.pim (TCursor.c false p2) 0] [[D.sl false 5 (List.map (TBinding.e false) f0),dI f1,D.sl false 10 (List.map (TObject.e false) f2),D.sl false 17 (List.map (TCoexpr.e false) f3),dI f4]]):=fun p1 p2=>⟨fun r hr=>i_s_l22Suspended p1 p2 r hr⟩
  clear i_s_l22Suspended
  intro s1 s2 s34 s38
  refine Le.pc ?_
  intro k
  refine G0 zqI.eq_def ?_
  exact A
 ·intro zar i_s_l22Suspended_j5
  have p_s_l22Suspended_j5:∀ (s1:TGen) (s2:TCursor),Lp (zcy s1 s2 f0 f1 f2 f3 f4) (zar s1 s2) (zcx s1 s2 f0 f1 f2 f3 f4):=fun s1 s2=>⟨fun k r hr=>i_s_l22Suspended_j5 s1 s2 r hr k⟩
  clear i_s_l22Suspended_j5
  intro p1 p2
  refine (show Le (fun (r:Bool) x=>x=some (D.bool r,[],[[D.sl false 5 (List.map (TBinding.e false) f0),dI f1,D.sl false 10 (List.map (TObject.e false) f2),D.sl false 17 (List.map (TCoexpr.e false) f3),dI f4]])) _ (zaa T 148 [D.ref 0 1,D.pim (TGen.c false p1) 0,D.pim (TCursor.c false p2) 0] [[D.sl false 5 (List.map (TBinding.e false) f0),dI f1,D.sl false 10 (List.map (TObject.e false) f2),D.sl false 17 (List.map (TCoexpr.e false) f3),dI f4]]) from E0 (h:=?_) rfl)
  exact A
 ·intro zbD zbC i_s_l22Suspended_j4 i_s_l22Suspended_j2
  have p_s_l22Suspended_j4:∀ (s1:TGen) (s2:TCursor),Lp (zcA s1 s2 f0 f1 f2 f3 f4) (zbD s1 s2) (zcz s1 s2 f0 f1 f2 f3 f4):=fun s1 s2=>⟨fun k r hr=>i_s_l22Suspended_j4 s1 s2 r hr k⟩
  have p_s_l22Suspended_j2:∀ (s1:TGen) (s2:TCursor) (s34:Int) (s35:Bool),Lp (zcE s1 s2 s34 s35 f0 f1 f2 f3 f4) (zbC s1 s2 s34 s35) (zcD s1 s2 s34 s35 f0 f1 f2 f3 f4):=fun s1 s2 s34 s35=>⟨fun k r hr=>i_s_l22Suspended_j2 s1 s2 s34 s35 r hr k⟩
  clear i_s_l22Suspended_j4 i_s_l22Suspended_j2
  intro s1 s2
  refine Le.pc ?_
  intro k
  refine G0 zqO.eq_def ?_
  exact A
 ·intro zbE i_s_l22Suspended_j3
  have p_s_l22Suspended_j3:∀ (s1:TGen) (s2:TCursor),Lp (zcC s1 s2 f0 f1 f2 f3 f4) (zbE s1 s2) (zcB s1 s2 f0 f1 f2 f3 f4):=fun s1 s2=>⟨fun k r hr=>i_s_l22Suspended_j3 s1 s2 r hr k⟩
  clear i_s_l22Suspended_j3
  intro s1 s2
  refine Le.pc ?_
  intro k
  refine G0 zqN.eq_def ?_
  exact A
 ·intro zaz i_s_l22Suspended_l1
  have p_s_l22Suspended_l1:∀ (s1:TGen) (s2:TCursor) (s7:Int),Lp (zbJ s1 s2 s7 f0 f1 f2 f3 f4) (zaz s1 s2 s7) (zbI s1 s2 s7 f0 f1 f2 f3 f4):=fun s1 s2 s7=>⟨fun k r hr=>i_s_l22Suspended_l1 s1 s2 s7 r hr k⟩
  clear i_s_l22Suspended_l1
  intro s1 s2
  refine Le.pc ?_
  intro k
  refine G0 zqM.eq_def ?_
  exact A
 ·intro zaj zaz i_s_l22Suspended i_s_l22Suspended_l1
  have g_s_l22Suspended:∀ (p1:TGen) (p2:TCursor),Lw (fun (r:Bool) x=>x=some (D.bool r,[],[[D.sl false 5 (List.map (TBinding.e false) f0),dI f1,D.sl false 10 (List.map (TObject.e false) f2),D.sl false 17 (List.map (TCoexpr.e false) f3),dI f4]])) (zaj p1 p2) (zaa T 148 [D.ref 0 1,D.pim (TGen.c false p1) 0,D.pim (TCursor.c false p2) 0] [[D.sl false 5 (List.map (TBinding.e false) f0),dI f1,D.sl false 10 (List.map (TObject.e false) f2),D.sl false 17 (List.map (TCoexpr.e false) f3),dI f4]]):=fun p1 p2=>⟨fun r hr=>i_s_l22Suspended p1 p2 r hr⟩
  have p_s_l22Suspended_l1:∀ (s1:TGen) (s2:TCursor) (s7:Int),Lp (zbJ s1 s2 s7 f0 f1 f2 f3 f4) (zaz s1 s2 s7) (zbI s1 s2 s7 f0 f1 f2 f3 f4):=fun s1 s2 s7=>⟨fun k r hr=>i_s_l22Suspended_l1 s1 s2 s7 r hr k⟩
  clear i_s_l22Suspended i_s_l22Suspended_l1
  intro s1 s2 s7
  refine Le.pc ?_
  intro k
  refine G0 zqK.eq_def ?_
  exact A
 ·intro zba i_s_l22Suspended_j1
  have p_s_l22Suspended_j1:∀ (s1:TGen) (s2:TCursor) (s34:Int) (s38:Bool),Lp (zcw s1 s2 s34 s38 f0 f1 f2 f3 f4) (zba s1 s2 s34 s38) (zcv s1 s2 s34 s38 f0 f1 f2 f3 f4):=fun s1 s2 s34 s38=>⟨fun k r hr=>i_s_l22Suspended_j1 s1 s2 s34 s38 r hr k⟩
  clear i_s_l22Suspended_j1
  intro s1 s2 s34 s35
  refine Le.pc ?_
  intro k
  refine G0 zqJ.eq_def ?_
  exact A
instance p_s_l22Suspended_j1 (s1:TGen) (s2:TCursor) (s34:Int) (s38:Bool) (g0:List TBinding) (g0_1:Int) (g0_2:List TObject) (g0_3:List TCoexpr) (g0_4:Int):Lp (zcw s1 s2 s34 s38 g0 g0_1 g0_2 g0_3 g0_4) (zba s1 s2 s34 s38 g0 g0_1 g0_2 g0_3 g0_4) (zcv s1 s2 s34 s38 g0 g0_1 g0_2 g0_3 g0_4):=⟨fun k r hr=>(zaM g0 g0_1 g0_2 g0_3 g0_4).1 s1 s2 s34 s38 r hr k⟩
instance g_s_l22Suspended (p1:TGen) (p2:TCursor) (g0:List TBinding) (g0_1:Int) (g0_2:List TObject) (g0_3:List TCoexpr) (g0_4:Int):Lw (fun (r:Bool) x=>x=some (D.bool r,[],[[D.sl false 5 (List.map (TBinding.e false) g0),dI g0_1,D.sl false 10 (List.map (TObject.e false) g0_2),D.sl false 17 (List.map (TCoexpr.e false) g0_3),dI g0_4]])) (zaj p1 p2 g0 g0_1 g0_2 g0_3 g0_4) (zaa T 148 [D.ref 0 1,D.pim (TGen.c false p1) 0,D.pim (TCursor.c false p2) 0] [[D.sl false 5 (List.map (TBinding.e false) g0),dI g0_1,D.sl false 10 (List.map (TObject.e false) g0_2),D.sl false 17 (List.map (TCoexpr.e false) g0_3),dI g0_4]]):=⟨fun r hr=>(zaM g0 g0_1 g0_2 g0_3 g0_4).2.1 p1 p2 r hr⟩
instance p_s_l22Suspended_j5 (s1:TGen) (s2:TCursor) (g0:List TBinding) (g0_1:Int) (g0_2:List TObject) (g0_3:List TCoexpr) (g0_4:Int):Lp (zcy s1 s2 g0 g0_1 g0_2 g0_3 g0_4) (zar s1 s2 g0 g0_1 g0_2 g0_3 g0_4) (zcx s1 s2 g0 g0_1 g0_2 g0_3 g0_4):=⟨fun k r hr=>(zaM g0 g0_1 g0_2 g0_3 g0_4).2.2.1 s1 s2 r hr k⟩
instance p_s_l22Suspended_j4 (s1:TGen) (s2:TCursor) (g0:List TBinding) (g0_1:Int) (g0_2:List TObject) (g0_3:List TCoexpr) (g0_4:Int):Lp (zcA s1 s2 g0 g0_1 g0_2 g0_3 g0_4) (zbD s1 s2 g0 g0_1 g0_2 g0_3 g0_4) (zcz s1 s2 g0 g0_1 g0_2 g0_3 g0_4):=⟨fun k r hr=>(zaM g0 g0_1 g0_2 g0_3 g0_4).2.2.2.1 s1 s2 r hr k⟩
instance p_s_l22Suspended_j3 (s1:TGen) (s2:TCursor) (g0:List TBinding) (g0_1:Int) (g0_2:List TObject) (g0_3:List TCoexpr) (g0_4:Int):Lp (zcC s1 s2 g0 g0_1 g0_2 g0_3 g0_4) (zbE s1 s2 g0 g0_1 g0_2 g0_3 g0_4) (zcB s1 s2 g0 g0_1 g0_2 g0_3 g0_4):=⟨fun k r hr=>(zaM g0 g0_1 g0_2 g0_3 g0_4).2.2.2.2.1 s1 s2 r hr k⟩
instance p_s_l22Suspended_l1 (s1:TGen) (s2:TCursor) (s7:Int) (g0:List TBinding) (g0_1:Int) (g0_2:List TObject) (g0_3:List TCoexpr) (g0_4:Int):Lp (zbJ s1 s2 s7 g0 g0_1 g0_2 g0_3 g0_4) (zaz s1 s2 s7 g0 g0_1 g0_2 g0_3 g0_4) (zbI s1 s2 s7 g0 g0_1 g0_2 g0_3 g0_4):=⟨fun k r hr=>(zaM g0 g0_1 g0_2 g0_3 g0_4).2.2.2.2.2.1 s1 s2 s7 r hr k⟩
instance p_s_l22Suspended_j2 (s1:TGen) (s2:TCursor) (s34:Int) (s35:Bool) (g0:List TBinding) (g0_1:Int) (g0_2:List TObject) (g0_3:List TCoexpr) (g0_4:Int):Lp (zcE s1 s2 s34 s35 g0 g0_1 g0_2 g0_3 g0_4) (zbC s1 s2 s34 s35 g0 g0_1 g0_2 g0_3 g0_4) (zcD s1 s2 s34 s35 g0 g0_1 g0_2 g0_3 g0_4):=⟨fun k r hr=>(zaM g0 g0_1 g0_2 g0_3 g0_4).2.2.2.2.2.2 s1 s2 s34 s35 r hr k⟩
instance p_s_l22Co_j1 (s1:TCoexpr) (g0:List TBinding) (g0_1:Int) (g0_2:List TObject) (g0_3:List TCoexpr) (g0_4:Int):Lp (kR (fun (r:Bool) x=>x=some (D.bool r,[],[[D.sl false 5 (List.map (TBinding.e false) g0),dI g0_1,D.sl false 10 (List.map (TObject.e false) g0_2),D.sl false 17 (List.map (TCoexpr.e false) g0_3),dI g0_4]]))) (zhc s1 g0 g0_1 g0_2 g0_3 g0_4) fun k=>go T (enF [.tmp 4] []) zqe k ⟨.d (D.ref 0 1)::.d (D.pim (TCoexpr.c false s1) 0)::zs 73 [],[[D.sl false 5 (List.map (TBinding.e false) g0),dI g0_1,D.sl false 10 (List.map (TObject.e false) g0_2),D.sl false 17 (List.map (TCoexpr.e false) g0_3),dI g0_4]]⟩:=⟨fun k=>GG (zhc.eq_def ..) zqe.eq_def⟩
instance p_s_l22Co_j2 (s1:TCoexpr) (g0:List TBinding) (g0_1:Int) (g0_2:List TObject) (g0_3:List TCoexpr) (g0_4:Int):Lp (kR (fun (r:Bool) x=>x=some (D.bool r,[],[[D.sl false 5 (List.map (TBinding.e false) g0),dI g0_1,D.sl false 10 (List.map (TObject.e false) g0_2),D.sl false 17 (List.map (TCoexpr.e false) g0_3),dI g0_4]]))) (zig s1 g0 g0_1 g0_2 g0_3 g0_4) fun k=>go T (enF [.tmp 4] []) zqf k ⟨.d (D.ref 0 1)::.d (D.pim (TCoexpr.c false s1) 0)::zs 73 [],[[D.sl false 5 (List.map (TBinding.e false) g0),dI g0_1,D.sl false 10 (List.map (TObject.e false) g0_2),D.sl false 17 (List.map (TCoexpr.e false) g0_3),dI g0_4]]⟩:=⟨fun k=>GG (zig.eq_def ..) zqf.eq_def⟩
instance p_s_l22Co_j3 (s1:TCoexpr) (g0:List TBinding) (g0_1:Int) (g0_2:List TObject) (g0_3:List TCoexpr) (g0_4:Int):Lp (kR (fun (r:Bool) x=>x=some (D.bool r,[],[[D.sl false 5 (List.map (TBinding.e false) g0),dI g0_1,D.sl false 10 (List.map (TObject.e false) g0_2),D.sl false 17 (List.map (TCoexpr.e false) g0_3),dI g0_4]]))) (zih s1 g0 g0_1 g0_2 g0_3 g0_4) fun k=>go T (enF [.tmp 4] []) zqg k ⟨.d (D.ref 0 1)::.d (D.pim (TCoexpr.c false s1) 0)::zs 73 [],[[D.sl false 5 (List.map (TBinding.e false) g0),dI g0_1,D.sl false 10 (List.map (TObject.e false) g0_2),D.sl false 17 (List.map (TCoexpr.e false) g0_3),dI g0_4]]⟩:=⟨fun k=>GG (zih.eq_def ..) zqg.eq_def⟩
instance g_s_l22Co (p1:TCoexpr) (g0:List TBinding) (g0_1:Int) (g0_2:List TObject) (g0_3:List TCoexpr) (g0_4:Int):Lw (fun (r:Bool) x=>x=some (D.bool r,[],[[D.sl false 5 (List.map (TBinding.e false) g0),dI g0_1,D.sl false 10 (List.map (TObject.e false) g0_2),D.sl false 17 (List.map (TCoexpr.e false) g0_3),dI g0_4]])) (zii p1 g0 g0_1 g0_2 g0_3 g0_4) (zaa T 121 [D.ref 0 1,D.pim (TCoexpr.c false p1) 0] [[D.sl false 5 (List.map (TBinding.e false) g0),dI g0_1,D.sl false 10 (List.map (TObject.e false) g0_2),D.sl false 17 (List.map (TCoexpr.e false) g0_3),dI g0_4]]):=⟨E (zii.eq_def ..)⟩
instance p_s_l22Scope_l1 (g0:List TBinding) (g0_1:Int) (g0_2:List TObject) (g0_3:List TCoexpr) (g0_4:Int):∀ (s3:Int),Lp (kS (kN T (enF [.tmp 2] []) fun t=>⟨.d (D.ref 0 0)::zs 79 [],[[D.sl false 5 (List.map (TBinding.e false) g0),dI g0_1,D.sl false 10 (List.map (TObject.e false) g0_2),D.sl false 17 (List.map (TCoexpr.e false) g0_3),dI g0_4]]⟩) (kR (fun (r:Bool) x=>x=some (D.bool r,[],[[D.sl false 5 (List.map (TBinding.e false) g0),dI g0_1,D.sl false 10 (List.map (TObject.e false) g0_2),D.sl false 17 (List.map (TCoexpr.e false) g0_3),dI g0_4]])))) (zdl g0 g0_1 g0_2 g0_3 g0_4 s3) fun k=>go T (enF [.tmp 2] []) zuf (.lp zug::.bl 0::.sq (.clr (rg 2 78))::k) ⟨.d (D.ref 0 0)::Z::Z::sI s3::zs 76 [],[[D.sl false 5 (List.map (TBinding.e false) g0),dI g0_1,D.sl false 10 (List.map (TObject.e false) g0_2),D.sl false 17 (List.map (TCoexpr.e false) g0_3),dI g0_4]]⟩:=Lp1 (zdl.partial_correctness g0 g0_1 g0_2 g0_3 g0_4) (by exact fun _ _ _ _=>G zuf.eq_def)
instance p_s_l22Scope_j1 (g0:List TBinding) (g0_1:Int) (g0_2:List TObject) (g0_3:List TCoexpr) (g0_4:Int):Lp (kR (fun (r:Bool) x=>x=some (D.bool r,[],[[D.sl false 5 (List.map (TBinding.e false) g0),dI g0_1,D.sl false 10 (List.map (TObject.e false) g0_2),D.sl false 17 (List.map (TCoexpr.e false) g0_3),dI g0_4]]))) (zgq g0 g0_1 g0_2 g0_3 g0_4) fun k=>go T (enF [.tmp 2] []) zuh k ⟨.d (D.ref 0 0)::zs 79 [],[[D.sl false 5 (List.map (TBinding.e false) g0),dI g0_1,D.sl false 10 (List.map (TObject.e false) g0_2),D.sl false 17 (List.map (TCoexpr.e false) g0_3),dI g0_4]]⟩:=⟨fun k=>GG (zgq.eq_def ..) zuh.eq_def⟩
instance g_s_l22Scope (g0:List TBinding) (g0_1:Int) (g0_2:List TObject) (g0_3:List TCoexpr) (g0_4:Int):Lw (fun (r:Bool) x=>x=some (D.bool r,[],[[D.sl false 5 (List.map (TBinding.e false) g0),dI g0_1,D.sl false 10 (List.map (TObject.e false) g0_2),D.sl false 17 (List.map (TCoexpr.e false) g0_3),dI g0_4]])) (zhd g0 g0_1 g0_2 g0_3 g0_4) (zaa T 53 [D.ref 0 0] [[D.sl false 5 (List.map (TBinding.e false) g0),dI g0_1,D.sl false 10 (List.map (TObject.e false) g0_2),D.sl false 17 (List.map (TCoexpr.e false) g0_3),dI g0_4]]):=⟨E (zhd.eq_def ..)⟩
instance p_s_l23At_l1 (s1:Int) (g0:List TBinding) (g0_1:Int) (g0_2:List TObject) (g0_3:List TCoexpr) (g0_4:Int):∀ (s5:Int),Lp (kS (kN T (enF [.tmp 4] []) fun t=>⟨.d (D.ref 0 0)::sI s1::zs 24 [],[[D.sl false 5 (List.map (TBinding.e false) g0),dI g0_1,D.sl false 10 (List.map (TObject.e false) g0_2),D.sl false 17 (List.map (TCoexpr.e false) g0_3),dI g0_4]]⟩) (kR (fun (r:Int) x=>x=some (dI r,[],[[D.sl false 5 (List.map (TBinding.e false) g0),dI g0_1,D.sl false 10 (List.map (TObject.e false) g0_2),D.sl false 17 (List.map (TCoexpr.e false) g0_3),dI g0_4]])))) (zhe s1 g0 g0_1 g0_2 g0_3 g0_4 s5) fun k=>go T (enF [.tmp 4] []) zui (.lp zuj::.bl 0::.sq (.clr (rg 4 22))::k) ⟨.d (D.ref 0 0)::sI s1::Z::Z::Z::sI s5::zs 20 [],[[D.sl false 5 (List.map (TBinding.e false) g0),dI g0_1,D.sl false 10 (List.map (TObject.e false) g0_2),D.sl false 17 (List.map (TCoexpr.e false) g0_3),dI g0_4]]⟩:=Lp1 (zhe.partial_correctness s1 g0 g0_1 g0_2 g0_3 g0_4) (by exact fun _ _ _ _=>G zui.eq_def)
instance g_s_l23At (p1:Int) (g0:List TBinding) (g0_1:Int) (g0_2:List TObject) (g0_3:List TCoexpr) (g0_4:Int):Lw (fun (r:Int) x=>x=some (dI r,[],[[D.sl false 5 (List.map (TBinding.e false) g0),dI g0_1,D.sl false 10 (List.map (TObject.e false) g0_2),D.sl false 17 (List.map (TCoexpr.e false) g0_3),dI g0_4]])) (zkY p1 g0 g0_1 g0_2 g0_3 g0_4) (zaa T 54 [D.ref 0 0,dI p1] [[D.sl false 5 (List.map (TBinding.e false) g0),dI g0_1,D.sl false 10 (List.map (TObject.e false) g0_2),D.sl false 17 (List.map (TCoexpr.e false) g0_3),dI g0_4]]):=⟨E (zkY.eq_def ..)⟩
noncomputable abbrev zcJ (s0 s2 s3:TGen) (s4:Int) (k:List Fr):Option Res:=go T (enF [.cell 2 (.many 8)] []) zqh (.lp zqi::.bl 0::.sq (.clr (rg 4 39))::k) ⟨.d (D.pim (TGen.c false s0) 0)::Z::.box (TGen.c true s2)::.box (TGen.c true s3)::sI s4::zs 39 [],[]⟩
noncomputable abbrev zcK (s0 s2 s3:TGen) (s4:Int):List Fr→TGen→Option Res→Prop:=(kN T (enF [.cell 2 (.many 8)] []) fun t=>⟨.d (D.pim (TGen.c false s0) 0)::Z::.box (TGen.c true s2)::.box (TGen.c true t)::zs 40 [],[]⟩)
theorem zhR:(∀ (s0 s2 s3:TGen) (s4:Int) r,zbh s0 s2 s3 s4=some r→∀ k:List Fr,zcK s0 s2 s3 s4 k r (zcJ s0 s2 s3 s4 k))∧(∀ (p0:TGen) r,zda p0=some r→(PV fun (r:TGen)=>D.agg [dI r.Kind,dI r.Num,D.str r.Text,dI r.Value.Kind,dI r.Value.Num,D.str r.Value.Text,dI r.Value.Ref,D.sl true 8 (List.map (TGen.e true) r.Kids)]) r (zaa T 122 [D.pim (TGen.c false p0) 0] [])):=by
 refine zbh.mutual_partial_correctness (motive_1:=fun s0 s2 s3 s4 r=>∀ k:List Fr,zcK s0 s2 s3 s4 k r (zcJ s0 s2 s3 s4 k)) (motive_2:=fun p0 r=>(PV fun (r:TGen)=>D.agg [dI r.Kind,dI r.Num,D.str r.Text,dI r.Value.Kind,dI r.Value.Num,D.str r.Value.Text,dI r.Value.Ref,D.sl true 8 (List.map (TGen.e true) r.Kids)]) r (zaa T 122 [D.pim (TGen.c false p0) 0] [])) ?_ ?_
 ·intro zbh zda i_s_l22OwnGen_l1 i_s_l22OwnGen
  have p_s_l22OwnGen_l1:∀ (s0 s2 s3:TGen) (s4:Int),Lp (zcK s0 s2 s3 s4) (zbh s0 s2 s3 s4) (zcJ s0 s2 s3 s4):=fun s0 s2 s3 s4=>⟨fun k r hr=>i_s_l22OwnGen_l1 s0 s2 s3 s4 r hr k⟩
  have g_s_l22OwnGen:∀ (p0:TGen),Lw (PV fun (r:TGen)=>D.agg [dI r.Kind,dI r.Num,D.str r.Text,dI r.Value.Kind,dI r.Value.Num,D.str r.Value.Text,dI r.Value.Ref,D.sl true 8 (List.map (TGen.e true) r.Kids)]) (zda p0) (zaa T 122 [D.pim (TGen.c false p0) 0] []):=fun p0=>⟨fun r hr=>i_s_l22OwnGen p0 r hr⟩
  clear i_s_l22OwnGen_l1 i_s_l22OwnGen
  intro s0 s2 s3 s4
  refine Le.pc ?_
  intro k
  refine G0 zqh.eq_def ?_
  try conv=>arg 3;simp (maxSteps:=999999) only [push_cast,↓reduceIte,seval, *]
  refine Le.itq (fun h=>?_) (fun h=>?_)
  ·try conv=>arg 3;simp (maxSteps:=999999) only [push_cast,↓reduceIte,seval, *]
   refine Le.idx fun a38 h_1 h_2 h_3=>?_
   try conv=>arg 3;simp (maxSteps:=999999) only [push_cast,↓reduceIte,seval, *]
   refine Le.dcall ((g_s_l22OwnGen a38).h) fun r39 h_4 _ hy=>?_
   first|subst hy|obtain ⟨_,rfl⟩:=hy
   try conv=>arg 3;simp (maxSteps:=999999) only [push_cast,↓reduceIte,seval, *]
   refine Le.app fun c41 h_5 h_6=>?_
   replace h_5:List.map (TGen.e true) s3.Kids++[D.agg [D.int .i64 r39.Kind,D.int .i64 r39.Num,D.str r39.Text,D.int .i64 r39.Value.Kind,D.int .i64 r39.Value.Num,D.str r39.Value.Text,D.int .i64 r39.Value.Ref,D.sl true 8 (List.map (TGen.e true) r39.Kids)]]=List.map (TGen.e true) c41:=by rw [h_5,List.map_append] <;> first|rfl|simp only [eqs]
   replace h_6:s3.Kids.length + 1≤most:=h_6
   exact A
  ·exact A
 ·intro zbh i_s_l22OwnGen_l1
  have p_s_l22OwnGen_l1:∀ (s0 s2 s3:TGen) (s4:Int),Lp (zcK s0 s2 s3 s4) (zbh s0 s2 s3 s4) (zcJ s0 s2 s3 s4):=fun s0 s2 s3 s4=>⟨fun k r hr=>i_s_l22OwnGen_l1 s0 s2 s3 s4 r hr k⟩
  clear i_s_l22OwnGen_l1
  intro p0
  refine (show Le (PV fun (r:TGen)=>D.agg [dI r.Kind,dI r.Num,D.str r.Text,dI r.Value.Kind,dI r.Value.Num,D.str r.Value.Text,dI r.Value.Ref,D.sl true 8 (List.map (TGen.e true) r.Kids)]) _ (zaa T 122 [D.pim (TGen.c false p0) 0] []) from E0 (h:=?_) rfl)
  exact A
instance p_s_l22OwnGen_l1 (s0 s2 s3:TGen) (s4:Int):Lp (zcK s0 s2 s3 s4) (zbh s0 s2 s3 s4) (zcJ s0 s2 s3 s4):=⟨fun k r hr=>(zhR).1 s0 s2 s3 s4 r hr k⟩
instance g_s_l22OwnGen (p0:TGen):Lw (PV fun (r:TGen)=>D.agg [dI r.Kind,dI r.Num,D.str r.Text,dI r.Value.Kind,dI r.Value.Num,D.str r.Value.Text,dI r.Value.Ref,D.sl true 8 (List.map (TGen.e true) r.Kids)]) (zda p0) (zaa T 122 [D.pim (TGen.c false p0) 0] []):=⟨fun r hr=>(zhR).2 p0 r hr⟩
instance g_s_l22OwnVars (p0:List TBinding):Lw (PV (dL true 5 (TBinding.e false))) (zfz p0) (zaa T 123 [D.sl false 5 (List.map (TBinding.e false) p0)] []):=⟨E (zfz.eq_def ..)⟩
instance g_s_l07OwnValues (p0:List TValue):Lw (PV (dL true 4 (TValue.e false))) (zfH p0) (zaa T 199 [D.sl false 4 (List.map (TValue.e false) p0)] []):=⟨E (zfH.eq_def ..)⟩
noncomputable abbrev zbK (s0 s2 s3:TCursor) (s4:Int) (k:List Fr):Option Res:=go T (enF [.cell 2 (.many 4)] []) zqj (.lp zqk::.bl 0::.sq (.clr (rg 4 36))::k) ⟨.d (D.pim (TCursor.c false s0) 0)::Z::.box (TCursor.c true s2)::.box (TCursor.c true s3)::sI s4::zs 36 [],[]⟩
noncomputable abbrev zbL (s0 s2 s3:TCursor) (s4:Int):List Fr→TCursor→Option Res→Prop:=(kN T (enF [.cell 2 (.many 4)] []) fun t=>⟨.d (D.pim (TCursor.c false s0) 0)::Z::.box (TCursor.c true s2)::.box (TCursor.c true t)::zs 37 [],[]⟩)
theorem zgA:(∀ (s0 s2 s3:TCursor) (s4:Int) r,zaH s0 s2 s3 s4=some r→∀ k:List Fr,zbL s0 s2 s3 s4 k r (zbK s0 s2 s3 s4 k))∧(∀ (p0:TCursor) r,zbA p0=some r→(PV fun (r:TCursor)=>D.agg [dI r.Phase,dI r.Count,D.sl true 4 (List.map (TValue.e false) r.Vals),D.sl true 4 (List.map (TCursor.e true) r.Kids)]) r (zaa T 124 [D.pim (TCursor.c false p0) 0] [])):=by
 refine zaH.mutual_partial_correctness (motive_1:=fun s0 s2 s3 s4 r=>∀ k:List Fr,zbL s0 s2 s3 s4 k r (zbK s0 s2 s3 s4 k)) (motive_2:=fun p0 r=>(PV fun (r:TCursor)=>D.agg [dI r.Phase,dI r.Count,D.sl true 4 (List.map (TValue.e false) r.Vals),D.sl true 4 (List.map (TCursor.e true) r.Kids)]) r (zaa T 124 [D.pim (TCursor.c false p0) 0] [])) ?_ ?_
 ·intro zaH zbA i_s_l22OwnCursor_l1 i_s_l22OwnCursor
  have p_s_l22OwnCursor_l1:∀ (s0 s2 s3:TCursor) (s4:Int),Lp (zbL s0 s2 s3 s4) (zaH s0 s2 s3 s4) (zbK s0 s2 s3 s4):=fun s0 s2 s3 s4=>⟨fun k r hr=>i_s_l22OwnCursor_l1 s0 s2 s3 s4 r hr k⟩
  have g_s_l22OwnCursor:∀ (p0:TCursor),Lw (PV fun (r:TCursor)=>D.agg [dI r.Phase,dI r.Count,D.sl true 4 (List.map (TValue.e false) r.Vals),D.sl true 4 (List.map (TCursor.e true) r.Kids)]) (zbA p0) (zaa T 124 [D.pim (TCursor.c false p0) 0] []):=fun p0=>⟨fun r hr=>i_s_l22OwnCursor p0 r hr⟩
  clear i_s_l22OwnCursor_l1 i_s_l22OwnCursor
  intro s0 s2 s3 s4
  refine Le.pc ?_
  intro k
  refine G0 zqj.eq_def ?_
  try conv=>arg 3;simp (maxSteps:=999999) only [push_cast,↓reduceIte,seval, *]
  refine Le.itq (fun h=>?_) (fun h=>?_)
  ·try conv=>arg 3;simp (maxSteps:=999999) only [push_cast,↓reduceIte,seval, *]
   refine Le.idx fun a35 h_1 h_2 h_3=>?_
   try conv=>arg 3;simp (maxSteps:=999999) only [push_cast,↓reduceIte,seval, *]
   refine Le.dcall ((g_s_l22OwnCursor a35).h) fun r36 h_4 _ hy=>?_
   first|subst hy|obtain ⟨_,rfl⟩:=hy
   try conv=>arg 3;simp (maxSteps:=999999) only [push_cast,↓reduceIte,seval, *]
   refine Le.app fun c38 h_5 h_6=>?_
   replace h_5:List.map (TCursor.e true) s3.Kids++[D.agg [D.int .i64 r36.Phase,D.int .i64 r36.Count,D.sl true 4 (List.map (TValue.e false) r36.Vals),D.sl true 4 (List.map (TCursor.e true) r36.Kids)]]=List.map (TCursor.e true) c38:=by rw [h_5,List.map_append] <;> first|rfl|simp only [eqs]
   replace h_6:s3.Kids.length + 1≤most:=h_6
   exact A
  ·exact A
 ·intro zaH i_s_l22OwnCursor_l1
  have p_s_l22OwnCursor_l1:∀ (s0 s2 s3:TCursor) (s4:Int),Lp (zbL s0 s2 s3 s4) (zaH s0 s2 s3 s4) (zbK s0 s2 s3 s4):=fun s0 s2 s3 s4=>⟨fun k r hr=>i_s_l22OwnCursor_l1 s0 s2 s3 s4 r hr k⟩
  clear i_s_l22OwnCursor_l1
  intro p0
  refine (show Le (PV fun (r:TCursor)=>D.agg [dI r.Phase,dI r.Count,D.sl true 4 (List.map (TValue.e false) r.Vals),D.sl true 4 (List.map (TCursor.e true) r.Kids)]) _ (zaa T 124 [D.pim (TCursor.c false p0) 0] []) from E0 (h:=?_) rfl)
  exact A
instance p_s_l22OwnCursor_l1 (s0 s2 s3:TCursor) (s4:Int):Lp (zbL s0 s2 s3 s4) (zaH s0 s2 s3 s4) (zbK s0 s2 s3 s4):=⟨fun k r hr=>(zgA).1 s0 s2 s3 s4 r hr k⟩
instance g_s_l22OwnCursor (p0:TCursor):Lw (PV fun (r:TCursor)=>D.agg [dI r.Phase,dI r.Count,D.sl true 4 (List.map (TValue.e false) r.Vals),D.sl true 4 (List.map (TCursor.e true) r.Kids)]) (zbA p0) (zaa T 124 [D.pim (TCursor.c false p0) 0] []):=⟨fun r hr=>(zgA).2 p0 r hr⟩
instance g_s_l22OwnCo (p0:TCoexpr):Lw (PV (TCoexpr.e true)) (zhf p0) (zaa T 55 [D.pim (TCoexpr.c false p0) 0] []):=⟨E (zhf.eq_def ..)⟩
instance g_s_CoAt (p0:TGenScope) (p1:Int):Lw (PV fun (r:TCoexpr × Bool)=>D.tup [TCoexpr.e true r.1,D.bool r.2]) (zsf p0 p1) (zaa T 18 [TGenScope.e false p0,dI p1] []):=⟨E (zsf.eq_def ..)⟩
end Go.Vx.CpZ
