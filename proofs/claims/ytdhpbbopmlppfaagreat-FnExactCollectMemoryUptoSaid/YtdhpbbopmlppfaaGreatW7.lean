/-
  A scope with other roots.
-/
import Derived.Test.YtdhpbbopmlppfaaGreatCi
import Derived.Test.YtdhpbbopmlppfaaGreatCs
set_option linter.unusedVariables false
set_option linter.unusedSimpArgs false
namespace Go.Vx.CmZ
set_option linter.unusedVariables false
open Classical
def zhv:List TBinding→List TValue→List TBinding
 | b::bs,v::vs=>TBinding.mk b.Name v::zhv bs vs
 | bs,_=>bs
theorem zsY:∀ (bs:List TBinding) (vs:List TValue),(zhv bs vs).length=bs.length
 | [],_=>by cases ‹List TValue› <;> rfl
 | b::bs,[]=>rfl
 | b::bs,v::vs=>by simp only [zhv,List.length_cons,zsY bs vs]
theorem zpJ:∀ (bs:List TBinding) (vs:List TValue),lsum TBinding.n (zhv bs vs)≤lsum TBinding.n bs + lsum TValue.n vs
 | [],vs=>by cases vs <;> simp [zhv,zbW]
 | b::bs,[]=>by simp [zhv,zbW]
 | b::bs,v::vs=>by
  have:=zpJ bs vs
  simp only [zhv,zaf,TBinding.n];omega
theorem zsZ (bs:List TBinding):zhv bs []=bs:=by cases bs <;> rfl
theorem zyW {α:Type} (pre:List α) (b c:α) (r:List α):setN (pre++b::r) pre.length c=pre++c::r:=by
 unfold setN
 induction pre with
 | nil=>rfl
 | cons x p ih=>simp
theorem zta (xs:List TValue) (f:List TFunction) (t:List TRecordType) (hx:xs.length≤1048576) (L:TScope→Int→Option TScope)
  (hL:∀ s i,L s i=if i<(xs.length:Int) then (idx xs i >>= fun a=>idx s.Vars i >>= fun b=>L (TScope.mk (setN s.Vars i.toNat (TBinding.mk b.Name a)) s.Functions s.Types) (IntKind.wrap .i64 (i + 1))) else some s)
  (bs:List TBinding) (hb:xs.length≤bs.length):L (TScope.mk bs f t) 0=some (TScope.mk (zhv bs xs) f t):=by
 have key:=zaI xs (fun i rest=>∀ (pre bs:List TBinding),pre.length=i→rest.length≤bs.length→L (TScope.mk (pre++bs) f t) (i:Int)=some (TScope.mk (pre++zhv bs rest) f t)) ?_ ?_
 ·exact key [] bs rfl hb
 ·intro pre bs hp hr
  rw [hL,if_neg (by omega),zsZ]
 ·intro i a rest hi hg hd ih pre bs hp hr
  cases bs with
  | nil=>simp at hr
  | cons b bs =>
   have e1:(pre++b::bs)[i]? = some b:=by rw [List.getElem?_append_right (by omega)];simp [hp]
   rw [hL,if_pos (by omega),zai,hg]
   simp only [Option.bind_eq_bind,Option.bind_some,zai,e1,Int.toNat_natCast]
   rw [← hp,zyW,w64 (by omega) (by omega),show ((pre.length:Int) + 1)=((pre.length + 1:Nat):Int) by omega]
   have:=ih (pre++[TBinding.mk b.Name a]) bs (by simp;omega) (by simpa using hr)
   rw [← hp] at this
   simp only [List.append_assoc,List.cons_append,List.nil_append] at this
   rw [this];rfl
theorem zpK (x:TScope) (vs:List TValue) (h:TScope.n x≤1048576) (hv:vs.length≤x.Vars.length):zcS x vs=some (TScope.mk (zhv x.Vars vs) x.Functions x.Types):=by
 have h':=h
 simp only [TScope.n] at h'
 unfold zcS
 rw [znF x h]
 simp only [Option.bind_eq_bind,Option.bind_some]
 rw [show x=TScope.mk x.Vars x.Functions x.Types from rfl,zta vs x.Functions x.Types (by omega) (fun s i=>zbH vs (TScope.mk [] [] []) vs vs.length s i) (fun s i=>zbH.eq_1 ..) x.Vars hv]
 rfl
theorem zpL (x z:TScope) (vs:List TValue) (h:TScope.n x≤1048576) (hv:vs.length≤x.Vars.length):zcY vs z x 0=some (TScope.mk (zhv x.Vars vs) x.Functions x.Types):=by
 simp only [TScope.n] at h
 rw [show x=TScope.mk x.Vars x.Functions x.Types from rfl,zta vs x.Functions x.Types (by omega) (fun s i=>zcY vs z s i) (fun s i=>zcY.eq_1 ..) x.Vars hv]
end Go.Vx.CmZ
