/-
  Copies of scopes; a co-expression added.
-/
import Derived.Test.YtnaaflejkfaiaaaGreatG7
set_option linter.unusedVariables false
set_option linter.unusedSimpArgs false
namespace Go.Vx.CrZ
set_option linter.unusedVariables false
set_option linter.unusedSimpArgs false
theorem ztd (o:TObject) (h1:o.Keys.length≤1048576) (h2:o.Vals.length≤1048576):zdi o=some o:=by
 unfold zdi zaw
 rw [zdS (show o.Keys.length≤most by unfold most;omega),zdS (show o.Vals.length≤most by unfold most;omega)]
 rfl
theorem ztZ (o:TObject) (h1:o.Keys.length≤1048576) (h2:o.Vals.length≤1048576):zdB o=some o:=by
 unfold zdB zcR
 rw [zdS (show o.Keys.length≤most by unfold most;omega),zdS (show o.Vals.length≤most by unfold most;omega)]
 rfl
theorem zpy (x:THeap) (h:THeap.n x≤1048576):zfm x=some x:=by
 have hl:x.Objects.length≤1048576:=by simp only [THeap.n] at h;omega
 unfold zfm
 rw [zfb x.Objects hl zdi (fun o ho=>ztd o (hlen h ho).1 (hlen h ho).2) (fun acc=>THeap.mk x.Next acc) (fun acc i=>zdP x (THeap.mk 0 []) x.Objects x.Objects.length (THeap.mk x.Next acc) i) (fun acc i=>zdP.eq_1 ..)]
 rfl
theorem zte (x:THeap) (h:THeap.n x≤1048576):zjp x=some x:=by
 have hl:x.Objects.length≤1048576:=by simp only [THeap.n] at h;omega
 unfold zjp
 rw [zfb x.Objects hl zdB (fun o ho=>ztZ o (hlen h ho).1 (hlen h ho).2) (fun acc=>THeap.mk x.Next acc) (fun acc i=>zgz x (THeap.mk 0 []) (THeap.mk x.Next acc) i) (fun acc i=>zgz.eq_1 ..)]
 rfl
theorem znO (x:TGenScope) (h:TGenScope.n x≤1048576):zdu x=some x:=by
 obtain ⟨hh,hl,hv,hc,hcs⟩:=zft x h
 unfold zdu zak
 rw [zdS (show x.Vars.length≤most by unfold most;omega),zpy _ hh]
 simp only [Option.bind_eq_bind,Option.bind_some]
 rw [zfb x.Cos hc zbp (fun a ha=>zoH a (hcs a ha)) (fun acc=>TGenScope.mk x.Vars x.Heap acc x.Steps) (fun acc i=>zcd x (TGenScope.mk [] (THeap.mk 0 []) [] 0) x.Cos x.Cos.length (TGenScope.mk x.Vars x.Heap acc x.Steps) i) (fun acc i=>zcd.eq_1 ..)]
 rfl
theorem zpz (x:TGenScope) (h:TGenScope.n x≤1048576):zjq x=some x:=by
 obtain ⟨hh,hl,hv,hc,hcs⟩:=zft x h
 unfold zjq zbV
 rw [zdS (show x.Vars.length≤most by unfold most;omega),zte _ hh]
 simp only [Option.bind_eq_bind,Option.bind_some]
 rw [zfb x.Cos hc zgh (fun a ha=>zye a (hcs a ha)) (fun acc=>TGenScope.mk x.Vars x.Heap acc x.Steps) (fun acc i=>zgA x (TGenScope.mk [] (THeap.mk 0 []) [] 0) (TGenScope.mk x.Vars x.Heap acc x.Steps) i) (fun acc i=>zgA.eq_1 ..)]
 rfl
theorem ztf {α:Type} (f:α→Nat) (xs:List α) (a:α):lsum f (xs++[a])=lsum f xs + f a:=by
 induction xs with
 | nil=>simp [zae,zcV]
 | cons x r ih=>rw [List.cons_append,zae,zae,ih];omega
end Go.Vx.CrZ
