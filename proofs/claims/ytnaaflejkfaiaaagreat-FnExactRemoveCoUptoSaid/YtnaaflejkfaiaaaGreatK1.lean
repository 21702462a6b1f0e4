/-
  Copies of scopes; a co-expression added.
-/
import Derived.Test.YtnaaflejkfaiaaaGreatG7
set_option linter.unusedVariables false
set_option linter.unusedSimpArgs false
namespace Go.Vx.RmZ
theorem ztU (o:TObject) (h1:o.Keys.length<=1048576) (h2:o.Vals.length<=1048576):zdj o=some o:=by
 unfold zdj zaz
 rw [zdX (show o.Keys.length<=most by unfold most;omega),zdX (show o.Vals.length<=most by unfold most;omega)]
 rfl
theorem zuY (o:TObject) (h1:o.Keys.length<=1048576) (h2:o.Vals.length<=1048576):zdG o=some o:=by
 unfold zdG zcR
 rw [zdX (show o.Keys.length<=most by unfold most;omega),zdX (show o.Vals.length<=most by unfold most;omega)]
 rfl
theorem zqi (x:THeap) (h:THeap.n x<=1048576):zfr x=some x:=by
 have hl:x.Objects.length<=1048576:=by simp only [THeap.n] at h;omega
 unfold zfr
 rw [zff x.Objects hl zdj (fun o ho=>ztU o (hlen h ho).1 (hlen h ho).2) (fun acc=>THeap.mk x.Next acc) (fun acc i=>zdV x (THeap.mk 0 []) x.Objects x.Objects.length (THeap.mk x.Next acc) i) (fun acc i=>zdV.eq_1 ..)]
 rfl
theorem ztV (x:THeap) (h:THeap.n x<=1048576):zjE x=some x:=by
 have hl:x.Objects.length<=1048576:=by simp only [THeap.n] at h;omega
 unfold zjE
 rw [zff x.Objects hl zdG (fun o ho=>zuY o (hlen h ho).1 (hlen h ho).2) (fun acc=>THeap.mk x.Next acc) (fun acc i=>zgC x (THeap.mk 0 []) (THeap.mk x.Next acc) i) (fun acc i=>zgC.eq_1 ..)]
 rfl
theorem zop (x:TGenScope) (h:TGenScope.n x<=1048576):zdy x=some x:=by
 obtain ⟨hh,hl,hv,hc,hcs⟩:=zhC x h
 unfold zdy zar
 rw [zdX (show x.Vars.length<=most by unfold most;omega),zqi _ hh]
 simp only [Option.bind_eq_bind,Option.bind_some]
 rw [zff x.Cos hc zdk (fun a ha=>zuP a (hcs a ha)) (fun acc=>TGenScope.mk x.Vars x.Heap acc x.Steps) (fun acc i=>zcb x (TGenScope.mk [] (THeap.mk 0 []) [] 0) x.Cos x.Cos.length (TGenScope.mk x.Vars x.Heap acc x.Steps) i) (fun acc i=>zcb.eq_1 ..)]
 rfl
theorem zqj (x:TGenScope) (h:TGenScope.n x<=1048576):zjF x=some x:=by
 obtain ⟨hh,hl,hv,hc,hcs⟩:=zhC x h
 unfold zjF zef
 rw [zdX (show x.Vars.length<=most by unfold most;omega),ztV _ hh]
 simp only [Option.bind_eq_bind,Option.bind_some]
 rw [zff x.Cos hc zgn (fun a ha=>zzd a (hcs a ha)) (fun acc=>TGenScope.mk x.Vars x.Heap acc x.Steps) (fun acc i=>zgD x (TGenScope.mk [] (THeap.mk 0 []) [] 0) (TGenScope.mk x.Vars x.Heap acc x.Steps) i) (fun acc i=>zgD.eq_1 ..)]
 rfl
end Go.Vx.RmZ

