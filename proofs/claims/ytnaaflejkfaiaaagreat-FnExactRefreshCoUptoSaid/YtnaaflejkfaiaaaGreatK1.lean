/-
  Copies of scopes; a co-expression added.
-/
import Derived.Test.YtnaaflejkfaiaaaGreatG7
set_option linter.unusedVariables false
set_option linter.unusedSimpArgs false
namespace Go.Vx.RfZ
set_option linter.unusedVariables false
set_option linter.unusedSimpArgs false
theorem ztj (o:TObject) (h1:o.Keys.length≤1048576) (h2:o.Vals.length≤1048576):zdk o=some o:=by
 unfold zdk zaw
 rw [zdW (show o.Keys.length≤most by unfold most;omega),zdW (show o.Vals.length≤most by unfold most;omega)]
 rfl
theorem zug (o:TObject) (h1:o.Keys.length≤1048576) (h2:o.Vals.length≤1048576):zdE o=some o:=by
 unfold zdE zcS
 rw [zdW (show o.Keys.length≤most by unfold most;omega),zdW (show o.Vals.length≤most by unfold most;omega)]
 rfl
theorem zpF (x:THeap) (h:THeap.n x≤1048576):zfq x=some x:=by
 have hl:x.Objects.length≤1048576:=by simp only [THeap.n] at h;omega
 unfold zfq
 rw [zff x.Objects hl zdk (fun o ho=>ztj o (hlen h ho).1 (hlen h ho).2) (fun acc=>THeap.mk x.Next acc) (fun acc i=>zdT x (THeap.mk 0 []) x.Objects x.Objects.length (THeap.mk x.Next acc) i) (fun acc i=>zdT.eq_1 ..)]
 rfl
theorem ztk (x:THeap) (h:THeap.n x≤1048576):zjs x=some x:=by
 have hl:x.Objects.length≤1048576:=by simp only [THeap.n] at h;omega
 unfold zjs
 rw [zff x.Objects hl zdE (fun o ho=>zug o (hlen h ho).1 (hlen h ho).2) (fun acc=>THeap.mk x.Next acc) (fun acc i=>zgA x (THeap.mk 0 []) (THeap.mk x.Next acc) i) (fun acc i=>zgA.eq_1 ..)]
 rfl
theorem znU (x:TGenScope) (h:TGenScope.n x≤1048576):zdx x=some x:=by
 obtain ⟨hh,hl,hv,hc,hcs⟩:=zgn x h
 unfold zdx zak
 rw [zdW (show x.Vars.length≤most by unfold most;omega),zpF _ hh]
 simp only [Option.bind_eq_bind,Option.bind_some]
 rw [zff x.Cos hc zbq (fun a ha=>zoN a (hcs a ha)) (fun acc=>TGenScope.mk x.Vars x.Heap acc x.Steps) (fun acc i=>zcd x (TGenScope.mk [] (THeap.mk 0 []) [] 0) x.Cos x.Cos.length (TGenScope.mk x.Vars x.Heap acc x.Steps) i) (fun acc i=>zcd.eq_1 ..)]
 rfl
theorem zpG (x:TGenScope) (h:TGenScope.n x≤1048576):zjt x=some x:=by
 obtain ⟨hh,hl,hv,hc,hcs⟩:=zgn x h
 unfold zjt zbW
 rw [zdW (show x.Vars.length≤most by unfold most;omega),ztk _ hh]
 simp only [Option.bind_eq_bind,Option.bind_some]
 rw [zff x.Cos hc zgi (fun a ha=>zys a (hcs a ha)) (fun acc=>TGenScope.mk x.Vars x.Heap acc x.Steps) (fun acc i=>zgB x (TGenScope.mk [] (THeap.mk 0 []) [] 0) (TGenScope.mk x.Vars x.Heap acc x.Steps) i) (fun acc i=>zgB.eq_1 ..)]
 rfl
theorem ztl {α:Type} (f:α→Nat) (xs:List α) (a:α):lsum f (xs++[a])=lsum f xs + f a:=by
 induction xs with
 | nil=>simp [zae,zcW]
 | cons x r ih=>rw [List.cons_append,zae,zae,ih];omega
end Go.Vx.RfZ
