/-
  An evaluator for the model's code on values, and the proof that what it tells of a call the program does; part 5.
-/
import Derived.Test.YtnaaflejkfaiaaaGreatVxC
import Derived.Shelf.Sort.Plain
import Derived.Shelf.Slices.In.SortNone
import Derived.Shelf.Slices.CompactS
import Derived.Test.YtnaaflejkfaiaaaGreatVxD
set_option linter.unusedVariables false
set_option linter.unusedSimpArgs false
namespace Go.Vx
open Go.Shelf Go.Sort Go.Proofs
section
variable {P:Program} {w:World} {I:Nat->Prop} {ι:List Nat}
theorem zjR.ext {w2:World} {S:Nat->Prop} {sto:List (List D)} {Gs:List (List Nat)} (h:zjR w I ι sto Gs) (he:Ext S w w2) (hI:∀ b,I b->b<w.heap.size∧¬ S b) (hG:∀ b ∈ Gs.flatten,b<w.heap.size∧¬ S b):zjR w2 I ι sto Gs:=by
 refine ⟨h.1,h.2.1,fun r cs hr=>?_⟩
 refine zif.frame (fun _ h=>h) (fun b hb=>he.block b (hI b hb).1 (hI b hb).2) (h.2.2 r cs hr) ?_
 intro b hb
 have hlt:r<Gs.length:=by rw [h.1];exact getElem?_lt hr
 have:b ∈ Gs.flatten:=by
  refine List.mem_flatten.2 ⟨Gs.getD r [],?_,hb⟩
  rw [List.getD_eq_getElem?_getD,List.getElem?_eq_getElem hlt]
  exact List.getElem_mem hlt
 exact he.block b (hG b this).1 (hG b this).2
end
end Go.Vx

