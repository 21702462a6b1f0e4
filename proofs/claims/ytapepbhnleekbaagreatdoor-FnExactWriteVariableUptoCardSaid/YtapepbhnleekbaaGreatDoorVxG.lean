/-
  An evaluator for the model's code on values, and the proof that what it tells of a call the program does; part 7.
-/
import Derived.Test.YtapepbhnleekbaaGreatDoorVxC
import Derived.Shelf.Strconv.Itoa4
import Derived.Test.YtapepbhnleekbaaGreatDoorVxF
set_option linter.unusedVariables false
set_option linter.unusedSimpArgs false
namespace Go.Vx
open Go.Shelf Go.Proofs
def zrz (n b:Int):Option ByteArray :=
 if b=10∧-9223372036854775808<=n∧n<=9223372036854775807 then some ⟨(Lib.itoa n).toArray⟩ else none
def zpV:List D->Option (D × List D)
 | [.int .i64 n,.int .i64 b]=>(zrz n b).map fun s=>(.str s,[])
 | _=>none
theorem znB {n b:Int} {r:ByteArray} (h:zrz n b=some r):zpV [.int .i64 n,.int .i64 b]=some (.str r,[]):=by
 simp only [zpV,h,Option.map_some]
section
variable {P:Program} {ρ:Ren}
theorem zzs (L:LaysM.n173 P ρ) {g:Nat} (hg:P.globalNamed "internal/strconv.uint64pow10" = some g) {args:List D} {r:D × List D} (h:zpV args=some r) (sto:List (List D)):zeq P [] (ρ.f 173) args sto (r.1,r.2,sto):=by
 unfold zpV at h
 split at h
 ·rename_i n b
  obtain ⟨s,hs0,rfl⟩:=Option.map_eq_some_iff.1 h
  unfold zrz at hs0
  split at hs0
  ·rename_i hc
   obtain ⟨rfl,h0,h1⟩:=hc
   cases hs0
   intro w I ι vs Fs Gs hr hs hn hap hI hT
   cases hr with
   | cons v _ F vs1 _ Fs1 hv hr1 =>
    cases hr1 with
    | cons v2 _ F2 vs2 _ Fs2 hv2 hr2 =>
     cases hr2
     cases hv
     cases hv2
     refine (Any.strconv_FormatInt_10 L n h0 h1 w (hT.1 g hg)).mono ?_
     rintro e w2 ⟨rfl,k,os,rfl⟩
     have hsz:w.heap.size<=(Sort.grow (w.drewN k) os).heap.size:=by simp [Sort.grow,World.drewN]
     have hold:∀ x,x<w.heap.size->(Sort.grow (w.drewN k) os).heap[x]? = w.heap[x]? := fun x hx=>by
      simp only [Sort.grow,World.drewN]
      exact Array.getElem?_append_left hx
     refine ⟨_,rfl,I,ι,[],[],Gs,⟨rfl,rfl,rfl,hsz,fun x hx _=>hold x hx⟩,fun _ h=>h,fun b hb=>⟨Nat.lt_of_lt_of_le (hI b hb) hsz,.inl hb⟩,.str ..,.nil,?_,fun _ _ h=>h,?_,?_⟩
     ·refine ⟨hs.1,hs.2.1,fun r cs hr=>?_⟩
      refine (hs.2.2 r cs hr).frame (fun _ h=>h) (fun x hx=>hold x (hI x hx)) (fun x hx=>hold x ?_)
      by_cases hlr:r<Gs.length
      ·exact (hap x (mAR _ (List.mem_flatten.2 ⟨_,List.mem_of_getElem? (zaN [] hlr),hx⟩))).2
      ·simp [List.getD,List.getElem?_eq_none_iff.2 (Nat.le_of_not_lt hlr)] at hx
     ·simpa using hn
     ·intro b hb
      have:=hap b (by simpa using hb)
      exact ⟨this.1,.inl (by simpa using hb),Nat.lt_of_lt_of_le this.2 hsz⟩
  ·cases hs0
 ·cases h
end
end Go.Vx

