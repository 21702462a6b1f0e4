/-
 The law FnExactNewRecord, at the evaluator.
-/
import Derived.Test.YthfkpkfcnnhkeaaGreatSz
import Derived.Test.YthfkpkfcnnhkeaaGreatTo
import Derived.Test.YthfkpkfcnnhkeaaGreatEq
import Derived.Test.YthfkpkfcnnhkeaaGreatMark
import Derived.Test.YthfkpkfcnnhkeaaGreatHeld
import Derived.Test.YthfkpkfcnnhkeaaGreatShB
import Derived.Test.YthfkpkfcnnhkeaaGreatN8
set_option linter.unusedVariables false
set_option linter.unusedSimpArgs false
namespace Go.Vx.NrZ
set_option linter.unusedVariables false
set_option linter.unusedSimpArgs false
set_option maxRecDepth 10000
set_option maxHeartbeats 4000000
theorem law (x0 : THeap) (x1 : ByteArray) (x2 : List ByteArray) (x3 : List TValue) (h0 : THeap.n x0 ≤ 1048576) (h1 : x1.size ≤ 1048576) (h2 : x2.length + lsum ByteArray.size x2 ≤ 1048576) (h3 : x3.length + lsum TValue.n x3 ≤ 1048576) (ht : THeap.n x0 + x1.size + (x2.length + lsum ByteArray.size x2) + (x3.length + lsum TValue.n x3) ≤ 1048576) : vcall T 6 [D.agg [D.int .i64 x0.Next, D.sl false 10 (List.map (TObject.e false) x0.Objects)], D.str x1, D.sl false 1 (List.map D.str x2), D.sl false 4 (List.map (TValue.e false) x3)] [] = some (.bool true, [], []) := by
 obtain ⟨r, hi, hs, hr⟩ := pure_law x0 x1 x2 x3 h0 h1 h2 h3 ht
 obtain ⟨_, ei⟩ := g_i_NewRecord x0 x1 x2 x3 r hi
 obtain ⟨_, es⟩ := g_s_NewRecord x0 x1 x2 x3 r hs
 clear hi hs
 try simp only [] at ei es
 obtain ⟨hr0, hr1⟩ := hr
 have := lsum_mn TObject.mn x0.Objects
 have := lsum_m1 ByteArray.size x2
 have := lsum_mn TValue.mn x3
 have := lsum_mn TObject.mn r.1.Objects
 have := foldn_m TObject.nxm x0.Objects (1)
 have := foldn_one x2 (foldn TObject.nx x0.Objects (1))
 have := foldn_m TValue.nxm x3 (foldn (fun _ k => k + 1) x2 (foldn TObject.nx x0.Objects (1)))
 have := foldn_m TObject.nxm r.1.Objects (1)
 have hb0 := h0
 try simp only [THeap.n, TValue.n] at hb0
 have hb2 := h2
 try simp only [THeap.n, TValue.n] at hb2
 have hb3 := h3
 try simp only [THeap.n, TValue.n] at hb3
 have htt := ht
 try simp only [THeap.n, TValue.n] at htt
 have hc0 := hr0
 try simp only [THeap.n, TValue.n] at hc0
 have hc1 := hr1
 try simp only [THeap.n, TValue.n] at hc1
 have e0 := c_eqHeap r.1 [] (by simp only [THeap.n, TValue.n] at *; omega)
 have e1 := c_eqValue r.2.1 [] (by simp only [THeap.n, TValue.n] at *; omega)
 have e2 := c_eqHeap x0 [] (by simp only [THeap.n, TValue.n] at *; omega)
 have e3 := c_eqStringS x2 [] (by omega) (by omega)
 have e4 := c_eqValueS x3 [] (by omega) (by omega)
 have e5 := c_markHeap x0 (1) [] (by simp only [THeap.n, TValue.n] at *; omega) (by omega) (by (try simp only []); omega)
 have e6 := c_markStringS x2 (foldn TObject.nx x0.Objects (1)) [] (by omega) (by omega) (by omega) (by omega)
 have e7 := c_markValueS x3 (foldn (fun _ k => k + 1) x2 (foldn TObject.nx x0.Objects (1))) [] (by omega) (by omega) (by omega) (by omega)
 have e8 := c_markHeap r.1 (1) [] (by simp only [THeap.n, TValue.n] at *; omega) (by omega) (by (try simp only []); omega)
 have e9 := c_heldHeap r.1 (1) [] (by simp only [THeap.n, TValue.n] at *; omega) (by omega) (by (try simp only []); omega)
 skip
 rw [vcall_go T (g := v6) rfl rfl rfl _ _ rfl]
 simp (maxSteps := 9999999) (disch := omega) only [vx, px, ty, ↓reduceIte, Bool.false_eq_true, reduceCtorEq, Nat.reduceAdd, Nat.reduceSub, Nat.reduceLeDiff, Nat.reduceEqDiff, Nat.reduceLT, Nat.reduceMul, List.reduceReplicate, and_true, true_and, and_false, false_and, and_self, or_true, true_or, or_false, false_or, not_true_eq_false, not_false_eq_true, ne_eq, vxd, Nat.reduceBNe, most, ifT, int_beq_self, beq_self_eq_true, Bool.not_true, v6, v6_b, c_szHeap, c_szStringS, c_szValueS, c_toHeap, c_toStringS, c_toValueS, ei, es, e0, e1, e2, e3, e4, e5, e6, e7, e8, e9]
end Go.Vx.NrZ
