/-
  An evaluator for the model's code on values, and the proof that what it tells of a call the program does; part 6.
-/
import Derived.Test.YtnaaflejkfaiaaaGreatVxC
import Derived.Laws.CopyRow
import Derived.Shelf.Spec.SlicesInsertGrow
import Derived.Deep.AppendSrc
import Derived.Test.YtnaaflejkfaiaaaGreatVxE
import Derived.Test.YtnaaflejkfaiaaaGreatVxD
set_option linter.unusedVariables false
set_option linter.unusedSimpArgs false
namespace Go.Vx
variable {P:Program}
theorem zfm (w:World) (dT sT ty elem:TypeId) (k:Nat) (g o dLen dCap:Nat) (a:Addr) (sLen sCap:Nat) (cur:Array Value) (t:TypeId) (cs:List Value)
    (hu:P.underlying dT=some (.slice elem)) (hs:(P.info? elem).map (·.size)=some k)
    (hg:w.heap[g]? = some (.cells cur t (0,0))) (hn:cs.length=k * Nat.min sLen dLen)
    (hsrc:∀ j v,cs[j]? = some v->w.cell? (a.add j)=some v) (hfit:o + cs.length<=cur.size) (h1:∀ v ∈ cs,v.oneCell'=true) :
    (Builtin.copy_ #[dT,sT] ty #[.slice (some ⟨g,o,none⟩) dLen dCap,.slice (some a) sLen sCap]).run P w =
      .ok (goInt (Nat.min sLen dLen)) (w.setRow g (cur.toList.take o++cs++cur.toList.drop (o + cs.length)).toArray):=by
  have hl:=run_loadCells_list (P:=P) w a cs hsrc
  have hst:=run_storeCells_at P g o t cs 0 cur w hg (by simpa using hfit) h1
  cases hq:P.info? elem with
  | none=>simp [hq] at hs
  | some i =>
    have hi:i.size=k:=by simpa [hq] using hs
    have hn':Nat.min sLen dLen * k=cs.length:=by rw [Nat.mul_comm];exact hn.symm
    simp [Builtin.copy_,run_underlying hu,Builtin.lenOf,Builtin.firstCells,sizeOf,typeInfo,hq,hi,hn',<- hn,hl,hst]
def insF (nm:String) (tS tE tI tB f0 f1:Nat):Go.Func :=
{ name:=nm,
  origin := "slices.Insert", targs := #[tS,tE],params := #[tS,tI,tS],resultTypes := #[tS],nfree:=0,ntmps:=95,
  results := #[Go.ResultVar.tmp 6],
  body :=
    some
      ((Go.Code.region 0
            #[{ dst:=some 6,op:=Go.Op.assign (Go.Operand.const (Go.Value.slice none 0 0)),type:=tS,
                pos := "slices.go:136", after := #[],guard:=none }]
            false).seq
        ((Go.Code.region 1
              #[{ dst:=some 10,op:=Go.Op.move (Go.Operand.tmp 0),type:=tS,pos := "slices.go:137", after := #[],
                  guard:=none },
                { dst:=some 11,op:=Go.Op.move (Go.Operand.tmp 1),type:=tI,pos := "slices.go:137", after := #[],
                  guard:=none },
                { dst:=some 12,op:=Go.Op.slice tS (Go.Operand.tmp 10) (some (Go.Operand.tmp 11)) none none,
                  type:=tS,pos := "slices.go:137",
                  after := #[{ on:=0,ground:=Go.Ground.data },{ on:=1,ground:=Go.Ground.data }],
                  guard:=none }]
              false).seq
          ((Go.Code.region 2
                #[{ dst:=some 13,op:=Go.Op.move (Go.Operand.tmp 2),type:=tS,pos := "slices.go:139",
                    after := #[],guard:=none },
                  { dst:=some 14,
                    op :=
                      Go.Op.call
                        { callee:=Go.Callee.builtin Go.Builtin.len,args := #[Go.Operand.tmp 13],argTypes := #[tS] },
                    type:=tI,pos := "slices.go:139", after := #[{ on:=0,ground:=Go.Ground.data }],
                    guard:=none },
                  { dst:=some 7,op:=Go.Op.assign (Go.Operand.tmp 14),type:=tI,pos := "slices.go:139",
                    after :=
                      #[{ on:=1,ground:=Go.Ground.data },{ on:=0,ground:=Go.Ground.phase },
                        { on:=1,ground:=Go.Ground.phase }],
                    guard:=none }]
                false).seq
            (((Go.Code.region 3
                      #[{ dst:=some 15,op:=Go.Op.move (Go.Operand.tmp 7),type:=tI,pos := "slices.go:140",
                          after := #[],guard:=none },
                        { dst:=some 16,
                          op :=
                            Go.Op.binOp Go.BinOp.eql tI (Go.Operand.tmp 15)
                              (Go.Operand.const (Go.Value.int Go.IntKind.i64 0)) tI,
                          type:=tB,pos := "slices.go:140", after := #[{ on:=0,ground:=Go.Ground.data }],
                          guard:=none }]
                      false).seq
                  (Go.Code.cond (Go.Operand.tmp 16)
                    ((Go.Code.region 4
                          #[{ dst:=some 17,op:=Go.Op.move (Go.Operand.tmp 0),type:=tS,pos := "slices.go:141",
                              after := #[],guard:=none },
                            { dst:=some 6,op:=Go.Op.assign (Go.Operand.tmp 17),type:=tS,pos := "slices.go:141",
                              after := #[{ on:=0,ground:=Go.Ground.data },{ on:=0,ground:=Go.Ground.phase }],
                              guard:=none }]
                          false).seq
                      Go.Code.ret)
                    Go.Code.skip)).seq
              ((Go.Code.region 5
                    #[{ dst:=some 18,op:=Go.Op.move (Go.Operand.tmp 0),type:=tS,pos := "slices.go:143",
                        after := #[],guard:=none },
                      { dst:=some 19,
                        op :=
                          Go.Op.call
                            { callee:=Go.Callee.builtin Go.Builtin.len,args := #[Go.Operand.tmp 18],
                              argTypes := #[tS] },
                        type:=tI,pos := "slices.go:143", after := #[{ on:=0,ground:=Go.Ground.data }],
                        guard:=none },
                      { dst:=some 8,op:=Go.Op.assign (Go.Operand.tmp 19),type:=tI,pos := "slices.go:143",
                        after :=
                          #[{ on:=1,ground:=Go.Ground.data },{ on:=0,ground:=Go.Ground.phase },
                            { on:=1,ground:=Go.Ground.phase }],
                        guard:=none }]
                    false).seq
                (((Go.Code.region 6
                          #[{ dst:=some 20,op:=Go.Op.move (Go.Operand.tmp 1),type:=tI,pos := "slices.go:144",
                              after := #[],guard:=none },
                            { dst:=some 21,op:=Go.Op.move (Go.Operand.tmp 8),type:=tI,pos := "slices.go:144",
                              after := #[],guard:=none },
                            { dst:=some 22,
                              op:=Go.Op.binOp Go.BinOp.eql tI (Go.Operand.tmp 20) (Go.Operand.tmp 21) tI,type:=tB,
                              pos := "slices.go:144",
                              after := #[{ on:=0,ground:=Go.Ground.data },{ on:=1,ground:=Go.Ground.data }],
                              guard:=none }]
                          false).seq
                      (Go.Code.cond (Go.Operand.tmp 22)
                        ((Go.Code.region 7
                              #[{ dst:=some 23,op:=Go.Op.move (Go.Operand.tmp 0),type:=tS,
                                  pos := "slices.go:145", after := #[],guard:=none },
                                { dst:=some 24,op:=Go.Op.move (Go.Operand.tmp 2),type:=tS,
                                  pos := "slices.go:145", after := #[],guard:=none },
                                { dst:=some 25,
                                  op :=
                                    Go.Op.call
                                      { callee:=Go.Callee.builtin Go.Builtin.append,
                                        args := #[Go.Operand.tmp 23,Go.Operand.tmp 24],argTypes := #[tS,tS] },
                                  type:=tS,pos := "slices.go:145",
                                  after :=
                                    #[{ on:=0,ground:=Go.Ground.data },{ on:=1,ground:=Go.Ground.data }],
                                  guard:=none },
                                { dst:=some 6,op:=Go.Op.assign (Go.Operand.tmp 25),type:=tS,
                                  pos := "slices.go:145",
                                  after :=
                                    #[{ on:=2,ground:=Go.Ground.data },{ on:=2,ground:=Go.Ground.chain },
                                      { on:=0,ground:=Go.Ground.phase },{ on:=1,ground:=Go.Ground.phase },
                                      { on:=2,ground:=Go.Ground.phase }],
                                  guard:=none }]
                              false).seq
                          Go.Code.ret)
                        Go.Code.skip)).seq
                  (((Go.Code.region 8
                            #[{ dst:=some 26,op:=Go.Op.move (Go.Operand.tmp 8),type:=tI,pos := "slices.go:147",
                                after := #[],guard:=none },
                              { dst:=some 27,op:=Go.Op.move (Go.Operand.tmp 7),type:=tI,pos := "slices.go:147",
                                after := #[],guard:=none },
                              { dst:=some 28,
                                op:=Go.Op.binOp Go.BinOp.add tI (Go.Operand.tmp 26) (Go.Operand.tmp 27) tI,type:=tI,
                                pos := "slices.go:147",
                                after :=
                                  #[{ on:=0,ground:=Go.Ground.data },{ on:=1,ground:=Go.Ground.data }],
                                guard:=none },
                              { dst:=some 29,op:=Go.Op.move (Go.Operand.tmp 0),type:=tS,pos := "slices.go:147",
                                after := #[],guard:=none },
                              { dst:=some 30,
                                op :=
                                  Go.Op.call
                                    { callee:=Go.Callee.builtin Go.Builtin.cap,args := #[Go.Operand.tmp 29],
                                      argTypes := #[tS] },
                                type:=tI,pos := "slices.go:147", after := #[{ on:=3,ground:=Go.Ground.data }],
                                guard:=none },
                              { dst:=some 31,
                                op:=Go.Op.binOp Go.BinOp.gtr tI (Go.Operand.tmp 28) (Go.Operand.tmp 30) tI,type:=tB,
                                pos := "slices.go:147",
                                after :=
                                  #[{ on:=2,ground:=Go.Ground.data },{ on:=4,ground:=Go.Ground.data }],
                                guard:=none }]
                            false).seq
                        (Go.Code.cond (Go.Operand.tmp 31)
                          ((Go.Code.region 9
                                #[{ dst:=some 32,op:=Go.Op.move (Go.Operand.tmp 0),type:=tS,
                                    pos := "slices.go:152", after := #[],guard:=none },
                                  { dst:=some 33,op:=Go.Op.move (Go.Operand.tmp 1),type:=tI,
                                    pos := "slices.go:152", after := #[],guard:=none },
                                  { dst:=some 34,
                                    op:=Go.Op.slice tS (Go.Operand.tmp 32) none (some (Go.Operand.tmp 33)) none,
                                    type:=tS,pos := "slices.go:152",
                                    after :=
                                      #[{ on:=0,ground:=Go.Ground.data },{ on:=1,ground:=Go.Ground.data }],
                                    guard:=none },
                                  { dst:=some 35,op:=Go.Op.move (Go.Operand.tmp 8),type:=tI,
                                    pos := "slices.go:152", after := #[],guard:=none },
                                  { dst:=some 36,op:=Go.Op.move (Go.Operand.tmp 7),type:=tI,
                                    pos := "slices.go:152", after := #[],guard:=none },
                                  { dst:=some 37,
                                    op:=Go.Op.binOp Go.BinOp.add tI (Go.Operand.tmp 35) (Go.Operand.tmp 36) tI,
                                    type:=tI,pos := "slices.go:152",
                                    after :=
                                      #[{ on:=3,ground:=Go.Ground.data },{ on:=4,ground:=Go.Ground.data }],
                                    guard:=none },
                                  { dst:=some 38,op:=Go.Op.move (Go.Operand.tmp 1),type:=tI,
                                    pos := "slices.go:152", after := #[],guard:=none },
                                  { dst:=some 39,
                                    op:=Go.Op.binOp Go.BinOp.sub tI (Go.Operand.tmp 37) (Go.Operand.tmp 38) tI,
                                    type:=tI,pos := "slices.go:152",
                                    after :=
                                      #[{ on:=5,ground:=Go.Ground.data },{ on:=6,ground:=Go.Ground.data }],
                                    guard:=none },
                                  { dst:=some 40,
                                    op :=
                                      Go.Op.call
                                        { callee:=Go.Callee.builtin Go.Builtin.append,
                                          args := #[Go.Operand.tmp 34,Go.Operand.tmp 39],argTypes := #[tS,tI] },
                                    type:=tS,pos := "slices.go:152",
                                    after :=
                                      #[{ on:=2,ground:=Go.Ground.data },{ on:=7,ground:=Go.Ground.data }],
                                    guard:=none },
                                  { dst:=some 9,op:=Go.Op.assign (Go.Operand.tmp 40),type:=tS,
                                    pos := "slices.go:152",
                                    after :=
                                      #[{ on:=8,ground:=Go.Ground.data },{ on:=8,ground:=Go.Ground.chain },
                                        { on:=0,ground:=Go.Ground.phase },{ on:=1,ground:=Go.Ground.phase },
                                        { on:=2,ground:=Go.Ground.phase },{ on:=3,ground:=Go.Ground.phase },
                                        { on:=4,ground:=Go.Ground.phase },{ on:=5,ground:=Go.Ground.phase },
                                        { on:=6,ground:=Go.Ground.phase },{ on:=7,ground:=Go.Ground.phase },
                                        { on:=8,ground:=Go.Ground.phase }],
                                    guard:=none }]
                                false).seq
                            ((Go.Code.region 10
                                  #[{ dst:=some 41,op:=Go.Op.move (Go.Operand.tmp 9),type:=tS,
                                      pos := "slices.go:153", after := #[],guard:=none },
                                    { dst:=some 42,op:=Go.Op.move (Go.Operand.tmp 1),type:=tI,
                                      pos := "slices.go:153", after := #[],guard:=none },
                                    { dst:=some 43,
                                      op:=Go.Op.slice tS (Go.Operand.tmp 41) (some (Go.Operand.tmp 42)) none none,
                                      type:=tS,pos := "slices.go:153",
                                      after :=
                                        #[{ on:=0,ground:=Go.Ground.data },{ on:=1,ground:=Go.Ground.data }],
                                      guard:=none },
                                    { dst:=some 44,op:=Go.Op.move (Go.Operand.tmp 2),type:=tS,
                                      pos := "slices.go:153", after := #[],guard:=none },
                                    { dst:=some 45,
                                      op :=
                                        Go.Op.call
                                          { callee:=Go.Callee.builtin Go.Builtin.copy,
                                            args := #[Go.Operand.tmp 43,Go.Operand.tmp 44],argTypes := #[tS,tS] },
                                      type:=tI,pos := "slices.go:153",
                                      after :=
                                        #[{ on:=2,ground:=Go.Ground.data },{ on:=3,ground:=Go.Ground.data }],
                                      guard:=none }]
                                  false).seq
                              ((Go.Code.region 11
                                    #[{ dst:=some 46,op:=Go.Op.move (Go.Operand.tmp 9),type:=tS,
                                        pos := "slices.go:154", after := #[],guard:=none },
                                      { dst:=some 47,op:=Go.Op.move (Go.Operand.tmp 1),type:=tI,
                                        pos := "slices.go:154", after := #[],guard:=none },
                                      { dst:=some 48,op:=Go.Op.move (Go.Operand.tmp 7),type:=tI,
                                        pos := "slices.go:154", after := #[],guard:=none },
                                      { dst:=some 49,
                                        op:=Go.Op.binOp Go.BinOp.add tI (Go.Operand.tmp 47) (Go.Operand.tmp 48) tI,
                                        type:=tI,pos := "slices.go:154",
                                        after :=
                                          #[{ on:=1,ground:=Go.Ground.data },
                                            { on:=2,ground:=Go.Ground.data }],
                                        guard:=none },
                                      { dst:=some 50,
                                        op:=Go.Op.slice tS (Go.Operand.tmp 46) (some (Go.Operand.tmp 49)) none none,
                                        type:=tS,pos := "slices.go:154",
                                        after :=
                                          #[{ on:=0,ground:=Go.Ground.data },
                                            { on:=3,ground:=Go.Ground.data }],
                                        guard:=none },
                                      { dst:=some 51,op:=Go.Op.move (Go.Operand.tmp 0),type:=tS,
                                        pos := "slices.go:154", after := #[],guard:=none },
                                      { dst:=some 52,op:=Go.Op.move (Go.Operand.tmp 1),type:=tI,
                                        pos := "slices.go:154", after := #[],guard:=none },
                                      { dst:=some 53,
                                        op:=Go.Op.slice tS (Go.Operand.tmp 51) (some (Go.Operand.tmp 52)) none none,
                                        type:=tS,pos := "slices.go:154",
                                        after :=
                                          #[{ on:=5,ground:=Go.Ground.data },
                                            { on:=6,ground:=Go.Ground.data }],
                                        guard:=none },
                                      { dst:=some 54,
                                        op :=
                                          Go.Op.call
                                            { callee:=Go.Callee.builtin Go.Builtin.copy,
                                              args := #[Go.Operand.tmp 50,Go.Operand.tmp 53],argTypes := #[tS,tS] },
                                        type:=tI,pos := "slices.go:154",
                                        after :=
                                          #[{ on:=4,ground:=Go.Ground.data },
                                            { on:=7,ground:=Go.Ground.data }],
                                        guard:=none }]
                                    true).seq
                                ((Go.Code.region 12
                                      #[{ dst:=some 55,op:=Go.Op.move (Go.Operand.tmp 9),type:=tS,
                                          pos := "slices.go:155", after := #[],guard:=none },
                                        { dst:=some 6,op:=Go.Op.assign (Go.Operand.tmp 55),type:=tS,
                                          pos := "slices.go:155",
                                          after :=
                                            #[{ on:=0,ground:=Go.Ground.data },
                                              { on:=0,ground:=Go.Ground.phase }],
                                          guard:=none }]
                                      false).seq
                                  Go.Code.ret))))
                          Go.Code.skip)).seq
                    ((Go.Code.region 13
                          #[{ dst:=some 56,op:=Go.Op.move (Go.Operand.tmp 0),type:=tS,pos := "slices.go:157",
                              after := #[],guard:=none },
                            { dst:=some 57,op:=Go.Op.move (Go.Operand.tmp 8),type:=tI,pos := "slices.go:157",
                              after := #[],guard:=none },
                            { dst:=some 58,op:=Go.Op.move (Go.Operand.tmp 7),type:=tI,pos := "slices.go:157",
                              after := #[],guard:=none },
                            { dst:=some 59,
                              op:=Go.Op.binOp Go.BinOp.add tI (Go.Operand.tmp 57) (Go.Operand.tmp 58) tI,type:=tI,
                              pos := "slices.go:157",
                              after := #[{ on:=1,ground:=Go.Ground.data },{ on:=2,ground:=Go.Ground.data }],
                              guard:=none },
                            { dst:=some 60,
                              op:=Go.Op.slice tS (Go.Operand.tmp 56) none (some (Go.Operand.tmp 59)) none,type:=tS,
                              pos := "slices.go:157",
                              after := #[{ on:=0,ground:=Go.Ground.data },{ on:=3,ground:=Go.Ground.data }],
                              guard:=none },
                            { dst:=some 0,op:=Go.Op.assign (Go.Operand.tmp 60),type:=tS,pos := "slices.go:157",
                              after :=
                                #[{ on:=4,ground:=Go.Ground.data },{ on:=0,ground:=Go.Ground.phase },
                                  { on:=1,ground:=Go.Ground.phase },{ on:=2,ground:=Go.Ground.phase },
                                  { on:=3,ground:=Go.Ground.phase },{ on:=4,ground:=Go.Ground.phase }],
                              guard:=none }]
                          false).seq
                      (((Go.Code.region 14
                                #[{ dst:=some 61,op:=Go.Op.move (Go.Operand.tmp 2),type:=tS,
                                    pos := "slices.go:173", after := #[],guard:=none },
                                  { dst:=some 62,op:=Go.Op.move (Go.Operand.tmp 0),type:=tS,
                                    pos := "slices.go:173", after := #[],guard:=none },
                                  { dst:=some 63,op:=Go.Op.move (Go.Operand.tmp 1),type:=tI,
                                    pos := "slices.go:173", after := #[],guard:=none },
                                  { dst:=some 64,op:=Go.Op.move (Go.Operand.tmp 7),type:=tI,
                                    pos := "slices.go:173", after := #[],guard:=none },
                                  { dst:=some 65,
                                    op:=Go.Op.binOp Go.BinOp.add tI (Go.Operand.tmp 63) (Go.Operand.tmp 64) tI,
                                    type:=tI,pos := "slices.go:173",
                                    after :=
                                      #[{ on:=2,ground:=Go.Ground.data },{ on:=3,ground:=Go.Ground.data }],
                                    guard:=none },
                                  { dst:=some 66,
                                    op:=Go.Op.slice tS (Go.Operand.tmp 62) (some (Go.Operand.tmp 65)) none none,
                                    type:=tS,pos := "slices.go:173",
                                    after :=
                                      #[{ on:=1,ground:=Go.Ground.data },{ on:=4,ground:=Go.Ground.data }],
                                    guard:=none },
                                  { dst:=some 67,
                                    op :=
                                      Go.Op.call
                                        { callee:=Go.Callee.value (Go.Operand.func f0),
                                          args := #[Go.Operand.tmp 61,Go.Operand.tmp 66],argTypes := #[tS,tS] },
                                    type:=tB,pos := "slices.go:173",
                                    after :=
                                      #[{ on:=0,ground:=Go.Ground.data },{ on:=5,ground:=Go.Ground.data }],
                                    guard:=none },
                                  { dst:=some 68,op:=Go.Op.unOp Go.UnOp.not tB (Go.Operand.tmp 67),type:=tB,
                                    pos := "slices.go:173", after := #[{ on:=6,ground:=Go.Ground.data }],
                                    guard:=none }]
                                false).seq
                            (Go.Code.cond (Go.Operand.tmp 68)
                              ((Go.Code.region 15
                                    #[{ dst:=some 69,op:=Go.Op.move (Go.Operand.tmp 0),type:=tS,
                                        pos := "slices.go:178", after := #[],guard:=none },
                                      { dst:=some 70,op:=Go.Op.move (Go.Operand.tmp 1),type:=tI,
                                        pos := "slices.go:178", after := #[],guard:=none },
                                      { dst:=some 71,op:=Go.Op.move (Go.Operand.tmp 7),type:=tI,
                                        pos := "slices.go:178", after := #[],guard:=none },
                                      { dst:=some 72,
                                        op:=Go.Op.binOp Go.BinOp.add tI (Go.Operand.tmp 70) (Go.Operand.tmp 71) tI,
                                        type:=tI,pos := "slices.go:178",
                                        after :=
                                          #[{ on:=1,ground:=Go.Ground.data },
                                            { on:=2,ground:=Go.Ground.data }],
                                        guard:=none },
                                      { dst:=some 73,
                                        op:=Go.Op.slice tS (Go.Operand.tmp 69) (some (Go.Operand.tmp 72)) none none,
                                        type:=tS,pos := "slices.go:178",
                                        after :=
                                          #[{ on:=0,ground:=Go.Ground.data },
                                            { on:=3,ground:=Go.Ground.data }],
                                        guard:=none },
                                      { dst:=some 74,op:=Go.Op.move (Go.Operand.tmp 0),type:=tS,
                                        pos := "slices.go:178", after := #[],guard:=none },
                                      { dst:=some 75,op:=Go.Op.move (Go.Operand.tmp 1),type:=tI,
                                        pos := "slices.go:178", after := #[],guard:=none },
                                      { dst:=some 76,
                                        op:=Go.Op.slice tS (Go.Operand.tmp 74) (some (Go.Operand.tmp 75)) none none,
                                        type:=tS,pos := "slices.go:178",
                                        after :=
                                          #[{ on:=5,ground:=Go.Ground.data },
                                            { on:=6,ground:=Go.Ground.data }],
                                        guard:=none },
                                      { dst:=some 77,
                                        op :=
                                          Go.Op.call
                                            { callee:=Go.Callee.builtin Go.Builtin.copy,
                                              args := #[Go.Operand.tmp 73,Go.Operand.tmp 76],argTypes := #[tS,tS] },
                                        type:=tI,pos := "slices.go:178",
                                        after :=
                                          #[{ on:=4,ground:=Go.Ground.data },
                                            { on:=7,ground:=Go.Ground.data }],
                                        guard:=none }]
                                    true).seq
                                ((Go.Code.region 16
                                      #[{ dst:=some 78,op:=Go.Op.move (Go.Operand.tmp 0),type:=tS,
                                          pos := "slices.go:186", after := #[],guard:=none },
                                        { dst:=some 79,op:=Go.Op.move (Go.Operand.tmp 1),type:=tI,
                                          pos := "slices.go:186", after := #[],guard:=none },
                                        { dst:=some 80,
                                          op:=Go.Op.slice tS (Go.Operand.tmp 78) (some (Go.Operand.tmp 79)) none none,
                                          type:=tS,pos := "slices.go:186",
                                          after :=
                                            #[{ on:=0,ground:=Go.Ground.data },
                                              { on:=1,ground:=Go.Ground.data }],
                                          guard:=none },
                                        { dst:=some 81,op:=Go.Op.move (Go.Operand.tmp 2),type:=tS,
                                          pos := "slices.go:186", after := #[],guard:=none },
                                        { dst:=some 82,
                                          op :=
                                            Go.Op.call
                                              { callee:=Go.Callee.builtin Go.Builtin.copy,
                                                args := #[Go.Operand.tmp 80,Go.Operand.tmp 81],
                                                argTypes := #[tS,tS] },
                                          type:=tI,pos := "slices.go:186",
                                          after :=
                                            #[{ on:=2,ground:=Go.Ground.data },
                                              { on:=3,ground:=Go.Ground.data }],
                                          guard:=none }]
                                      false).seq
                                  ((Go.Code.region 17
                                        #[{ dst:=some 83,op:=Go.Op.move (Go.Operand.tmp 0),type:=tS,
                                            pos := "slices.go:193", after := #[],guard:=none },
                                          { dst:=some 6,op:=Go.Op.assign (Go.Operand.tmp 83),type:=tS,
                                            pos := "slices.go:193",
                                            after :=
                                              #[{ on:=0,ground:=Go.Ground.data },
                                                { on:=0,ground:=Go.Ground.phase }],
                                            guard:=none }]
                                        false).seq
                                    Go.Code.ret)))
                              Go.Code.skip)).seq
                        ((Go.Code.region 18
                              #[{ dst:=some 84,op:=Go.Op.move (Go.Operand.tmp 0),type:=tS,
                                  pos := "slices.go:200", after := #[],guard:=none },
                                { dst:=some 85,op:=Go.Op.move (Go.Operand.tmp 8),type:=tI,
                                  pos := "slices.go:200", after := #[],guard:=none },
                                { dst:=some 86,
                                  op:=Go.Op.slice tS (Go.Operand.tmp 84) (some (Go.Operand.tmp 85)) none none,
                                  type:=tS,pos := "slices.go:200",
                                  after :=
                                    #[{ on:=0,ground:=Go.Ground.data },{ on:=1,ground:=Go.Ground.data }],
                                  guard:=none },
                                { dst:=some 87,op:=Go.Op.move (Go.Operand.tmp 2),type:=tS,
                                  pos := "slices.go:200", after := #[],guard:=none },
                                { dst:=some 88,
                                  op :=
                                    Go.Op.call
                                      { callee:=Go.Callee.builtin Go.Builtin.copy,
                                        args := #[Go.Operand.tmp 86,Go.Operand.tmp 87],argTypes := #[tS,tS] },
                                  type:=tI,pos := "slices.go:200",
                                  after :=
                                    #[{ on:=2,ground:=Go.Ground.data },{ on:=3,ground:=Go.Ground.data }],
                                  guard:=none }]
                              false).seq
                          ((Go.Code.region 19
                                #[{ dst:=some 89,op:=Go.Op.move (Go.Operand.tmp 0),type:=tS,
                                    pos := "slices.go:207", after := #[],guard:=none },
                                  { dst:=some 90,op:=Go.Op.move (Go.Operand.tmp 1),type:=tI,
                                    pos := "slices.go:207", after := #[],guard:=none },
                                  { dst:=some 91,
                                    op:=Go.Op.slice tS (Go.Operand.tmp 89) (some (Go.Operand.tmp 90)) none none,
                                    type:=tS,pos := "slices.go:207",
                                    after :=
                                      #[{ on:=0,ground:=Go.Ground.data },{ on:=1,ground:=Go.Ground.data }],
                                    guard:=none },
                                  { dst:=some 92,op:=Go.Op.move (Go.Operand.tmp 7),type:=tI,
                                    pos := "slices.go:207", after := #[],guard:=none },
                                  { dst:=some 93,
                                    op :=
                                      Go.Op.call
                                        { callee:=Go.Callee.value (Go.Operand.func f1),
                                          args := #[Go.Operand.tmp 91,Go.Operand.tmp 92],argTypes := #[tS,tI] },
                                    type:=0,pos := "slices.go:207",
                                    after :=
                                      #[{ on:=2,ground:=Go.Ground.data },{ on:=3,ground:=Go.Ground.data }],
                                    guard:=none }]
                                false).seq
                            ((Go.Code.region 20
                                  #[{ dst:=some 94,op:=Go.Op.move (Go.Operand.tmp 0),type:=tS,
                                      pos := "slices.go:214", after := #[],guard:=none },
                                    { dst:=some 6,op:=Go.Op.assign (Go.Operand.tmp 94),type:=tS,
                                      pos := "slices.go:214",
                                      after :=
                                        #[{ on:=0,ground:=Go.Ground.data },
                                          { on:=0,ground:=Go.Ground.phase }],
                                      guard:=none }]
                                  false).seq
                              Go.Code.ret)))))))))))),
  norace:=false,file := "slices/slices.go", endLine:=215,met:=[Go.Departure.appendOfMake],
  tmpNames :=
    (["s", "i", "v", "s", "i", "v", "", "m", "n", "s2", "", "", "", "", "", "", "", "", "", "", "", "", "", "", "", "",
            "", "", "", "", "", "", "", "", "", "", "", "", "", "", "", "", "", "", "", "", ""].append
        ["", "", "", "", "", "", "", "", "", "", "", "", "", "", "", "", "", "", "", "", "", "", "", "", "", "", "", "",
          "", "", "", "", "", "", "", "", "", "", "", "", "", "", "", "", "", "", "", ""]).toArray }
def delF (nm:String) (tS tE tI tB:Nat):Go.Func :=
{ name:=nm,
  origin := "slices.Delete", targs := #[tS,tE],params := #[tS,tI,tI],resultTypes := #[tS],nfree:=0,ntmps:=33,
  results := #[Go.ResultVar.tmp 6],
  body :=
    some
      ((Go.Code.region 0
            #[{ dst:=some 6,op:=Go.Op.assign (Go.Operand.const (Go.Value.slice none 0 0)),type:=tS,
                pos := "slices.go:224", after := #[],guard:=none }]
            false).seq
        ((Go.Code.region 1
              #[{ dst:=some 8,op:=Go.Op.move (Go.Operand.tmp 0),type:=tS,pos := "slices.go:225", after := #[],
                  guard:=none },
                { dst:=some 9,op:=Go.Op.move (Go.Operand.tmp 1),type:=tI,pos := "slices.go:225", after := #[],
                  guard:=none },
                { dst:=some 10,op:=Go.Op.move (Go.Operand.tmp 2),type:=tI,pos := "slices.go:225", after := #[],
                  guard:=none },
                { dst:=some 11,op:=Go.Op.move (Go.Operand.tmp 0),type:=tS,pos := "slices.go:225", after := #[],
                  guard:=none },
                { dst:=some 12,
                  op :=
                    Go.Op.call
                      { callee:=Go.Callee.builtin Go.Builtin.len,args := #[Go.Operand.tmp 11],argTypes := #[tS] },
                  type:=tI,pos := "slices.go:225", after := #[{ on:=3,ground:=Go.Ground.data }],guard:=none },
                { dst:=some 13,
                  op :=
                    Go.Op.slice tS (Go.Operand.tmp 8) (some (Go.Operand.tmp 9)) (some (Go.Operand.tmp 10))
                      (some (Go.Operand.tmp 12)),
                  type:=tS,pos := "slices.go:225",
                  after :=
                    #[{ on:=0,ground:=Go.Ground.data },{ on:=1,ground:=Go.Ground.data },
                      { on:=2,ground:=Go.Ground.data },{ on:=4,ground:=Go.Ground.data }],
                  guard:=none }]
              false).seq
          (((Go.Code.region 2
                    #[{ dst:=some 14,op:=Go.Op.move (Go.Operand.tmp 1),type:=tI,pos := "slices.go:227",
                        after := #[],guard:=none },
                      { dst:=some 15,op:=Go.Op.move (Go.Operand.tmp 2),type:=tI,pos := "slices.go:227",
                        after := #[],guard:=none },
                      { dst:=some 16,op:=Go.Op.binOp Go.BinOp.eql tI (Go.Operand.tmp 14) (Go.Operand.tmp 15) tI,
                        type:=tB,pos := "slices.go:227",
                        after := #[{ on:=0,ground:=Go.Ground.data },{ on:=1,ground:=Go.Ground.data }],
                        guard:=none }]
                    false).seq
                (Go.Code.cond (Go.Operand.tmp 16)
                  ((Go.Code.region 3
                        #[{ dst:=some 17,op:=Go.Op.move (Go.Operand.tmp 0),type:=tS,pos := "slices.go:228",
                            after := #[],guard:=none },
                          { dst:=some 6,op:=Go.Op.assign (Go.Operand.tmp 17),type:=tS,pos := "slices.go:228",
                            after := #[{ on:=0,ground:=Go.Ground.data },{ on:=0,ground:=Go.Ground.phase }],
                            guard:=none }]
                        false).seq
                    Go.Code.ret)
                  Go.Code.skip)).seq
            ((Go.Code.region 4
                  #[{ dst:=some 18,op:=Go.Op.move (Go.Operand.tmp 0),type:=tS,pos := "slices.go:231",
                      after := #[],guard:=none },
                    { dst:=some 19,
                      op :=
                        Go.Op.call
                          { callee:=Go.Callee.builtin Go.Builtin.len,args := #[Go.Operand.tmp 18],
                            argTypes := #[tS] },
                      type:=tI,pos := "slices.go:231", after := #[{ on:=0,ground:=Go.Ground.data }],
                      guard:=none },
                    { dst:=some 7,op:=Go.Op.assign (Go.Operand.tmp 19),type:=tI,pos := "slices.go:231",
                      after :=
                        #[{ on:=1,ground:=Go.Ground.data },{ on:=0,ground:=Go.Ground.phase },
                          { on:=1,ground:=Go.Ground.phase }],
                      guard:=none }]
                  false).seq
              ((Go.Code.region 5
                    #[{ dst:=some 20,op:=Go.Op.move (Go.Operand.tmp 0),type:=tS,pos := "slices.go:232",
                        after := #[],guard:=none },
                      { dst:=some 21,op:=Go.Op.move (Go.Operand.tmp 1),type:=tI,pos := "slices.go:232",
                        after := #[],guard:=none },
                      { dst:=some 22,op:=Go.Op.slice tS (Go.Operand.tmp 20) none (some (Go.Operand.tmp 21)) none,
                        type:=tS,pos := "slices.go:232",
                        after := #[{ on:=0,ground:=Go.Ground.data },{ on:=1,ground:=Go.Ground.data }],
                        guard:=none },
                      { dst:=some 23,op:=Go.Op.move (Go.Operand.tmp 0),type:=tS,pos := "slices.go:232",
                        after := #[],guard:=none },
                      { dst:=some 24,op:=Go.Op.move (Go.Operand.tmp 2),type:=tI,pos := "slices.go:232",
                        after := #[],guard:=none },
                      { dst:=some 25,op:=Go.Op.slice tS (Go.Operand.tmp 23) (some (Go.Operand.tmp 24)) none none,
                        type:=tS,pos := "slices.go:232",
                        after := #[{ on:=3,ground:=Go.Ground.data },{ on:=4,ground:=Go.Ground.data }],
                        guard:=none },
                      { dst:=some 26,
                        op :=
                          Go.Op.call
                            { callee:=Go.Callee.builtin Go.Builtin.append,
                              args := #[Go.Operand.tmp 22,Go.Operand.tmp 25],argTypes := #[tS,tS] },
                        type:=tS,pos := "slices.go:232",
                        after := #[{ on:=2,ground:=Go.Ground.data },{ on:=5,ground:=Go.Ground.data }],
                        guard:=none },
                      { dst:=some 0,op:=Go.Op.assign (Go.Operand.tmp 26),type:=tS,pos := "slices.go:232",
                        after :=
                          #[{ on:=6,ground:=Go.Ground.data },{ on:=6,ground:=Go.Ground.chain },
                            { on:=0,ground:=Go.Ground.phase },{ on:=1,ground:=Go.Ground.phase },
                            { on:=2,ground:=Go.Ground.phase },{ on:=3,ground:=Go.Ground.phase },
                            { on:=4,ground:=Go.Ground.phase },{ on:=5,ground:=Go.Ground.phase },
                            { on:=6,ground:=Go.Ground.phase }],
                        guard:=none }]
                    true).seq
                ((Go.Code.region 6
                      #[{ dst:=some 27,op:=Go.Op.move (Go.Operand.tmp 0),type:=tS,pos := "slices.go:233",
                          after := #[],guard:=none },
                        { dst:=some 28,op:=Go.Op.move (Go.Operand.tmp 0),type:=tS,pos := "slices.go:233",
                          after := #[],guard:=none },
                        { dst:=some 29,
                          op :=
                            Go.Op.call
                              { callee:=Go.Callee.builtin Go.Builtin.len,args := #[Go.Operand.tmp 28],
                                argTypes := #[tS] },
                          type:=tI,pos := "slices.go:233", after := #[{ on:=1,ground:=Go.Ground.data }],
                          guard:=none },
                        { dst:=some 30,op:=Go.Op.move (Go.Operand.tmp 7),type:=tI,pos := "slices.go:233",
                          after := #[],guard:=none },
                        { dst:=some 31,
                          op :=
                            Go.Op.slice tS (Go.Operand.tmp 27) (some (Go.Operand.tmp 29)) (some (Go.Operand.tmp 30))
                              none,
                          type:=tS,pos := "slices.go:233",
                          after :=
                            #[{ on:=0,ground:=Go.Ground.data },{ on:=2,ground:=Go.Ground.data },
                              { on:=3,ground:=Go.Ground.data }],
                          guard:=none },
                        { dst:=none,
                          op :=
                            Go.Op.call
                              { callee:=Go.Callee.builtin Go.Builtin.clear,args := #[Go.Operand.tmp 31],
                                argTypes := #[tS] },
                          type:=0,pos := "slices.go:233", after := #[{ on:=4,ground:=Go.Ground.data }],
                          guard:=none }]
                      false).seq
                  ((Go.Code.region 7
                        #[{ dst:=some 32,op:=Go.Op.move (Go.Operand.tmp 0),type:=tS,pos := "slices.go:234",
                            after := #[],guard:=none },
                          { dst:=some 6,op:=Go.Op.assign (Go.Operand.tmp 32),type:=tS,pos := "slices.go:234",
                            after := #[{ on:=0,ground:=Go.Ground.data },{ on:=0,ground:=Go.Ground.phase }],
                            guard:=none }]
                        false).seq
                    Go.Code.ret))))))),
  norace:=false,file := "slices/slices.go", endLine:=235,
  tmpNames :=
    #["s", "i", "j", "s", "i", "j", "", "oldlen", "", "", "", "", "", "", "", "", "", "", "", "", "", "", "", "", "",
      "", "", "", "", "", "", "", ""] }
theorem zhv (nm:String) (tS tE tI tB f0 f1:Nat):(insF nm tS tE tI tB f0 f1).ntmps=95:=rfl
theorem zkX (nm:String) (tS tE tI tB:Nat):(delF nm tS tE tI tB).ntmps=33:=rfl
end Go.Vx
namespace Go.Vx
open Go.Proofs Go.Lib
structure InsLay (P:Program) (f:Nat) (nm:String) (tS tE tI tB fo fr k:Nat) (z:Value):Prop where
  mixed:P.follows .mixedOrders=true
  fn:P.funcs[f]? = some (insF nm tS tE tI tB fo fr)
  ov:∀ (w:World) (a b:Addr) (la ca lb cb:Nat),a.block ≠ b.block->∀ (tA tB:TypeId) (kA kB:Nat),w.shape? a.block=some (tA,kA)->w.shape? b.block=some (tB,kB)->kB ≠ 0->w.frozen? a=false->w.frozen? { block:=a.block,off:=kA }=false ->
    (callFunc fo #[.slice (some a) la ca,.slice (some b) lb cb]).run P w=.ok (.value (.bool false)) w
  t3:P.underlying tI=some (TypeDesc.int IntKind.i64)
  a3:∀ w,(isAgg tI).run P w=.ok false w
  z3:∀ w,(Go.sizeOf tI).run P w=.ok 1 w
  v3:∀ w,(zeroValue tI).run P w=.ok (Value.int IntKind.i64 0) w
  t4:P.underlying tB=some (TypeDesc.bool)
  a4:∀ w,(isAgg tB).run P w=.ok false w
  z4:∀ w,(Go.sizeOf tB).run P w=.ok 1 w
  v4:∀ w,(zeroValue tB).run P w=.ok (Value.bool false) w
  z9:∀ w,(Go.sizeOf tE).run P w=.ok k w
  t24:P.underlying tS=some (TypeDesc.slice tE)
  a24:∀ w,(isAgg tS).run P w=.ok false w
  z24:∀ w,(Go.sizeOf tS).run P w=.ok 1 w
  v24:∀ w,(zeroValue tS).run P w=.ok (Value.slice none 0 0) w
  i9:∃ B,(P.info? tE).map (fun i=>(i.zero,i.size,i.bytes))=some (some z,k,B)∧B<=65536
variable {P:Program} {f:Nat} {nm:String} {tS tE tI tB fo fr k:Nat} {z:Value}
set_option maxHeartbeats 4000000 in
set_option maxRecDepth 100000 in
theorem zri (L:InsLay P f nm tS tE tI tB fo fr k z) (hk:0<k) (b off n c i vb voff vc:Nat) (cur:Array Value) (E:TypeId) (vs:List Value) (w:World) (hi:i<n) (hn63:n + 1<=9223372036854775807) (hroom:n + 1<=c) (hvb:vb ≠ b)
    (hb:w.heap[b]? = some (.cells cur E (0,0))) (hfit:off + c * k<=cur.size) (h1c:∀ v ∈ (cur.toList.drop (off + i * k)).take ((n - i) * k),v.oneCell'=true) (hvl:vs.length=k)
    (hvs:∀ j v,vs[j]? = some v->w.cell? ⟨vb,voff + j,none⟩=some v) (h1v:∀ v ∈ vs,v.oneCell'=true)
    (tA tB':TypeId) (kA kB:Nat) (hsa:w.shape? vb=some (tA,kA)) (hsb:w.shape? b=some (tB',kB)) (hkB:kB ≠ 0) (hfa:w.frozen? ⟨vb,voff,none⟩=false) (hfe:w.frozen? ⟨vb,kA,none⟩=false) :
    Calls P f #[.slice (some ⟨b,off,none⟩) n c,.int .i64 i,.slice (some ⟨vb,voff,none⟩) 1 vc] w fun e w' =>
      e=.returned (.slice (some ⟨b,off,none⟩) (n + 1) c)∧w'=(w.drew.setRow b (cur.toList.take (off + i * k)++vs++(cur.toList.drop (off + i * k)).take ((n - i) * k)++cur.toList.drop (off + (n + 1) * k)).toArray):=by
  have t3:=L.t3;have a3:=L.a3;have z3:=L.z3;have v3:=L.v3;have t4:=L.t4;have a4:=L.a4;have z4:=L.z4;have v4:=L.v4;have z9:=L.z9;have t24:=L.t24;have a24:=L.a24;have z24:=L.z24;have v24:=L.v24
  have u3:=run_underlying L.t3;have u4:=run_underlying L.t4;have u24:=run_underlying L.t24
  have hz2:¬ ((i:Int)=(n:Int)):=by omega
  have mixed:=L.mixed
  have hov:∀ lb cb,(callFunc fo #[.slice (some ⟨vb,voff,none⟩) 1 vc,.slice (some ⟨b,off + (i + 1) * k,none⟩) lb cb]).run P w=.ok (.value (.bool false)) w:=fun lb cb =>
    L.ov w _ _ _ _ _ _ hvb _ _ _ _ hsa hsb hkB hfa hfe
  have hw1:IntKind.i64.wrap ((i:Int) + 1)=(i:Int) + 1:=by rw [IntKind.wrap_i64];omega
  have hw2:IntKind.i64.wrap ((n:Int) + 1)=(n:Int) + 1:=by rw [IntKind.wrap_i64];omega
  have hb1:(0:Int)<=(i:Int) + 1:=by omega
  have hin:i<=n:=by omega
  have htn:((i:Int) + 1).toNat=i + 1:=by omega
  have hb2:¬ (c=i + 1):=by omega
  have hb3:(i:Int)<=(n:Int) + 1:=by omega
  have hb4:¬ (c=i):=by omega
  have hz9:(P.info? tE).map (·.size)=some k:=by
    obtain ⟨B,hB,_⟩:=L.i9
    obtain ⟨i0,hi0,h0,h1,h2⟩:=info_parts hB
    rw [hi0];simp [h1]
  have hmul:(i + 1) * k=i * k + k:=Nat.succ_mul i k
  have hmul2:(n + 1) * k=n * k + k:=Nat.succ_mul n k
  have hmul3:(n - i) * k + i * k=n * k:=by rw [<- Nat.add_mul,Nat.sub_add_cancel hin]
  have hmul4:(n + 1) * k<=c * k:=Nat.mul_le_mul_right k hroom
  obtain ⟨cs,hcs⟩:∃ cs,cs=(cur.toList.drop (off + i * k)).take ((n - i) * k):=⟨_,rfl⟩
  have hcl:cs.length=(n - i) * k:=by rw [hcs];simp only [List.length_take,List.length_drop,Array.length_toList];omega
  have hbd:w.drew.heap[b]? = some (.cells cur E (0,0)):=hb
  have hcsat:∀ j v,cs[j]? = some v->w.cell? ⟨b,off + i * k + j,none⟩=some v:=by
    intro j v hj
    have hjl:=(List.getElem?_eq_some_iff.1 hj).1
    rw [hcs,List.getElem?_take_of_lt (by omega),List.getElem?_drop,Array.getElem?_toList] at hj
    simp only [World.cell?,hb,Option.isSome_none,Bool.false_eq_true,if_false]
    exact hj
  have hcp1:∀ ty dc sc,(Builtin.copy_ #[tS,tS] ty #[.slice (some ⟨b,off + (i + 1) * k,none⟩) (n - i) dc,.slice (some ⟨b,off + i * k,none⟩) (n + 1 - i) sc]).run P w.drew=.ok (goInt (Nat.min (n + 1 - i) (n - i))) (w.drew.setRow b (cur.toList.take (off + (i + 1) * k)++cs++cur.toList.drop (off + (i + 1) * k + cs.length)).toArray):=fun ty dc sc =>
    zfm w.drew tS tS ty tE k b _ _ dc ⟨b,off + i * k,none⟩ _ sc cur E cs L.t24 hz9 hbd (by rw [hcl,Nat.mul_comm];congr 1;simp only [Nat.min_def];split <;> omega)
      (fun j v hj=>by rw [Addr.add_lit];exact hcsat j v hj) (by rw [hcl];omega) (fun v hv=>h1c v (by rw [hcs] at hv;exact hv))
  obtain ⟨row,hrow⟩:∃ row,row=(cur.toList.take (off + (i + 1) * k)++cs++cur.toList.drop (off + (i + 1) * k + cs.length)).toArray:=⟨_,rfl⟩
  rw [<- hrow] at hcp1
  have hrs:row.size=cur.size:=by
    rw [hrow];simp only [List.size_toArray,List.length_append,List.length_take,List.length_drop,Array.length_toList,hcl];omega
  obtain ⟨W1,hW1⟩:∃ W1,W1=w.drew.setRow b row:=⟨_,rfl⟩
  rw [<- hW1] at hcp1
  have hb1':W1.heap[b]? = some (.cells row E (0,0)):=by rw [hW1];exact setRow_heap w.drew b cur row E (0,0) hbd
  have hcp2:∀ (W:World),W=W1->∀ ty dc,(Builtin.copy_ #[tS,tS] ty #[.slice (some ⟨b,off + i * k,none⟩) (n + 1 - i) dc,.slice (some ⟨vb,voff,none⟩) 1 vc]).run P W=.ok (goInt (Nat.min 1 (n + 1 - i))) (W.setRow b (row.toList.take (off + i * k)++vs++row.toList.drop (off + i * k + vs.length)).toArray):=fun W hW ty dc =>
    zfm W tS tS ty tE k b (off + i * k) (n + 1 - i) dc ⟨vb,voff,none⟩ 1 vc row E vs L.t24 hz9 (by rw [hW];exact hb1') (by rw [hvl,show Nat.min 1 (n + 1 - i)=1 by simp only [Nat.min_def];split <;> omega,Nat.mul_one])
      (fun j v hj=>by
        rw [Addr.add_lit,hW,hW1]
        have:=hvs j v hj
        simp only [World.cell?] at this ⊢
        rw [setRow_other _ _ _ _ hvb]
        exact this)
      (by rw [hrs,hvl];omega) h1v
  have hfin:W1.setRow b (row.toList.take (off + i * k)++vs++row.toList.drop (off + i * k + vs.length)).toArray=w.drew.setRow b (cur.toList.take (off + i * k)++vs++(cur.toList.drop (off + i * k)).take ((n - i) * k)++cur.toList.drop (off + (n + 1) * k)).toArray:=by
    rw [hW1,setRow_setRow]
    congr 2
    rw [hrow,<- hcs]
    have q:off + i * k<=cur.toList.length:=by rw [Array.length_toList];omega
    have q2:off + (i + 1) * k<=cur.toList.length:=by rw [Array.length_toList];omega
    have l1:(cur.toList.take (off + (i + 1) * k)).length=off + (i + 1) * k:=by rw [List.length_take];omega
    rw [show ∀ l:List Value,l.toArray.toList=l from fun _=>rfl]
    rw [List.append_assoc (List.take _ _) cs,List.take_append_of_le_length (by omega),List.take_take,Nat.min_eq_left (by omega)]
    rw [hvl,show off + i * k + k=off + (i + 1) * k by omega,List.drop_append_of_le_length (by omega),List.drop_of_length_le (by omega),List.nil_append,hcl,show off + (i + 1) * k + (n - i) * k=off + (n + 1) * k by omega]
    simp only [List.append_assoc]
  clear hmul hmul2 hmul3 hmul4 hcl hcsat hbd hrs hb1' hW1 hrow hcs
  go_enter L.fn,zhv nm tS tE tI tB fo fr
  go_wp2_with (simp only [hov])
  go_region_law_o (refine step_copy_runI rfl _ _ tS tS rfl _ _ (by simp [Act.eval,Act.put]) (by simp [Act.eval,Act.put]) (hcp1 _ _ _) ?_)
  go_wp2_with (at_builtin;refine wpList_copy_runI _ rfl _ _ tS tS rfl _ _ rfl rfl (hcp2 _ rfl _ _) ?_)
  go_ret
  exact ⟨rfl,by rw [<- hfin,hvl,List.append_assoc]⟩
set_option maxHeartbeats 4000000 in
set_option maxRecDepth 100000 in
theorem zmI (L:InsLay P f nm tS tE tI tB fo fr k z) (b off n c vb voff vc:Nat) (vs:List Value) (w:World) (hroom:n + 1<=c)
    (hvl:vs.length=k) (hsp:∀ j,j<k->(w.cell? ⟨b,off + n * k + j,none⟩).isSome=true) (hfz:∀ j,j<k->w.frozen? ⟨b,off + n * k + j,none⟩=false)
    (hvs:∀ j v,vs[j]? = some v->w.cell? ⟨vb,voff + j,none⟩=some v) (h1v:∀ v ∈ vs,v.oneCell'=true) :
    Calls P f #[.slice (some ⟨b,off,none⟩) n c,.int .i64 n,.slice (some ⟨vb,voff,none⟩) 1 vc] w fun e w' =>
      e=.returned (.slice (some ⟨b,off,none⟩) (n + 1) c)∧w'=w.setCells b (off + n * k) vs:=by
  have t3:=L.t3;have a3:=L.a3;have z3:=L.z3;have v3:=L.v3;have t4:=L.t4;have a4:=L.a4;have z4:=L.z4;have v4:=L.v4;have z9:=L.z9;have t24:=L.t24;have a24:=L.a24;have z24:=L.z24;have v24:=L.v24
  have u3:=run_underlying L.t3;have u4:=run_underlying L.t4;have u24:=run_underlying L.t24
  have mixed:=L.mixed
  obtain ⟨B,hB,hB2⟩:=L.i9
  obtain ⟨i0,hi0,hz0,hzs,hzb⟩:=info_parts hB
  have hsrc:Src P i0.size tS (.slice (some ⟨vb,voff,none⟩) 1 vc) 1 vs w:=Src.ofSlice w L.t24 ⟨vb,voff,none⟩ 1 vc vs (by rw [hzs];omega) (fun j u hj=>by rw [Addr.add_lit];exact hvs j u hj) h1v
  have hrun:∀ ty,(Builtin.append_ #[tS,tS] ty #[.slice (some ⟨b,off,none⟩) n c,.slice (some ⟨vb,voff,none⟩) 1 vc]).run P w=.ok (.slice (some ⟨b,off,none⟩) (n + 1) c) (w.setCells b (off + n * k) vs):=fun ty=>by
    have:=run_append_room_src w tS tS ty tE i0 L.t24 hi0 b off n c _ 1 vs hsrc hroom (by rw [hvl,hzs];exact hsp) (by rw [hvl,hzs];exact hfz)
    rw [hzs] at this
    exact this
  clear hsrc
  go_enter L.fn,zhv nm tS tE tI tB fo fr
  go_wp2_with (at_builtin;refine Lib.wpList_append_run _ rfl _ _ _ _ rfl _ _ rfl rfl _ _ (hrun _) ?_)
  go_ret
  exact ⟨rfl,rfl⟩
set_option maxHeartbeats 4000000 in
set_option maxRecDepth 100000 in
theorem zmJ (L:InsLay P f nm tS tE tI tB fo fr k z) (zc:Array Value) (hzc:zc=z.cells) (base:Option Addr) (n c vb voff vc:Nat) (cs vs:List Value) (w:World) (hnc:n<=c) (hroom:c<n + 1) (hbig:(n + 1) * 65536<=140737488355328)
    (hcl:cs.length=n * k) (hvl:vs.length=k) (hnil:base=none->n=0)
    (hcs:∀ a,base=some a->∀ j v,cs[j]? = some v->w.cell? (a.add j)=some v)
    (hvs:∀ j v,vs[j]? = some v->w.cell? ⟨vb,voff + j,none⟩=some v) (h1v:∀ v ∈ vs,v.oneCell'=true) :
    Calls P f #[.slice base n c,.int .i64 n,.slice (some ⟨vb,voff,none⟩) 1 vc] w fun e w' =>
      e=.returned (.slice (some ⟨w.heap.size,0,none⟩) (n + 1) (grownCap w (n + 1) c tE)) ∧
      w'=w.drew.alloc (.cells ((cs++vs).toArray++Builtin.zeroCells zc (grownCap w (n + 1) c tE - (n + 1))) tE):=by
  have t3:=L.t3;have a3:=L.a3;have z3:=L.z3;have v3:=L.v3;have t4:=L.t4;have a4:=L.a4;have z4:=L.z4;have v4:=L.v4;have z9:=L.z9;have t24:=L.t24;have a24:=L.a24;have z24:=L.z24;have v24:=L.v24
  have u3:=run_underlying L.t3;have u4:=run_underlying L.t4;have u24:=run_underlying L.t24
  have mixed:=L.mixed
  obtain ⟨B,hB,hB2⟩:=L.i9
  obtain ⟨i0,hi0,hz0,hzs,hzb⟩:=info_parts hB
  have hsrc:Src P i0.size tS (.slice (some ⟨vb,voff,none⟩) 1 vc) 1 vs w:=Src.ofSlice w L.t24 ⟨vb,voff,none⟩ 1 vc vs (by rw [hzs];omega) (fun j u hj=>by rw [Addr.add_lit];exact hvs j u hj) h1v
  have hold:(Builtin.firstCells i0.size n (.slice base n c)).run P w.drew=.ok cs.toArray w.drew:=by
    rw [hzs]
    cases base with
    | none =>
      have h0:=hnil rfl
      subst h0
      rw [show cs=[] from List.length_eq_zero_iff.1 (by rw [hcl,Nat.zero_mul])]
      exact run_firstCells_none w.drew k 0 0 c
    | some a=>exact run_firstCells_some w.drew k n a n c cs (by omega) (fun j v hj=>hcs a rfl j v hj)
  have hrun:∀ ty,(Builtin.append_ #[tS,tS] ty #[.slice base n c,.slice (some ⟨vb,voff,none⟩) 1 vc]).run P w=_:=fun ty =>
    run_append_grow_src w tS tS ty tE i0 z L.t24 hi0 hz0 base n c cs hold _ 1 vs hsrc hroom (by omega) (growslice_fits hroom (by have:=Nat.mul_le_mul_left (n + 1) (show i0.bytes<=65536 by rw [hzb];exact hB2);omega))
  rw [<- hzc] at hrun
  clear hold hsrc hzc hz0
  go_enter L.fn,zhv nm tS tE tI tB fo fr
  cases base with
  | none =>
    have h0:=hnil rfl
    subst h0
    go_wp2_with (at_builtin;refine Lib.wpList_append_run _ rfl _ _ _ _ rfl _ _ rfl rfl _ _ (hrun _) ?_)
    go_ret
    exact ⟨rfl,rfl⟩
  | some a =>
    obtain ⟨ab,ao,asp⟩:=a
    go_wp2_with (at_builtin;refine Lib.wpList_append_run _ rfl _ _ _ _ rfl _ _ rfl rfl _ _ (hrun _) ?_)
    all_goals (go_ret;exact ⟨rfl,rfl⟩)
theorem zdF (zc:Array Value) (m:Nat):(Builtin.zeroCells zc m).size=m * zc.size:=by
  simp [Builtin.zeroCells]
set_option maxHeartbeats 4000000 in
set_option maxRecDepth 100000 in
theorem zuE (L:InsLay P f nm tS tE tI tB fo fr k z) (zc:Array Value) (hzc:zc=z.cells) (hzk:zc.size=k) (hk:0<k) (b off n c i vb voff vc:Nat) (cs vs:List Value) (w:World) (hi:i<n) (hnc:n<=c) (hroom:c<n + 1) (hbig:(n + 1) * 65536<=140737488355328)
    (hcl:cs.length=n * k) (hvl:vs.length=k)
    (hcs:∀ j v,cs[j]? = some v->w.cell? ⟨b,off + j,none⟩=some v) (hbw:b<w.heap.size) (hvw:vb<w.heap.size)
    (hvs:∀ j v,vs[j]? = some v->w.cell? ⟨vb,voff + j,none⟩=some v) (h1c:∀ v ∈ cs,v.oneCell'=true) (h1v:∀ v ∈ vs,v.oneCell'=true)
    (G:Nat) (hG:G=grownCap w (n + 1) c tE) (ROW rowA rowB:Array Value) (hROW:ROW=(cs.take (i * k)).toArray++Builtin.zeroCells zc (n + 1 - i)++Builtin.zeroCells zc (G - (n + 1)))
    (hA:rowA=(ROW.toList.take (i * k)++vs++ROW.toList.drop (i * k + vs.length)).toArray)
    (hB:rowB=(rowA.toList.take ((i + 1) * k)++cs.drop (i * k)++rowA.toList.drop ((i + 1) * k + (cs.drop (i * k)).length)).toArray) :
    Calls P f #[.slice (some ⟨b,off,none⟩) n c,.int .i64 i,.slice (some ⟨vb,voff,none⟩) 1 vc] w fun e w' =>
      e=.returned (.slice (some ⟨w.heap.size,0,none⟩) (n + 1) G)∧w'=(((w.alloc (.cells ROW tE)).drew.setRow w.heap.size rowA).drew).setRow w.heap.size rowB:=by
  have t3:=L.t3;have a3:=L.a3;have z3:=L.z3;have v3:=L.v3;have t4:=L.t4;have a4:=L.a4;have z4:=L.z4;have v4:=L.v4;have z9:=L.z9;have t24:=L.t24;have a24:=L.a24;have z24:=L.z24;have v24:=L.v24
  have u3:=run_underlying L.t3;have u4:=run_underlying L.t4;have u24:=run_underlying L.t24
  have mixed:=L.mixed
  obtain ⟨B,hBi,hB2⟩:=L.i9
  obtain ⟨i0,hi0,hz0,hzs,hzb⟩:=info_parts hBi
  have hz2:¬ ((i:Int)=(n:Int)):=by omega
  have hz3:(c:Int)<(n:Int) + 1:=by omega
  have hsz:(P.info? tE).map (·.size)=some k:=by rw [hi0];simp [hzs]
  have hkk:(n:Int) + 1 - (i:Int)=((n + 1 - i:Nat):Int):=by omega
  have hik:i + (n + 1 - i)=n + 1:=by omega
  have hin:i<=n:=by omega
  have hmul:(i + 1) * k=i * k + k:=Nat.succ_mul i k
  have hmul2:(n + 1) * k=n * k + k:=Nat.succ_mul n k
  have hmul3:(n - i) * k + i * k=n * k:=by rw [<- Nat.add_mul,Nat.sub_add_cancel hin]
  have hold:(Builtin.firstCells i0.size i (.slice (some ⟨b,off,none⟩) i c)).run P w.drew=.ok (cs.take (i * k)).toArray w.drew:=by
    rw [hzs]
    exact run_firstCells_some w.drew k i ⟨b,off,none⟩ i c (cs.take (i * k)) (by rw [List.length_take];omega) (fun j v hj=>by
      rw [Addr.add_lit]
      rw [List.getElem?_take] at hj
      split at hj
      · exact hcs j v hj
      · cases hj)
  have hbb:(n + 1) * i0.bytes<=140737488355328:=by
    have:=Nat.mul_le_mul_left (n + 1) (show i0.bytes<=65536 by rw [hzb];exact hB2)
    omega
  have hbb2:(n + 1 - i) * i0.bytes<=281474976710656:=by
    have:=Nat.mul_le_mul_right i0.bytes (show n + 1 - i<=n + 1 by omega)
    omega
  have hrz:∀ ty,(Builtin.append_ #[tS,tI] ty #[.slice (some ⟨b,off,none⟩) i c,.int .i64 ((n:Int) + 1 - (i:Int))]).run P w =
      .ok (.slice (some ⟨w.heap.size,0,none⟩) (n + 1) G) (w.drew.alloc (.cells ROW tE)):=fun ty=>by
    have h:=Lib.run_append_grow_zeros w tS tI ty tE i0 z .i64 .i64 L.t24 L.t3 hi0 hz0 (some ⟨b,off,none⟩) i c (cs.take (i * k)) hold (n + 1 - i) (by omega) (by omega) (by omega) (by omega) hbb2 (by rw [hik];exact growslice_fits hroom hbb)
    rw [hik,<- hzc,<- hG,<- hROW] at h
    rw [hkk]
    exact h
  have hGn:n + 1<=G:=by rw [hG];exact grownCap_ge w _ _ _
  have hG63:G<=9223372036854775807:=by
    have:=grownCap_le_maxLen w (n + 1) c tE (by unfold maxLen;omega)
    rw [<- hG] at this
    unfold maxLen at this
    omega
  have hRl:ROW.size=i * k + (n + 1 - i) * k + (G - (n + 1)) * k:=by
    rw [hROW,Array.size_append,Array.size_append,zdF,zdF,hzk,List.size_toArray,List.length_take]
    omega
  have hmul5:(n + 1 - i) * k + i * k=(n + 1) * k:=by rw [<- Nat.add_mul];congr 1;omega
  have hmul6:i * k<=n * k:=Nat.mul_le_mul_right k hin
  have hdl:(cs.drop (i * k)).length=(n - i) * k:=by rw [List.length_drop];omega
  have hAs:rowA.size=ROW.size:=by
    rw [hA];simp only [List.size_toArray,List.length_append,List.length_take,List.length_drop,Array.length_toList,hvl];omega
  obtain ⟨N,hN⟩:∃ N,N=w.heap.size:=⟨_,rfl⟩
  have hW1:(w.drew.alloc (.cells ROW tE)).heap[N]? = some (.cells ROW tE (0,0)):=by
    rw [hN];show (w.heap.push (Obj.cells ROW tE (0,0)))[w.heap.size]? = _;simp
  have hWo:∀ x:Nat,x<N->(w.drew.alloc (.cells ROW tE)).heap[x]? = w.heap[x]? := by
    intro x hx;rw [hN] at hx;show (w.heap.push (Obj.cells ROW tE (0,0)))[x]? = _;simp [Array.getElem?_push,Nat.ne_of_lt hx]
  have hcpA:∀ (W:World),(∀ x:Nat,W.heap[x]? = (w.drew.alloc (.cells ROW tE)).heap[x]?)->∀ ty dc,(Builtin.copy_ #[tS,tS] ty #[.slice (some ⟨N,i * k,none⟩) (n + 1 - i) dc,.slice (some ⟨vb,voff,none⟩) 1 vc]).run P W=.ok (goInt (Nat.min 1 (n + 1 - i))) (W.setRow N rowA):=fun W hW ty dc=>by
    rw [hA]
    exact zfm W tS tS ty tE k N (i * k) (n + 1 - i) dc ⟨vb,voff,none⟩ 1 vc ROW tE vs L.t24 hsz (by rw [hW];exact hW1) (by rw [hvl,show Nat.min 1 (n + 1 - i)=1 by simp only [Nat.min_def];split <;> omega,Nat.mul_one])
      (fun j v hj=>by
        rw [Addr.add_lit]
        have:=hvs j v hj
        simp only [World.cell?] at this ⊢
        rw [hW,hWo vb (by omega)]
        exact this)
      (by rw [hRl,hvl];omega) h1v
  have hcpB:∀ (W:World),(∀ x:Nat,W.heap[x]? = ((w.drew.alloc (.cells ROW tE)).setRow N rowA).heap[x]?)->∀ ty dc sc,(Builtin.copy_ #[tS,tS] ty #[.slice (some ⟨N,(i + 1) * k,none⟩) (n - i) dc,.slice (some ⟨b,off + i * k,none⟩) (n - i) sc]).run P W=.ok (goInt (Nat.min (n - i) (n - i))) (W.setRow N rowB):=fun W hW ty dc sc=>by
    rw [hB]
    exact zfm W tS tS ty tE k N _ _ dc ⟨b,off + i * k,none⟩ _ sc rowA tE (cs.drop (i * k)) L.t24 hsz (by rw [hW];exact setRow_heap _ _ ROW rowA tE (0,0) hW1) (by rw [hdl,Nat.mul_comm];congr 1;simp [Nat.min_def])
      (fun j v hj=>by
        rw [Addr.add_lit]
        have:=hcs (i * k + j) v (by rwa [List.getElem?_drop] at hj)
        rw [<- Nat.add_assoc] at this
        simp only [World.cell?] at this ⊢
        rw [hW,setRow_other _ _ _ _ (by omega),hWo b (by omega)]
        exact this)
      (by rw [hAs,hRl,hdl];omega) (fun v hv=>h1c v (List.mem_of_mem_drop hv))
  have hGi:¬ (G=i):=by omega
  have hGim:¬ (G=i + 1):=by omega
  have hci:¬ (c=i):=by omega
  have hw1:IntKind.i64.wrap ((i:Int) + 1)=(i:Int) + 1:=by rw [IntKind.wrap_i64];omega
  have hw2:IntKind.i64.wrap ((n:Int) + 1)=(n:Int) + 1:=by rw [IntKind.wrap_i64];omega
  have hb1:(0:Int)<=(i:Int) + 1:=by omega
  have htn:((i:Int) + 1).toNat=i + 1:=by omega
  have hb3:(i:Int)<=(n:Int):=by omega
  subst hN
  have hE1:∀ x:Nat,((w.alloc (.cells ROW tE)).drew).heap[x]? = (w.drew.alloc (.cells ROW tE)).heap[x]? := fun x=>rfl
  have hF1:∀ x:Nat,(((w.alloc (.cells ROW tE)).drew.setRow w.heap.size rowA).drew).heap[x]? = ((w.drew.alloc (.cells ROW tE)).setRow w.heap.size rowA).heap[x]? := fun x=>rfl
  clear hkk hik hold hROW hG hRl hA hB hAs hmul hmul2 hmul3 hmul5 hmul6 hzc hz0 hdl hW1 hWo
  go_enter L.fn,zhv nm tS tE tI tB fo fr
  go_wp2_with (first
    | (at_builtin;refine Lib.wpList_append_run _ rfl _ _ _ _ rfl _ _ rfl rfl _ _ (hrz _) ?_)
    | (at_builtin;refine wpList_copy_runI _ rfl _ _ tS tS rfl _ _ rfl rfl (hcpA _ hE1 _ _) ?_))
  go_region_law_o (refine step_copy_runI rfl _ _ tS tS rfl (.slice (some ⟨w.heap.size,(i + 1) * k,none⟩) (n - i) (G - (i + 1))) (.slice (some ⟨b,off + i * k,none⟩) (n - i) (c - i)) (by simp [Act.eval,Act.put]) (by simp [Act.eval,Act.put]) (hcpB _ hF1 tI (G - (i + 1)) (c - i)) ?_)
  go_wp2
  go_ret
  exact ⟨rfl,rfl⟩
end Go.Vx
namespace Go.Vx
open Go.Proofs Go.Lib
theorem zhY {w:World} {B o:Nat} {row:Array Value} {E:TypeId} {vs:List Value} (hb:w.heap[B]? = some (.cells row E (0,0))) (h:∀ j v,vs[j]? = some v->row[o + j]? = some v):zaA w B o vs:=by
  intro j v hj
  simp only [World.cell?,hb,Option.isSome_none,Bool.false_eq_true,if_false]
  exact h j v hj
def zhe (w:World) (I:Nat->Prop) (ι F0:List Nat) (d:D) (e:Ending) (w2:World):Prop :=
  ∃ r H,e=.returned r∧Ext (· ∈ F0) w w2∧Rep w2 I ι r d H∧H.Nodup∧∀ b ∈ H,(b ∈ F0 ∨ w.heap.size<=b)∧b<w2.heap.size
variable {P:Program} {f:Nat} {nm:String} {tS tE tI tB fo fr k:Nat} {z:Value}
end Go.Vx
namespace Go.Vx
open Go.Proofs Go.Lib
variable {P:Program}
theorem zil (zc:Array Value):(Builtin.zeroCells zc 1).toList=zc.toList:=by
  apply List.ext_getElem
  · simp [Builtin.zeroCells]
  · intro i h1 h2
    have hi:i<zc.size:=by simpa using h2
    simp [Builtin.zeroCells,Nat.mod_eq_of_lt hi,hi]
theorem zlu (w:World) (t e ty:TypeId) (z:Value) (ht:P.underlying t=some (.slice e)) (hv:∀ w,(zeroValue e).run P w=.ok z w) (h1:∀ v ∈ z.cells,v.oneCell'=true) (b o c:Nat)
    (hc:∀ j,j<z.cells.size->(w.cell? ⟨b,o + j,none⟩).isSome=true) (hf:∀ j,j<z.cells.size->w.frozen? ⟨b,o + j,none⟩=false) :
    (Builtin.clear_ #[t] ty #[.slice (some ⟨b,o,none⟩) 1 c]).run P w=.ok (.tuple #[]) (w.setCells b o z.cells.toList):=by
  have hst:=run_storeCells_cells (P:=P) b o z.cells.toList 0 w (by simpa using hc) (by simpa using hf) (by intro v hv';exact h1 v (by simpa using hv'))
  simp only [Nat.add_zero] at hst
  simp only [Builtin.clear_,run_underlying ht,hv,zil,hst,Sem.run_bind,Result.andThen_ok,Sem.run_pure]
  simp [run_underlying ht,hv,zil,hst]
theorem zgN {ops:Array Oper} {o:Oper} {a:Act} {w:World} {K:Act->World->Prop} {Q:Exit->Act->World->Prop} {E:Prop}
    (hg:o.guard=none) (d x:Operand) (dT sT:TypeId) (hop:o.op=Op.call { callee:=Callee.builtin Builtin.append,args := #[d,x],argTypes := #[dT,sT] })
    (v u:Value) (hd:a.eval d=v) (hx:a.eval x=u) {v':Value} {w':World} (hr:(Builtin.append_ #[dT,sT] o.type #[v,u]).run P w=.ok v' w') (hK:K (a.put o.dst v') w') :
    if Region.wanted o (yielded ops a.tmps)=true then Oper.wp P o a w K Q else E:=by
  have hw:Region.wanted o (yielded ops a.tmps)=true:=by simp [Region.wanted,hg]
  rw [if_pos hw]
  unfold Oper.wp
  simp [execOp,hop,resolve,invoke,builtin,hd,hx,hr,Result.andThen]
  exact hK
structure DelLay (P:Program) (f:Nat) (nm:String) (tS tE tI tB k:Nat) (z:Value):Prop where
  mixed:P.follows .mixedOrders=true
  fn:P.funcs[f]? = some (delF nm tS tE tI tB)
  t3:P.underlying tI=some (TypeDesc.int IntKind.i64)
  a3:∀ w,(isAgg tI).run P w=.ok false w
  z3:∀ w,(Go.sizeOf tI).run P w=.ok 1 w
  v3:∀ w,(zeroValue tI).run P w=.ok (Value.int IntKind.i64 0) w
  t4:P.underlying tB=some (TypeDesc.bool)
  a4:∀ w,(isAgg tB).run P w=.ok false w
  z4:∀ w,(Go.sizeOf tB).run P w=.ok 1 w
  v4:∀ w,(zeroValue tB).run P w=.ok (Value.bool false) w
  z9:∀ w,(Go.sizeOf tE).run P w=.ok k w
  v9:∀ w,(zeroValue tE).run P w=.ok z w
  t24:P.underlying tS=some (TypeDesc.slice tE)
  a24:∀ w,(isAgg tS).run P w=.ok false w
  z24:∀ w,(Go.sizeOf tS).run P w=.ok 1 w
  v24:∀ w,(zeroValue tS).run P w=.ok (Value.slice none 0 0) w
  i9:∃ B,(P.info? tE).map (fun i=>(i.zero,i.size,i.bytes))=some (some z,k,B)∧B<=65536
end Go.Vx
namespace Go.Vx
open Go.Proofs Go.Lib
variable {P:Program} {f:Nat} {nm:String} {tS tE tI tB k:Nat} {z:Value}
set_option maxHeartbeats 4000000 in
set_option maxRecDepth 100000 in
theorem zuF (L:DelLay P f nm tS tE tI tB k z) (hk:0<k) (b off n c i:Nat) (zl:List Value) (w W1:World) (A:Addr) (hi:i<n) (hnc:n<=c) (hn63:n<=4611686018427387904)
    (hA:(if c=i + 1 then some (⟨b,off,none⟩:Addr) else some ⟨b,off + (i + 1) * k,none⟩)=some A)
    (hap:∀ ty sc,(Builtin.append_ #[tS,tS] ty #[.slice (some ⟨b,off,none⟩) i c,.slice (some A) (n - (i + 1)) sc]).run P w.drew=.ok (.slice (some ⟨b,off,none⟩) (n - 1) c) W1)
    (hcl:∀ ty sc,(Builtin.clear_ #[tS] ty #[.slice (some ⟨b,off + (n - 1) * k,none⟩) 1 sc]).run P W1=.ok (.tuple #[]) (W1.setCells b (off + (n - 1) * k) zl)) :
    Calls P f #[.slice (some ⟨b,off,none⟩) n c,.int .i64 i,.int .i64 ((i:Int) + 1)] w fun e w' =>
      e=.returned (.slice (some ⟨b,off,none⟩) (n - 1) c)∧w'=W1.setCells b (off + (n - 1) * k) zl:=by
  have t3:=L.t3;have a3:=L.a3;have z3:=L.z3;have v3:=L.v3;have t4:=L.t4;have a4:=L.a4;have z4:=L.z4;have v4:=L.v4;have z9:=L.z9;have t24:=L.t24;have a24:=L.a24;have z24:=L.z24;have v24:=L.v24
  have u3:=run_underlying L.t3;have u4:=run_underlying L.t4;have u24:=run_underlying L.t24
  have mixed:=L.mixed
  have hne:¬ ((i:Int)=(i:Int) + 1):=by omega
  have htn:((i:Int) + 1).toNat=i + 1:=by omega
  have hb1:(0:Int)<=(i:Int) + 1:=by omega
  have hb2:(i:Int)<=(i:Int) + 1:=by omega
  have hb3:(i:Int) + 1<=(n:Int):=by omega
  have hic:i<=c:=by omega
  have hic1:i + 1<=c:=by omega
  have hw1:((n - 1:Nat):Int)=(n:Int) - 1:=by omega
  have hn1:n - 1<=n:=by omega
  have hn2:n - (n - 1)=1:=by omega
  have hci:¬ (c=n - 1):=by omega
  by_cases hcc:c=i + 1
  · rw [if_pos hcc] at hA
    subst hcc
    have h0:n - (i + 1)=0:=by omega
    rw [h0] at hap
    cases hA
    go_enter L.fn,zkX nm tS tE tI tB
    go_wp2
    go_region_law_o (refine zgN rfl _ _ tS tS rfl (.slice (some ⟨b,off,none⟩) i (i + 1)) (.slice (some ⟨b,off,none⟩) 0 0) (by simp [Act.eval,Act.put]) (by simp [Act.eval,Act.put]) (hap tS 0) ?_)
    go_wp2
    all_goals (go_ret;exact ⟨rfl,rfl⟩)
  · rw [if_neg hcc] at hA
    cases hA
    go_enter L.fn,zkX nm tS tE tI tB
    go_wp2
    go_region_law_o (refine zgN rfl _ _ tS tS rfl (.slice (some ⟨b,off,none⟩) i c) (.slice (some ⟨b,off + (i + 1) * k,none⟩) (n - (i + 1)) (c - (i + 1))) (by simp [Act.eval,Act.put]) (by simp [Act.eval,Act.put]) (hap tS (c - (i + 1))) ?_)
    go_wp2
    all_goals (go_ret;exact ⟨rfl,rfl⟩)
end Go.Vx
namespace Go.Vx
open Go.Proofs Go.Lib
variable {P:Program} {f:Nat} {nm:String} {tS tE tI tB k:Nat} {z:Value}
theorem zpM (L:DelLay P f nm tS tE tI tB k z) (hzk:z.cells.size=k) (hz1:∀ v ∈ z.cells,v.oneCell'=true) (hk0:0<k) {w:World} {I:Nat->Prop} {ι:List Nat} {v:Value} {xs:List D} {F:List Nat} (i:Nat)
    (hi:i<xs.length) (hm:xs.length<=most) (hx:Rep w I ι v (.sl true k xs) F) (hn:F.Nodup) (hap:∀ b ∈ F,¬ I b∧b<w.heap.size) (hI:∀ b,I b->b<w.heap.size) :
    Calls P f #[v,.int .i64 i,.int .i64 ((i:Int) + 1)] w (zhe w I ι F (.sl true k (xs.take i++xs.drop (i + 1)))):=by
  cases hx with
  | nil=>simp at hi
  | emp _ _ _ a=>simp at hi
  | own _ b o n cap _ _ vs E cur F1 q1 q2 q3 q4 q5 q6 q7 q8 =>
    have hbw:b<w.heap.size:=(Array.getElem?_eq_some_iff.1 q2).1
    have hnF:=List.nodup_cons.1 hn
    have e:zaj xs=zaj (xs.take i)++(zaj ((xs.drop i).take 1)++zaj (xs.drop (i + 1))):=by
      rw [<- zav,<- zav]
      congr 1
      rw [show xs.drop (i + 1)=(xs.drop i).drop 1 by rw [List.drop_drop],List.take_append_drop,List.take_append_drop]
    rw [e] at q7
    obtain ⟨va,vr,Fa,Fr,rfl,rfl,hl,h1,h2⟩:=RepL.split q7
    obtain ⟨vx,vd,Fx,Fd,rfl,rfl,hl2,h3,h4⟩:=RepL.split h2
    have ka:∀ x ∈ xs.take i,x.cells.length=k:=fun x hx=>q8 x (List.mem_of_mem_take hx)
    have kx:∀ x ∈ (xs.drop i).take 1,x.cells.length=k:=fun x hx=>q8 x (List.mem_of_mem_drop (List.mem_of_mem_take hx))
    have kd:∀ x ∈ xs.drop (i + 1),x.cells.length=k:=fun x hx=>q8 x (List.mem_of_mem_drop hx)
    have hal:va.length=i * k:=by rw [h1.length,zaq ka,List.length_take];congr 1;omega
    have hxl:vx.length=k:=by
      rw [h3.length,zaq kx,List.length_take,List.length_drop,show min 1 (xs.length - i)=1 by omega,Nat.one_mul]
    have hdl:vd.length=(n - (i + 1)) * k:=by rw [h4.length,zaq kd,List.length_drop];congr 1;omega
    have o1:ones va:=fun x hx=>q6 x (mAL _ hx)
    have o2:ones vd:=fun x hx=>q6 x (mAR _ (mAR _ hx))
    have m1:(i + 1) * k=i * k + k:=Nat.succ_mul i k
    have m2:(n - (i + 1)) * k + i * k=(n - 1) * k:=by rw [<- Nat.add_mul];congr 1;omega
    have m3:(n - 1) * k + k=n * k:=by rw [<- Nat.succ_mul];congr 1;omega
    have m4:=Nat.mul_le_mul_right k q4
    obtain ⟨B,hB,hB2⟩:=L.i9
    obtain ⟨i0,hi0,hz0,hzs,hzb⟩:=info_parts hB
    have hvd:∀ j v,vd[j]? = some v->w.cell? ⟨b,o + (i + 1) * k + j,none⟩=some v:=by
      intro j v hj
      have:=q5 ((i + 1) * k + j) v (by
        rw [List.getElem?_append_right (by omega),List.getElem?_append_right (by omega)]
        rw [show (i + 1) * k + j - va.length - vx.length=j by omega]
        exact hj)
      rw [<- Nat.add_assoc] at this
      exact this
    obtain ⟨A,hA⟩:∃ A,(if cap=i + 1 then some (⟨b,o,none⟩:Addr) else some ⟨b,o + (i + 1) * k,none⟩)=some A:=by
      split <;> exact ⟨_,rfl⟩
    have hAs:∀ j v,vd[j]? = some v->w.drew.cell? (A.add j)=some v:=by
      intro j v hj
      split at hA
      · have:vd.length=0:=by rw [hdl,show n - (i + 1)=0 by omega,Nat.zero_mul]
        have hlt:=(List.getElem?_eq_some_iff.1 hj).1
        omega
      · cases hA
        rw [Addr.add_lit]
        exact hvd j v hj
    have hsrc:∀ sc,Src P i0.size tS (.slice (some A) (n - (i + 1)) sc) (n - (i + 1)) vd w.drew:=fun sc =>
      Src.ofSlice w.drew L.t24 A (n - (i + 1)) sc vd (by rw [hzs,hdl]) hAs o2
    have hcell:∀ j,j<cap * k->(w.cell? ⟨b,o + j,none⟩).isSome=true∧w.frozen? ⟨b,o + j,none⟩=false:=by
      intro j hj
      have hj2:o + j<cur.size:=by omega
      simp [World.cell?,World.frozen?,q2,hj2]
    have happ:∀ ty sc,(Builtin.append_ #[tS,tS] ty #[.slice (some ⟨b,o,none⟩) i cap,.slice (some A) (n - (i + 1)) sc]).run P w.drew=.ok (.slice (some ⟨b,o,none⟩) (n - 1) cap) (w.drew.setCells b (o + i * k) vd):=by
      intro ty sc
      have:=run_append_room_src w.drew tS tS ty tE i0 L.t24 hi0 b o i cap _ (n - (i + 1)) vd (hsrc sc) (by omega)
        (by rw [hzs];intro j hj;have:=(hcell (i * k + j) (by omega)).1;rw [<- Nat.add_assoc] at this;exact this)
        (by rw [hzs];intro j hj;have:=(hcell (i * k + j) (by omega)).2;rw [<- Nat.add_assoc] at this;exact this)
      rw [hzs,show i + (n - (i + 1))=n - 1 by omega] at this
      exact this
    have hbd:w.drew.heap[b]? = some (.cells cur E (0,0)):=q2
    obtain ⟨c1,r1,r2⟩:=zdp b vd (o + i * k) w.drew hbd (by omega)
    have hc1:c1.size=cur.size:=by
      have:=congrArg List.length r2
      simp only [Array.length_toList,List.length_append,List.length_take,List.length_drop] at this
      omega
    have hcl:∀ ty sc,(Builtin.clear_ #[tS] ty #[.slice (some ⟨b,o + (n - 1) * k,none⟩) 1 sc]).run P (w.drew.setCells b (o + i * k) vd)=.ok (.tuple #[]) ((w.drew.setCells b (o + i * k) vd).setCells b (o + (n - 1) * k) z.cells.toList):=by
      intro ty sc
      refine zlu _ tS tE ty z L.t24 L.v9 hz1 b _ sc (fun j hj=>?_) (fun j hj=>?_)
      · have:o + (n - 1) * k + j<c1.size:=by omega
        simp [World.cell?,r1,this]
      · simp [World.frozen?,r1]
    refine (zuF L hk0 b o n cap i z.cells.toList w _ A (by omega) q4 (by unfold most at hm;omega) hA happ hcl).mono ?_
    rintro e' w2 ⟨rfl,rfl⟩
    obtain ⟨c2,s1,s2⟩:=zdp b z.cells.toList (o + (n - 1) * k) _ r1 (by rw [Array.length_toList];omega)
    have hc2:c2.size=c1.size:=by
      have:=congrArg List.length s2
      simp only [Array.length_toList,List.length_append,List.length_take,List.length_drop] at this
      omega
    have hx0:Ext (fun x=>x ∈ b::(Fa++(Fx++Fd))) w w.drew:=⟨rfl,rfl,rfl,Nat.le_refl _,fun _ _ _=>rfl⟩
    have hext:Ext (fun x=>x ∈ b::(Fa++(Fx++Fd))) w ((w.drew.setCells b (o + i * k) vd).setCells b (o + (n - 1) * k) z.cells.toList) :=
      (hx0.trans (Ext.setCells b vd (o + i * k) w.drew (S:=fun x=>x ∈ b::(Fa++(Fx++Fd))) (List.mem_cons_self ..)) (fun _ _ h=>h)).trans (Ext.setCells b z.cells.toList (o + (n - 1) * k) (w.drew.setCells b (o + i * k) vd) (S:=fun x=>x ∈ b::(Fa++(Fx++Fd))) (List.mem_cons_self ..)) (fun _ _ h=>h)
    have hne:∀ x,x ≠ b->((w.drew.setCells b (o + i * k) vd).setCells b (o + (n - 1) * k) z.cells.toList).heap[x]? = w.heap[x]? := by
      intro x hx
      rw [zay b _ _ _ hx,zay b _ _ _ hx]
      rfl
    have hsub:∀ x ∈ Fa++Fd,x ∈ Fa++(Fx++Fd):=by
      intro x hx
      rcases List.mem_append.1 hx with h|h
      · exact mAL _ h
      · exact mAR _ (mAR _ h)
    have hbF:b ∉ Fa++Fd:=fun h=>hnF.1 (hsub b h)
    have hnd:(Fa++Fd).Nodup:=by
      have q:=List.nodup_append.1 hnF.2
      have q':=List.nodup_append.1 q.2.1
      exact List.nodup_append.2 ⟨q.1,q'.2.1,fun x hx y hy=>q.2.2 x hx y (mAR _ hy)⟩
    refine ⟨_,b::(Fa++Fd),rfl,hext,?_,List.nodup_cons.2 ⟨hbF,hnd⟩,?_⟩
    · refine .own _ _ _ _ _ _ _ (va++vd) E c2 _ (by rw [List.length_append,List.length_take,List.length_drop];omega) s1 (by omega) (by omega) (zhY s1 ?_) ?_ ?_ ?_
      · intro j v hj
        rw [<- Array.getElem?_toList,s2]
        have hlt:=(List.getElem?_eq_some_iff.1 hj).1
        rw [List.length_append] at hlt
        rw [List.getElem?_append_left (by rw [List.length_take,Array.length_toList];omega),List.getElem?_take_of_lt (by omega),r2]
        by_cases hja:j<i * k
        · rw [List.getElem?_append_left (by rw [List.length_take,Array.length_toList];omega),List.getElem?_take_of_lt (by omega),Array.getElem?_toList]
          rw [List.getElem?_append_left (by omega)] at hj
          have:=q5 j v (by rw [List.getElem?_append_left (by omega)];exact hj)
          simpa [World.cell?,q2] using this
        · rw [List.getElem?_append_right (by rw [List.length_take,Array.length_toList];omega),List.length_take,Nat.min_eq_left (by rw [Array.length_toList];omega),List.getElem?_append_left (by omega)]
          rw [List.getElem?_append_right (by omega)] at hj
          rw [show o + j - (o + i * k)=j - va.length by omega]
          exact hj
      · intro x hx
        exact (List.mem_append.1 hx).elim (o1 x) (o2 x)
      · rw [zav]
        refine (RepL.append h1 h4).frame (fun _ h=>h) (fun x hx=>hne x (fun e=>(hap b (List.mem_cons_self ..)).1 (e ▸ hx))) (fun x hx=>hne x (fun e=>hbF (e ▸ hx)))
      · intro x hx
        exact (List.mem_append.1 hx).elim (ka x) (kd x)
    · intro x hx
      have h0:x ∈ b::(Fa++(Fx++Fd)):=by
        rcases List.mem_cons.1 hx with rfl|h
        · exact List.mem_cons_self ..
        · exact List.mem_cons_of_mem _ (hsub x h)
      exact ⟨.inl h0,Nat.lt_of_lt_of_le (hap x h0).2 hext.size⟩
def ziG (k:Nat):List D->Option (D × List D)
  | [.sl true z xs,.int .i64 i,.int .i64 j]=>if z=k∧0<=i∧j=i + 1∧i<xs.length∧xs.length<=most then some (.sl true k (xs.take i.toNat++xs.drop (i.toNat + 1)),[]) else none
  | _=>none
theorem zrk (L:DelLay P f nm tS tE tI tB k z) (hzk:z.cells.size=k) (hz1:∀ v ∈ z.cells,v.oneCell'=true) (hk0:0<k) {args:List D} {r:D × List D} (h:ziG k args=some r) (sto:List (List D)):zfy P [.mv,.mv,.mv] f args sto (r.1,r.2,sto):=by
  unfold ziG at h
  split at h
  · rename_i z1 xs i j
    split at h
    · rename_i hc
      obtain ⟨rfl,hi0,rfl,hi1,hm⟩:=hc
      cases h
      intro w I ι vs Fs Gs hr hs hn hap hI _
      cases hr with
      | cons v _ F vs1 _ Fs1 hv hr1 =>
        cases hr1 with
        | cons iv _ F2 vs2 _ Fs2 hiv hr2 =>
          cases hiv
          cases hr2 with
          | cons jv _ F3 vs3 _ Fs3 hjv hnil =>
            cases hjv
            cases hnil
            have hfl:([F,[],[]]:List (List Nat)).flatten=F:=by simp
            rw [hfl] at hn hap ⊢
            have hi2:((i.toNat:Nat):Int)=i:=by omega
            have hq:=zpM (ι:=ι) L hzk hz1 hk0 i.toNat (by omega) hm hv (List.nodup_append.1 hn).1 (fun b hb=>hap b (mAL _ hb)) hI
            rw [hi2] at hq
            refine hq.mono ?_
            rintro e w2 ⟨rv,H,rfl,hext,hrep,hHn,hH⟩
            have hsep:∀ x ∈ H,∀ x' ∈ Gs.flatten,x ≠ x':=by
              intro x hx x' hx' he
              subst he
              rcases (hH x hx).1 with h|h
              · exact (List.nodup_append.1 hn).2.2 x h x hx' rfl
              · exact Nat.lt_irrefl _ (Nat.lt_of_lt_of_le (hap x (mAR _ hx')).2 h)
            refine ⟨rv,rfl,I,ι,H,[],Gs,hext.mono (fun x hx=>mAL _ hx),fun _ h=>h,fun x hx=>⟨Nat.lt_of_lt_of_le (hI x hx) hext.size,.inl hx⟩,hrep,.nil,?_,fun _ _ h=>h,?_,?_⟩
            · exact hs.ext hext (fun x hx=>⟨hI x hx,fun hf=>(hap x (mAL _ hf)).1 hx⟩) (fun x hx=>⟨(hap x (mAR _ hx)).2,fun hf=>(List.nodup_append.1 hn).2.2 x hf x hx rfl⟩)
            · rw [List.flatten_nil,List.nil_append]
              exact List.nodup_append.2 ⟨hHn,(List.nodup_append.1 hn).2.1,fun x hx x' hx' he=>hsep x hx x' hx' he⟩
            · intro x hx
              rw [List.flatten_nil,List.nil_append] at hx
              rcases List.mem_append.1 hx with h|h
              · refine ⟨fun hIx=>?_,?_,(hH x h).2⟩
                · rcases (hH x h).1 with h'|h'
                  · exact (hap x (mAL _ h')).1 hIx
                  · exact Nat.lt_irrefl _ (Nat.lt_of_lt_of_le (hI x hIx) h')
                · rcases (hH x h).1 with h'|h'
                  · exact .inl (mAL _ h')
                  · exact .inr h'
              · exact ⟨(hap x (mAR _ h)).1,.inl (mAR _ h),Nat.lt_of_lt_of_le (hap x (mAR _ h)).2 hext.size⟩
    · cases h
  · cases h
end Go.Vx
namespace Go.Vx
theorem zlv {α:Type} (f:α->D) (k:Nat) (a:List α) (i j:Int) (h:0<=i∧j=i + 1∧i<a.length∧a.length<=most) :
    ziG k [.sl true k (a.map f),.int .i64 i,.int .i64 j]=some (.sl true k ((a.take i.toNat++a.drop (i.toNat + 1)).map f),[]):=by
  unfold ziG
  simp only [List.length_map]
  rw [if_pos ⟨trivial,h⟩,List.map_append,List.map_take,List.map_drop]
end Go.Vx

