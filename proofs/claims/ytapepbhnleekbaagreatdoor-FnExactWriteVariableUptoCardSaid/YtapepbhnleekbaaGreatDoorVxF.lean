/-
  An evaluator for the model's code on values, and the proof that what it tells of a call the program does; part 6.
-/
import Derived.Test.YtapepbhnleekbaaGreatDoorVxC
import Derived.Laws.CopyRow
import Derived.Shelf.Spec.SlicesInsertGrow
import Derived.Deep.AppendSrc
import Derived.Test.YtapepbhnleekbaaGreatDoorVxE
import Derived.Test.YtapepbhnleekbaaGreatDoorVxD
set_option linter.unusedVariables false
set_option linter.unusedSimpArgs false
namespace Go.Vx
variable {P:Program}
theorem zeA (w:World) (dT sT ty elem:TypeId) (k:Nat) (g o dLen dCap:Nat) (a:Addr) (sLen sCap:Nat) (cur:Array Value) (t:TypeId) (cs:List Value)
    (hu:P.underlying dT=some (.slice elem)) (hs:(P.info? elem).map (·.size)=some k)
    (hg:w.heap[g]? = some (.cells cur t (0,0))) (hn:cs.length=k * Nat.min sLen dLen)
    (hsrc:∀ j v,cs[j]? = some v->w.cell? (a.add j)=some v) (hfit:o + cs.length<=cur.size) (h1:∀ v ∈ cs,v.oneCell'=true) :
    (Builtin.copy_ #[dT,sT] ty #[.slice (some ⟨g,o,none⟩) dLen dCap,.slice (some a) sLen sCap]).run P w =
      .ok (goInt (Nat.min sLen dLen)) (w.setRow g (cur.toList.take o++cs++cur.toList.drop (o + cs.length)).toArray):=by
  have hl:=run_loadCells_list (P:=P) w a cs hsrc
  have hst:=run_storeCells_at P g o t cs 0 cur w hg (by simpa using hfit) h1
  cases hq:P.info? elem with
  | none=>simp [hq] at hs
  | some i =>
    have hi:i.size=k:=by simpa [hq] using hs
    have hn':Nat.min sLen dLen * k=cs.length:=by rw [Nat.mul_comm];exact hn.symm
    simp [Builtin.copy_,run_underlying hu,Builtin.lenOf,Builtin.firstCells,sizeOf,typeInfo,hq,hi,hn',<- hn,hl,hst]
def insF (nm:String) (tS tE tI tB f0 f1:Nat):Go.Func :=
{ name:=nm,
  origin := "slices.Insert", targs := #[tS,tE],params := #[tS,tI,tS],resultTypes := #[tS],nfree:=0,ntmps:=95,
  results := #[Go.ResultVar.tmp 6],
  body :=
    some
      ((Go.Code.region 0
            #[{ dst:=some 6,op:=Go.Op.assign (Go.Operand.const (Go.Value.slice none 0 0)),type:=tS,
                pos := "slices.go:136", after := #[],guard:=none }]
            false).seq
        ((Go.Code.region 1
              #[{ dst:=some 10,op:=Go.Op.move (Go.Operand.tmp 0),type:=tS,pos := "slices.go:137", after := #[],
                  guard:=none },
                { dst:=some 11,op:=Go.Op.move (Go.Operand.tmp 1),type:=tI,pos := "slices.go:137", after := #[],
                  guard:=none },
                { dst:=some 12,op:=Go.Op.slice tS (Go.Operand.tmp 10) (some (Go.Operand.tmp 11)) none none,
                  type:=tS,pos := "slices.go:137",
                  after := #[{ on:=0,ground:=Go.Ground.data },{ on:=1,ground:=Go.Ground.data }],
                  guard:=none }]
              false).seq
          ((Go.Code.region 2
                #[{ dst:=some 13,op:=Go.Op.move (Go.Operand.tmp 2),type:=tS,pos := "slices.go:139",
                    after := #[],guard:=none },
                  { dst:=some 14,
                    op :=
                      Go.Op.call
                        { callee:=Go.Callee.builtin Go.Builtin.len,args := #[Go.Operand.tmp 13],argTypes := #[tS] },
                    type:=tI,pos := "slices.go:139", after := #[{ on:=0,ground:=Go.Ground.data }],
                    guard:=none },
                  { dst:=some 7,op:=Go.Op.assign (Go.Operand.tmp 14),type:=tI,pos := "slices.go:139",
                    after :=
                      #[{ on:=1,ground:=Go.Ground.data },{ on:=0,ground:=Go.Ground.phase },
                        { on:=1,ground:=Go.Ground.phase }],
                    guard:=none }]
                false).seq
            (((Go.Code.region 3
                      #[{ dst:=some 15,op:=Go.Op.move (Go.Operand.tmp 7),type:=tI,pos := "slices.go:140",
                          after := #[],guard:=none },
                        { dst:=some 16,
                          op :=
                            Go.Op.binOp Go.BinOp.eql tI (Go.Operand.tmp 15)
                              (Go.Operand.const (Go.Value.int Go.IntKind.i64 0)) tI,
                          type:=tB,pos := "slices.go:140", after := #[{ on:=0,ground:=Go.Ground.data }],
                          guard:=none }]
                      false).seq
                  (Go.Code.cond (Go.Operand.tmp 16)
                    ((Go.Code.region 4
                          #[{ dst:=some 17,op:=Go.Op.move (Go.Operand.tmp 0),type:=tS,pos := "slices.go:141",
                              after := #[],guard:=none },
                            { dst:=some 6,op:=Go.Op.assign (Go.Operand.tmp 17),type:=tS,pos := "slices.go:141",
                              after := #[{ on:=0,ground:=Go.Ground.data },{ on:=0,ground:=Go.Ground.phase }],
                              guard:=none }]
                          false).seq
                      Go.Code.ret)
                    Go.Code.skip)).seq
              ((Go.Code.region 5
                    #[{ dst:=some 18,op:=Go.Op.move (Go.Operand.tmp 0),type:=tS,pos := "slices.go:143",
                        after := #[],guard:=none },
                      { dst:=some 19,
                        op :=
                          Go.Op.call
                            { callee:=Go.Callee.builtin Go.Builtin.len,args := #[Go.Operand.tmp 18],
                              argTypes := #[tS] },
                        type:=tI,pos := "slices.go:143", after := #[{ on:=0,ground:=Go.Ground.data }],
                        guard:=none },
                      { dst:=some 8,op:=Go.Op.assign (Go.Operand.tmp 19),type:=tI,pos := "slices.go:143",
                        after :=
                          #[{ on:=1,ground:=Go.Ground.data },{ on:=0,ground:=Go.Ground.phase },
                            { on:=1,ground:=Go.Ground.phase }],
                        guard:=none }]
                    false).seq
                (((Go.Code.region 6
                          #[{ dst:=some 20,op:=Go.Op.move (Go.Operand.tmp 1),type:=tI,pos := "slices.go:144",
                              after := #[],guard:=none },
                            { dst:=some 21,op:=Go.Op.move (Go.Operand.tmp 8),type:=tI,pos := "slices.go:144",
                              after := #[],guard:=none },
                            { dst:=some 22,
                              op:=Go.Op.binOp Go.BinOp.eql tI (Go.Operand.tmp 20) (Go.Operand.tmp 21) tI,type:=tB,
                              pos := "slices.go:144",
                              after := #[{ on:=0,ground:=Go.Ground.data },{ on:=1,ground:=Go.Ground.data }],
                              guard:=none }]
                          false).seq
                      (Go.Code.cond (Go.Operand.tmp 22)
                        ((Go.Code.region 7
                              #[{ dst:=some 23,op:=Go.Op.move (Go.Operand.tmp 0),type:=tS,
                                  pos := "slices.go:145", after := #[],guard:=none },
                                { dst:=some 24,op:=Go.Op.move (Go.Operand.tmp 2),type:=tS,
                                  pos := "slices.go:145", after := #[],guard:=none },
                                { dst:=some 25,
                                  op :=
                                    Go.Op.call
                                      { callee:=Go.Callee.builtin Go.Builtin.append,
                                        args := #[Go.Operand.tmp 23,Go.Operand.tmp 24],argTypes := #[tS,tS] },
                                  type:=tS,pos := "slices.go:145",
                                  after :=
                                    #[{ on:=0,ground:=Go.Ground.data },{ on:=1,ground:=Go.Ground.data }],
                                  guard:=none },
                                { dst:=some 6,op:=Go.Op.assign (Go.Operand.tmp 25),type:=tS,
                                  pos := "slices.go:145",
                                  after :=
                                    #[{ on:=2,ground:=Go.Ground.data },{ on:=2,ground:=Go.Ground.chain },
                                      { on:=0,ground:=Go.Ground.phase },{ on:=1,ground:=Go.Ground.phase },
                                      { on:=2,ground:=Go.Ground.phase }],
                                  guard:=none }]
                              false).seq
                          Go.Code.ret)
                        Go.Code.skip)).seq
                  (((Go.Code.region 8
                            #[{ dst:=some 26,op:=Go.Op.move (Go.Operand.tmp 8),type:=tI,pos := "slices.go:147",
                                after := #[],guard:=none },
                              { dst:=some 27,op:=Go.Op.move (Go.Operand.tmp 7),type:=tI,pos := "slices.go:147",
                                after := #[],guard:=none },
                              { dst:=some 28,
                                op:=Go.Op.binOp Go.BinOp.add tI (Go.Operand.tmp 26) (Go.Operand.tmp 27) tI,type:=tI,
                                pos := "slices.go:147",
                                after :=
                                  #[{ on:=0,ground:=Go.Ground.data },{ on:=1,ground:=Go.Ground.data }],
                                guard:=none },
                              { dst:=some 29,op:=Go.Op.move (Go.Operand.tmp 0),type:=tS,pos := "slices.go:147",
                                after := #[],guard:=none },
                              { dst:=some 30,
                                op :=
                                  Go.Op.call
                                    { callee:=Go.Callee.builtin Go.Builtin.cap,args := #[Go.Operand.tmp 29],
                                      argTypes := #[tS] },
                                type:=tI,pos := "slices.go:147", after := #[{ on:=3,ground:=Go.Ground.data }],
                                guard:=none },
                              { dst:=some 31,
                                op:=Go.Op.binOp Go.BinOp.gtr tI (Go.Operand.tmp 28) (Go.Operand.tmp 30) tI,type:=tB,
                                pos := "slices.go:147",
                                after :=
                                  #[{ on:=2,ground:=Go.Ground.data },{ on:=4,ground:=Go.Ground.data }],
                                guard:=none }]
                            false).seq
                        (Go.Code.cond (Go.Operand.tmp 31)
                          ((Go.Code.region 9
                                #[{ dst:=some 32,op:=Go.Op.move (Go.Operand.tmp 0),type:=tS,
                                    pos := "slices.go:152", after := #[],guard:=none },
                                  { dst:=some 33,op:=Go.Op.move (Go.Operand.tmp 1),type:=tI,
                                    pos := "slices.go:152", after := #[],guard:=none },
                                  { dst:=some 34,
                                    op:=Go.Op.slice tS (Go.Operand.tmp 32) none (some (Go.Operand.tmp 33)) none,
                                    type:=tS,pos := "slices.go:152",
                                    after :=
                                      #[{ on:=0,ground:=Go.Ground.data },{ on:=1,ground:=Go.Ground.data }],
                                    guard:=none },
                                  { dst:=some 35,op:=Go.Op.move (Go.Operand.tmp 8),type:=tI,
                                    pos := "slices.go:152", after := #[],guard:=none },
                                  { dst:=some 36,op:=Go.Op.move (Go.Operand.tmp 7),type:=tI,
                                    pos := "slices.go:152", after := #[],guard:=none },
                                  { dst:=some 37,
                                    op:=Go.Op.binOp Go.BinOp.add tI (Go.Operand.tmp 35) (Go.Operand.tmp 36) tI,
                                    type:=tI,pos := "slices.go:152",
                                    after :=
                                      #[{ on:=3,ground:=Go.Ground.data },{ on:=4,ground:=Go.Ground.data }],
                                    guard:=none },
                                  { dst:=some 38,op:=Go.Op.move (Go.Operand.tmp 1),type:=tI,
                                    pos := "slices.go:152", after := #[],guard:=none },
                                  { dst:=some 39,
                                    op:=Go.Op.binOp Go.BinOp.sub tI (Go.Operand.tmp 37) (Go.Operand.tmp 38) tI,
                                    type:=tI,pos := "slices.go:152",
                                    after :=
                                      #[{ on:=5,ground:=Go.Ground.data },{ on:=6,ground:=Go.Ground.data }],
                                    guard:=none },
                                  { dst:=some 40,
                                    op :=
                                      Go.Op.call
                                        { callee:=Go.Callee.builtin Go.Builtin.append,
                                          args := #[Go.Operand.tmp 34,Go.Operand.tmp 39],argTypes := #[tS,tI] },
                                    type:=tS,pos := "slices.go:152",
                                    after :=
                                      #[{ on:=2,ground:=Go.Ground.data },{ on:=7,ground:=Go.Ground.data }],
                                    guard:=none },
                                  { dst:=some 9,op:=Go.Op.assign (Go.Operand.tmp 40),type:=tS,
                                    pos := "slices.go:152",
                                    after :=
                                      #[{ on:=8,ground:=Go.Ground.data },{ on:=8,ground:=Go.Ground.chain },
                                        { on:=0,ground:=Go.Ground.phase },{ on:=1,ground:=Go.Ground.phase },
                                        { on:=2,ground:=Go.Ground.phase },{ on:=3,ground:=Go.Ground.phase },
                                        { on:=4,ground:=Go.Ground.phase },{ on:=5,ground:=Go.Ground.phase },
                                        { on:=6,ground:=Go.Ground.phase },{ on:=7,ground:=Go.Ground.phase },
                                        { on:=8,ground:=Go.Ground.phase }],
                                    guard:=none }]
                                false).seq
                            ((Go.Code.region 10
                                  #[{ dst:=some 41,op:=Go.Op.move (Go.Operand.tmp 9),type:=tS,
                                      pos := "slices.go:153", after := #[],guard:=none },
                                    { dst:=some 42,op:=Go.Op.move (Go.Operand.tmp 1),type:=tI,
                                      pos := "slices.go:153", after := #[],guard:=none },
                                    { dst:=some 43,
                                      op:=Go.Op.slice tS (Go.Operand.tmp 41) (some (Go.Operand.tmp 42)) none none,
                                      type:=tS,pos := "slices.go:153",
                                      after :=
                                        #[{ on:=0,ground:=Go.Ground.data },{ on:=1,ground:=Go.Ground.data }],
                                      guard:=none },
                                    { dst:=some 44,op:=Go.Op.move (Go.Operand.tmp 2),type:=tS,
                                      pos := "slices.go:153", after := #[],guard:=none },
                                    { dst:=some 45,
                                      op :=
                                        Go.Op.call
                                          { callee:=Go.Callee.builtin Go.Builtin.copy,
                                            args := #[Go.Operand.tmp 43,Go.Operand.tmp 44],argTypes := #[tS,tS] },
                                      type:=tI,pos := "slices.go:153",
                                      after :=
                                        #[{ on:=2,ground:=Go.Ground.data },{ on:=3,ground:=Go.Ground.data }],
                                      guard:=none }]
                                  false).seq
                              ((Go.Code.region 11
                                    #[{ dst:=some 46,op:=Go.Op.move (Go.Operand.tmp 9),type:=tS,
                                        pos := "slices.go:154", after := #[],guard:=none },
                                      { dst:=some 47,op:=Go.Op.move (Go.Operand.tmp 1),type:=tI,
                                        pos := "slices.go:154", after := #[],guard:=none },
                                      { dst:=some 48,op:=Go.Op.move (Go.Operand.tmp 7),type:=tI,
                                        pos := "slices.go:154", after := #[],guard:=none },
                                      { dst:=some 49,
                                        op:=Go.Op.binOp Go.BinOp.add tI (Go.Operand.tmp 47) (Go.Operand.tmp 48) tI,
                                        type:=tI,pos := "slices.go:154",
                                        after :=
                                          #[{ on:=1,ground:=Go.Ground.data },
                                            { on:=2,ground:=Go.Ground.data }],
                                        guard:=none },
                                      { dst:=some 50,
                                        op:=Go.Op.slice tS (Go.Operand.tmp 46) (some (Go.Operand.tmp 49)) none none,
                                        type:=tS,pos := "slices.go:154",
                                        after :=
                                          #[{ on:=0,ground:=Go.Ground.data },
                                            { on:=3,ground:=Go.Ground.data }],
                                        guard:=none },
                                      { dst:=some 51,op:=Go.Op.move (Go.Operand.tmp 0),type:=tS,
                                        pos := "slices.go:154", after := #[],guard:=none },
                                      { dst:=some 52,op:=Go.Op.move (Go.Operand.tmp 1),type:=tI,
                                        pos := "slices.go:154", after := #[],guard:=none },
                                      { dst:=some 53,
                                        op:=Go.Op.slice tS (Go.Operand.tmp 51) (some (Go.Operand.tmp 52)) none none,
                                        type:=tS,pos := "slices.go:154",
                                        after :=
                                          #[{ on:=5,ground:=Go.Ground.data },
                                            { on:=6,ground:=Go.Ground.data }],
                                        guard:=none },
                                      { dst:=some 54,
                                        op :=
                                          Go.Op.call
                                            { callee:=Go.Callee.builtin Go.Builtin.copy,
                                              args := #[Go.Operand.tmp 50,Go.Operand.tmp 53],argTypes := #[tS,tS] },
                                        type:=tI,pos := "slices.go:154",
                                        after :=
                                          #[{ on:=4,ground:=Go.Ground.data },
                                            { on:=7,ground:=Go.Ground.data }],
                                        guard:=none }]
                                    true).seq
                                ((Go.Code.region 12
                                      #[{ dst:=some 55,op:=Go.Op.move (Go.Operand.tmp 9),type:=tS,
                                          pos := "slices.go:155", after := #[],guard:=none },
                                        { dst:=some 6,op:=Go.Op.assign (Go.Operand.tmp 55),type:=tS,
                                          pos := "slices.go:155",
                                          after :=
                                            #[{ on:=0,ground:=Go.Ground.data },
                                              { on:=0,ground:=Go.Ground.phase }],
                                          guard:=none }]
                                      false).seq
                                  Go.Code.ret))))
                          Go.Code.skip)).seq
                    ((Go.Code.region 13
                          #[{ dst:=some 56,op:=Go.Op.move (Go.Operand.tmp 0),type:=tS,pos := "slices.go:157",
                              after := #[],guard:=none },
                            { dst:=some 57,op:=Go.Op.move (Go.Operand.tmp 8),type:=tI,pos := "slices.go:157",
                              after := #[],guard:=none },
                            { dst:=some 58,op:=Go.Op.move (Go.Operand.tmp 7),type:=tI,pos := "slices.go:157",
                              after := #[],guard:=none },
                            { dst:=some 59,
                              op:=Go.Op.binOp Go.BinOp.add tI (Go.Operand.tmp 57) (Go.Operand.tmp 58) tI,type:=tI,
                              pos := "slices.go:157",
                              after := #[{ on:=1,ground:=Go.Ground.data },{ on:=2,ground:=Go.Ground.data }],
                              guard:=none },
                            { dst:=some 60,
                              op:=Go.Op.slice tS (Go.Operand.tmp 56) none (some (Go.Operand.tmp 59)) none,type:=tS,
                              pos := "slices.go:157",
                              after := #[{ on:=0,ground:=Go.Ground.data },{ on:=3,ground:=Go.Ground.data }],
                              guard:=none },
                            { dst:=some 0,op:=Go.Op.assign (Go.Operand.tmp 60),type:=tS,pos := "slices.go:157",
                              after :=
                                #[{ on:=4,ground:=Go.Ground.data },{ on:=0,ground:=Go.Ground.phase },
                                  { on:=1,ground:=Go.Ground.phase },{ on:=2,ground:=Go.Ground.phase },
                                  { on:=3,ground:=Go.Ground.phase },{ on:=4,ground:=Go.Ground.phase }],
                              guard:=none }]
                          false).seq
                      (((Go.Code.region 14
                                #[{ dst:=some 61,op:=Go.Op.move (Go.Operand.tmp 2),type:=tS,
                                    pos := "slices.go:173", after := #[],guard:=none },
                                  { dst:=some 62,op:=Go.Op.move (Go.Operand.tmp 0),type:=tS,
                                    pos := "slices.go:173", after := #[],guard:=none },
                                  { dst:=some 63,op:=Go.Op.move (Go.Operand.tmp 1),type:=tI,
                                    pos := "slices.go:173", after := #[],guard:=none },
                                  { dst:=some 64,op:=Go.Op.move (Go.Operand.tmp 7),type:=tI,
                                    pos := "slices.go:173", after := #[],guard:=none },
                                  { dst:=some 65,
                                    op:=Go.Op.binOp Go.BinOp.add tI (Go.Operand.tmp 63) (Go.Operand.tmp 64) tI,
                                    type:=tI,pos := "slices.go:173",
                                    after :=
                                      #[{ on:=2,ground:=Go.Ground.data },{ on:=3,ground:=Go.Ground.data }],
                                    guard:=none },
                                  { dst:=some 66,
                                    op:=Go.Op.slice tS (Go.Operand.tmp 62) (some (Go.Operand.tmp 65)) none none,
                                    type:=tS,pos := "slices.go:173",
                                    after :=
                                      #[{ on:=1,ground:=Go.Ground.data },{ on:=4,ground:=Go.Ground.data }],
                                    guard:=none },
                                  { dst:=some 67,
                                    op :=
                                      Go.Op.call
                                        { callee:=Go.Callee.value (Go.Operand.func f0),
                                          args := #[Go.Operand.tmp 61,Go.Operand.tmp 66],argTypes := #[tS,tS] },
                                    type:=tB,pos := "slices.go:173",
                                    after :=
                                      #[{ on:=0,ground:=Go.Ground.data },{ on:=5,ground:=Go.Ground.data }],
                                    guard:=none },
                                  { dst:=some 68,op:=Go.Op.unOp Go.UnOp.not tB (Go.Operand.tmp 67),type:=tB,
                                    pos := "slices.go:173", after := #[{ on:=6,ground:=Go.Ground.data }],
                                    guard:=none }]
                                false).seq
                            (Go.Code.cond (Go.Operand.tmp 68)
                              ((Go.Code.region 15
                                    #[{ dst:=some 69,op:=Go.Op.move (Go.Operand.tmp 0),type:=tS,
                                        pos := "slices.go:178", after := #[],guard:=none },
                                      { dst:=some 70,op:=Go.Op.move (Go.Operand.tmp 1),type:=tI,
                                        pos := "slices.go:178", after := #[],guard:=none },
                                      { dst:=some 71,op:=Go.Op.move (Go.Operand.tmp 7),type:=tI,
                                        pos := "slices.go:178", after := #[],guard:=none },
                                      { dst:=some 72,
                                        op:=Go.Op.binOp Go.BinOp.add tI (Go.Operand.tmp 70) (Go.Operand.tmp 71) tI,
                                        type:=tI,pos := "slices.go:178",
                                        after :=
                                          #[{ on:=1,ground:=Go.Ground.data },
                                            { on:=2,ground:=Go.Ground.data }],
                                        guard:=none },
                                      { dst:=some 73,
                                        op:=Go.Op.slice tS (Go.Operand.tmp 69) (some (Go.Operand.tmp 72)) none none,
                                        type:=tS,pos := "slices.go:178",
                                        after :=
                                          #[{ on:=0,ground:=Go.Ground.data },
                                            { on:=3,ground:=Go.Ground.data }],
                                        guard:=none },
                                      { dst:=some 74,op:=Go.Op.move (Go.Operand.tmp 0),type:=tS,
                                        pos := "slices.go:178", after := #[],guard:=none },
                                      { dst:=some 75,op:=Go.Op.move (Go.Operand.tmp 1),type:=tI,
                                        pos := "slices.go:178", after := #[],guard:=none },
                                      { dst:=some 76,
                                        op:=Go.Op.slice tS (Go.Operand.tmp 74) (some (Go.Operand.tmp 75)) none none,
                                        type:=tS,pos := "slices.go:178",
                                        after :=
                                          #[{ on:=5,ground:=Go.Ground.data },
                                            { on:=6,ground:=Go.Ground.data }],
                                        guard:=none },
                                      { dst:=some 77,
                                        op :=
                                          Go.Op.call
                                            { callee:=Go.Callee.builtin Go.Builtin.copy,
                                              args := #[Go.Operand.tmp 73,Go.Operand.tmp 76],argTypes := #[tS,tS] },
                                        type:=tI,pos := "slices.go:178",
                                        after :=
                                          #[{ on:=4,ground:=Go.Ground.data },
                                            { on:=7,ground:=Go.Ground.data }],
                                        guard:=none }]
                                    true).seq
                                ((Go.Code.region 16
                                      #[{ dst:=some 78,op:=Go.Op.move (Go.Operand.tmp 0),type:=tS,
                                          pos := "slices.go:186", after := #[],guard:=none },
                                        { dst:=some 79,op:=Go.Op.move (Go.Operand.tmp 1),type:=tI,
                                          pos := "slices.go:186", after := #[],guard:=none },
                                        { dst:=some 80,
                                          op:=Go.Op.slice tS (Go.Operand.tmp 78) (some (Go.Operand.tmp 79)) none none,
                                          type:=tS,pos := "slices.go:186",
                                          after :=
                                            #[{ on:=0,ground:=Go.Ground.data },
                                              { on:=1,ground:=Go.Ground.data }],
                                          guard:=none },
                                        { dst:=some 81,op:=Go.Op.move (Go.Operand.tmp 2),type:=tS,
                                          pos := "slices.go:186", after := #[],guard:=none },
                                        { dst:=some 82,
                                          op :=
                                            Go.Op.call
                                              { callee:=Go.Callee.builtin Go.Builtin.copy,
                                                args := #[Go.Operand.tmp 80,Go.Operand.tmp 81],
                                                argTypes := #[tS,tS] },
                                          type:=tI,pos := "slices.go:186",
                                          after :=
                                            #[{ on:=2,ground:=Go.Ground.data },
                                              { on:=3,ground:=Go.Ground.data }],
                                          guard:=none }]
                                      false).seq
                                  ((Go.Code.region 17
                                        #[{ dst:=some 83,op:=Go.Op.move (Go.Operand.tmp 0),type:=tS,
                                            pos := "slices.go:193", after := #[],guard:=none },
                                          { dst:=some 6,op:=Go.Op.assign (Go.Operand.tmp 83),type:=tS,
                                            pos := "slices.go:193",
                                            after :=
                                              #[{ on:=0,ground:=Go.Ground.data },
                                                { on:=0,ground:=Go.Ground.phase }],
                                            guard:=none }]
                                        false).seq
                                    Go.Code.ret)))
                              Go.Code.skip)).seq
                        ((Go.Code.region 18
                              #[{ dst:=some 84,op:=Go.Op.move (Go.Operand.tmp 0),type:=tS,
                                  pos := "slices.go:200", after := #[],guard:=none },
                                { dst:=some 85,op:=Go.Op.move (Go.Operand.tmp 8),type:=tI,
                                  pos := "slices.go:200", after := #[],guard:=none },
                                { dst:=some 86,
                                  op:=Go.Op.slice tS (Go.Operand.tmp 84) (some (Go.Operand.tmp 85)) none none,
                                  type:=tS,pos := "slices.go:200",
                                  after :=
                                    #[{ on:=0,ground:=Go.Ground.data },{ on:=1,ground:=Go.Ground.data }],
                                  guard:=none },
                                { dst:=some 87,op:=Go.Op.move (Go.Operand.tmp 2),type:=tS,
                                  pos := "slices.go:200", after := #[],guard:=none },
                                { dst:=some 88,
                                  op :=
                                    Go.Op.call
                                      { callee:=Go.Callee.builtin Go.Builtin.copy,
                                        args := #[Go.Operand.tmp 86,Go.Operand.tmp 87],argTypes := #[tS,tS] },
                                  type:=tI,pos := "slices.go:200",
                                  after :=
                                    #[{ on:=2,ground:=Go.Ground.data },{ on:=3,ground:=Go.Ground.data }],
                                  guard:=none }]
                              false).seq
                          ((Go.Code.region 19
                                #[{ dst:=some 89,op:=Go.Op.move (Go.Operand.tmp 0),type:=tS,
                                    pos := "slices.go:207", after := #[],guard:=none },
                                  { dst:=some 90,op:=Go.Op.move (Go.Operand.tmp 1),type:=tI,
                                    pos := "slices.go:207", after := #[],guard:=none },
                                  { dst:=some 91,
                                    op:=Go.Op.slice tS (Go.Operand.tmp 89) (some (Go.Operand.tmp 90)) none none,
                                    type:=tS,pos := "slices.go:207",
                                    after :=
                                      #[{ on:=0,ground:=Go.Ground.data },{ on:=1,ground:=Go.Ground.data }],
                                    guard:=none },
                                  { dst:=some 92,op:=Go.Op.move (Go.Operand.tmp 7),type:=tI,
                                    pos := "slices.go:207", after := #[],guard:=none },
                                  { dst:=some 93,
                                    op :=
                                      Go.Op.call
                                        { callee:=Go.Callee.value (Go.Operand.func f1),
                                          args := #[Go.Operand.tmp 91,Go.Operand.tmp 92],argTypes := #[tS,tI] },
                                    type:=0,pos := "slices.go:207",
                                    after :=
                                      #[{ on:=2,ground:=Go.Ground.data },{ on:=3,ground:=Go.Ground.data }],
                                    guard:=none }]
                                false).seq
                            ((Go.Code.region 20
                                  #[{ dst:=some 94,op:=Go.Op.move (Go.Operand.tmp 0),type:=tS,
                                      pos := "slices.go:214", after := #[],guard:=none },
                                    { dst:=some 6,op:=Go.Op.assign (Go.Operand.tmp 94),type:=tS,
                                      pos := "slices.go:214",
                                      after :=
                                        #[{ on:=0,ground:=Go.Ground.data },
                                          { on:=0,ground:=Go.Ground.phase }],
                                      guard:=none }]
                                  false).seq
                              Go.Code.ret)))))))))))),
  norace:=false,file := "slices/slices.go", endLine:=215,met:=[Go.Departure.appendOfMake],
  tmpNames :=
    (["s", "i", "v", "s", "i", "v", "", "m", "n", "s2", "", "", "", "", "", "", "", "", "", "", "", "", "", "", "", "",
            "", "", "", "", "", "", "", "", "", "", "", "", "", "", "", "", "", "", "", "", ""].append
        ["", "", "", "", "", "", "", "", "", "", "", "", "", "", "", "", "", "", "", "", "", "", "", "", "", "", "", "",
          "", "", "", "", "", "", "", "", "", "", "", "", "", "", "", "", "", "", "", ""]).toArray }
def delF (nm:String) (tS tE tI tB:Nat):Go.Func :=
{ name:=nm,
  origin := "slices.Delete", targs := #[tS,tE],params := #[tS,tI,tI],resultTypes := #[tS],nfree:=0,ntmps:=33,
  results := #[Go.ResultVar.tmp 6],
  body :=
    some
      ((Go.Code.region 0
            #[{ dst:=some 6,op:=Go.Op.assign (Go.Operand.const (Go.Value.slice none 0 0)),type:=tS,
                pos := "slices.go:224", after := #[],guard:=none }]
            false).seq
        ((Go.Code.region 1
              #[{ dst:=some 8,op:=Go.Op.move (Go.Operand.tmp 0),type:=tS,pos := "slices.go:225", after := #[],
                  guard:=none },
                { dst:=some 9,op:=Go.Op.move (Go.Operand.tmp 1),type:=tI,pos := "slices.go:225", after := #[],
                  guard:=none },
                { dst:=some 10,op:=Go.Op.move (Go.Operand.tmp 2),type:=tI,pos := "slices.go:225", after := #[],
                  guard:=none },
                { dst:=some 11,op:=Go.Op.move (Go.Operand.tmp 0),type:=tS,pos := "slices.go:225", after := #[],
                  guard:=none },
                { dst:=some 12,
                  op :=
                    Go.Op.call
                      { callee:=Go.Callee.builtin Go.Builtin.len,args := #[Go.Operand.tmp 11],argTypes := #[tS] },
                  type:=tI,pos := "slices.go:225", after := #[{ on:=3,ground:=Go.Ground.data }],guard:=none },
                { dst:=some 13,
                  op :=
                    Go.Op.slice tS (Go.Operand.tmp 8) (some (Go.Operand.tmp 9)) (some (Go.Operand.tmp 10))
                      (some (Go.Operand.tmp 12)),
                  type:=tS,pos := "slices.go:225",
                  after :=
                    #[{ on:=0,ground:=Go.Ground.data },{ on:=1,ground:=Go.Ground.data },
                      { on:=2,ground:=Go.Ground.data },{ on:=4,ground:=Go.Ground.data }],
                  guard:=none }]
              false).seq
          (((Go.Code.region 2
                    #[{ dst:=some 14,op:=Go.Op.move (Go.Operand.tmp 1),type:=tI,pos := "slices.go:227",
                        after := #[],guard:=none },
                      { dst:=some 15,op:=Go.Op.move (Go.Operand.tmp 2),type:=tI,pos := "slices.go:227",
                        after := #[],guard:=none },
                      { dst:=some 16,op:=Go.Op.binOp Go.BinOp.eql tI (Go.Operand.tmp 14) (Go.Operand.tmp 15) tI,
                        type:=tB,pos := "slices.go:227",
                        after := #[{ on:=0,ground:=Go.Ground.data },{ on:=1,ground:=Go.Ground.data }],
                        guard:=none }]
                    false).seq
                (Go.Code.cond (Go.Operand.tmp 16)
                  ((Go.Code.region 3
                        #[{ dst:=some 17,op:=Go.Op.move (Go.Operand.tmp 0),type:=tS,pos := "slices.go:228",
                            after := #[],guard:=none },
                          { dst:=some 6,op:=Go.Op.assign (Go.Operand.tmp 17),type:=tS,pos := "slices.go:228",
                            after := #[{ on:=0,ground:=Go.Ground.data },{ on:=0,ground:=Go.Ground.phase }],
                            guard:=none }]
                        false).seq
                    Go.Code.ret)
                  Go.Code.skip)).seq
            ((Go.Code.region 4
                  #[{ dst:=some 18,op:=Go.Op.move (Go.Operand.tmp 0),type:=tS,pos := "slices.go:231",
                      after := #[],guard:=none },
                    { dst:=some 19,
                      op :=
                        Go.Op.call
                          { callee:=Go.Callee.builtin Go.Builtin.len,args := #[Go.Operand.tmp 18],
                            argTypes := #[tS] },
                      type:=tI,pos := "slices.go:231", after := #[{ on:=0,ground:=Go.Ground.data }],
                      guard:=none },
                    { dst:=some 7,op:=Go.Op.assign (Go.Operand.tmp 19),type:=tI,pos := "slices.go:231",
                      after :=
                        #[{ on:=1,ground:=Go.Ground.data },{ on:=0,ground:=Go.Ground.phase },
                          { on:=1,ground:=Go.Ground.phase }],
                      guard:=none }]
                  false).seq
              ((Go.Code.region 5
                    #[{ dst:=some 20,op:=Go.Op.move (Go.Operand.tmp 0),type:=tS,pos := "slices.go:232",
                        after := #[],guard:=none },
                      { dst:=some 21,op:=Go.Op.move (Go.Operand.tmp 1),type:=tI,pos := "slices.go:232",
                        after := #[],guard:=none },
                      { dst:=some 22,op:=Go.Op.slice tS (Go.Operand.tmp 20) none (some (Go.Operand.tmp 21)) none,
                        type:=tS,pos := "slices.go:232",
                        after := #[{ on:=0,ground:=Go.Ground.data },{ on:=1,ground:=Go.Ground.data }],
                        guard:=none },
                      { dst:=some 23,op:=Go.Op.move (Go.Operand.tmp 0),type:=tS,pos := "slices.go:232",
                        after := #[],guard:=none },
                      { dst:=some 24,op:=Go.Op.move (Go.Operand.tmp 2),type:=tI,pos := "slices.go:232",
                        after := #[],guard:=none },
                      { dst:=some 25,op:=Go.Op.slice tS (Go.Operand.tmp 23) (some (Go.Operand.tmp 24)) none none,
                        type:=tS,pos := "slices.go:232",
                        after := #[{ on:=3,ground:=Go.Ground.data },{ on:=4,ground:=Go.Ground.data }],
                        guard:=none },
                      { dst:=some 26,
                        op :=
                          Go.Op.call
                            { callee:=Go.Callee.builtin Go.Builtin.append,
                              args := #[Go.Operand.tmp 22,Go.Operand.tmp 25],argTypes := #[tS,tS] },
                        type:=tS,pos := "slices.go:232",
                        after := #[{ on:=2,ground:=Go.Ground.data },{ on:=5,ground:=Go.Ground.data }],
                        guard:=none },
                      { dst:=some 0,op:=Go.Op.assign (Go.Operand.tmp 26),type:=tS,pos := "slices.go:232",
                        after :=
                          #[{ on:=6,ground:=Go.Ground.data },{ on:=6,ground:=Go.Ground.chain },
                            { on:=0,ground:=Go.Ground.phase },{ on:=1,ground:=Go.Ground.phase },
                            { on:=2,ground:=Go.Ground.phase },{ on:=3,ground:=Go.Ground.phase },
                            { on:=4,ground:=Go.Ground.phase },{ on:=5,ground:=Go.Ground.phase },
                            { on:=6,ground:=Go.Ground.phase }],
                        guard:=none }]
                    true).seq
                ((Go.Code.region 6
                      #[{ dst:=some 27,op:=Go.Op.move (Go.Operand.tmp 0),type:=tS,pos := "slices.go:233",
                          after := #[],guard:=none },
                        { dst:=some 28,op:=Go.Op.move (Go.Operand.tmp 0),type:=tS,pos := "slices.go:233",
                          after := #[],guard:=none },
                        { dst:=some 29,
                          op :=
                            Go.Op.call
                              { callee:=Go.Callee.builtin Go.Builtin.len,args := #[Go.Operand.tmp 28],
                                argTypes := #[tS] },
                          type:=tI,pos := "slices.go:233", after := #[{ on:=1,ground:=Go.Ground.data }],
                          guard:=none },
                        { dst:=some 30,op:=Go.Op.move (Go.Operand.tmp 7),type:=tI,pos := "slices.go:233",
                          after := #[],guard:=none },
                        { dst:=some 31,
                          op :=
                            Go.Op.slice tS (Go.Operand.tmp 27) (some (Go.Operand.tmp 29)) (some (Go.Operand.tmp 30))
                              none,
                          type:=tS,pos := "slices.go:233",
                          after :=
                            #[{ on:=0,ground:=Go.Ground.data },{ on:=2,ground:=Go.Ground.data },
                              { on:=3,ground:=Go.Ground.data }],
                          guard:=none },
                        { dst:=none,
                          op :=
                            Go.Op.call
                              { callee:=Go.Callee.builtin Go.Builtin.clear,args := #[Go.Operand.tmp 31],
                                argTypes := #[tS] },
                          type:=0,pos := "slices.go:233", after := #[{ on:=4,ground:=Go.Ground.data }],
                          guard:=none }]
                      false).seq
                  ((Go.Code.region 7
                        #[{ dst:=some 32,op:=Go.Op.move (Go.Operand.tmp 0),type:=tS,pos := "slices.go:234",
                            after := #[],guard:=none },
                          { dst:=some 6,op:=Go.Op.assign (Go.Operand.tmp 32),type:=tS,pos := "slices.go:234",
                            after := #[{ on:=0,ground:=Go.Ground.data },{ on:=0,ground:=Go.Ground.phase }],
                            guard:=none }]
                        false).seq
                    Go.Code.ret))))))),
  norace:=false,file := "slices/slices.go", endLine:=235,
  tmpNames :=
    #["s", "i", "j", "s", "i", "j", "", "oldlen", "", "", "", "", "", "", "", "", "", "", "", "", "", "", "", "", "",
      "", "", "", "", "", "", "", ""] }
theorem zgZ (nm:String) (tS tE tI tB f0 f1:Nat):(insF nm tS tE tI tB f0 f1).ntmps=95:=rfl
theorem zkJ (nm:String) (tS tE tI tB:Nat):(delF nm tS tE tI tB).ntmps=33:=rfl
end Go.Vx
namespace Go.Vx
open Go.Proofs Go.Lib
structure InsLay (P:Program) (f:Nat) (nm:String) (tS tE tI tB fo fr k:Nat) (z:Value):Prop where
  mixed:P.follows .mixedOrders=true
  fn:P.funcs[f]? = some (insF nm tS tE tI tB fo fr)
  ov:∀ (w:World) (a b:Addr) (la ca lb cb:Nat),a.block ≠ b.block->∀ (tA tB:TypeId) (kA kB:Nat),w.shape? a.block=some (tA,kA)->w.shape? b.block=some (tB,kB)->kB ≠ 0->w.frozen? a=false->w.frozen? { block:=a.block,off:=kA }=false ->
    (callFunc fo #[.slice (some a) la ca,.slice (some b) lb cb]).run P w=.ok (.value (.bool false)) w
  t3:P.underlying tI=some (TypeDesc.int IntKind.i64)
  a3:∀ w,(isAgg tI).run P w=.ok false w
  z3:∀ w,(Go.sizeOf tI).run P w=.ok 1 w
  v3:∀ w,(zeroValue tI).run P w=.ok (Value.int IntKind.i64 0) w
  t4:P.underlying tB=some (TypeDesc.bool)
  a4:∀ w,(isAgg tB).run P w=.ok false w
  z4:∀ w,(Go.sizeOf tB).run P w=.ok 1 w
  v4:∀ w,(zeroValue tB).run P w=.ok (Value.bool false) w
  z9:∀ w,(Go.sizeOf tE).run P w=.ok k w
  t24:P.underlying tS=some (TypeDesc.slice tE)
  a24:∀ w,(isAgg tS).run P w=.ok false w
  z24:∀ w,(Go.sizeOf tS).run P w=.ok 1 w
  v24:∀ w,(zeroValue tS).run P w=.ok (Value.slice none 0 0) w
  i9:∃ B,(P.info? tE).map (fun i=>(i.zero,i.size,i.bytes))=some (some z,k,B)∧B<=65536
variable {P:Program} {f:Nat} {nm:String} {tS tE tI tB fo fr k:Nat} {z:Value}
set_option maxHeartbeats 4000000 in
set_option maxRecDepth 100000 in
theorem zrv (L:InsLay P f nm tS tE tI tB fo fr k z) (hk:0<k) (b off n c i vb voff vc:Nat) (cur:Array Value) (E:TypeId) (vs:List Value) (w:World) (hi:i<n) (hn63:n + 1<=9223372036854775807) (hroom:n + 1<=c) (hvb:vb ≠ b)
    (hb:w.heap[b]? = some (.cells cur E (0,0))) (hfit:off + c * k<=cur.size) (h1c:∀ v ∈ (cur.toList.drop (off + i * k)).take ((n - i) * k),v.oneCell'=true) (hvl:vs.length=k)
    (hvs:∀ j v,vs[j]? = some v->w.cell? ⟨vb,voff + j,none⟩=some v) (h1v:∀ v ∈ vs,v.oneCell'=true)
    (tA tB':TypeId) (kA kB:Nat) (hsa:w.shape? vb=some (tA,kA)) (hsb:w.shape? b=some (tB',kB)) (hkB:kB ≠ 0) (hfa:w.frozen? ⟨vb,voff,none⟩=false) (hfe:w.frozen? ⟨vb,kA,none⟩=false) :
    Calls P f #[.slice (some ⟨b,off,none⟩) n c,.int .i64 i,.slice (some ⟨vb,voff,none⟩) 1 vc] w fun e w' =>
      e=.returned (.slice (some ⟨b,off,none⟩) (n + 1) c)∧w'=(w.drew.setRow b (cur.toList.take (off + i * k)++vs++(cur.toList.drop (off + i * k)).take ((n - i) * k)++cur.toList.drop (off + (n + 1) * k)).toArray):=by
  have t3:=L.t3;have a3:=L.a3;have z3:=L.z3;have v3:=L.v3;have t4:=L.t4;have a4:=L.a4;have z4:=L.z4;have v4:=L.v4;have z9:=L.z9;have t24:=L.t24;have a24:=L.a24;have z24:=L.z24;have v24:=L.v24
  have u3:=run_underlying L.t3;have u4:=run_underlying L.t4;have u24:=run_underlying L.t24
  have hz2:¬ ((i:Int)=(n:Int)):=by omega
  have mixed:=L.mixed
  have hov:∀ lb cb,(callFunc fo #[.slice (some ⟨vb,voff,none⟩) 1 vc,.slice (some ⟨b,off + (i + 1) * k,none⟩) lb cb]).run P w=.ok (.value (.bool false)) w:=fun lb cb =>
    L.ov w _ _ _ _ _ _ hvb _ _ _ _ hsa hsb hkB hfa hfe
  have hw1:IntKind.i64.wrap ((i:Int) + 1)=(i:Int) + 1:=by rw [IntKind.wrap_i64];omega
  have hw2:IntKind.i64.wrap ((n:Int) + 1)=(n:Int) + 1:=by rw [IntKind.wrap_i64];omega
  have hb1:(0:Int)<=(i:Int) + 1:=by omega
  have hin:i<=n:=by omega
  have htn:((i:Int) + 1).toNat=i + 1:=by omega
  have hb2:¬ (c=i + 1):=by omega
  have hb3:(i:Int)<=(n:Int) + 1:=by omega
  have hb4:¬ (c=i):=by omega
  have hz9:(P.info? tE).map (·.size)=some k:=by
    obtain ⟨B,hB,_⟩:=L.i9
    obtain ⟨i0,hi0,h0,h1,h2⟩:=info_parts hB
    rw [hi0];simp [h1]
  have hmul:(i + 1) * k=i * k + k:=Nat.succ_mul i k
  have hmul2:(n + 1) * k=n * k + k:=Nat.succ_mul n k
  have hmul3:(n - i) * k + i * k=n * k:=by rw [<- Nat.add_mul,Nat.sub_add_cancel hin]
  have hmul4:(n + 1) * k<=c * k:=Nat.mul_le_mul_right k hroom
  obtain ⟨cs,hcs⟩:∃ cs,cs=(cur.toList.drop (off + i * k)).take ((n - i) * k):=⟨_,rfl⟩
  have hcl:cs.length=(n - i) * k:=by rw [hcs];simp only [List.length_take,List.length_drop,Array.length_toList];omega
  have hbd:w.drew.heap[b]? = some (.cells cur E (0,0)):=hb
  have hcsat:∀ j v,cs[j]? = some v->w.cell? ⟨b,off + i * k + j,none⟩=some v:=by
    intro j v hj
    have hjl:=(List.getElem?_eq_some_iff.1 hj).1
    rw [hcs,List.getElem?_take_of_lt (by omega),List.getElem?_drop,Array.getElem?_toList] at hj
    simp only [World.cell?,hb,Option.isSome_none,Bool.false_eq_true,if_false]
    exact hj
  have hcp1:∀ ty dc sc,(Builtin.copy_ #[tS,tS] ty #[.slice (some ⟨b,off + (i + 1) * k,none⟩) (n - i) dc,.slice (some ⟨b,off + i * k,none⟩) (n + 1 - i) sc]).run P w.drew=.ok (goInt (Nat.min (n + 1 - i) (n - i))) (w.drew.setRow b (cur.toList.take (off + (i + 1) * k)++cs++cur.toList.drop (off + (i + 1) * k + cs.length)).toArray):=fun ty dc sc =>
    zeA w.drew tS tS ty tE k b _ _ dc ⟨b,off + i * k,none⟩ _ sc cur E cs L.t24 hz9 hbd (by rw [hcl,Nat.mul_comm];congr 1;simp only [Nat.min_def];split <;> omega)
      (fun j v hj=>by rw [Addr.add_lit];exact hcsat j v hj) (by rw [hcl];omega) (fun v hv=>h1c v (by rw [hcs] at hv;exact hv))
  obtain ⟨row,hrow⟩:∃ row,row=(cur.toList.take (off + (i + 1) * k)++cs++cur.toList.drop (off + (i + 1) * k + cs.length)).toArray:=⟨_,rfl⟩
  rw [<- hrow] at hcp1
  have hrs:row.size=cur.size:=by
    rw [hrow];simp only [List.size_toArray,List.length_append,List.length_take,List.length_drop,Array.length_toList,hcl];omega
  obtain ⟨W1,hW1⟩:∃ W1,W1=w.drew.setRow b row:=⟨_,rfl⟩
  rw [<- hW1] at hcp1
  have hb1':W1.heap[b]? = some (.cells row E (0,0)):=by rw [hW1];exact setRow_heap w.drew b cur row E (0,0) hbd
  have hcp2:∀ (W:World),W=W1->∀ ty dc,(Builtin.copy_ #[tS,tS] ty #[.slice (some ⟨b,off + i * k,none⟩) (n + 1 - i) dc,.slice (some ⟨vb,voff,none⟩) 1 vc]).run P W=.ok (goInt (Nat.min 1 (n + 1 - i))) (W.setRow b (row.toList.take (off + i * k)++vs++row.toList.drop (off + i * k + vs.length)).toArray):=fun W hW ty dc =>
    zeA W tS tS ty tE k b (off + i * k) (n + 1 - i) dc ⟨vb,voff,none⟩ 1 vc row E vs L.t24 hz9 (by rw [hW];exact hb1') (by rw [hvl,show Nat.min 1 (n + 1 - i)=1 by simp only [Nat.min_def];split <;> omega,Nat.mul_one])
      (fun j v hj=>by
        rw [Addr.add_lit,hW,hW1]
        have:=hvs j v hj
        simp only [World.cell?] at this ⊢
        rw [setRow_other _ _ _ _ hvb]
        exact this)
      (by rw [hrs,hvl];omega) h1v
  have hfin:W1.setRow b (row.toList.take (off + i * k)++vs++row.toList.drop (off + i * k + vs.length)).toArray=w.drew.setRow b (cur.toList.take (off + i * k)++vs++(cur.toList.drop (off + i * k)).take ((n - i) * k)++cur.toList.drop (off + (n + 1) * k)).toArray:=by
    rw [hW1,setRow_setRow]
    congr 2
    rw [hrow,<- hcs]
    have q:off + i * k<=cur.toList.length:=by rw [Array.length_toList];omega
    have q2:off + (i + 1) * k<=cur.toList.length:=by rw [Array.length_toList];omega
    have l1:(cur.toList.take (off + (i + 1) * k)).length=off + (i + 1) * k:=by rw [List.length_take];omega
    rw [show ∀ l:List Value,l.toArray.toList=l from fun _=>rfl]
    rw [List.append_assoc (List.take _ _) cs,List.take_append_of_le_length (by omega),List.take_take,Nat.min_eq_left (by omega)]
    rw [hvl,show off + i * k + k=off + (i + 1) * k by omega,List.drop_append_of_le_length (by omega),List.drop_of_length_le (by omega),List.nil_append,hcl,show off + (i + 1) * k + (n - i) * k=off + (n + 1) * k by omega]
    simp only [List.append_assoc]
  clear hmul hmul2 hmul3 hmul4 hcl hcsat hbd hrs hb1' hW1 hrow hcs
  go_enter L.fn,zgZ nm tS tE tI tB fo fr
  go_wp2_with (simp only [hov])
  go_region_law_o (refine step_copy_runI rfl _ _ tS tS rfl _ _ (by simp [Act.eval,Act.put]) (by simp [Act.eval,Act.put]) (hcp1 _ _ _) ?_)
  go_wp2_with (at_builtin;refine wpList_copy_runI _ rfl _ _ tS tS rfl _ _ rfl rfl (hcp2 _ rfl _ _) ?_)
  go_ret
  exact ⟨rfl,by rw [<- hfin,hvl,List.append_assoc]⟩
set_option maxHeartbeats 4000000 in
set_option maxRecDepth 100000 in
theorem zmD (L:InsLay P f nm tS tE tI tB fo fr k z) (b off n c vb voff vc:Nat) (vs:List Value) (w:World) (hroom:n + 1<=c)
    (hvl:vs.length=k) (hsp:∀ j,j<k->(w.cell? ⟨b,off + n * k + j,none⟩).isSome=true) (hfz:∀ j,j<k->w.frozen? ⟨b,off + n * k + j,none⟩=false)
    (hvs:∀ j v,vs[j]? = some v->w.cell? ⟨vb,voff + j,none⟩=some v) (h1v:∀ v ∈ vs,v.oneCell'=true) :
    Calls P f #[.slice (some ⟨b,off,none⟩) n c,.int .i64 n,.slice (some ⟨vb,voff,none⟩) 1 vc] w fun e w' =>
      e=.returned (.slice (some ⟨b,off,none⟩) (n + 1) c)∧w'=w.setCells b (off + n * k) vs:=by
  have t3:=L.t3;have a3:=L.a3;have z3:=L.z3;have v3:=L.v3;have t4:=L.t4;have a4:=L.a4;have z4:=L.z4;have v4:=L.v4;have z9:=L.z9;have t24:=L.t24;have a24:=L.a24;have z24:=L.z24;have v24:=L.v24
  have u3:=run_underlying L.t3;have u4:=run_underlying L.t4;have u24:=run_underlying L.t24
  have mixed:=L.mixed
  obtain ⟨B,hB,hB2⟩:=L.i9
  obtain ⟨i0,hi0,hz0,hzs,hzb⟩:=info_parts hB
  have hsrc:Src P i0.size tS (.slice (some ⟨vb,voff,none⟩) 1 vc) 1 vs w:=Src.ofSlice w L.t24 ⟨vb,voff,none⟩ 1 vc vs (by rw [hzs];omega) (fun j u hj=>by rw [Addr.add_lit];exact hvs j u hj) h1v
  have hrun:∀ ty,(Builtin.append_ #[tS,tS] ty #[.slice (some ⟨b,off,none⟩) n c,.slice (some ⟨vb,voff,none⟩) 1 vc]).run P w=.ok (.slice (some ⟨b,off,none⟩) (n + 1) c) (w.setCells b (off + n * k) vs):=fun ty=>by
    have:=run_append_room_src w tS tS ty tE i0 L.t24 hi0 b off n c _ 1 vs hsrc hroom (by rw [hvl,hzs];exact hsp) (by rw [hvl,hzs];exact hfz)
    rw [hzs] at this
    exact this
  clear hsrc
  go_enter L.fn,zgZ nm tS tE tI tB fo fr
  go_wp2_with (at_builtin;refine Lib.wpList_append_run _ rfl _ _ _ _ rfl _ _ rfl rfl _ _ (hrun _) ?_)
  go_ret
  exact ⟨rfl,rfl⟩
set_option maxHeartbeats 4000000 in
set_option maxRecDepth 100000 in
theorem zmE (L:InsLay P f nm tS tE tI tB fo fr k z) (zc:Array Value) (hzc:zc=z.cells) (base:Option Addr) (n c vb voff vc:Nat) (cs vs:List Value) (w:World) (hnc:n<=c) (hroom:c<n + 1) (hbig:(n + 1) * 65536<=140737488355328)
    (hcl:cs.length=n * k) (hvl:vs.length=k) (hnil:base=none->n=0)
    (hcs:∀ a,base=some a->∀ j v,cs[j]? = some v->w.cell? (a.add j)=some v)
    (hvs:∀ j v,vs[j]? = some v->w.cell? ⟨vb,voff + j,none⟩=some v) (h1v:∀ v ∈ vs,v.oneCell'=true) :
    Calls P f #[.slice base n c,.int .i64 n,.slice (some ⟨vb,voff,none⟩) 1 vc] w fun e w' =>
      e=.returned (.slice (some ⟨w.heap.size,0,none⟩) (n + 1) (grownCap w (n + 1) c tE)) ∧
      w'=w.drew.alloc (.cells ((cs++vs).toArray++Builtin.zeroCells zc (grownCap w (n + 1) c tE - (n + 1))) tE):=by
  have t3:=L.t3;have a3:=L.a3;have z3:=L.z3;have v3:=L.v3;have t4:=L.t4;have a4:=L.a4;have z4:=L.z4;have v4:=L.v4;have z9:=L.z9;have t24:=L.t24;have a24:=L.a24;have z24:=L.z24;have v24:=L.v24
  have u3:=run_underlying L.t3;have u4:=run_underlying L.t4;have u24:=run_underlying L.t24
  have mixed:=L.mixed
  obtain ⟨B,hB,hB2⟩:=L.i9
  obtain ⟨i0,hi0,hz0,hzs,hzb⟩:=info_parts hB
  have hsrc:Src P i0.size tS (.slice (some ⟨vb,voff,none⟩) 1 vc) 1 vs w:=Src.ofSlice w L.t24 ⟨vb,voff,none⟩ 1 vc vs (by rw [hzs];omega) (fun j u hj=>by rw [Addr.add_lit];exact hvs j u hj) h1v
  have hold:(Builtin.firstCells i0.size n (.slice base n c)).run P w.drew=.ok cs.toArray w.drew:=by
    rw [hzs]
    cases base with
    | none =>
      have h0:=hnil rfl
      subst h0
      rw [show cs=[] from List.length_eq_zero_iff.1 (by rw [hcl,Nat.zero_mul])]
      exact run_firstCells_none w.drew k 0 0 c
    | some a=>exact run_firstCells_some w.drew k n a n c cs (by omega) (fun j v hj=>hcs a rfl j v hj)
  have hrun:∀ ty,(Builtin.append_ #[tS,tS] ty #[.slice base n c,.slice (some ⟨vb,voff,none⟩) 1 vc]).run P w=_:=fun ty =>
    run_append_grow_src w tS tS ty tE i0 z L.t24 hi0 hz0 base n c cs hold _ 1 vs hsrc hroom (by omega) (growslice_fits hroom (by have:=Nat.mul_le_mul_left (n + 1) (show i0.bytes<=65536 by rw [hzb];exact hB2);omega))
  rw [<- hzc] at hrun
  clear hold hsrc hzc hz0
  go_enter L.fn,zgZ nm tS tE tI tB fo fr
  cases base with
  | none =>
    have h0:=hnil rfl
    subst h0
    go_wp2_with (at_builtin;refine Lib.wpList_append_run _ rfl _ _ _ _ rfl _ _ rfl rfl _ _ (hrun _) ?_)
    go_ret
    exact ⟨rfl,rfl⟩
  | some a =>
    obtain ⟨ab,ao,asp⟩:=a
    go_wp2_with (at_builtin;refine Lib.wpList_append_run _ rfl _ _ _ _ rfl _ _ rfl rfl _ _ (hrun _) ?_)
    all_goals (go_ret;exact ⟨rfl,rfl⟩)
theorem zcV (zc:Array Value) (m:Nat):(Builtin.zeroCells zc m).size=m * zc.size:=by
  simp [Builtin.zeroCells]
set_option maxHeartbeats 4000000 in
set_option maxRecDepth 100000 in
theorem zut (L:InsLay P f nm tS tE tI tB fo fr k z) (zc:Array Value) (hzc:zc=z.cells) (hzk:zc.size=k) (hk:0<k) (b off n c i vb voff vc:Nat) (cs vs:List Value) (w:World) (hi:i<n) (hnc:n<=c) (hroom:c<n + 1) (hbig:(n + 1) * 65536<=140737488355328)
    (hcl:cs.length=n * k) (hvl:vs.length=k)
    (hcs:∀ j v,cs[j]? = some v->w.cell? ⟨b,off + j,none⟩=some v) (hbw:b<w.heap.size) (hvw:vb<w.heap.size)
    (hvs:∀ j v,vs[j]? = some v->w.cell? ⟨vb,voff + j,none⟩=some v) (h1c:∀ v ∈ cs,v.oneCell'=true) (h1v:∀ v ∈ vs,v.oneCell'=true)
    (G:Nat) (hG:G=grownCap w (n + 1) c tE) (ROW rowA rowB:Array Value) (hROW:ROW=(cs.take (i * k)).toArray++Builtin.zeroCells zc (n + 1 - i)++Builtin.zeroCells zc (G - (n + 1)))
    (hA:rowA=(ROW.toList.take (i * k)++vs++ROW.toList.drop (i * k + vs.length)).toArray)
    (hB:rowB=(rowA.toList.take ((i + 1) * k)++cs.drop (i * k)++rowA.toList.drop ((i + 1) * k + (cs.drop (i * k)).length)).toArray) :
    Calls P f #[.slice (some ⟨b,off,none⟩) n c,.int .i64 i,.slice (some ⟨vb,voff,none⟩) 1 vc] w fun e w' =>
      e=.returned (.slice (some ⟨w.heap.size,0,none⟩) (n + 1) G)∧w'=(((w.alloc (.cells ROW tE)).drew.setRow w.heap.size rowA).drew).setRow w.heap.size rowB:=by
  have t3:=L.t3;have a3:=L.a3;have z3:=L.z3;have v3:=L.v3;have t4:=L.t4;have a4:=L.a4;have z4:=L.z4;have v4:=L.v4;have z9:=L.z9;have t24:=L.t24;have a24:=L.a24;have z24:=L.z24;have v24:=L.v24
  have u3:=run_underlying L.t3;have u4:=run_underlying L.t4;have u24:=run_underlying L.t24
  have mixed:=L.mixed
  obtain ⟨B,hBi,hB2⟩:=L.i9
  obtain ⟨i0,hi0,hz0,hzs,hzb⟩:=info_parts hBi
  have hz2:¬ ((i:Int)=(n:Int)):=by omega
  have hz3:(c:Int)<(n:Int) + 1:=by omega
  have hsz:(P.info? tE).map (·.size)=some k:=by rw [hi0];simp [hzs]
  have hkk:(n:Int) + 1 - (i:Int)=((n + 1 - i:Nat):Int):=by omega
  have hik:i + (n + 1 - i)=n + 1:=by omega
  have hin:i<=n:=by omega
  have hmul:(i + 1) * k=i * k + k:=Nat.succ_mul i k
  have hmul2:(n + 1) * k=n * k + k:=Nat.succ_mul n k
  have hmul3:(n - i) * k + i * k=n * k:=by rw [<- Nat.add_mul,Nat.sub_add_cancel hin]
  have hold:(Builtin.firstCells i0.size i (.slice (some ⟨b,off,none⟩) i c)).run P w.drew=.ok (cs.take (i * k)).toArray w.drew:=by
    rw [hzs]
    exact run_firstCells_some w.drew k i ⟨b,off,none⟩ i c (cs.take (i * k)) (by rw [List.length_take];omega) (fun j v hj=>by
      rw [Addr.add_lit]
      rw [List.getElem?_take] at hj
      split at hj
      · exact hcs j v hj
      · cases hj)
  have hbb:(n + 1) * i0.bytes<=140737488355328:=by
    have:=Nat.mul_le_mul_left (n + 1) (show i0.bytes<=65536 by rw [hzb];exact hB2)
    omega
  have hbb2:(n + 1 - i) * i0.bytes<=281474976710656:=by
    have:=Nat.mul_le_mul_right i0.bytes (show n + 1 - i<=n + 1 by omega)
    omega
  have hrz:∀ ty,(Builtin.append_ #[tS,tI] ty #[.slice (some ⟨b,off,none⟩) i c,.int .i64 ((n:Int) + 1 - (i:Int))]).run P w =
      .ok (.slice (some ⟨w.heap.size,0,none⟩) (n + 1) G) (w.drew.alloc (.cells ROW tE)):=fun ty=>by
    have h:=Lib.run_append_grow_zeros w tS tI ty tE i0 z .i64 .i64 L.t24 L.t3 hi0 hz0 (some ⟨b,off,none⟩) i c (cs.take (i * k)) hold (n + 1 - i) (by omega) (by omega) (by omega) (by omega) hbb2 (by rw [hik];exact growslice_fits hroom hbb)
    rw [hik,<- hzc,<- hG,<- hROW] at h
    rw [hkk]
    exact h
  have hGn:n + 1<=G:=by rw [hG];exact grownCap_ge w _ _ _
  have hG63:G<=9223372036854775807:=by
    have:=grownCap_le_maxLen w (n + 1) c tE (by unfold maxLen;omega)
    rw [<- hG] at this
    unfold maxLen at this
    omega
  have hRl:ROW.size=i * k + (n + 1 - i) * k + (G - (n + 1)) * k:=by
    rw [hROW,Array.size_append,Array.size_append,zcV,zcV,hzk,List.size_toArray,List.length_take]
    omega
  have hmul5:(n + 1 - i) * k + i * k=(n + 1) * k:=by rw [<- Nat.add_mul];congr 1;omega
  have hmul6:i * k<=n * k:=Nat.mul_le_mul_right k hin
  have hdl:(cs.drop (i * k)).length=(n - i) * k:=by rw [List.length_drop];omega
  have hAs:rowA.size=ROW.size:=by
    rw [hA];simp only [List.size_toArray,List.length_append,List.length_take,List.length_drop,Array.length_toList,hvl];omega
  obtain ⟨N,hN⟩:∃ N,N=w.heap.size:=⟨_,rfl⟩
  have hW1:(w.drew.alloc (.cells ROW tE)).heap[N]? = some (.cells ROW tE (0,0)):=by
    rw [hN];show (w.heap.push (Obj.cells ROW tE (0,0)))[w.heap.size]? = _;simp
  have hWo:∀ x:Nat,x<N->(w.drew.alloc (.cells ROW tE)).heap[x]? = w.heap[x]? := by
    intro x hx;rw [hN] at hx;show (w.heap.push (Obj.cells ROW tE (0,0)))[x]? = _;simp [Array.getElem?_push,Nat.ne_of_lt hx]
  have hcpA:∀ (W:World),(∀ x:Nat,W.heap[x]? = (w.drew.alloc (.cells ROW tE)).heap[x]?)->∀ ty dc,(Builtin.copy_ #[tS,tS] ty #[.slice (some ⟨N,i * k,none⟩) (n + 1 - i) dc,.slice (some ⟨vb,voff,none⟩) 1 vc]).run P W=.ok (goInt (Nat.min 1 (n + 1 - i))) (W.setRow N rowA):=fun W hW ty dc=>by
    rw [hA]
    exact zeA W tS tS ty tE k N (i * k) (n + 1 - i) dc ⟨vb,voff,none⟩ 1 vc ROW tE vs L.t24 hsz (by rw [hW];exact hW1) (by rw [hvl,show Nat.min 1 (n + 1 - i)=1 by simp only [Nat.min_def];split <;> omega,Nat.mul_one])
      (fun j v hj=>by
        rw [Addr.add_lit]
        have:=hvs j v hj
        simp only [World.cell?] at this ⊢
        rw [hW,hWo vb (by omega)]
        exact this)
      (by rw [hRl,hvl];omega) h1v
  have hcpB:∀ (W:World),(∀ x:Nat,W.heap[x]? = ((w.drew.alloc (.cells ROW tE)).setRow N rowA).heap[x]?)->∀ ty dc sc,(Builtin.copy_ #[tS,tS] ty #[.slice (some ⟨N,(i + 1) * k,none⟩) (n - i) dc,.slice (some ⟨b,off + i * k,none⟩) (n - i) sc]).run P W=.ok (goInt (Nat.min (n - i) (n - i))) (W.setRow N rowB):=fun W hW ty dc sc=>by
    rw [hB]
    exact zeA W tS tS ty tE k N _ _ dc ⟨b,off + i * k,none⟩ _ sc rowA tE (cs.drop (i * k)) L.t24 hsz (by rw [hW];exact setRow_heap _ _ ROW rowA tE (0,0) hW1) (by rw [hdl,Nat.mul_comm];congr 1;simp [Nat.min_def])
      (fun j v hj=>by
        rw [Addr.add_lit]
        have:=hcs (i * k + j) v (by rwa [List.getElem?_drop] at hj)
        rw [<- Nat.add_assoc] at this
        simp only [World.cell?] at this ⊢
        rw [hW,setRow_other _ _ _ _ (by omega),hWo b (by omega)]
        exact this)
      (by rw [hAs,hRl,hdl];omega) (fun v hv=>h1c v (List.mem_of_mem_drop hv))
  have hGi:¬ (G=i):=by omega
  have hGim:¬ (G=i + 1):=by omega
  have hci:¬ (c=i):=by omega
  have hw1:IntKind.i64.wrap ((i:Int) + 1)=(i:Int) + 1:=by rw [IntKind.wrap_i64];omega
  have hw2:IntKind.i64.wrap ((n:Int) + 1)=(n:Int) + 1:=by rw [IntKind.wrap_i64];omega
  have hb1:(0:Int)<=(i:Int) + 1:=by omega
  have htn:((i:Int) + 1).toNat=i + 1:=by omega
  have hb3:(i:Int)<=(n:Int):=by omega
  subst hN
  have hE1:∀ x:Nat,((w.alloc (.cells ROW tE)).drew).heap[x]? = (w.drew.alloc (.cells ROW tE)).heap[x]? := fun x=>rfl
  have hF1:∀ x:Nat,(((w.alloc (.cells ROW tE)).drew.setRow w.heap.size rowA).drew).heap[x]? = ((w.drew.alloc (.cells ROW tE)).setRow w.heap.size rowA).heap[x]? := fun x=>rfl
  clear hkk hik hold hROW hG hRl hA hB hAs hmul hmul2 hmul3 hmul5 hmul6 hzc hz0 hdl hW1 hWo
  go_enter L.fn,zgZ nm tS tE tI tB fo fr
  go_wp2_with (first
    | (at_builtin;refine Lib.wpList_append_run _ rfl _ _ _ _ rfl _ _ rfl rfl _ _ (hrz _) ?_)
    | (at_builtin;refine wpList_copy_runI _ rfl _ _ tS tS rfl _ _ rfl rfl (hcpA _ hE1 _ _) ?_))
  go_region_law_o (refine step_copy_runI rfl _ _ tS tS rfl (.slice (some ⟨w.heap.size,(i + 1) * k,none⟩) (n - i) (G - (i + 1))) (.slice (some ⟨b,off + i * k,none⟩) (n - i) (c - i)) (by simp [Act.eval,Act.put]) (by simp [Act.eval,Act.put]) (hcpB _ hF1 tI (G - (i + 1)) (c - i)) ?_)
  go_wp2
  go_ret
  exact ⟨rfl,rfl⟩
end Go.Vx
namespace Go.Vx
open Go.Proofs Go.Lib
theorem zpS (a d:List D) (y:D):zak (a++y::d)=zak a++(y.cells++zak d):=by
  rw [zau];rfl
theorem zrw {w w2:World} {I:Nat->Prop} {ι:List Nat} {k:Nat} {a d:List D} {y:D} {va u vd:List Value} {F1 G1 F2:List Nat}
    (h1:RepL w I [] va (zak a) F1) (hy:RepL w I [] u y.cells G1) (h2:RepL w I [] vd (zak d) F2) (B o cap:Nat) (row:Array Value) (E:TypeId)
    (hb:w2.heap[B]? = some (.cells row E (0,0))) (hsz:o + cap * k<=row.size) (hn:(a++y::d).length<=cap) (hrow:zaB w2 B o (va++(u++vd)))
    (o1:ones va) (oy:ones u) (o2:ones vd) (hsame:∀ x ∈ F1++(G1++F2),w2.heap[x]? = w.heap[x]?) (hI:∀ b,I b->w2.heap[b]? = w.heap[b]?) (hk:∀ x ∈ a++y::d,x.cells.length=k) (n:Nat) (hnn:n=(a++y::d).length) :
    Rep w2 I ι (.slice (some ⟨B,o,none⟩) n cap) (.sl true k (a++y::d)) (B::(F1++(G1++F2))):=by
  refine .own _ _ _ _ _ _ _ (va++(u++vd)) E row _ hnn hb hsz (by omega) hrow ?_ ?_ hk
  · intro x hx
    rcases List.mem_append.1 hx with h|h
    · exact o1 x h
    · rcases List.mem_append.1 h with h|h
      · exact oy x h
      · exact o2 x h
  · rw [zpS]
    exact (RepL.append h1 (RepL.append hy h2)).frame (fun _ h=>h) hI hsame
theorem zhr {w:World} {B o:Nat} {row:Array Value} {E:TypeId} {vs:List Value} (hb:w.heap[B]? = some (.cells row E (0,0))) (h:∀ j v,vs[j]? = some v->row[o + j]? = some v):zaB w B o vs:=by
  intro j v hj
  simp only [World.cell?,hb,Option.isSome_none,Bool.false_eq_true,if_false]
  exact h j v hj
theorem zoN {pre mid post:List Value} {o:Nat} (ho:pre.length=o):∀ j v,mid[j]? = some v->(pre++mid++post).toArray[o + j]? = some v:=by
  intro j v hj
  have hlt:=(List.getElem?_eq_some_iff.1 hj).1
  rw [List.getElem?_toArray,List.append_assoc,List.getElem?_append_right (by omega),List.getElem?_append_left (by omega)]
  rw [show o + j - pre.length=j by omega]
  exact hj
def zgD (w:World) (I:Nat->Prop) (ι F0:List Nat) (d:D) (e:Ending) (w2:World):Prop :=
  ∃ r H,e=.returned r∧Ext (· ∈ F0) w w2∧Rep w2 I ι r d H∧H.Nodup∧∀ b ∈ H,(b ∈ F0 ∨ w.heap.size<=b)∧b<w2.heap.size
variable {P:Program} {f:Nat} {nm:String} {tS tE tI tB fo fr k:Nat} {z:Value}
theorem zhI (S:Nat->Prop) (w:World) (ob:Obj):Ext S w (w.drew.alloc ob):=by
  refine ⟨rfl,rfl,rfl,?_,fun x hx _=>?_⟩
  · show w.heap.size<=(w.heap.push ob).size;simp
  · show (w.heap.push ob)[x]? = _;simp [Array.getElem?_push,Nat.ne_of_lt hx]
theorem zhh (L:InsLay P f nm tS tE tI tB fo fr k z) (hzk:z.cells.size=k) {w:World} {I:Nat->Prop} {ι:List Nat} {base:Option Addr} {n c:Nat} {vx:List Value} {xs:List D} {y:D} {F1 G1 F0:List Nat} {vb vo vc:Nat} {us:List Value}
    (hn:n=xs.length) (hm:n + 1<=most) (hnc:n<=c) (hroom:c<n + 1) (hnil:base=none->n=0)
    (hcs:∀ a,base=some a->∀ j v,vx[j]? = some v->w.cell? (a.add j)=some v) (hvs:∀ j v,us[j]? = some v->w.cell? ⟨vb,vo + j,none⟩=some v)
    (h1:RepL w I [] vx (zak xs) F1) (hy:RepL w I [] us y.cells G1) (o1:ones vx) (oy:ones us) (hk:∀ x ∈ xs,x.cells.length=k) (hky:y.cells.length=k)
    (hnd:(F1++G1).Nodup) (hlt:∀ b ∈ F1++G1,b<w.heap.size) (hsub:∀ b ∈ F1++G1,b ∈ F0) (hI:∀ b,I b->b<w.heap.size) :
    Calls P f #[.slice base n c,.int .i64 n,.slice (some ⟨vb,vo,none⟩) 1 vc] w (zgD w I ι F0 (.sl true k (xs++y::[]))):=by
  have hvl:us.length=k:=by rw [hy.length,hky]
  have hcl:vx.length=n * k:=by rw [h1.length,zaq hk,hn]
  refine (zmE L z.cells rfl base n c vb vo vc vx us w hnc hroom (by unfold most at hm;omega) hcl hvl hnil hcs hvs oy).mono ?_
  rintro e w2 ⟨rfl,rfl⟩
  have hge:n + 1<=grownCap w (n + 1) c tE:=grownCap_ge w _ _ _
  have hN:∀ x,x<w.heap.size->(w.drew.alloc (.cells ((vx++us).toArray++Builtin.zeroCells z.cells (grownCap w (n + 1) c tE - (n + 1))) tE)).heap[x]? = w.heap[x]? := fun x hx=>(zhI (fun _=>False) w _).block x hx (fun e=>e)
  have hB:(w.drew.alloc (.cells ((vx++us).toArray++Builtin.zeroCells z.cells (grownCap w (n + 1) c tE - (n + 1))) tE)).heap[w.heap.size]? = some (.cells ((vx++us).toArray++Builtin.zeroCells z.cells (grownCap w (n + 1) c tE - (n + 1))) tE (0,0)):=by
    show (w.heap.push _)[w.heap.size]? = _;simp
  refine ⟨_,w.heap.size::(F1++(G1++[])),rfl,zhI _ _ _,?_,?_,?_⟩
  · refine zrw h1 hy (.nil _) w.heap.size 0 _ _ tE hB ?_ (by simp;omega) (zhr hB ?_) o1 oy (fun _ h=>by cases h) ?_ (fun b hb=>hN b (hI b hb)) ?_ _ (by simp [hn])
    · rw [Array.size_append,zcV,hzk,List.size_toArray,List.length_append,hcl,hvl]
      have e1:=Nat.sub_mul (grownCap w (n + 1) c tE) (n + 1) k
      have e2:(n + 1) * k=n * k + k:=Nat.succ_mul n k
      have e3:=Nat.mul_le_mul_right k hge
      omega
    · intro j v hj
      have hj':(vx++us)[j]? = some v:=by simpa using hj
      have hl:=(List.getElem?_eq_some_iff.1 hj').1
      rw [Nat.zero_add,Array.getElem?_append_left (by simpa using hl)]
      simpa using hj'
    · intro x hx
      exact hN x (hlt x (by simpa using hx))
    · intro x hx
      rcases List.mem_append.1 hx with h|h
      · exact hk x h
      · rw [List.mem_singleton.1 h];exact hky
  · refine List.nodup_cons.2 ⟨fun h=>?_,by simpa using hnd⟩
    exact Nat.lt_irrefl _ (hlt _ (by simpa using h))
  · intro b hb
    rcases List.mem_cons.1 hb with rfl|h
    · exact ⟨.inr (Nat.le_refl _),by show w.heap.size<(w.heap.push _).size;simp⟩
    · have h':b ∈ F1++G1:=by simpa using h
      exact ⟨.inl (hsub b h'),Nat.lt_of_lt_of_le (hlt b h') (zhI (fun _=>False) w _).size⟩
theorem zli {w w2:World} {I:Nat->Prop} {ι:List Nat} {a d:List D} {y:D} {va us vd:List Value} {F1 G1 F2 F0:List Nat}
    (h1:RepL w I [] va (zak a) F1) (hy:RepL w I [] us y.cells G1) (h2:RepL w I [] vd (zak d) F2) (o1:ones va) (oy:ones us) (o2:ones vd) (B o cap n1:Nat) (row:Array Value) (E:TypeId)
    (hb:w2.heap[B]? = some (.cells row E (0,0))) (hsz:o + cap * k<=row.size) (hn:n1=(a++y::d).length) (hcap:n1<=cap) (hrow:∀ j v,(va++(us++vd))[j]? = some v->row[o + j]? = some v)
    (hk:∀ x ∈ a++y::d,x.cells.length=k) (hext:Ext (· ∈ F0) w w2) (hne:∀ x,x ≠ B->x<w.heap.size->w2.heap[x]? = w.heap[x]?)
    (hBF:B ∉ F1++(G1++F2)) (hBI:¬ I B) (hB:(B ∈ F0 ∨ w.heap.size<=B)∧B<w2.heap.size) (hnd:(F1++(G1++F2)).Nodup) (hlt:∀ x ∈ F1++(G1++F2),x<w.heap.size) (hsub:∀ x ∈ F1++(G1++F2),x ∈ F0)
    (hI:∀ b,I b->b<w.heap.size):zgD w I ι F0 (.sl true k (a++y::d)) (.returned (.slice (some ⟨B,o,none⟩) n1 cap)) w2:=by
  refine ⟨_,B::(F1++(G1++F2)),rfl,hext,?_,List.nodup_cons.2 ⟨hBF,hnd⟩,?_⟩
  · exact zrw h1 hy h2 B o cap row E hb hsz (by omega) (zhr hb hrow) o1 oy o2 (fun x hx=>hne x (fun e=>hBF (e ▸ hx)) (hlt x hx)) (fun x hx=>hne x (fun e=>hBI (e ▸ hx)) (hI x hx)) hk _ hn
  · intro x hx
    rcases List.mem_cons.1 hx with rfl|h
    · exact hB
    · exact ⟨.inl (hsub x h),Nat.lt_of_lt_of_le (hlt x h) hext.size⟩
theorem ziI (L:InsLay P f nm tS tE tI tB fo fr k z) {w:World} {I:Nat->Prop} {ι:List Nat} {n c:Nat} {vx:List Value} {xs:List D} {y:D} {F1 G1 F0:List Nat} {b o vb vo vc:Nat} {us:List Value} {cur:Array Value} {E:TypeId}
    (hn:n=xs.length) (hroom:n + 1<=c) (hb:w.heap[b]? = some (.cells cur E (0,0))) (hsz:o + c * k<=cur.size)
    (hcs:zaB w b o vx) (hvs:∀ j v,us[j]? = some v->w.cell? ⟨vb,vo + j,none⟩=some v)
    (h1:RepL w I [] vx (zak xs) F1) (hy:RepL w I [] us y.cells G1) (o1:ones vx) (oy:ones us) (hk:∀ x ∈ xs,x.cells.length=k) (hky:y.cells.length=k)
    (hnd:(F1++G1).Nodup) (hbF:b ∉ F1++G1) (hbI:¬ I b) (hb0:b ∈ F0) (hlt:∀ b ∈ F1++G1,b<w.heap.size) (hsub:∀ b ∈ F1++G1,b ∈ F0) (hI:∀ b,I b->b<w.heap.size) :
    Calls P f #[.slice (some ⟨b,o,none⟩) n c,.int .i64 n,.slice (some ⟨vb,vo,none⟩) 1 vc] w (zgD w I ι F0 (.sl true k (xs++y::[]))):=by
  have hvl:us.length=k:=by rw [hy.length,hky]
  have hcl:vx.length=n * k:=by rw [h1.length,zaq hk,hn]
  have e2:(n + 1) * k=n * k + k:=Nat.succ_mul n k
  have e3:=Nat.mul_le_mul_right k hroom
  have hcell:∀ j,j<k->(w.cell? ⟨b,o + n * k + j,none⟩).isSome=true∧w.frozen? ⟨b,o + n * k + j,none⟩=false:=by
    intro j hj
    have hj2:o + n * k + j<cur.size:=by omega
    simp [World.cell?,World.frozen?,hb,hj2]
  refine (zmD L b o n c vb vo vc us w hroom hvl (fun j hj=>(hcell j hj).1) (fun j hj=>(hcell j hj).2) hvs oy).mono ?_
  rintro e w2 ⟨rfl,rfl⟩
  obtain ⟨c2,q1,q2⟩:=zcF b us (o + n * k) w hb (by rw [hvl];omega)
  have hc2:c2.size=cur.size:=by
    have:=congrArg List.length q2
    simp only [Array.length_toList,List.length_append,List.length_take,List.length_drop,hvl] at this
    omega
  have hbw:b<w.heap.size:=(Array.getElem?_eq_some_iff.1 hb).1
  refine zli (F2:=[]) (vd:=[]) h1 hy (.nil _) o1 oy (fun _ h=>by cases h) b o c (n + 1) c2 E q1 (by omega) (by simp [hn]) hroom ?_ ?_ (Ext.setCells b us _ w hb0) (fun x hx _=>zaz b us _ w hx) (by simpa using hbF) hbI ⟨.inl hb0,Nat.lt_of_lt_of_le hbw (Ext.setCells (S:=fun _=>True) b us _ w trivial).size⟩ (by simpa using hnd) (by simpa using hlt) (by simpa using hsub) hI
  · intro j v hj
    rw [<- Array.getElem?_toList,q2]
    have hl:=(List.getElem?_eq_some_iff.1 hj).1
    rw [List.append_nil,List.length_append] at hl
    rw [List.append_nil] at hj
    by_cases hjn:j<n * k
    · rw [List.getElem?_append_left (by rw [List.length_take,Array.length_toList];omega),List.getElem?_take_of_lt (by omega),Array.getElem?_toList]
      rw [List.getElem?_append_left (by omega)] at hj
      have:=hcs j v hj
      simpa [World.cell?,hb] using this
    · rw [List.getElem?_append_right (by rw [List.length_take,Array.length_toList];omega),List.length_take,Nat.min_eq_left (by have:=Array.length_toList (xs:=cur);omega),List.getElem?_append_left (by omega)]
      rw [List.getElem?_append_right (by omega)] at hj
      rw [show o + j - (o + n * k)=j - vx.length by omega]
      exact hj
  · intro x hx
    rcases List.mem_append.1 hx with h|h
    · exact hk x h
    · rw [List.mem_singleton.1 h];exact hky
theorem zkK {w:World} {b o:Nat} {vs:List Value} {cur:Array Value} {E:TypeId} (hb:w.heap[b]? = some (.cells cur E (0,0))) (h:zaB w b o vs) (m l:Nat) (hl:m + l<=vs.length):(cur.toList.drop (o + m)).take l=(vs.drop m).take l:=by
  apply List.ext_getElem?
  intro j
  by_cases hj:j<l
  · rw [List.getElem?_take_of_lt hj,List.getElem?_take_of_lt hj,List.getElem?_drop,List.getElem?_drop,Array.getElem?_toList]
    have hlt:m + j<vs.length:=by omega
    have:=h (m + j) vs[m + j] (List.getElem?_eq_getElem hlt)
    rw [List.getElem?_eq_getElem hlt,<- this]
    simp [World.cell?,hb,Nat.add_assoc]
  · rw [List.getElem?_eq_none (by rw [List.length_take];omega),List.getElem?_eq_none (by rw [List.length_take];omega)]
theorem ziJ (L:InsLay P f nm tS tE tI tB fo fr k z) (hk0:0<k) {w:World} {I:Nat->Prop} {ι:List Nat} {n c i:Nat} {va vd:List Value} {a d:List D} {y:D} {F1 F2 G1 F0:List Nat} {b o vb vo vc:Nat} {us:List Value} {cur cv:Array Value} {E Ev:TypeId}
    (hi:i=a.length) (hn:n=a.length + d.length) (hd:0<d.length) (hm:n + 1<=most) (hroom:n + 1<=c) (hb:w.heap[b]? = some (.cells cur E (0,0))) (hsz:o + c * k<=cur.size)
    (hcs:zaB w b o (va++vd)) (hvb:w.heap[vb]? = some (.cells cv Ev (0,0))) (hbv:vb ≠ b) (hvs:∀ j v,us[j]? = some v->w.cell? ⟨vb,vo + j,none⟩=some v)
    (h1:RepL w I [] va (zak a) F1) (hy:RepL w I [] us y.cells G1) (h2:RepL w I [] vd (zak d) F2) (o1:ones va) (oy:ones us) (o2:ones vd) (hk:∀ x ∈ a++y::d,x.cells.length=k)
    (hnd:(F1++(G1++F2)).Nodup) (hbF:b ∉ F1++(G1++F2)) (hbI:¬ I b) (hb0:b ∈ F0) (hlt:∀ b ∈ F1++(G1++F2),b<w.heap.size) (hsub:∀ b ∈ F1++(G1++F2),b ∈ F0) (hI:∀ b,I b->b<w.heap.size) :
    Calls P f #[.slice (some ⟨b,o,none⟩) n c,.int .i64 i,.slice (some ⟨vb,vo,none⟩) 1 vc] w (zgD w I ι F0 (.sl true k (a++y::d))):=by
  have hvl:us.length=k:=by rw [hy.length];exact hk y (by simp)
  have hal:va.length=i * k:=by rw [h1.length,zaq (fun x hx=>hk x (mAL _ hx)),hi]
  have hdl:vd.length=(n - i) * k:=by rw [h2.length,zaq (fun x hx=>hk x (mAR _ (List.mem_cons_of_mem _ hx)))];congr 1;omega
  have e1:(i + 1) * k=i * k + k:=Nat.succ_mul i k
  have e2:(n + 1) * k=n * k + k:=Nat.succ_mul n k
  have e3:=Nat.mul_le_mul_right k hroom
  have e4:(n - i) * k + i * k=n * k:=by rw [<- Nat.add_mul,Nat.sub_add_cancel (by omega)]
  have hmid:(cur.toList.drop (o + i * k)).take ((n - i) * k)=vd:=by
    rw [zkK hb hcs (i * k) ((n - i) * k) (by rw [List.length_append];omega),<- hal,List.drop_left,<- hdl,List.take_length]
  have hpre:cur.toList.take (o + i * k)=cur.toList.take o++va:=by
    have q:=zkK (m:=0) hb hcs (i * k) (by rw [List.length_append];omega)
    rw [Nat.add_zero,List.drop_zero,<- hal,List.take_left] at q
    rw [List.take_add,<- hal,q]
  have hbw:b<w.heap.size:=(Array.getElem?_eq_some_iff.1 hb).1
  refine (zrv L hk0 b o n c i vb vo vc cur E us w (by omega) (by unfold most at hm;omega) hroom hbv hb hsz (by rw [hmid];exact o2) hvl hvs oy Ev E cv.size cur.size (by simp [World.shape?,hvb]) (by simp [World.shape?,hb]) (by omega) (by simp [World.frozen?,hvb]) (by simp [World.frozen?,hvb])).mono ?_
  rintro e w2 ⟨rfl,rfl⟩
  have hbd:w.drew.heap[b]? = some (.cells cur E (0,0)):=hb
  rw [hmid,hpre]
  have hext:Ext (· ∈ F0) w (w.drew.setRow b (cur.toList.take o++va++us++vd++cur.toList.drop (o + (n + 1) * k)).toArray) :=
    ⟨rfl,rfl,rfl,by rw [setRow_size];exact Nat.le_refl _,fun x hx hne=>setRow_other w.drew b x _ (fun e=>hne (e ▸ hb0))⟩
  refine zli h1 hy h2 o1 oy o2 b o c (n + 1) _ E (setRow_heap w.drew b cur _ E (0,0) hbd) ?_ (by simp;omega) hroom ?_ hk hext (fun x hx _=>setRow_other w.drew b x _ hx) hbF hbI ⟨.inl hb0,Nat.lt_of_lt_of_le hbw hext.size⟩ hnd hlt hsub hI
  · simp only [List.size_toArray,List.length_append,List.length_take,List.length_drop,Array.length_toList,hal,hvl,hdl]
    omega
  · intro j v hj
    have:=zoN (pre:=cur.toList.take o) (mid:=va++(us++vd)) (post:=cur.toList.drop (o + (n + 1) * k)) (o:=o) (by rw [List.length_take,Array.length_toList];omega) j v hj
    simpa only [List.append_assoc] using this
theorem zkg (L:InsLay P f nm tS tE tI tB fo fr k z) (hzk:z.cells.size=k) (hk0:0<k) {w:World} {I:Nat->Prop} {ι:List Nat} {n c i:Nat} {va vd:List Value} {a d:List D} {y:D} {F1 F2 G1 F0:List Nat} {b o vb vo vc:Nat} {us:List Value}
    (hi:i=a.length) (hn:n=a.length + d.length) (hd:0<d.length) (hm:n + 1<=most) (hnc:n<=c) (hroom:c<n + 1) (hbw:b<w.heap.size) (hvw:vb<w.heap.size)
    (hcs:zaB w b o (va++vd)) (hvs:∀ j v,us[j]? = some v->w.cell? ⟨vb,vo + j,none⟩=some v)
    (h1:RepL w I [] va (zak a) F1) (hy:RepL w I [] us y.cells G1) (h2:RepL w I [] vd (zak d) F2) (o1:ones va) (oy:ones us) (o2:ones vd) (hk:∀ x ∈ a++y::d,x.cells.length=k)
    (hnd:(F1++(G1++F2)).Nodup) (hlt:∀ b ∈ F1++(G1++F2),b<w.heap.size) (hsub:∀ b ∈ F1++(G1++F2),b ∈ F0) (hI:∀ b,I b->b<w.heap.size) :
    Calls P f #[.slice (some ⟨b,o,none⟩) n c,.int .i64 i,.slice (some ⟨vb,vo,none⟩) 1 vc] w (zgD w I ι F0 (.sl true k (a++y::d))):=by
  have hvl:us.length=k:=by rw [hy.length];exact hk y (by simp)
  have hal:va.length=i * k:=by rw [h1.length,zaq (fun x hx=>hk x (mAL _ hx)),hi]
  have hdl:vd.length=(n - i) * k:=by rw [h2.length,zaq (fun x hx=>hk x (mAR _ (List.mem_cons_of_mem _ hx)))];congr 1;omega
  have e1:(i + 1) * k=i * k + k:=Nat.succ_mul i k
  have e2:(n + 1) * k=n * k + k:=Nat.succ_mul n k
  have e4:(n - i) * k + i * k=n * k:=by rw [<- Nat.add_mul,Nat.sub_add_cancel (by omega)]
  have e5:(n + 1 - i) * k + i * k=(n + 1) * k:=by rw [<- Nat.add_mul];congr 1;omega
  obtain ⟨G,hG⟩:∃ G,G=grownCap w (n + 1) c tE:=⟨_,rfl⟩
  have hge:n + 1<=G:=by rw [hG];exact grownCap_ge w _ _ _
  have e6:(G - (n + 1)) * k + (n + 1) * k=G * k:=by rw [<- Nat.add_mul,Nat.sub_add_cancel hge]
  obtain ⟨ROW,hROW⟩:∃ ROW:Array Value,ROW=((va++vd).take (i * k)).toArray++Builtin.zeroCells z.cells (n + 1 - i)++Builtin.zeroCells z.cells (G - (n + 1)):=⟨_,rfl⟩
  obtain ⟨rowA,hA⟩:∃ rowA:Array Value,rowA=(ROW.toList.take (i * k)++us++ROW.toList.drop (i * k + us.length)).toArray:=⟨_,rfl⟩
  obtain ⟨rowB,hB⟩:∃ rowB:Array Value,rowB=(rowA.toList.take ((i + 1) * k)++(va++vd).drop (i * k)++rowA.toList.drop ((i + 1) * k + ((va++vd).drop (i * k)).length)).toArray:=⟨_,rfl⟩
  refine (zut L z.cells rfl hzk hk0 b o n c i vb vo vc (va++vd) us w (by omega) hnc hroom (by unfold most at hm;omega) (by rw [List.length_append];omega) hvl hcs hbw hvw hvs (fun v hv=>(List.mem_append.1 hv).elim (o1 v) (o2 v)) oy G hG ROW rowA rowB hROW hA hB).mono ?_
  rintro e w2 ⟨rfl,rfl⟩
  have t1:(va++vd).take (i * k)=va:=by rw [<- hal,List.take_left]
  have t2:(va++vd).drop (i * k)=vd:=by rw [<- hal,List.drop_left]
  rw [t1] at hROW
  rw [t2] at hB
  have hRs:ROW.size=G * k:=by
    rw [hROW,Array.size_append,Array.size_append,zcV,zcV,hzk,List.size_toArray];omega
  have t3:ROW.toList.take (i * k)=va:=by
    rw [hROW,Array.append_assoc,Array.toList_append,<- hal]
    exact List.take_left
  have hAl:rowA.toList=va++us++ROW.toList.drop (i * k + us.length):=by rw [hA,t3]
  have t4:rowA.toList.take ((i + 1) * k)=va++us:=by
    rw [hAl,show (i + 1) * k=(va++us).length by rw [List.length_append];omega,List.take_left]
  have hAs:rowA.size=G * k:=by
    rw [<- Array.length_toList,hAl];simp only [List.length_append,List.length_drop,Array.length_toList]
    have:=Nat.mul_le_mul_right k hge
    omega
  rw [t4] at hB
  have hBl:rowB.toList=va++us++vd++rowA.toList.drop ((i + 1) * k + vd.length):=by rw [hB]
  have hBs:rowB.size=G * k:=by
    rw [<- Array.length_toList,hBl];simp only [List.length_append,List.length_drop,Array.length_toList]
    have:=Nat.mul_le_mul_right k hge
    omega
  have hN1:(w.alloc (.cells ROW tE)).heap[w.heap.size]? = some (.cells ROW tE (0,0)):=by
    show (w.heap.push _)[w.heap.size]? = _;simp
  have hN2:((w.alloc (.cells ROW tE)).drew.setRow w.heap.size rowA).heap[w.heap.size]? = some (.cells rowA tE (0,0)):=setRow_heap (w.alloc (.cells ROW tE)).drew w.heap.size ROW rowA tE (0,0) hN1
  have hN3:((((w.alloc (.cells ROW tE)).drew.setRow w.heap.size rowA).drew).setRow w.heap.size rowB).heap[w.heap.size]? = some (.cells rowB tE (0,0)):=setRow_heap ((w.alloc (.cells ROW tE)).drew.setRow w.heap.size rowA).drew w.heap.size rowA rowB tE (0,0) hN2
  have hold:∀ x,x<w.heap.size->((((w.alloc (.cells ROW tE)).drew.setRow w.heap.size rowA).drew).setRow w.heap.size rowB).heap[x]? = w.heap[x]? := by
    intro x hx
    have hne:x ≠ w.heap.size:=Nat.ne_of_lt hx
    rw [setRow_other _ _ _ _ hne]
    show ((w.alloc (.cells ROW tE)).drew.setRow w.heap.size rowA).heap[x]? = _
    rw [setRow_other _ _ _ _ hne]
    exact (zhI (fun _=>False) w _).block x hx (fun e=>e)
  have hsz:((((w.alloc (.cells ROW tE)).drew.setRow w.heap.size rowA).drew).setRow w.heap.size rowB).heap.size=w.heap.size + 1:=by
    rw [setRow_size]
    show ((w.alloc (.cells ROW tE)).drew.setRow w.heap.size rowA).heap.size=_
    rw [setRow_size]
    show (w.heap.push _).size=_
    simp
  have hext:Ext (· ∈ F0) w ((((w.alloc (.cells ROW tE)).drew.setRow w.heap.size rowA).drew).setRow w.heap.size rowB):=⟨rfl,rfl,rfl,by rw [hsz];omega,fun x hx _=>hold x hx⟩
  refine zli h1 hy h2 o1 oy o2 w.heap.size 0 G (n + 1) rowB tE hN3 (by omega) (by simp;omega) hge ?_ hk hext (fun x _ hx=>hold x hx) (fun h=>Nat.lt_irrefl _ (hlt _ h)) (fun h=>Nat.lt_irrefl _ (hI _ h)) ⟨.inr (Nat.le_refl _),by rw [hsz];omega⟩ hnd hlt hsub hI
  intro j v hj
  rw [<- Array.getElem?_toList,hBl]
  have:=zoN (pre:=[]) (mid:=va++(us++vd)) (post:=rowA.toList.drop ((i + 1) * k + vd.length)) (o:=0) rfl j v hj
  simpa only [List.append_assoc,List.nil_append,List.getElem?_toArray] using this
theorem zpT (L:InsLay P f nm tS tE tI tB fo fr k z) (hzk:z.cells.size=k) (hk0:0<k) {w:World} {I:Nat->Prop} {ι:List Nat} {v u:Value} {xs:List D} {y:D} {F G:List Nat} (i:Nat)
    (hi:i<=xs.length) (hm:xs.length + 1<=most) (hx:Rep w I ι v (.sl true k xs) F) (hy:Rep w I ι u (.sl true k [y]) G) (hn:(F++G).Nodup) (hap:∀ b ∈ F++G,¬ I b∧b<w.heap.size) (hI:∀ b,I b->b<w.heap.size) :
    Calls P f #[v,.int .i64 i,u] w (zgD w I ι (F++G) (.sl true k (xs.take i++y::xs.drop i))):=by
  cases hy with
  | own _ vb vo m vcap _ _ us Ev cv G1 p1 p2 p3 p4 p5 p6 p7 p8 =>
    obtain rfl:m=1:=p1
    have hky:y.cells.length=k:=p8 y (by simp)
    have hys:RepL w I [] us y.cells G1:=by
      have:zak [y]=y.cells:=by show y.cells++[]=_;simp
      rwa [this] at p7
    have empty:∀ base,xs=[]->(∀ a,base=some a->True)->Calls P f #[.slice base 0 0,.int .i64 i,.slice (some ⟨vb,vo,none⟩) 1 vcap] w (zgD w I ι (F++vb::G1) (.sl true k (xs.take i++y::xs.drop i))):=by
      intro base hx0 _
      subst hx0
      obtain rfl:i=0:=by simpa using hi
      have hs:∀ b ∈ G1,b ∈ F++vb::G1:=fun b hb=>mAR _ (List.mem_cons_of_mem _ hb)
      have:=zhh (n:=0) (c:=0) (vc:=vcap) (xs:=[]) (vx:=[]) (F1:=[]) (ι:=ι) L hzk rfl (by unfold most;omega) (Nat.le_refl _) (by omega) (fun _=>rfl) (base:=base) (fun _ _ j v hj=>by simp at hj) p5 (.nil _) hys (fun _ h=>by cases h) p6 (fun _ h=>by cases h) hky
        (by have:=(List.nodup_append.1 hn).2.1;simpa using (List.nodup_cons.1 this).2) (fun b hb=>(hap b (hs b (by simpa using hb))).2) (fun b hb=>hs b (by simpa using hb)) hI
      simpa using this
    cases hx with
    | nil=>exact empty none rfl (fun _ _=>trivial)
    | emp _ _ _ a=>exact empty (some a) rfl (fun _ _=>trivial)
    | own _ b o n cap _ _ vs E c F1 q1 q2 q3 q4 q5 q6 q7 q8 =>
      have hvb:vb<w.heap.size:=(Array.getElem?_eq_some_iff.1 p2).1
      have hbw:b<w.heap.size:=(Array.getElem?_eq_some_iff.1 q2).1
      have hnd:=List.nodup_append.1 hn
      have hnF:=List.nodup_cons.1 hnd.1
      have hnG:=List.nodup_cons.1 hnd.2.1
      have hbv:vb ≠ b:=fun e=>hnd.2.2 b (List.mem_cons_self ..) vb (List.mem_cons_self ..) e.symm
      by_cases hend:i=xs.length
      · subst hend
        rw [List.take_length,List.drop_length]
        obtain rfl:n=xs.length:=q1
        have hsub:∀ x ∈ F1++G1,x ∈ (b::F1)++vb::G1:=by
          intro x hx
          rcases List.mem_append.1 hx with h|h
          · exact mAL _ (List.mem_cons_of_mem _ h)
          · exact mAR _ (List.mem_cons_of_mem _ h)
        have hnd2:(F1++G1).Nodup:=List.nodup_append.2 ⟨hnF.2,hnG.2,fun x hx y' hy' he=>hnd.2.2 x (List.mem_cons_of_mem _ hx) y' (List.mem_cons_of_mem _ hy') he⟩
        have hbF:b ∉ F1++G1:=by
          intro hx
          rcases List.mem_append.1 hx with h|h
          · exact hnF.1 h
          · exact hnd.2.2 b (List.mem_cons_self ..) b (List.mem_cons_of_mem _ h) rfl
        by_cases hr:xs.length + 1<=cap
        · exact ziI L rfl hr q2 q3 q5 p5 q7 hys q6 p6 q8 hky hnd2 hbF (hap b (mAL _ (List.mem_cons_self ..))).1 (mAL _ (List.mem_cons_self ..)) (fun x hx=>(hap x (hsub x hx)).2) hsub hI
        · exact zhh L hzk rfl hm q4 (by omega) (fun h=>by cases h) (fun a ha j v hj=>by cases ha;rw [Addr.add_lit];exact q5 j v hj) p5 q7 hys q6 p6 q8 hky hnd2 (fun x hx=>(hap x (hsub x hx)).2) hsub hI
      have e:zak xs=zak (xs.take i)++zak (xs.drop i):=by rw [<- zau,List.take_append_drop]
      rw [e] at q7
      obtain ⟨va,vd,Fa,Fd,rfl,rfl,hl,h1,h2⟩:=RepL.split q7
      have hkk:∀ x ∈ xs.take i++y::xs.drop i,x.cells.length=k:=by
        intro x hx
        rcases List.mem_append.1 hx with h|h
        · exact q8 x (List.mem_of_mem_take h)
        · rcases List.mem_cons.1 h with rfl|h
          · exact hky
          · exact q8 x (List.mem_of_mem_drop h)
      have o1:ones va:=fun x hx=>q6 x (mAL _ hx)
      have o2:ones vd:=fun x hx=>q6 x (mAR _ hx)
      have hperm:(Fa++(G1++Fd)).Perm ((Fa++Fd)++G1):=by
        rw [List.append_assoc]
        exact List.Perm.append_left Fa List.perm_append_comm
      have hnd2:(Fa++(G1++Fd)).Nodup:=by
        refine hperm.nodup_iff.2 (List.nodup_append.2 ⟨hnF.2,hnG.2,?_⟩)
        intro x hx y' hy' he
        exact hnd.2.2 x (List.mem_cons_of_mem _ hx) y' (List.mem_cons_of_mem _ hy') he
      have hsub:∀ x ∈ Fa++(G1++Fd),x ∈ (b::(Fa++Fd))++vb::G1:=by
        intro x hx
        have:=hperm.mem_iff.1 hx
        rcases List.mem_append.1 this with h|h
        · exact mAL _ (List.mem_cons_of_mem _ h)
        · exact mAR _ (List.mem_cons_of_mem _ h)
      have hlt:∀ x ∈ Fa++(G1++Fd),x<w.heap.size:=fun x hx=>(hap x (hsub x hx)).2
      have hbF:b ∉ Fa++(G1++Fd):=by
        intro hx
        rcases List.mem_append.1 (hperm.mem_iff.1 hx) with h|h
        · exact hnF.1 h
        · exact hnd.2.2 b (List.mem_cons_self ..) b (List.mem_cons_of_mem _ h) rfl
      have hbI:¬ I b:=(hap b (mAL _ (List.mem_cons_self ..))).1
      have hb0:b ∈ (b::(Fa++Fd))++vb::G1:=mAL _ (List.mem_cons_self ..)
      have hil:i=(xs.take i).length:=by rw [List.length_take];omega
      have hnn:n=(xs.take i).length + (xs.drop i).length:=by rw [List.length_take,List.length_drop];omega
      · have hd:0<(xs.drop i).length:=by rw [List.length_drop];omega
        by_cases hr:n + 1<=cap
        · exact ziJ L hk0 hil hnn hd (by omega) hr q2 q3 q5 p2 hbv p5 h1 hys h2 o1 p6 o2 hkk hnd2 hbF hbI hb0 hlt hsub hI
        · exact zkg L hzk hk0 hil hnn hd (by omega) q4 (by omega) hbw hvb q5 p5 h1 hys h2 o1 p6 o2 hkk hnd2 hlt hsub hI
def zil (k:Nat):List D->Option (D × List D)
  | [.sl true z xs,.int .i64 i,.sl true z' [y]]=>if z=k∧z'=k∧0<=i∧i<=xs.length∧xs.length + 1<=most then some (.sl true k (xs.take i.toNat++y::xs.drop i.toNat),[]) else none
  | _=>none
theorem zrx (L:InsLay P f nm tS tE tI tB fo fr k z) (hzk:z.cells.size=k) (hk0:0<k) {args:List D} {r:D × List D} (h:zil k args=some r) (sto:List (List D)):zeq P [.mv,.mv,.mv] f args sto (r.1,r.2,sto):=by
  unfold zil at h
  split at h
  · rename_i z1 xs i z2 y
    split at h
    · rename_i hc
      obtain ⟨rfl,rfl,hi0,hi1,hm⟩:=hc
      cases h
      intro w I ι vs Fs Gs hr hs hn hap hI _
      cases hr with
      | cons v _ F vs1 _ Fs1 hv hr1 =>
        cases hr1 with
        | cons iv _ F2 vs2 _ Fs2 hiv hr2 =>
          cases hiv
          cases hr2 with
          | cons u _ G vs3 _ Fs3 hu hnil =>
            cases hnil
            have hfl:([F,[],G]:List (List Nat)).flatten=F++G:=by simp
            rw [hfl] at hn hap ⊢
            have hi2:((i.toNat:Nat):Int)=i:=by omega
            have hq:=zpT (ι:=ι) L hzk hk0 i.toNat (by omega) hm hv hu (List.nodup_append.1 hn).1 (fun b hb=>hap b (mAL _ hb)) hI
            rw [hi2] at hq
            refine hq.mono ?_
            rintro e w2 ⟨rv,H,rfl,hext,hrep,hHn,hH⟩
            have hsep:∀ x ∈ H,∀ x' ∈ Gs.flatten,x ≠ x':=by
              intro x hx x' hx' he
              subst he
              rcases (hH x hx).1 with h|h
              · exact (List.nodup_append.1 hn).2.2 x h x hx' rfl
              · exact Nat.lt_irrefl _ (Nat.lt_of_lt_of_le (hap x (mAR _ hx')).2 h)
            refine ⟨rv,rfl,I,ι,H,[],Gs,hext.mono (fun x hx=>mAL _ hx),fun _ h=>h,fun x hx=>⟨Nat.lt_of_lt_of_le (hI x hx) hext.size,.inl hx⟩,hrep,.nil,?_,fun _ _ h=>h,?_,?_⟩
            · exact hs.ext hext (fun x hx=>⟨hI x hx,fun hf=>(hap x (mAL _ hf)).1 hx⟩) (fun x hx=>⟨(hap x (mAR _ hx)).2,fun hf=>(List.nodup_append.1 hn).2.2 x hf x hx rfl⟩)
            · rw [List.flatten_nil,List.nil_append]
              exact List.nodup_append.2 ⟨hHn,(List.nodup_append.1 hn).2.1,fun x hx x' hx' he=>hsep x hx x' hx' he⟩
            · intro x hx
              rw [List.flatten_nil,List.nil_append] at hx
              rcases List.mem_append.1 hx with h|h
              · refine ⟨fun hIx=>?_,?_,(hH x h).2⟩
                · rcases (hH x h).1 with h'|h'
                  · exact (hap x (mAL _ h')).1 hIx
                  · exact Nat.lt_irrefl _ (Nat.lt_of_lt_of_le (hI x hIx) h')
                · rcases (hH x h).1 with h'|h'
                  · exact .inl (mAL _ h')
                  · exact .inr h'
              · exact ⟨(hap x (mAR _ h)).1,.inl (mAR _ h),Nat.lt_of_lt_of_le (hap x (mAR _ h)).2 hext.size⟩
    · cases h
  · cases h
end Go.Vx
namespace Go.Vx
open Go.Proofs Go.Lib
variable {P:Program}
theorem zhJ (zc:Array Value):(Builtin.zeroCells zc 1).toList=zc.toList:=by
  apply List.ext_getElem
  · simp [Builtin.zeroCells]
  · intro i h1 h2
    have hi:i<zc.size:=by simpa using h2
    simp [Builtin.zeroCells,Nat.mod_eq_of_lt hi,hi]
theorem zlj (w:World) (t e ty:TypeId) (z:Value) (ht:P.underlying t=some (.slice e)) (hv:∀ w,(zeroValue e).run P w=.ok z w) (h1:∀ v ∈ z.cells,v.oneCell'=true) (b o c:Nat)
    (hc:∀ j,j<z.cells.size->(w.cell? ⟨b,o + j,none⟩).isSome=true) (hf:∀ j,j<z.cells.size->w.frozen? ⟨b,o + j,none⟩=false) :
    (Builtin.clear_ #[t] ty #[.slice (some ⟨b,o,none⟩) 1 c]).run P w=.ok (.tuple #[]) (w.setCells b o z.cells.toList):=by
  have hst:=run_storeCells_cells (P:=P) b o z.cells.toList 0 w (by simpa using hc) (by simpa using hf) (by intro v hv';exact h1 v (by simpa using hv'))
  simp only [Nat.add_zero] at hst
  simp only [Builtin.clear_,run_underlying ht,hv,zhJ,hst,Sem.run_bind,Result.andThen_ok,Sem.run_pure]
  simp [run_underlying ht,hv,zhJ,hst]
theorem zgn {ops:Array Oper} {o:Oper} {a:Act} {w:World} {K:Act->World->Prop} {Q:Exit->Act->World->Prop} {E:Prop}
    (hg:o.guard=none) (d x:Operand) (dT sT:TypeId) (hop:o.op=Op.call { callee:=Callee.builtin Builtin.append,args := #[d,x],argTypes := #[dT,sT] })
    (v u:Value) (hd:a.eval d=v) (hx:a.eval x=u) {v':Value} {w':World} (hr:(Builtin.append_ #[dT,sT] o.type #[v,u]).run P w=.ok v' w') (hK:K (a.put o.dst v') w') :
    if Region.wanted o (yielded ops a.tmps)=true then Oper.wp P o a w K Q else E:=by
  have hw:Region.wanted o (yielded ops a.tmps)=true:=by simp [Region.wanted,hg]
  rw [if_pos hw]
  unfold Oper.wp
  simp [execOp,hop,resolve,invoke,builtin,hd,hx,hr,Result.andThen]
  exact hK
structure DelLay (P:Program) (f:Nat) (nm:String) (tS tE tI tB k:Nat) (z:Value):Prop where
  mixed:P.follows .mixedOrders=true
  fn:P.funcs[f]? = some (delF nm tS tE tI tB)
  t3:P.underlying tI=some (TypeDesc.int IntKind.i64)
  a3:∀ w,(isAgg tI).run P w=.ok false w
  z3:∀ w,(Go.sizeOf tI).run P w=.ok 1 w
  v3:∀ w,(zeroValue tI).run P w=.ok (Value.int IntKind.i64 0) w
  t4:P.underlying tB=some (TypeDesc.bool)
  a4:∀ w,(isAgg tB).run P w=.ok false w
  z4:∀ w,(Go.sizeOf tB).run P w=.ok 1 w
  v4:∀ w,(zeroValue tB).run P w=.ok (Value.bool false) w
  z9:∀ w,(Go.sizeOf tE).run P w=.ok k w
  v9:∀ w,(zeroValue tE).run P w=.ok z w
  t24:P.underlying tS=some (TypeDesc.slice tE)
  a24:∀ w,(isAgg tS).run P w=.ok false w
  z24:∀ w,(Go.sizeOf tS).run P w=.ok 1 w
  v24:∀ w,(zeroValue tS).run P w=.ok (Value.slice none 0 0) w
  i9:∃ B,(P.info? tE).map (fun i=>(i.zero,i.size,i.bytes))=some (some z,k,B)∧B<=65536
end Go.Vx
namespace Go.Vx
open Go.Proofs Go.Lib
variable {P:Program} {f:Nat} {nm:String} {tS tE tI tB k:Nat} {z:Value}
set_option maxHeartbeats 4000000 in
set_option maxRecDepth 100000 in
theorem zuu (L:DelLay P f nm tS tE tI tB k z) (hk:0<k) (b off n c i:Nat) (zl:List Value) (w W1:World) (A:Addr) (hi:i<n) (hnc:n<=c) (hn63:n<=4611686018427387904)
    (hA:(if c=i + 1 then some (⟨b,off,none⟩:Addr) else some ⟨b,off + (i + 1) * k,none⟩)=some A)
    (hap:∀ ty sc,(Builtin.append_ #[tS,tS] ty #[.slice (some ⟨b,off,none⟩) i c,.slice (some A) (n - (i + 1)) sc]).run P w.drew=.ok (.slice (some ⟨b,off,none⟩) (n - 1) c) W1)
    (hcl:∀ ty sc,(Builtin.clear_ #[tS] ty #[.slice (some ⟨b,off + (n - 1) * k,none⟩) 1 sc]).run P W1=.ok (.tuple #[]) (W1.setCells b (off + (n - 1) * k) zl)) :
    Calls P f #[.slice (some ⟨b,off,none⟩) n c,.int .i64 i,.int .i64 ((i:Int) + 1)] w fun e w' =>
      e=.returned (.slice (some ⟨b,off,none⟩) (n - 1) c)∧w'=W1.setCells b (off + (n - 1) * k) zl:=by
  have t3:=L.t3;have a3:=L.a3;have z3:=L.z3;have v3:=L.v3;have t4:=L.t4;have a4:=L.a4;have z4:=L.z4;have v4:=L.v4;have z9:=L.z9;have t24:=L.t24;have a24:=L.a24;have z24:=L.z24;have v24:=L.v24
  have u3:=run_underlying L.t3;have u4:=run_underlying L.t4;have u24:=run_underlying L.t24
  have mixed:=L.mixed
  have hne:¬ ((i:Int)=(i:Int) + 1):=by omega
  have htn:((i:Int) + 1).toNat=i + 1:=by omega
  have hb1:(0:Int)<=(i:Int) + 1:=by omega
  have hb2:(i:Int)<=(i:Int) + 1:=by omega
  have hb3:(i:Int) + 1<=(n:Int):=by omega
  have hic:i<=c:=by omega
  have hic1:i + 1<=c:=by omega
  have hw1:((n - 1:Nat):Int)=(n:Int) - 1:=by omega
  have hn1:n - 1<=n:=by omega
  have hn2:n - (n - 1)=1:=by omega
  have hci:¬ (c=n - 1):=by omega
  by_cases hcc:c=i + 1
  · rw [if_pos hcc] at hA
    subst hcc
    have h0:n - (i + 1)=0:=by omega
    rw [h0] at hap
    cases hA
    go_enter L.fn,zkJ nm tS tE tI tB
    go_wp2
    go_region_law_o (refine zgn rfl _ _ tS tS rfl (.slice (some ⟨b,off,none⟩) i (i + 1)) (.slice (some ⟨b,off,none⟩) 0 0) (by simp [Act.eval,Act.put]) (by simp [Act.eval,Act.put]) (hap tS 0) ?_)
    go_wp2
    all_goals (go_ret;exact ⟨rfl,rfl⟩)
  · rw [if_neg hcc] at hA
    cases hA
    go_enter L.fn,zkJ nm tS tE tI tB
    go_wp2
    go_region_law_o (refine zgn rfl _ _ tS tS rfl (.slice (some ⟨b,off,none⟩) i c) (.slice (some ⟨b,off + (i + 1) * k,none⟩) (n - (i + 1)) (c - (i + 1))) (by simp [Act.eval,Act.put]) (by simp [Act.eval,Act.put]) (hap tS (c - (i + 1))) ?_)
    go_wp2
    all_goals (go_ret;exact ⟨rfl,rfl⟩)
end Go.Vx
namespace Go.Vx
open Go.Proofs Go.Lib
variable {P:Program} {f:Nat} {nm:String} {tS tE tI tB k:Nat} {z:Value}
theorem zpU (L:DelLay P f nm tS tE tI tB k z) (hzk:z.cells.size=k) (hz1:∀ v ∈ z.cells,v.oneCell'=true) (hk0:0<k) {w:World} {I:Nat->Prop} {ι:List Nat} {v:Value} {xs:List D} {F:List Nat} (i:Nat)
    (hi:i<xs.length) (hm:xs.length<=most) (hx:Rep w I ι v (.sl true k xs) F) (hn:F.Nodup) (hap:∀ b ∈ F,¬ I b∧b<w.heap.size) (hI:∀ b,I b->b<w.heap.size) :
    Calls P f #[v,.int .i64 i,.int .i64 ((i:Int) + 1)] w (zgD w I ι F (.sl true k (xs.take i++xs.drop (i + 1)))):=by
  cases hx with
  | nil=>simp at hi
  | emp _ _ _ a=>simp at hi
  | own _ b o n cap _ _ vs E cur F1 q1 q2 q3 q4 q5 q6 q7 q8 =>
    have hbw:b<w.heap.size:=(Array.getElem?_eq_some_iff.1 q2).1
    have hnF:=List.nodup_cons.1 hn
    have e:zak xs=zak (xs.take i)++(zak ((xs.drop i).take 1)++zak (xs.drop (i + 1))):=by
      rw [<- zau,<- zau]
      congr 1
      rw [show xs.drop (i + 1)=(xs.drop i).drop 1 by rw [List.drop_drop],List.take_append_drop,List.take_append_drop]
    rw [e] at q7
    obtain ⟨va,vr,Fa,Fr,rfl,rfl,hl,h1,h2⟩:=RepL.split q7
    obtain ⟨vx,vd,Fx,Fd,rfl,rfl,hl2,h3,h4⟩:=RepL.split h2
    have ka:∀ x ∈ xs.take i,x.cells.length=k:=fun x hx=>q8 x (List.mem_of_mem_take hx)
    have kx:∀ x ∈ (xs.drop i).take 1,x.cells.length=k:=fun x hx=>q8 x (List.mem_of_mem_drop (List.mem_of_mem_take hx))
    have kd:∀ x ∈ xs.drop (i + 1),x.cells.length=k:=fun x hx=>q8 x (List.mem_of_mem_drop hx)
    have hal:va.length=i * k:=by rw [h1.length,zaq ka,List.length_take];congr 1;omega
    have hxl:vx.length=k:=by
      rw [h3.length,zaq kx,List.length_take,List.length_drop,show min 1 (xs.length - i)=1 by omega,Nat.one_mul]
    have hdl:vd.length=(n - (i + 1)) * k:=by rw [h4.length,zaq kd,List.length_drop];congr 1;omega
    have o1:ones va:=fun x hx=>q6 x (mAL _ hx)
    have o2:ones vd:=fun x hx=>q6 x (mAR _ (mAR _ hx))
    have m1:(i + 1) * k=i * k + k:=Nat.succ_mul i k
    have m2:(n - (i + 1)) * k + i * k=(n - 1) * k:=by rw [<- Nat.add_mul];congr 1;omega
    have m3:(n - 1) * k + k=n * k:=by rw [<- Nat.succ_mul];congr 1;omega
    have m4:=Nat.mul_le_mul_right k q4
    obtain ⟨B,hB,hB2⟩:=L.i9
    obtain ⟨i0,hi0,hz0,hzs,hzb⟩:=info_parts hB
    have hvd:∀ j v,vd[j]? = some v->w.cell? ⟨b,o + (i + 1) * k + j,none⟩=some v:=by
      intro j v hj
      have:=q5 ((i + 1) * k + j) v (by
        rw [List.getElem?_append_right (by omega),List.getElem?_append_right (by omega)]
        rw [show (i + 1) * k + j - va.length - vx.length=j by omega]
        exact hj)
      rw [<- Nat.add_assoc] at this
      exact this
    obtain ⟨A,hA⟩:∃ A,(if cap=i + 1 then some (⟨b,o,none⟩:Addr) else some ⟨b,o + (i + 1) * k,none⟩)=some A:=by
      split <;> exact ⟨_,rfl⟩
    have hAs:∀ j v,vd[j]? = some v->w.drew.cell? (A.add j)=some v:=by
      intro j v hj
      split at hA
      · have:vd.length=0:=by rw [hdl,show n - (i + 1)=0 by omega,Nat.zero_mul]
        have hlt:=(List.getElem?_eq_some_iff.1 hj).1
        omega
      · cases hA
        rw [Addr.add_lit]
        exact hvd j v hj
    have hsrc:∀ sc,Src P i0.size tS (.slice (some A) (n - (i + 1)) sc) (n - (i + 1)) vd w.drew:=fun sc =>
      Src.ofSlice w.drew L.t24 A (n - (i + 1)) sc vd (by rw [hzs,hdl]) hAs o2
    have hcell:∀ j,j<cap * k->(w.cell? ⟨b,o + j,none⟩).isSome=true∧w.frozen? ⟨b,o + j,none⟩=false:=by
      intro j hj
      have hj2:o + j<cur.size:=by omega
      simp [World.cell?,World.frozen?,q2,hj2]
    have happ:∀ ty sc,(Builtin.append_ #[tS,tS] ty #[.slice (some ⟨b,o,none⟩) i cap,.slice (some A) (n - (i + 1)) sc]).run P w.drew=.ok (.slice (some ⟨b,o,none⟩) (n - 1) cap) (w.drew.setCells b (o + i * k) vd):=by
      intro ty sc
      have:=run_append_room_src w.drew tS tS ty tE i0 L.t24 hi0 b o i cap _ (n - (i + 1)) vd (hsrc sc) (by omega)
        (by rw [hzs];intro j hj;have:=(hcell (i * k + j) (by omega)).1;rw [<- Nat.add_assoc] at this;exact this)
        (by rw [hzs];intro j hj;have:=(hcell (i * k + j) (by omega)).2;rw [<- Nat.add_assoc] at this;exact this)
      rw [hzs,show i + (n - (i + 1))=n - 1 by omega] at this
      exact this
    have hbd:w.drew.heap[b]? = some (.cells cur E (0,0)):=q2
    obtain ⟨c1,r1,r2⟩:=zcF b vd (o + i * k) w.drew hbd (by omega)
    have hc1:c1.size=cur.size:=by
      have:=congrArg List.length r2
      simp only [Array.length_toList,List.length_append,List.length_take,List.length_drop] at this
      omega
    have hcl:∀ ty sc,(Builtin.clear_ #[tS] ty #[.slice (some ⟨b,o + (n - 1) * k,none⟩) 1 sc]).run P (w.drew.setCells b (o + i * k) vd)=.ok (.tuple #[]) ((w.drew.setCells b (o + i * k) vd).setCells b (o + (n - 1) * k) z.cells.toList):=by
      intro ty sc
      refine zlj _ tS tE ty z L.t24 L.v9 hz1 b _ sc (fun j hj=>?_) (fun j hj=>?_)
      · have:o + (n - 1) * k + j<c1.size:=by omega
        simp [World.cell?,r1,this]
      · simp [World.frozen?,r1]
    refine (zuu L hk0 b o n cap i z.cells.toList w _ A (by omega) q4 (by unfold most at hm;omega) hA happ hcl).mono ?_
    rintro e' w2 ⟨rfl,rfl⟩
    obtain ⟨c2,s1,s2⟩:=zcF b z.cells.toList (o + (n - 1) * k) _ r1 (by rw [Array.length_toList];omega)
    have hc2:c2.size=c1.size:=by
      have:=congrArg List.length s2
      simp only [Array.length_toList,List.length_append,List.length_take,List.length_drop] at this
      omega
    have hx0:Ext (fun x=>x ∈ b::(Fa++(Fx++Fd))) w w.drew:=⟨rfl,rfl,rfl,Nat.le_refl _,fun _ _ _=>rfl⟩
    have hext:Ext (fun x=>x ∈ b::(Fa++(Fx++Fd))) w ((w.drew.setCells b (o + i * k) vd).setCells b (o + (n - 1) * k) z.cells.toList) :=
      (hx0.trans (Ext.setCells b vd (o + i * k) w.drew (S:=fun x=>x ∈ b::(Fa++(Fx++Fd))) (List.mem_cons_self ..)) (fun _ _ h=>h)).trans (Ext.setCells b z.cells.toList (o + (n - 1) * k) (w.drew.setCells b (o + i * k) vd) (S:=fun x=>x ∈ b::(Fa++(Fx++Fd))) (List.mem_cons_self ..)) (fun _ _ h=>h)
    have hne:∀ x,x ≠ b->((w.drew.setCells b (o + i * k) vd).setCells b (o + (n - 1) * k) z.cells.toList).heap[x]? = w.heap[x]? := by
      intro x hx
      rw [zaz b _ _ _ hx,zaz b _ _ _ hx]
      rfl
    have hsub:∀ x ∈ Fa++Fd,x ∈ Fa++(Fx++Fd):=by
      intro x hx
      rcases List.mem_append.1 hx with h|h
      · exact mAL _ h
      · exact mAR _ (mAR _ h)
    have hbF:b ∉ Fa++Fd:=fun h=>hnF.1 (hsub b h)
    have hnd:(Fa++Fd).Nodup:=by
      have q:=List.nodup_append.1 hnF.2
      have q':=List.nodup_append.1 q.2.1
      exact List.nodup_append.2 ⟨q.1,q'.2.1,fun x hx y hy=>q.2.2 x hx y (mAR _ hy)⟩
    refine ⟨_,b::(Fa++Fd),rfl,hext,?_,List.nodup_cons.2 ⟨hbF,hnd⟩,?_⟩
    · refine .own _ _ _ _ _ _ _ (va++vd) E c2 _ (by rw [List.length_append,List.length_take,List.length_drop];omega) s1 (by omega) (by omega) (zhr s1 ?_) ?_ ?_ ?_
      · intro j v hj
        rw [<- Array.getElem?_toList,s2]
        have hlt:=(List.getElem?_eq_some_iff.1 hj).1
        rw [List.length_append] at hlt
        rw [List.getElem?_append_left (by rw [List.length_take,Array.length_toList];omega),List.getElem?_take_of_lt (by omega),r2]
        by_cases hja:j<i * k
        · rw [List.getElem?_append_left (by rw [List.length_take,Array.length_toList];omega),List.getElem?_take_of_lt (by omega),Array.getElem?_toList]
          rw [List.getElem?_append_left (by omega)] at hj
          have:=q5 j v (by rw [List.getElem?_append_left (by omega)];exact hj)
          simpa [World.cell?,q2] using this
        · rw [List.getElem?_append_right (by rw [List.length_take,Array.length_toList];omega),List.length_take,Nat.min_eq_left (by rw [Array.length_toList];omega),List.getElem?_append_left (by omega)]
          rw [List.getElem?_append_right (by omega)] at hj
          rw [show o + j - (o + i * k)=j - va.length by omega]
          exact hj
      · intro x hx
        exact (List.mem_append.1 hx).elim (o1 x) (o2 x)
      · rw [zau]
        refine (RepL.append h1 h4).frame (fun _ h=>h) (fun x hx=>hne x (fun e=>(hap b (List.mem_cons_self ..)).1 (e ▸ hx))) (fun x hx=>hne x (fun e=>hbF (e ▸ hx)))
      · intro x hx
        exact (List.mem_append.1 hx).elim (ka x) (kd x)
    · intro x hx
      have h0:x ∈ b::(Fa++(Fx++Fd)):=by
        rcases List.mem_cons.1 hx with rfl|h
        · exact List.mem_cons_self ..
        · exact List.mem_cons_of_mem _ (hsub x h)
      exact ⟨.inl h0,Nat.lt_of_lt_of_le (hap x h0).2 hext.size⟩
def zim (k:Nat):List D->Option (D × List D)
  | [.sl true z xs,.int .i64 i,.int .i64 j]=>if z=k∧0<=i∧j=i + 1∧i<xs.length∧xs.length<=most then some (.sl true k (xs.take i.toNat++xs.drop (i.toNat + 1)),[]) else none
  | _=>none
theorem zry (L:DelLay P f nm tS tE tI tB k z) (hzk:z.cells.size=k) (hz1:∀ v ∈ z.cells,v.oneCell'=true) (hk0:0<k) {args:List D} {r:D × List D} (h:zim k args=some r) (sto:List (List D)):zeq P [.mv,.mv,.mv] f args sto (r.1,r.2,sto):=by
  unfold zim at h
  split at h
  · rename_i z1 xs i j
    split at h
    · rename_i hc
      obtain ⟨rfl,hi0,rfl,hi1,hm⟩:=hc
      cases h
      intro w I ι vs Fs Gs hr hs hn hap hI _
      cases hr with
      | cons v _ F vs1 _ Fs1 hv hr1 =>
        cases hr1 with
        | cons iv _ F2 vs2 _ Fs2 hiv hr2 =>
          cases hiv
          cases hr2 with
          | cons jv _ F3 vs3 _ Fs3 hjv hnil =>
            cases hjv
            cases hnil
            have hfl:([F,[],[]]:List (List Nat)).flatten=F:=by simp
            rw [hfl] at hn hap ⊢
            have hi2:((i.toNat:Nat):Int)=i:=by omega
            have hq:=zpU (ι:=ι) L hzk hz1 hk0 i.toNat (by omega) hm hv (List.nodup_append.1 hn).1 (fun b hb=>hap b (mAL _ hb)) hI
            rw [hi2] at hq
            refine hq.mono ?_
            rintro e w2 ⟨rv,H,rfl,hext,hrep,hHn,hH⟩
            have hsep:∀ x ∈ H,∀ x' ∈ Gs.flatten,x ≠ x':=by
              intro x hx x' hx' he
              subst he
              rcases (hH x hx).1 with h|h
              · exact (List.nodup_append.1 hn).2.2 x h x hx' rfl
              · exact Nat.lt_irrefl _ (Nat.lt_of_lt_of_le (hap x (mAR _ hx')).2 h)
            refine ⟨rv,rfl,I,ι,H,[],Gs,hext.mono (fun x hx=>mAL _ hx),fun _ h=>h,fun x hx=>⟨Nat.lt_of_lt_of_le (hI x hx) hext.size,.inl hx⟩,hrep,.nil,?_,fun _ _ h=>h,?_,?_⟩
            · exact hs.ext hext (fun x hx=>⟨hI x hx,fun hf=>(hap x (mAL _ hf)).1 hx⟩) (fun x hx=>⟨(hap x (mAR _ hx)).2,fun hf=>(List.nodup_append.1 hn).2.2 x hf x hx rfl⟩)
            · rw [List.flatten_nil,List.nil_append]
              exact List.nodup_append.2 ⟨hHn,(List.nodup_append.1 hn).2.1,fun x hx x' hx' he=>hsep x hx x' hx' he⟩
            · intro x hx
              rw [List.flatten_nil,List.nil_append] at hx
              rcases List.mem_append.1 hx with h|h
              · refine ⟨fun hIx=>?_,?_,(hH x h).2⟩
                · rcases (hH x h).1 with h'|h'
                  · exact (hap x (mAL _ h')).1 hIx
                  · exact Nat.lt_irrefl _ (Nat.lt_of_lt_of_le (hI x hIx) h')
                · rcases (hH x h).1 with h'|h'
                  · exact .inl (mAL _ h')
                  · exact .inr h'
              · exact ⟨(hap x (mAR _ h)).1,.inl (mAR _ h),Nat.lt_of_lt_of_le (hap x (mAR _ h)).2 hext.size⟩
    · cases h
  · cases h
end Go.Vx
namespace Go.Vx
theorem zlk {α:Type} (f:α->D) (k:Nat) (a:List α) (i:Int) (y:α) {v:D} (hv:f y=v) (h:0<=i∧i<=a.length∧a.length + 1<=most) :
    zil k [.sl true k (a.map f),.int .i64 i,.sl true k [v]]=some (.sl true k ((a.take i.toNat++y::a.drop i.toNat).map f),[]):=by
  subst hv
  unfold zil
  simp only [List.length_map]
  rw [if_pos ⟨trivial,trivial,h⟩,List.map_append,List.map_cons,List.map_take,List.map_drop]
theorem zll {α:Type} (f:α->D) (k:Nat) (a:List α) (i j:Int) (h:0<=i∧j=i + 1∧i<a.length∧a.length<=most) :
    zim k [.sl true k (a.map f),.int .i64 i,.int .i64 j]=some (.sl true k ((a.take i.toNat++a.drop (i.toNat + 1)).map f),[]):=by
  unfold zim
  simp only [List.length_map]
  rw [if_pos ⟨trivial,h⟩,List.map_append,List.map_take,List.map_drop]
end Go.Vx

