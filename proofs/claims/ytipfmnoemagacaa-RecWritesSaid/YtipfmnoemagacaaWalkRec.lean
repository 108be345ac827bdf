/- The rec laws' functions answer true; no condition. -/
import Derived.Test.YtipfmnoemagacaaPureRec
namespace Go.Proofs.Ytipfmnoemagacaa.Pure
open Go.RowKit Go.Proofs.YtipfmnoemagacaaW.PrintWords PQ
set_option linter.unusedVariables false
set_option linter.unusedSimpArgs false
theorem recOne_walk (k a b k' a' b' : Int) (w : World) {P1 P2 P3 P4 P5 P6 : Prop} (_ : P1) (_ : P2) (_ : P3) (_ : P4) (_ : P5) (_ : P6) :
    Calls Try.prog 3 #[.agg #[.int .i64 k, .int .i64 a, .int .i64 b], .agg #[.int .i64 k', .int .i64 a', .int .i64 b']] w fun e w' => e = .returned (.bool true) ∧ Below w.heap.size w w' :=
  decklelaw11_RecOne.calls 20 k a b k' a' b' true w (recOne_pure k a b k' a' b')
theorem recWrites_walk (k a b : Int) (s : ByteArray) (w : World) {P1 P2 P3 P4 : Prop} (_ : P1) (_ : P2) (_ : P3) (_ : P4) :
    Calls Try.prog 4 #[.agg #[.int .i64 k, .int .i64 a, .int .i64 b], .string s] w fun e w' => e = .returned (.bool true) ∧ Below w.heap.size w w' :=
  decklelaw11_RecWrites.calls 20 k a b s true w (recWrites_pure k a b s)
theorem recBack_walk (k a b : Int) (s : ByteArray) (w : World) {P1 P2 P3 P4 : Prop} (_ : P1) (_ : P2) (_ : P3) (_ : P4) :
    Calls Try.prog 5 #[.agg #[.int .i64 k, .int .i64 a, .int .i64 b], .string s] w fun e w' => e = .returned (.bool true) ∧ Below w.heap.size w w' :=
  decklelaw11_RecBack.calls 20 k a b s true w (recBack_pure k a b s)
end Go.Proofs.Ytipfmnoemagacaa.Pure
