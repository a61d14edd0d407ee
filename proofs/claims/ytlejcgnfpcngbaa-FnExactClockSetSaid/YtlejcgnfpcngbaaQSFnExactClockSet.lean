/- The pure statement of laws_FnExactClockSet. -/
import Derived.Test.YtlejcgnfpcngbaaQKinds
import Derived.Test.YtlejcgnfpcngbaaPflawsFnExactClockSet
namespace Go.Proofs.Ytlejcgnfpcngbaa.P
open Go.RowKit Go.Proofs.YtlejcgnfpcngbaaW.PrintWords
def laws_FnExactClockSet.Pure : Prop := ∀ (a0_0 : Int) (l0_1 : List (S79)) (a1 : Int) (a2 : Int) (a3 : Int), (Q.okI .i64) a0_0 → (Q.okL 24 ok79) l0_1 → (Q.okI .i64) a1 → (Q.okI .i64) a2 → (Q.okI .i64) a3 → ∃ k, laws_FnExactClockSet.f k a0_0 l0_1 a1 a2 a3 = some true
end Go.Proofs.Ytlejcgnfpcngbaa.P
