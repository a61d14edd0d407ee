/- The pure statement of laws_FnExactClockNext. -/
import Derived.Test.YtlejcgnfpcngbaaQKinds
import Derived.Test.YtlejcgnfpcngbaaPflawsFnExactClockNext
namespace Go.Proofs.Ytlejcgnfpcngbaa.P
open Go.RowKit Go.Proofs.YtlejcgnfpcngbaaW.PrintWords
def laws_FnExactClockNext.Pure : Prop := ∀ (a0_0 : Int) (l0_1 : List (S79)), (Q.okI .i64) a0_0 → (Q.okL 24 ok79) l0_1 → ∃ k, laws_FnExactClockNext.f k a0_0 l0_1 = some true
end Go.Proofs.Ytlejcgnfpcngbaa.P
