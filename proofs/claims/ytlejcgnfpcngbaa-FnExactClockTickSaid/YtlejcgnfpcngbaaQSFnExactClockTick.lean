/- The pure statement of laws_FnExactClockTick. -/
import Derived.Test.YtlejcgnfpcngbaaQKinds
import Derived.Test.YtlejcgnfpcngbaaPflawsFnExactClockTick
namespace Go.Proofs.Ytlejcgnfpcngbaa.P
open Go.RowKit Go.Proofs.YtlejcgnfpcngbaaW.PrintWords
def laws_FnExactClockTick.Pure : Prop := ∀ (a0_0 : Int) (l0_1 : List (S79)) (a1 : Int), (Q.okI .i64) a0_0 → (Q.okL 24 ok79) l0_1 → (Q.okI .i64) a1 → ∃ k, laws_FnExactClockTick.f k a0_0 l0_1 a1 = some true
end Go.Proofs.Ytlejcgnfpcngbaa.P
