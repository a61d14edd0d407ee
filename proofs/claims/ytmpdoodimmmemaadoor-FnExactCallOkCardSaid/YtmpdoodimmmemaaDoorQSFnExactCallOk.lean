/- The pure statement of laws_FnExactCallOk. -/
import Derived.Test.YtmpdoodimmmemaaDoorQKinds
import Derived.Test.YtmpdoodimmmemaaDoorPflawsFnExactCallOk
namespace Go.Proofs.YtmpdoodimmmemaaDoor.P
open Go.RowKit Go.Proofs.YtmpdoodimmmemaaDoorW.PrintWords
def laws_FnExactCallOk.Pure : Prop := ∀ (a0_0 : Int) (a0_1 : Int) (a0_2 : Int) (a0_3 : ByteArray) (a0_4 : ByteArray) (a0_5 : ByteArray), (Q.okI .i64) a0_0 → (Q.okI .i64) a0_1 → (Q.okI .i64) a0_2 → Q.okS a0_3 → Q.okS a0_4 → Q.okS a0_5 → ∃ k, laws_FnExactCallOk.f k a0_0 a0_1 a0_2 a0_3 a0_4 a0_5 = some true
end Go.Proofs.YtmpdoodimmmemaaDoor.P
