/- The pure statement of laws_FnExactHeldMay. -/
import Derived.Test.YtgjlbghjjjlhmaaQKinds
import Derived.Test.YtgjlbghjjjlhmaaPflawsFnExactHeldMay
namespace Go.Proofs.Ytgjlbghjjjlhmaa.P
open Go.RowKit Go.Proofs.YtgjlbghjjjlhmaaW.PrintWords
def laws_FnExactHeldMay.Pure : Prop := ∀ (l0_0 : List (S36)) (l0_1 : List (S36)) (a1 : Int) (a2 : Int) (a3 : Bool), (Q.okL 32 ok36) l0_0 → (Q.okL 32 ok36) l0_1 → (Q.okI .i64) a1 → (Q.okI .i64) a2 → ∃ k, laws_FnExactHeldMay.f k l0_0 l0_1 a1 a2 a3 = some true
end Go.Proofs.Ytgjlbghjjjlhmaa.P
