/- The pure statement of laws_FnExactHeldOk. -/
import Derived.Test.YtgjlbghjjjlhmaaQKinds
import Derived.Test.YtgjlbghjjjlhmaaPflawsFnExactHeldOk
namespace Go.Proofs.Ytgjlbghjjjlhmaa.P
open Go.RowKit Go.Proofs.YtgjlbghjjjlhmaaW.PrintWords
def laws_FnExactHeldOk.Pure : Prop := ∀ (l0_0 : List (S36)) (l0_1 : List (S36)), (Q.okL 32 ok36) l0_0 → (Q.okL 32 ok36) l0_1 → ∃ k, laws_FnExactHeldOk.f k l0_0 l0_1 = some true
end Go.Proofs.Ytgjlbghjjjlhmaa.P
