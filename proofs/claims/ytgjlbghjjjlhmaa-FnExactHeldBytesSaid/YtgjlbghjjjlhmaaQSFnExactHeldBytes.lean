/- The pure statement of laws_FnExactHeldBytes. -/
import Derived.Test.YtgjlbghjjjlhmaaQKinds
import Derived.Test.YtgjlbghjjjlhmaaPflawsFnExactHeldBytes
namespace Go.Proofs.Ytgjlbghjjjlhmaa.P
open Go.RowKit Go.Proofs.YtgjlbghjjjlhmaaW.PrintWords
def laws_FnExactHeldBytes.Pure : Prop := ∀ (l0_0 : List (S36)) (l0_1 : List (S36)), (Q.okL 32 ok36) l0_0 → (Q.okL 32 ok36) l0_1 → ∃ k, laws_FnExactHeldBytes.f k l0_0 l0_1 = some true
end Go.Proofs.Ytgjlbghjjjlhmaa.P
