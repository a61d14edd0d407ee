/- The pure statement of laws_FnExactHeldClash. -/
import Derived.Test.YtgjlbghjjjlhmaaQKinds
import Derived.Test.YtgjlbghjjjlhmaaPflawsFnExactHeldClash
namespace Go.Proofs.Ytgjlbghjjjlhmaa.P
open Go.RowKit Go.Proofs.YtgjlbghjjjlhmaaW.PrintWords
def laws_FnExactHeldClash.Pure : Prop := ∀ (l0_0 : List (S36)) (l0_1 : List (S36)) (a1_0 : Int) (a1_1 : Int) (a1_2 : Int) (a1_3 : Bool), (Q.okL 32 ok36) l0_0 → (Q.okL 32 ok36) l0_1 → (Q.okI .i64) a1_0 → (Q.okI .i64) a1_1 → (Q.okI .i64) a1_2 → ∃ k, laws_FnExactHeldClash.f k l0_0 l0_1 a1_0 a1_1 a1_2 a1_3 = some true
end Go.Proofs.Ytgjlbghjjjlhmaa.P
