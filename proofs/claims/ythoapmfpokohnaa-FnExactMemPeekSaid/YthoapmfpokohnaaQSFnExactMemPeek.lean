/- The pure statement of laws_FnExactMemPeek. -/
import Derived.Test.YthoapmfpokohnaaQKinds
import Derived.Test.YthoapmfpokohnaaPflawsFnExactMemPeek
namespace Go.Proofs.Ythoapmfpokohnaa.P
open Go.RowKit Go.Proofs.YthoapmfpokohnaaW.PrintWords
def laws_FnExactMemPeek.Pure : Prop := ∀ (l0_0 : List ByteArray) (l0_1 : List Int) (l0_2 : List ByteArray) (l0_3 : List Int) (l0_4 : List (S134)) (a0_5 : Int) (a1 : Int) (a2 : Int), (Q.okL 16 Q.okS) l0_0 → (Q.okL 8 (Q.okI .i64)) l0_1 → (Q.okL 16 Q.okS) l0_2 → (Q.okL 8 (Q.okI .i64)) l0_3 → (Q.okL 56 ok134) l0_4 → (Q.okI .i64) a0_5 → (Q.okI .i64) a1 → (Q.okI .i64) a2 → ∃ k, laws_FnExactMemPeek.f k l0_0 l0_1 l0_2 l0_3 l0_4 a0_5 a1 a2 = some true
end Go.Proofs.Ythoapmfpokohnaa.P
