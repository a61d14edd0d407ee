/- All words. -/
import Derived.Test.YtgjlbghjjjlhmaaV1
namespace Go.Proofs.YtgjlbghjjjlhmaaW.PrintWords
end Go.Proofs.YtgjlbghjjjlhmaaW.PrintWords
namespace Go.Proofs.YtgjlbghjjjlhmaaW.PrintLast
end Go.Proofs.YtgjlbghjjjlhmaaW.PrintLast
namespace Go.Proofs.YtgjlbghjjjlhmaaW.PrintMore
end Go.Proofs.YtgjlbghjjjlhmaaW.PrintMore
