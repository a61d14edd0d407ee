/- All words. -/
import Derived.Test.YtmpdoodimmmemaaV1
namespace Go.Proofs.YtmpdoodimmmemaaW.PrintWords
end Go.Proofs.YtmpdoodimmmemaaW.PrintWords
namespace Go.Proofs.YtmpdoodimmmemaaW.PrintLast
end Go.Proofs.YtmpdoodimmmemaaW.PrintLast
namespace Go.Proofs.YtmpdoodimmmemaaW.PrintMore
end Go.Proofs.YtmpdoodimmmemaaW.PrintMore
