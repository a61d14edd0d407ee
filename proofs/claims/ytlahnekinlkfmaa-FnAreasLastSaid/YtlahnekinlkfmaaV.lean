/- All words. -/
import Derived.Test.YtlahnekinlkfmaaV1
namespace Go.Proofs.YtlahnekinlkfmaaW.PrintWords
end Go.Proofs.YtlahnekinlkfmaaW.PrintWords
namespace Go.Proofs.YtlahnekinlkfmaaW.PrintLast
end Go.Proofs.YtlahnekinlkfmaaW.PrintLast
namespace Go.Proofs.YtlahnekinlkfmaaW.PrintMore
end Go.Proofs.YtlahnekinlkfmaaW.PrintMore
