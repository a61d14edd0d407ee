/- All words. -/
import Derived.Test.YtlejcgnfpcngbaaV1
namespace Go.Proofs.YtlejcgnfpcngbaaW.PrintWords
end Go.Proofs.YtlejcgnfpcngbaaW.PrintWords
namespace Go.Proofs.YtlejcgnfpcngbaaW.PrintLast
end Go.Proofs.YtlejcgnfpcngbaaW.PrintLast
namespace Go.Proofs.YtlejcgnfpcngbaaW.PrintMore
end Go.Proofs.YtlejcgnfpcngbaaW.PrintMore
