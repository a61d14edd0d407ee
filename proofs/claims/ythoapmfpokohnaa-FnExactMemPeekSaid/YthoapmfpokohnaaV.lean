/- All words. -/
import Derived.Test.YthoapmfpokohnaaV1
namespace Go.Proofs.YthoapmfpokohnaaW.PrintWords
end Go.Proofs.YthoapmfpokohnaaW.PrintWords
namespace Go.Proofs.YthoapmfpokohnaaW.PrintLast
end Go.Proofs.YthoapmfpokohnaaW.PrintLast
namespace Go.Proofs.YthoapmfpokohnaaW.PrintMore
end Go.Proofs.YthoapmfpokohnaaW.PrintMore
