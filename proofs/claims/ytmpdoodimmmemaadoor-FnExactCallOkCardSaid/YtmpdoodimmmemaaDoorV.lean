/- All words. -/
import Derived.Test.YtmpdoodimmmemaaDoorV1
namespace Go.Proofs.YtmpdoodimmmemaaDoorW.PrintWords
end Go.Proofs.YtmpdoodimmmemaaDoorW.PrintWords
namespace Go.Proofs.YtmpdoodimmmemaaDoorW.PrintLast
end Go.Proofs.YtmpdoodimmmemaaDoorW.PrintLast
namespace Go.Proofs.YtmpdoodimmmemaaDoorW.PrintMore
end Go.Proofs.YtmpdoodimmmemaaDoorW.PrintMore
