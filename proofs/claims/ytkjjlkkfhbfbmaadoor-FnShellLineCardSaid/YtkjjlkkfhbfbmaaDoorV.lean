/- All words. -/
import Derived.Test.YtkjjlkkfhbfbmaaDoorV1
namespace Go.Proofs.YtkjjlkkfhbfbmaaDoorW.PrintWords
end Go.Proofs.YtkjjlkkfhbfbmaaDoorW.PrintWords
namespace Go.Proofs.YtkjjlkkfhbfbmaaDoorW.PrintLast
end Go.Proofs.YtkjjlkkfhbfbmaaDoorW.PrintLast
namespace Go.Proofs.YtkjjlkkfhbfbmaaDoorW.PrintMore
end Go.Proofs.YtkjjlkkfhbfbmaaDoorW.PrintMore
