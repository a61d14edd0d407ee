/- The types of this seat's laws: what reads at such a type is of the print's kind. -/
import Derived.Test.YtmpdoodimmmemaaDoorQOpen
import Derived.Test.YtmpdoodimmmemaaDoorPf0
namespace Go.Proofs.YtmpdoodimmmemaaDoor.P
open Go.RowKit Go.Proofs.YtmpdoodimmmemaaDoorW.PrintWords
set_option linter.unusedVariables false
set_option maxRecDepth 100000
def ok23 (x : S23) : Prop := (Q.okI .i64) x.f0 ∧ (Q.okI .i64) x.f1 ∧ (Q.okI .i64) x.f2 ∧ Q.okS x.f3 ∧ Q.okS x.f4 ∧ Q.okS x.f5
theorem op23 : Q.Opens Tryd.prog 23 k23 ok23 :=
  Q.Opens.struct (fun a => ⟨a.1, a.2.1, a.2.2.1, a.2.2.2.1, a.2.2.2.2.1, a.2.2.2.2.2⟩) (fun _ => rfl) (fun _ h => h) Tryd.underlying23 (by kernel_rfl) (Q.OpensF.cons rfl rfl (Q.Opens.int Tryd.underlying3 (by kernel_rfl)) (Q.OpensF.cons rfl rfl (Q.Opens.int Tryd.underlying3 (by kernel_rfl)) (Q.OpensF.cons rfl rfl (Q.Opens.int Tryd.underlying3 (by kernel_rfl)) (Q.OpensF.cons rfl rfl (Q.Opens.string Tryd.underlying9 (by kernel_rfl)) (Q.OpensF.cons rfl rfl (Q.Opens.string Tryd.underlying9 (by kernel_rfl)) (Q.OpensF.one rfl (Q.Opens.string Tryd.underlying9 (by kernel_rfl))))))))
end Go.Proofs.YtmpdoodimmmemaaDoor.P
