/- The types of this seat's laws: what reads at such a type is of the print's kind. -/
import Derived.Test.YtlahnekinlkfmaaQOpen
import Derived.Test.YtlahnekinlkfmaaPf0
namespace Go.Proofs.Ytlahnekinlkfmaa.P
open Go.RowKit Go.Proofs.YtlahnekinlkfmaaW.PrintWords
set_option linter.unusedVariables false
def ok47 (x : S47) : Prop := (Q.okI .i64) x.f0 ∧ (Q.okI .i64) x.f1 ∧ Q.okB x.f2 ∧ Q.okB x.f3
theorem op47 : Q.Opens Try.prog 47 k47 ok47 :=
  Q.Opens.struct (fun a => ⟨a.1, a.2.1, a.2.2.1, a.2.2.2⟩) (fun _ => rfl) (fun _ h => h) Try.underlying47 (by kernel_rfl) (Q.OpensF.cons rfl rfl (Q.Opens.int Try.underlying3 (by kernel_rfl)) (Q.OpensF.cons rfl rfl (Q.Opens.int Try.underlying3 (by kernel_rfl)) (Q.OpensF.cons rfl rfl (Q.Opens.bool Try.underlying4 (by kernel_rfl)) (Q.OpensF.one rfl (Q.Opens.bool Try.underlying4 (by kernel_rfl))))))
end Go.Proofs.Ytlahnekinlkfmaa.P
