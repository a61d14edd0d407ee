/- The types of this seat's laws: what reads at such a type is of the print's kind. -/
import Derived.Test.YtlejcgnfpcngbaaQOpen
import Derived.Test.YtlejcgnfpcngbaaPf0
namespace Go.Proofs.Ytlejcgnfpcngbaa.P
open Go.RowKit Go.Proofs.YtlejcgnfpcngbaaW.PrintWords
set_option linter.unusedVariables false
def ok79 (x : S79) : Prop := (Q.okI .i64) x.f0 ∧ (Q.okI .i64) x.f1 ∧ (Q.okI .i64) x.f2
theorem op79 : Q.Opens Try.prog 79 k79 ok79 :=
  Q.Opens.struct (fun a => ⟨a.1, a.2.1, a.2.2⟩) (fun _ => rfl) (fun _ h => h) Try.underlying79 (by kernel_rfl) (Q.OpensF.cons rfl rfl (Q.Opens.int Try.underlying3 (by kernel_rfl)) (Q.OpensF.cons rfl rfl (Q.Opens.int Try.underlying3 (by kernel_rfl)) (Q.OpensF.one rfl (Q.Opens.int Try.underlying3 (by kernel_rfl)))))
def ok38 (x : S38) : Prop := (Q.okI .i64) x.f0 ∧ (Q.okL 24 ok79) x.f1
theorem op38 : Q.Opens Try.prog 38 k38 ok38 :=
  Q.Opens.struct (fun a => ⟨a.1, a.2⟩) (fun _ => rfl) (fun _ h => h) Try.underlying38 (by kernel_rfl) (Q.OpensF.cons rfl rfl (Q.Opens.int Try.underlying3 (by kernel_rfl)) (Q.OpensF.one rfl (Q.Opens.slice (B := 24) Try.underlying36 (by kernel_rfl) (by kernel_rfl) op79)))
end Go.Proofs.Ytlejcgnfpcngbaa.P
