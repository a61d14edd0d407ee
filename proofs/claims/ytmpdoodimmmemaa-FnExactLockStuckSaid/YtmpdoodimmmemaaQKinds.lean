/- The types of this seat's laws: what reads at such a type is of the print's kind. -/
import Derived.Test.YtmpdoodimmmemaaQOpen
import Derived.Test.YtmpdoodimmmemaaPf0
namespace Go.Proofs.Ytmpdoodimmmemaa.P
open Go.RowKit Go.Proofs.YtmpdoodimmmemaaW.PrintWords
set_option linter.unusedVariables false
def ok85 (x : S85) : Prop := (Q.okI .i64) x.f0 ∧ (Q.okI .i64) x.f1 ∧ (Q.okI .i64) x.f2 ∧ Q.okS x.f3
theorem op85 : Q.Opens Try.prog 85 k85 ok85 :=
  Q.Opens.struct (fun a => ⟨a.1, a.2.1, a.2.2.1, a.2.2.2⟩) (fun _ => rfl) (fun _ h => h) Try.underlying85 (by kernel_rfl) (Q.OpensF.cons rfl rfl (Q.Opens.int Try.underlying3 (by kernel_rfl)) (Q.OpensF.cons rfl rfl (Q.Opens.int Try.underlying3 (by kernel_rfl)) (Q.OpensF.cons rfl rfl (Q.Opens.int Try.underlying3 (by kernel_rfl)) (Q.OpensF.one rfl (Q.Opens.string Try.underlying9 (by kernel_rfl))))))
def ok50 (x : S50) : Prop := (Q.okI .i64) x.f0 ∧ (Q.okL 40 ok85) x.f1
theorem op50 : Q.Opens Try.prog 50 k50 ok50 :=
  Q.Opens.struct (fun a => ⟨a.1, a.2⟩) (fun _ => rfl) (fun _ h => h) Try.underlying50 (by kernel_rfl) (Q.OpensF.cons rfl rfl (Q.Opens.int Try.underlying3 (by kernel_rfl)) (Q.OpensF.one rfl (Q.Opens.slice (B := 40) Try.underlying48 (by kernel_rfl) (by kernel_rfl) op85)))
def ok74 (x : S74) : Prop := (Q.okI .i64) x.f0 ∧ (Q.okI .i64) x.f1 ∧ (Q.okI .i64) x.f2 ∧ Q.okB x.f3
theorem op74 : Q.Opens Try.prog 74 k74 ok74 :=
  Q.Opens.struct (fun a => ⟨a.1, a.2.1, a.2.2.1, a.2.2.2⟩) (fun _ => rfl) (fun _ h => h) Try.underlying74 (by kernel_rfl) (Q.OpensF.cons rfl rfl (Q.Opens.int Try.underlying3 (by kernel_rfl)) (Q.OpensF.cons rfl rfl (Q.Opens.int Try.underlying3 (by kernel_rfl)) (Q.OpensF.cons rfl rfl (Q.Opens.int Try.underlying3 (by kernel_rfl)) (Q.OpensF.one rfl (Q.Opens.bool Try.underlying4 (by kernel_rfl))))))
def ok32 (x : S32) : Prop := (Q.okI .i64) x.f0 ∧ (Q.okL 32 ok74) x.f1 ∧ (Q.okL 8 (Q.okI .i64)) x.f2
theorem op32 : Q.Opens Try.prog 32 k32 ok32 :=
  Q.Opens.struct (fun a => ⟨a.1, a.2.1, a.2.2⟩) (fun _ => rfl) (fun _ h => h) Try.underlying32 (by kernel_rfl) (Q.OpensF.cons rfl rfl (Q.Opens.int Try.underlying3 (by kernel_rfl)) (Q.OpensF.cons rfl rfl (Q.Opens.slice (B := 32) Try.underlying29 (by kernel_rfl) (by kernel_rfl) op74) (Q.OpensF.one rfl (Q.Opens.slice (B := 8) Try.underlying30 (by kernel_rfl) (by kernel_rfl) (Q.Opens.int Try.underlying3 (by kernel_rfl))))))
end Go.Proofs.Ytmpdoodimmmemaa.P
