/- The types of this seat's laws: what reads at such a type is of the print's kind. -/
import Derived.Test.YtgjlbghjjjlhmaaQOpen
import Derived.Test.YtgjlbghjjjlhmaaPf0
namespace Go.Proofs.Ytgjlbghjjjlhmaa.P
open Go.RowKit Go.Proofs.YtgjlbghjjjlhmaaW.PrintWords
set_option linter.unusedVariables false
set_option maxRecDepth 100000
def ok36 (x : S36) : Prop := (Q.okI .i64) x.f0 ∧ (Q.okI .i64) x.f1 ∧ (Q.okI .i64) x.f2 ∧ Q.okB x.f3
theorem op36 : Q.Opens Try.prog 36 k36 ok36 :=
  Q.Opens.struct (fun a => ⟨a.1, a.2.1, a.2.2.1, a.2.2.2⟩) (fun _ => rfl) (fun _ h => h) Try.underlying36 (by kernel_rfl) (Q.OpensF.cons rfl rfl (Q.Opens.int Try.underlying3 (by kernel_rfl)) (Q.OpensF.cons rfl rfl (Q.Opens.int Try.underlying3 (by kernel_rfl)) (Q.OpensF.cons rfl rfl (Q.Opens.int Try.underlying3 (by kernel_rfl)) (Q.OpensF.one rfl (Q.Opens.bool Try.underlying4 (by kernel_rfl))))))
def ok24 (x : S24) : Prop := (Q.okL 32 ok36) x.f0 ∧ (Q.okL 32 ok36) x.f1
theorem op24 : Q.Opens Try.prog 24 k24 ok24 :=
  Q.Opens.struct (fun a => ⟨a.1, a.2⟩) (fun _ => rfl) (fun _ h => h) Try.underlying24 (by kernel_rfl) (Q.OpensF.cons rfl rfl (Q.Opens.slice (B := 32) Try.underlying22 (by kernel_rfl) (by kernel_rfl) op36) (Q.OpensF.one rfl (Q.Opens.slice (B := 32) Try.underlying22 (by kernel_rfl) (by kernel_rfl) op36)))
end Go.Proofs.Ytgjlbghjjjlhmaa.P
