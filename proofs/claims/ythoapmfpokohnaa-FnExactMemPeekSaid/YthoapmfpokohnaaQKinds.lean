/- The types of this seat's laws: what reads at such a type is of the print's kind. -/
import Derived.Test.YthoapmfpokohnaaQOpen
import Derived.Test.YthoapmfpokohnaaPf0
namespace Go.Proofs.Ythoapmfpokohnaa.P
open Go.RowKit Go.Proofs.YthoapmfpokohnaaW.PrintWords
set_option linter.unusedVariables false
set_option maxRecDepth 100000
def ok174 (x : S174) : Prop := (Q.okI .i64) x.f0 ∧ (Q.okI .i64) x.f1 ∧ Q.okB x.f2 ∧ Q.okB x.f3
theorem op174 : Q.Opens Try.prog 174 k174 ok174 :=
  Q.Opens.struct (fun a => ⟨a.1, a.2.1, a.2.2.1, a.2.2.2⟩) (fun _ => rfl) (fun _ h => h) Try.underlying174 (by kernel_rfl) (Q.OpensF.cons rfl rfl (Q.Opens.int Try.underlying3 (by kernel_rfl)) (Q.OpensF.cons rfl rfl (Q.Opens.int Try.underlying3 (by kernel_rfl)) (Q.OpensF.cons rfl rfl (Q.Opens.bool Try.underlying4 (by kernel_rfl)) (Q.OpensF.one rfl (Q.Opens.bool Try.underlying4 (by kernel_rfl))))))
def ok126 (x : S126) : Prop := Q.okB x.f0 ∧ (Q.okL 24 ok174) x.f1 ∧ (Q.okL 8 (Q.okI .i64)) x.f2 ∧ (Q.okL 16 Q.okS) x.f3
theorem op126 : Q.Opens Try.prog 126 k126 ok126 :=
  Q.Opens.struct (fun a => ⟨a.1, a.2.1, a.2.2.1, a.2.2.2⟩) (fun _ => rfl) (fun _ h => h) Try.underlying126 (by kernel_rfl) (Q.OpensF.cons rfl rfl (Q.Opens.bool Try.underlying4 (by kernel_rfl)) (Q.OpensF.cons rfl rfl (Q.Opens.slice (B := 24) Try.underlying124 (by kernel_rfl) (by kernel_rfl) op174) (Q.OpensF.cons rfl rfl (Q.Opens.slice (B := 8) Try.underlying35 (by kernel_rfl) (by kernel_rfl) (Q.Opens.int Try.underlying3 (by kernel_rfl))) (Q.OpensF.one rfl (Q.Opens.slice (B := 16) Try.underlying34 (by kernel_rfl) (by kernel_rfl) (Q.Opens.string Try.underlying9 (by kernel_rfl)))))))
def ok24 (x : S24) : Prop := (Q.okL 80 ok126) x.f0
theorem op24 : Q.Opens Try.prog 24 k24 ok24 :=
  Q.Opens.struct (fun a => ⟨a⟩) (fun _ => rfl) (fun _ h => h) Try.underlying24 (by kernel_rfl) (Q.OpensF.one rfl (Q.Opens.slice (B := 80) Try.underlying22 (by kernel_rfl) (by kernel_rfl) op126))
def ok37 (x : S37) : Prop := (Q.okL 16 Q.okS) x.f0 ∧ (Q.okL 8 (Q.okI .i64)) x.f1
theorem op37 : Q.Opens Try.prog 37 k37 ok37 :=
  Q.Opens.struct (fun a => ⟨a.1, a.2⟩) (fun _ => rfl) (fun _ h => h) Try.underlying37 (by kernel_rfl) (Q.OpensF.cons rfl rfl (Q.Opens.slice (B := 16) Try.underlying34 (by kernel_rfl) (by kernel_rfl) (Q.Opens.string Try.underlying9 (by kernel_rfl))) (Q.OpensF.one rfl (Q.Opens.slice (B := 8) Try.underlying35 (by kernel_rfl) (by kernel_rfl) (Q.Opens.int Try.underlying3 (by kernel_rfl)))))
def ok177 (x : S177) : Prop := (Q.okI .i64) x.f0 ∧ (Q.okI .i64) x.f1 ∧ Q.okB x.f2 ∧ Q.okB x.f3
theorem op177 : Q.Opens Try.prog 177 k177 ok177 :=
  Q.Opens.struct (fun a => ⟨a.1, a.2.1, a.2.2.1, a.2.2.2⟩) (fun _ => rfl) (fun _ h => h) Try.underlying177 (by kernel_rfl) (Q.OpensF.cons rfl rfl (Q.Opens.int Try.underlying3 (by kernel_rfl)) (Q.OpensF.cons rfl rfl (Q.Opens.int Try.underlying3 (by kernel_rfl)) (Q.OpensF.cons rfl rfl (Q.Opens.bool Try.underlying4 (by kernel_rfl)) (Q.OpensF.one rfl (Q.Opens.bool Try.underlying4 (by kernel_rfl))))))
def ok134 (x : S134) : Prop := Q.okB x.f0 ∧ (Q.okL 24 ok174) x.f1 ∧ (Q.okL 24 ok177) x.f2
theorem op134 : Q.Opens Try.prog 134 k134 ok134 :=
  Q.Opens.struct (fun a => ⟨a.1, a.2.1, a.2.2⟩) (fun _ => rfl) (fun _ h => h) Try.underlying134 (by kernel_rfl) (Q.OpensF.cons rfl rfl (Q.Opens.bool Try.underlying4 (by kernel_rfl)) (Q.OpensF.cons rfl rfl (Q.Opens.slice (B := 24) Try.underlying124 (by kernel_rfl) (by kernel_rfl) op174) (Q.OpensF.one rfl (Q.Opens.slice (B := 24) Try.underlying132 (by kernel_rfl) (by kernel_rfl) op177))))
def ok40 (x : S40) : Prop := ok37 x.f0 ∧ ok37 x.f1 ∧ (Q.okL 56 ok134) x.f2 ∧ (Q.okI .i64) x.f3
theorem op40 : Q.Opens Try.prog 40 k40 ok40 :=
  Q.Opens.struct (fun a => ⟨a.1, a.2.1, a.2.2.1, a.2.2.2⟩) (fun _ => rfl) (fun _ h => h) Try.underlying40 (by kernel_rfl) (Q.OpensF.cons rfl rfl op37 (Q.OpensF.cons rfl rfl op37 (Q.OpensF.cons rfl rfl (Q.Opens.slice (B := 56) Try.underlying38 (by kernel_rfl) (by kernel_rfl) op134) (Q.OpensF.one rfl (Q.Opens.int Try.underlying3 (by kernel_rfl))))))
end Go.Proofs.Ythoapmfpokohnaa.P
