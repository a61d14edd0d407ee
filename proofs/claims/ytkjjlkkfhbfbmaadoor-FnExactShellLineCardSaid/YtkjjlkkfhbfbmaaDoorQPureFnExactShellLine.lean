/- A line of the shell is read as the reference reads it. -/
import Derived.Test.YtkjjlkkfhbfbmaaDoorQSFnExactShellLine
import Derived.Test.YtkjjlkkfhbfbmaaDoorQShell3
import Derived.Test.YtkjjlkkfhbfbmaaDoorPflawsFnExactShellLine
namespace Go.Proofs.YtkjjlkkfhbfbmaaDoor.QPure
open Go.RowKit Go.Proofs.YtkjjlkkfhbfbmaaDoorW.PrintWords Go.Proofs.YtkjjlkkfhbfbmaaDoorW.PrintLast Go.Proofs.YtkjjlkkfhbfbmaaDoorW.PrintMore Go.Proofs.YtkjjlkkfhbfbmaaDoor.P Go.Proofs.YtkjjlkkfhbfbmaaDoor.Q
theorem FnExactShellLine : laws_FnExactShellLine.Pure := by
  intro a0 _
  refine Ev.rounds (r := true) ?_
  unfold laws_FnExactShellLine.f
  by_cases h : a0.size ≤ 1048576
  · obtain ⟨R, h1, h2⟩ := shell a0.data.toList (by rw [dlen]; exact h)
    rw [Bs_eta] at h1 h2
    exact Ev.pos h (Ev.bind h1 (Ev.bind h2 (Ev.pos ⟨rfl, rfl, rfl, rfl, rfl, rfl, rfl, rfl⟩ (Ev.now _))))
  · exact Ev.neg h (Ev.now _)
end Go.Proofs.YtkjjlkkfhbfbmaaDoor.QPure
