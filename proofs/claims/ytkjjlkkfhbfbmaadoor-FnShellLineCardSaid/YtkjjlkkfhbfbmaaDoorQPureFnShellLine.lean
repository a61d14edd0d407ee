/- A line of the shell tells a valid call. -/
import Derived.Test.YtkjjlkkfhbfbmaaDoorQSFnShellLine
import Derived.Test.YtkjjlkkfhbfbmaaDoorQShell3
import Derived.Test.YtkjjlkkfhbfbmaaDoorQShellDraw
import Derived.Test.YtkjjlkkfhbfbmaaDoorQOpen
import Derived.Test.YtkjjlkkfhbfbmaaDoorPfM6
namespace Go.Proofs.YtkjjlkkfhbfbmaaDoor.QPure
open Go.RowKit Go.Proofs.YtkjjlkkfhbfbmaaDoorW.PrintWords Go.Proofs.YtkjjlkkfhbfbmaaDoorW.PrintLast Go.Proofs.YtkjjlkkfhbfbmaaDoorW.PrintMore Go.Proofs.YtkjjlkkfhbfbmaaDoor.P Go.Proofs.YtkjjlkkfhbfbmaaDoor.Q
set_option linter.unusedVariables false
theorem sp_at : ∀ (a b : List UInt8), (32 : UInt8) ∉ a → (a ++ 32 :: b).findIdx (fun b => b == 32) = a.length
  | [], b, _ => by simp [List.findIdx_cons]
  | x :: a, b, h => by
    have hx : ¬ x = 32 := fun e => h (by rw [e]; simp)
    rw [List.cons_append, List.findIdx_cons, beq_eq_false_iff_ne.2 hx, sp_at a b (fun hm => h (List.mem_cons_of_mem _ hm))]
    simp
theorem cut_sp {l : List UInt8} (h : 2 ≤ (cutS [] l).length) (hn : (cutS [] l).getD 0 [] ≠ []) : 0 < l.findIdx (fun b => b == 32) ∧ l.findIdx (fun b => b == 32) < l.length := by
  by_cases hm : (32 : UInt8) ∈ l
  · obtain ⟨a, b, rfl, ha⟩ := List.eq_append_cons_of_mem hm
    rw [cutS_at a b [] ha] at hn
    rw [sp_at a b ha]
    simp only [List.nil_append, List.getD_cons_zero] at hn
    have := List.length_pos_iff.2 hn
    simp
    omega
  · rw [cutS_no l [] hm] at h
    simp at h
theorem numR_nn (l : List UInt8) : 0 ≤ (numR l).1 := by
  unfold numR
  split
  · exact Int.natCast_nonneg _
  · exact Int.le_refl _
theorem FnShellLine : laws_FnShellLine.Pure := by
  intro l0 hl
  refine Ev.rounds (r := true) ?_
  unfold laws_FnShellLine.f
  by_cases h : l0.length ≤ 1048576
  rotate_left
  · exact Ev.neg h (Ev.now _)
  refine Ev.pos h ?_
  obtain ⟨s, es, hs⟩ := open_ev l0 hl.2.2 h
  obtain ⟨⟨line, q⟩, el, hz⟩ := line_ev s hs 0 (by decide) (by decide)
  simp only at hz
  have ed : Ev (fun k => spec_DrawShellLine.f k l0) line := by
    unfold spec_DrawShellLine.f
    exact Ev.bind (Ev.const es) (Ev.bind el (Ev.now _))
  obtain ⟨R, h1, h2, h3⟩ := shell line.data.toList (by rw [dlen]; omega)
  rw [Bs_eta] at h1 h2
  refine Ev.bind ed (Ev.bind h2 (Ev.bind h1 (Ev.pos ⟨rfl, rfl, rfl, rfl, rfl, rfl, rfl, rfl⟩ ?_)))
  obtain ⟨r1, r2, r3, r4, r5, r6, r7, r8⟩ := R
  unfold tup
  simp only at h3 ⊢
  cases r8 with
  | false => exact Ev.neg (by simp) (Ev.now _)
  | true =>
    obtain ⟨g1, g2, g3, g4⟩ := h3 rfl
    obtain ⟨c1, c2⟩ := cut_sp g1 (num_ne g2)
    have c0 := numR_nn ((cutS [] line.data.toList).getD 0 [])
    rw [← g3] at c0
    rw [dlen] at c2
    exact Ev.pos rfl (Ev.bind g4 (Ev.pos ⟨rfl, c1, c2, by omega, c0⟩ (Ev.now _)))
end Go.Proofs.YtkjjlkkfhbfbmaaDoor.QPure
