/- Clocks, without Go and memory: how a clock and an alarm to set are drawn. -/
import Derived.Test.YtlejcgnfpcngbaaQClockDraw
import Derived.Test.YtlejcgnfpcngbaaPfspecDrawClockSet
namespace Go.Proofs.Ytlejcgnfpcngbaa.Q
open Go.RowKit Go.Proofs.YtlejcgnfpcngbaaW.PrintWords Go.Proofs.YtlejcgnfpcngbaaW.PrintLast Go.Proofs.YtlejcgnfpcngbaaW.PrintMore Go.Proofs.Ytlejcgnfpcngbaa.P
set_option linter.unusedVariables false
set_option linter.unusedSimpArgs false

theorem set_of (c : List Int) (hw : ∀ x ∈ c, (Lit.int .u8 x).wf = true) (hl : c.length ≤ 1048576) :
    ∃ (n : Int) (l : List Al) (id t e : Int), Ev (fun k => spec_DrawClockSet.f k c) (n, l, id, t, e) ∧ (-1 ≤ n ∧ n ≤ 4200) ∧ l.length ≤ 13 ∧ 0 ≤ t ∧ t ≤ 4095 := by
  obtain ⟨s, es, hs⟩ := open_ev c hw hl
  obtain ⟨n, l, q, e, h1, h2, hq0, hq1⟩ := clock_draw s hs 0 (by omega) (by omega)
  obtain ⟨v0, e0, l0, u0, _⟩ := pick_ev s hs q 13 (by omega) (by omega) (by omega)
  obtain ⟨v1, e1, l1, u1, _⟩ := pick_ev s hs (q + 1) 9 (by omega) (by omega) (by omega)
  obtain ⟨v2, e2, l2, u2, _⟩ := pick_ev s hs (q + 1 + 1) 60 (by omega) (by omega) (by omega)
  obtain ⟨v3, e3, l3, u3, _⟩ := pick_ev s hs (q + 1 + 1 + 1) 4 (by omega) (by omega) (by omega)
  obtain ⟨v4, e4, l4, u4, _⟩ := pick_ev s hs (q + 1 + 1 + 1 + 1) 3 (by omega) (by omega) (by omega)
  obtain ⟨v5, e5, l5, u5, _⟩ := pick_ev s hs (q + 1 + 1 + 1 + 1 + 1) 60 (by omega) (by omega) (by omega)
  have u2' := u2 (by omega)
  have u3' := u3 (by omega)
  refine ⟨n, l, wrap64 (v0 - (wrap64 (Int.tdiv v1 8))), rd [1, v2, 4095, 0] v3, wrap64 (v4 * v5), ?_, h1, h2, ?_⟩
  · unfold spec_DrawClockSet.f
    exact Ev.bind (Ev.const es) (Ev.bind e (Ev.bind e0 (Ev.bind e1 (Ev.bind e2 (Ev.bind (Ev.now _) (Ev.bind e3 (Ev.pos l3 (Ev.pos (by simpa using u3') (Ev.bind e4 (Ev.bind e5 (Ev.now _)))))))))))
  · have : v3 = 0 ∨ v3 = 1 ∨ v3 = 2 ∨ v3 = 3 := by omega
    rcases this with rfl | rfl | rfl | rfl
    · constructor <;> (simp [rd] <;> omega)
    · constructor <;> (simp [rd] <;> omega)
    · constructor <;> (simp [rd] <;> omega)
    · constructor <;> (simp [rd] <;> omega)
end Go.Proofs.Ytlejcgnfpcngbaa.Q
