/- The pure side of FnAreasOk: just valid areas have pages. -/
import Derived.Test.YtlahnekinlkfmaaPflawsFnAreasOk
import Derived.Test.YtlahnekinlkfmaaQAreasDraw
namespace Go.Proofs.Ytlahnekinlkfmaa.Pure
open Go.RowKit Go.Proofs.YtlahnekinlkfmaaW.PrintWords Go.Proofs.Ytlahnekinlkfmaa.P Go.Proofs.Ytlahnekinlkfmaa.Q
theorem FnAreasOk : laws_FnAreasOk.Pure := by
  intro l _ _ hw
  refine Ev.rounds (r := true) ?_
  unfold laws_FnAreasOk.f
  by_cases h : (l.length : Int) > 1048576
  · exact Ev.pos h (Ev.pure rfl)
  · refine Ev.neg h ?_
    obtain ⟨s, es, hs⟩ := open_ev l hw (by omega)
    obtain ⟨a, p', ea, hl, _, _⟩ := areas_ev s hs 0 (by omega) (by omega)
    refine Ev.bind (a := a) (by unfold spec_DrawAreasOk.f; exact Ev.bind (Ev.const es) (Ev.bind ea (Ev.now _))) ?_
    have hn : a.length ≤ 9223372036854775807 := by omega
    refine Ev.bind (implOk a hn) (Ev.bind (specOk a hn) (Ev.pos (by simp) (Ev.bind (implPages a hn) ?_)))
    unfold areasPages
    cases ho : areasOk a with
    | false => exact Ev.pos (by simp) (Ev.pure (by simp))
    | true =>
      have := sumA_ok ((areasOk_iff a).1 ho).1 (by omega)
      exact Ev.pos (by simp; omega) (Ev.pure (by simp; omega))
end Go.Proofs.Ytlahnekinlkfmaa.Pure
