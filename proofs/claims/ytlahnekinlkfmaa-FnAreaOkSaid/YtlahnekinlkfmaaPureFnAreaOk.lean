/- The pure side of FnAreaOk: a valid area can be alone. -/
import Derived.Test.YtlahnekinlkfmaaPflawsFnAreaOk
import Derived.Test.YtlahnekinlkfmaaQAreasDraw
namespace Go.Proofs.Ytlahnekinlkfmaa.Pure
open Go.RowKit Go.Proofs.YtlahnekinlkfmaaW.PrintWords Go.Proofs.Ytlahnekinlkfmaa.P Go.Proofs.Ytlahnekinlkfmaa.Q
theorem FnAreaOk : laws_FnAreaOk.Pure := by
  intro l _ _ hw
  refine Ev.rounds (r := true) ?_
  unfold laws_FnAreaOk.f
  by_cases h : (l.length : Int) > 1048576
  · exact Ev.pos h (Ev.pure rfl)
  · refine Ev.neg h ?_
    obtain ⟨s, es, hs⟩ := open_ev l hw (by omega)
    obtain ⟨a, p', ea, _, _⟩ := area_ev s hs 0 (by omega) (by omega)
    refine Ev.bind (a := (a.f0, a.f1, a.f2, a.f3)) (by unfold spec_DrawAreaOk.f; exact Ev.bind (Ev.const es) (Ev.bind ea (Ev.now _))) ?_
    refine Ev.bind (Ev.const (AreaOk_eq _ _ _ _)) (Ev.bind (Ev.const (specAreaOk_eq _ _ _ _)) (Ev.pos (by simp) (Ev.bind (implOk [a] (by simp)) (Ev.pure ?_))))
    have e : areasOk [a] = areaOk a := by
      rw [areasOk_eq]
      cases ha : areaOk a with
      | false => simp [vldA, ha]
      | true => simp [vldA, ha, ((areaOk_iff a).1 ha).1]
    rw [e]
    exact beq_self_eq_true (areaOk a)
end Go.Proofs.Ytlahnekinlkfmaa.Pure
