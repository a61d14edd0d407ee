/- AreasAt and its reference agree on every list and page. -/
import Derived.Test.YtlahnekinlkfmaaQSFnExactAreasAt
import Derived.Test.YtlahnekinlkfmaaQAreasEx
import Derived.Test.YtlahnekinlkfmaaQAreas2
namespace Go.Proofs.Ytlahnekinlkfmaa.QPure
open Go.RowKit Go.Proofs.YtlahnekinlkfmaaW.PrintWords Go.Proofs.Ytlahnekinlkfmaa.P Go.Proofs.Ytlahnekinlkfmaa.Q
theorem FnExactAreasAt : laws_FnExactAreasAt.Pure := by
  intro l p hl _
  refine Ev.rounds (r := true) ?_
  unfold laws_FnExactAreasAt.f
  have hn := hl.1
  refine Ev.bind (Ev.const (szAreaS_eq l hn _ (by decide) (by decide))) ?_
  by_cases hs : (1048576 : Int) - l.length < 0
  · rw [if_pos hs]
    exact Ev.pos (by decide) (Ev.pure rfl)
  · rw [if_neg hs]
    refine Ev.neg (by omega) ?_
    have hb : l.length ≤ 1048576 := by omega
    have hm : (l.map toA).length ≤ 9223372036854775807 := by simp; omega
    refine Ev.bind (toAreaS_ev l hb) (Ev.bind (specAt _ hm p) (Ev.bind (toAreaS_ev l hb) (Ev.bind (implAt _ hm p) ?_)))
    refine Ev.pos rfl (Ev.bind (toAreaS_ev l hb) (Ev.bind (eqAreaS_self _ hm) ?_))
    exact Ev.pos rfl (Ev.pure rfl)
end Go.Proofs.Ytlahnekinlkfmaa.QPure
