/- AreasCut and its reference agree on every list and all pages, and what is handed back shares nothing. -/
import Derived.Test.YtlahnekinlkfmaaQSFnExactAreasCut
import Derived.Test.YtlahnekinlkfmaaQAreasEx
import Derived.Test.YtlahnekinlkfmaaQAreasCut
namespace Go.Proofs.Ytlahnekinlkfmaa.QPure
open Go.RowKit Go.Proofs.YtlahnekinlkfmaaW.PrintWords Go.Proofs.Ytlahnekinlkfmaa.P Go.Proofs.Ytlahnekinlkfmaa.Q
theorem FnExactAreasCut : laws_FnExactAreasCut.Pure := by
  intro l f m hl _ _
  refine Ev.rounds (r := true) ?_
  unfold laws_FnExactAreasCut.f
  have hn := hl.1
  refine Ev.bind (Ev.const (szAreaS_eq l hn _ (by decide) (by decide))) ?_
  by_cases hs : (1048576 : Int) - l.length < 0
  · rw [if_pos hs]
    exact Ev.pos (by decide) (Ev.pure rfl)
  · rw [if_neg hs]
    refine Ev.neg (by omega) ?_
    have hb : l.length ≤ 1048576 := by omega
    have hm : (l.map toA).length ≤ 1048576 := by simpa using hb
    have hr := areasCut_len (l.map toA) f m
    refine Ev.bind (toAreaS_ev l hb) (Ev.bind (specCut _ f m hm) (Ev.bind (toAreaS_ev l hb) (Ev.bind (implCut _ f m hm) (Ev.bind (eqAreaS_self _ (by omega)) ?_))))
    refine Ev.pos rfl ?_
    refine Ev.step (fun k => by simp only [laws_FnExactAreasCut.j0]; rfl) ?_
    refine Ev.neg (by simp) (Ev.bind (toAreaS_ev l hb) (Ev.bind (eqAreaS_self _ (by omega)) (Ev.pos rfl ?_)))
    obtain ⟨l1, e1, _, _⟩ := mark_held (l.map toA) 1 (by omega) (by omega)
    refine Ev.bind e1 (Ev.neg (by omega) (Ev.bind (eqAreaS_self _ (by omega)) (Ev.pos rfl ?_)))
    refine Ev.step (fun k => by simp only [laws_FnExactAreasCut.j1]; rfl) ?_
    obtain ⟨l2, e2, e3, _⟩ := mark_held (areasCut (l.map toA) f m).1 1 (by omega) (by omega)
    refine Ev.neg (by simp) (Ev.bind e2 (Ev.bind e3 (Ev.neg (by omega) (Ev.pos rfl ?_))))
    refine Ev.bind (toAreaS_ev l hb) (Ev.bind (implCut _ f m hm) (Ev.bind (eqAreaS_self _ (by omega)) (Ev.pos rfl ?_)))
    refine Ev.step (fun k => by simp only [laws_FnExactAreasCut.j2]; rfl) ?_
    exact Ev.neg (by simp) (Ev.bind e3 (Ev.neg (by omega) (Ev.pos rfl (Ev.pure rfl))))
end Go.Proofs.Ytlahnekinlkfmaa.QPure
