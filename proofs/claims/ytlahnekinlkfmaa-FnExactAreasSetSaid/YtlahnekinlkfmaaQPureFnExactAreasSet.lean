/- AreasSet and its reference agree on every list and all pages, and what is handed back shares nothing. -/
import Derived.Test.YtlahnekinlkfmaaQSFnExactAreasSet
import Derived.Test.YtlahnekinlkfmaaQAreasBigE
namespace Go.Proofs.Ytlahnekinlkfmaa.QPure
open Go.RowKit Go.Proofs.YtlahnekinlkfmaaW.PrintWords Go.Proofs.Ytlahnekinlkfmaa.P Go.Proofs.Ytlahnekinlkfmaa.Q
theorem FnExactAreasSet : laws_FnExactAreasSet.Pure := by
  intro l f m w hl _ _
  refine Ev.rounds (r := true) ?_
  unfold laws_FnExactAreasSet.f
  have hn := hl.1
  refine Ev.bind (Ev.const (szAreaS_eq l hn _ (by decide) (by decide))) ?_
  by_cases hs : (1048576 : Int) - l.length < 0
  · rw [if_pos hs]
    exact Ev.pos (by decide) (Ev.pure rfl)
  · rw [if_neg hs]
    refine Ev.neg (by omega) ?_
    have hb : l.length ≤ 1048576 := by omega
    have hm : (l.map toA).length ≤ 1048576 := by simpa using hb
    have hr := areasSet_len (l.map toA) f m w
    refine Ev.bind (toAreaS_ev l hb) (Ev.bind (specSet _ f m w hm) (Ev.bind (toAreaS_ev l hb) (Ev.bind (implSet _ f m w hm) (Ev.bind (eqAreaS_self _ (by omega)) ?_))))
    refine Ev.pos rfl ?_
    refine Ev.step (fun k => by simp only [laws_FnExactAreasSet.j0]; rfl) ?_
    refine Ev.neg (by simp) (Ev.bind (toAreaS_ev l hb) (Ev.bind (eqAreaS_self _ (by omega)) (Ev.pos rfl ?_)))
    obtain ⟨l1, e1, _, _⟩ := mark_held (l.map toA) 1 (by omega) (by omega)
    refine Ev.bind e1 (Ev.neg (by omega) (Ev.bind (eqAreaS_self _ (by omega)) (Ev.pos rfl ?_)))
    refine Ev.step (fun k => by simp only [laws_FnExactAreasSet.j1]; rfl) ?_
    obtain ⟨l2, e2, e3, _⟩ := mark_held (areasSet (l.map toA) f m w).1 1 (by omega) (by omega)
    refine Ev.neg (by simp) (Ev.bind e2 (Ev.bind e3 (Ev.neg (by omega) (Ev.pos rfl ?_))))
    refine Ev.bind (toAreaS_ev l hb) (Ev.bind (implSet _ f m w hm) (Ev.bind (eqAreaS_self _ (by omega)) (Ev.pos rfl ?_)))
    refine Ev.step (fun k => by simp only [laws_FnExactAreasSet.j2]; rfl) ?_
    exact Ev.neg (by simp) (Ev.bind e3 (Ev.neg (by omega) (Ev.pos rfl (Ev.pure rfl))))
end Go.Proofs.Ytlahnekinlkfmaa.QPure
