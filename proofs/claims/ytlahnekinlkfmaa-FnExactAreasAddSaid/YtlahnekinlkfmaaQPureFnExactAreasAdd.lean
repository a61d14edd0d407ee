/- AreasAdd and its reference agree on every list and area, and what is handed back shares nothing. -/
import Derived.Test.YtlahnekinlkfmaaQSFnExactAreasAdd
import Derived.Test.YtlahnekinlkfmaaQAreasEx
import Derived.Test.YtlahnekinlkfmaaQAreasAdd
namespace Go.Proofs.Ytlahnekinlkfmaa.QPure
open Go.RowKit Go.Proofs.YtlahnekinlkfmaaW.PrintWords Go.Proofs.Ytlahnekinlkfmaa.P Go.Proofs.Ytlahnekinlkfmaa.Q
theorem FnExactAreasAdd : laws_FnExactAreasAdd.Pure := by
  intro l a b c d hl _ _
  refine Ev.rounds (r := true) ?_
  unfold laws_FnExactAreasAdd.f
  have hn := hl.1
  refine Ev.bind (Ev.const (szAreaS_eq l hn _ (by decide) (by decide))) ?_
  by_cases hs : (1048576 : Int) - l.length < 0
  · rw [if_pos hs]
    exact Ev.pos (by decide) (Ev.pure rfl)
  · rw [if_neg hs]
    refine Ev.neg (by omega) ?_
    have hb : l.length ≤ 1048576 := by omega
    have hm : (l.map toA).length ≤ 1048576 := by simpa using hb
    have hr := areasAdd_len (l.map toA) ⟨a, b, c, d⟩
    have ea : laws_toArea.f a b c d = some (a, b, c, d) := by unfold laws_toArea.f; rfl
    have hsp : Ev (fun k => spec_AreasAdd.f k (l.map toA) a b c d) (areasAdd (l.map toA) ⟨a, b, c, d⟩) := specAdd (l.map toA) ⟨a, b, c, d⟩ hm
    have him : Ev (fun k => impl_AreasAdd.f k (l.map toA) a b c d) (areasAdd (l.map toA) ⟨a, b, c, d⟩) := implAdd (l.map toA) ⟨a, b, c, d⟩ hm
    refine Ev.bind (toAreaS_ev l hb) (Ev.bind (Ev.const ea) (Ev.bind hsp (Ev.bind (toAreaS_ev l hb) (Ev.bind (Ev.const ea) (Ev.bind him (Ev.bind (eqAreaS_self _ (by omega)) ?_))))))
    refine Ev.pos rfl ?_
    refine Ev.step (fun k => by simp only [laws_FnExactAreasAdd.j0]; rfl) ?_
    refine Ev.neg (by simp) (Ev.bind (toAreaS_ev l hb) (Ev.bind (eqAreaS_self _ (by omega)) (Ev.pos rfl ?_)))
    obtain ⟨l1, e1, _, _⟩ := mark_held (l.map toA) 1 (by omega) (by omega)
    refine Ev.bind e1 (Ev.neg (by omega) (Ev.bind (eqAreaS_self _ (by omega)) (Ev.pos rfl ?_)))
    refine Ev.step (fun k => by simp only [laws_FnExactAreasAdd.j1]; rfl) ?_
    obtain ⟨l2, e2, e3, _⟩ := mark_held (areasAdd (l.map toA) ⟨a, b, c, d⟩).1 1 (by omega) (by omega)
    refine Ev.neg (by simp) (Ev.bind e2 (Ev.bind e3 (Ev.neg (by omega) (Ev.pos rfl ?_))))
    refine Ev.bind (toAreaS_ev l hb) (Ev.bind (Ev.const ea) (Ev.bind him (Ev.bind (eqAreaS_self _ (by omega)) (Ev.pos rfl ?_))))
    refine Ev.step (fun k => by simp only [laws_FnExactAreasAdd.j2]; rfl) ?_
    exact Ev.neg (by simp) (Ev.bind e3 (Ev.neg (by omega) (Ev.pos rfl (Ev.pure rfl))))
end Go.Proofs.Ytlahnekinlkfmaa.QPure
