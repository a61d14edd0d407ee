/- The pure side of FnAreasCut: what is cut is gone, and all else is there. -/
import Derived.Test.YtlahnekinlkfmaaPflawsFnAreasCut
import Derived.Test.YtlahnekinlkfmaaQAreasAttr
import Derived.Test.YtlahnekinlkfmaaPureFnAreasOrder
namespace Go.Proofs.Ytlahnekinlkfmaa.Pure
open Go.RowKit Go.Proofs.YtlahnekinlkfmaaW.PrintWords Go.Proofs.Ytlahnekinlkfmaa.P Go.Proofs.Ytlahnekinlkfmaa.Q
theorem cutPages_l (l x : List Ar) (f m : Int) (hl : areasOk l = true) (hx : areasOk x = true) (hc : areaOk ⟨f, m, false, false⟩ = true) (ex : x = cutL f (f + m) l) : ∀ (d : Nat) (p : Int), p + d = 16 → 0 ≤ p → Ev (fun k => laws_FnAreasCut.l0 k l f m x p) true := by
  have hc' := (areaOk_iff _).1 hc
  simp only at hc'
  have hw : wrap64 (f + m) = f + m := wrap_id (by omega) (by omega)
  have l1 := ((areasOk_iff l).1 hl).2
  have l2 := ((areasOk_iff x).1 hx).2
  intro d
  induction d with
  | zero =>
    intro p h0 h1
    refine Ev.step (fun k => by simp only [laws_FnAreasCut.l0]; rfl) ?_
    refine Ev.neg (by omega) (Ev.bind (implOk x (by omega)) (Ev.pure hx))
  | succ d ih =>
    intro p h0 h1
    refine Ev.step (fun k => by simp only [laws_FnAreasCut.l0]; rfl) ?_
    refine Ev.pos (by omega) (Ev.bind (implAt x (by omega) p) (Ev.bind (implAt l (by omega) p) ?_))
    rw [hw, wrap_id (n := p + 1) (by omega) (by omega)]
    have nx := ih (p + 1) (by omega) (by omega)
    have ha := attr_cut p f (f + m) (by omega) l
    rw [← ex] at ha
    have hatx := at_attr hx p
    have hatl := at_attr hl p
    by_cases c : f ≤ p ∧ p < f + m
    · rw [if_pos c] at ha
      rcases hatx with ⟨e1, _⟩ | ⟨i, _, _, e3⟩
      · rw [e1]
        exact Ev.pos c.1 (Ev.pos c.2 (Ev.neg (by decide) nx))
      · rw [ha] at e3; cases e3
    · rw [if_neg c] at ha
      have tail : Ev (fun k => if ((decide (areasAt x p ≥ 0)) != (decide (areasAt l p ≥ 0))) = true then (some false) else (if areasAt x p ≥ 0 then (if 0 ≤ areasAt x p then (if areasAt x p < (x.length : Int) then (if 0 ≤ areasAt l p then (if areasAt l p < (l.length : Int) then (if (((rd_T24 x (areasAt x p)).f2) != ((rd_T24 l (areasAt l p)).f2)) = true then (some false) else (if (((rd_T24 x (areasAt x p)).f3) != ((rd_T24 l (areasAt l p)).f3)) = true then (some false) else (laws_FnAreasCut.l0 k l f m x (p + 1)))) else (none)) else (none)) else (none)) else (none)) else (laws_FnAreasCut.l0 k l f m x (p + 1)))) true := by
        rcases hatx with ⟨e1, e2⟩ | ⟨i, e0, e1, e2⟩
        · rcases hatl with ⟨g1, g2⟩ | ⟨j, g0, g1, g2⟩
          · rw [e1, g1]
            exact Ev.neg (by decide) (Ev.neg (by decide) nx)
          · rw [← ha, e2] at g2; cases g2
        · rcases hatl with ⟨g1, g2⟩ | ⟨j, g0, g1, g2⟩
          · rw [← ha, e2] at g2; cases g2
          · rw [← ha, e2] at g2
            injection g2 with g2
            injection g2 with q1 q2
            rw [e1, g1, rd_at, rd_at]
            refine Ev.neg (by simp) (Ev.pos (by omega) (Ev.pos (by omega) (Ev.pos (by omega) (Ev.pos (by omega) (Ev.pos (by omega) ?_)))))
            exact Ev.neg (by simp [q1]) (Ev.neg (by simp [q2]) nx)
      by_cases c1 : f ≤ p
      · exact Ev.pos c1 (Ev.neg (by omega) tail)
      · exact Ev.neg c1 tail
theorem FnAreasCut : laws_FnAreasCut.Pure := by
  intro l _ _ hw
  refine Ev.rounds (r := true) ?_
  unfold laws_FnAreasCut.f
  by_cases h : (l.length : Int) > 1048576
  · exact Ev.pos h (Ev.pure rfl)
  refine Ev.neg h ?_
  obtain ⟨a, f, m, ea, ha⟩ := drawCut_ev l hw (by omega)
  have hr := areasCut_len a f m
  refine Ev.bind ea (Ev.bind (implCut a f m (by omega)) (Ev.bind (specCut a f m (by omega)) (Ev.bind (qdAreas_self _ (by omega)) (Ev.pos rfl ?_))))
  refine Ev.step (fun k => by simp only [laws_FnAreasCut.j0]; rfl) ?_
  refine Ev.pos (by simp) ?_
  refine Ev.step (fun k => by simp only [laws_FnAreasCut.j1]; rfl) ?_
  cases ho : (areasCut a f m).2 with
  | false => exact Ev.pos rfl (Ev.pure (by simp))
  | true =>
    refine Ev.neg (by decide) ?_
    obtain ⟨h1, h2, h3, h4⟩ := areasCut_ok ho
    exact cutPages_l a _ f m h1 h4 h2 h3 16 0 (by omega) (by omega)
end Go.Proofs.Ytlahnekinlkfmaa.Pure
