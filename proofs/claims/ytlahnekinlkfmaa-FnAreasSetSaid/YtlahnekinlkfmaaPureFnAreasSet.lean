/- Just the pages that are set may be written otherwise. -/
import Derived.Test.YtlahnekinlkfmaaPflawsFnAreasSet
import Derived.Test.YtlahnekinlkfmaaQAreasBig
namespace Go.Proofs.Ytlahnekinlkfmaa.Pure
open Go.RowKit Go.Proofs.YtlahnekinlkfmaaW.PrintWords Go.Proofs.Ytlahnekinlkfmaa.P Go.Proofs.Ytlahnekinlkfmaa.Q
theorem setPages_l (l x : List Ar) (f m : Int) (w : Bool) (hl : areasOk l = true) (hx : areasOk x = true) (hc : areaOk ⟨f, m, false, false⟩ = true) (ex : x = setL l f (f + m) w) (hcov : ∀ q, f ≤ q → q < f + m → attr q l ≠ none) : ∀ (d : Nat) (p : Int), p + d = 16 → 0 ≤ p → Ev (fun k => laws_FnAreasSet.l0 k l f m w x p) true := by
  have hc' : 0 ≤ f ∧ f ≤ 15 ∧ 1 ≤ m ∧ m ≤ 16 - f := (areaOk_iff _).1 hc
  have hw : wrap64 (f + m) = f + m := wrap_id (by omega) (by omega)
  obtain ⟨v1, l1⟩ := (areasOk_iff l).1 hl
  have l2 := ((areasOk_iff x).1 hx).2
  intro d
  induction d with
  | zero =>
    intro p h0 h1
    refine Ev.step (fun k => by simp only [laws_FnAreasSet.l0]; rfl) ?_
    refine Ev.neg (by omega) (Ev.bind (implOk x (by omega)) ?_)
    rw [hx]
    refine Ev.pos rfl (Ev.bind (implPages x (by omega)) (Ev.bind (implPages l (by omega)) (Ev.pure ?_)))
    have hs : sumA x = sumA l := by rw [ex]; exact sum_setL (by omega) v1
    unfold areasPages
    rw [hx, hl, hs]
    simp
  | succ d ih =>
    intro p h0 h1
    refine Ev.step (fun k => by simp only [laws_FnAreasSet.l0]; rfl) ?_
    refine Ev.pos (by omega) (Ev.bind (implAt x (by omega) p) (Ev.bind (implAt l (by omega) p) ?_))
    rw [hw, wrap_id (n := p + 1) (by omega) (by omega)]
    have nx := ih (p + 1) (by omega) (by omega)
    have ha : attr p x = if f ≤ p ∧ p < f + m then (attr p l).map (fun s => (w, s.2)) else attr p l := by rw [ex]; exact attr_setL (by omega) v1
    have hatx := at_attr hx p
    have hatl := at_attr hl p
    by_cases c : f ≤ p ∧ p < f + m
    · rw [if_pos c] at ha
      rcases hatl with ⟨g1, g2⟩ | ⟨j, g0, g1, g2⟩
      · exact absurd g2 (hcov p c.1 c.2)
      · rw [g2] at ha
        rcases hatx with ⟨e1, e2⟩ | ⟨i, e0, e1, e2⟩
        · rw [e2] at ha; cases ha
        · rw [e2] at ha
          simp only [Option.map_some, Option.some.injEq, Prod.mk.injEq] at ha
          obtain ⟨q1, q2⟩ := ha
          rw [e1, g1, rd_at, rd_at]
          refine Ev.pos c.1 (Ev.neg (by simp) (Ev.pos c.2 (Ev.neg (by omega) (Ev.pos (by omega) (Ev.pos (by omega) (Ev.pos (by omega) (Ev.pos (by omega) (Ev.pos (by omega) ?_))))))))
          exact Ev.neg (by simp [q2]) (Ev.neg (by simp [q1]) nx)
    · rw [if_neg c] at ha
      have tail : Ev (fun k => if areasAt x p ≥ 0 then (if 0 ≤ areasAt x p then (if areasAt x p < (x.length : Int) then (if 0 ≤ areasAt l p then (if areasAt l p < (l.length : Int) then (if (((rd_T24 x (areasAt x p)).f3) != ((rd_T24 l (areasAt l p)).f3)) = true then (some false) else (if (((rd_T24 x (areasAt x p)).f2) != ((rd_T24 l (areasAt l p)).f2)) = true then (some false) else (laws_FnAreasSet.l0 k l f m w x (p + 1)))) else (none)) else (none)) else (none)) else (none)) else (laws_FnAreasSet.l0 k l f m w x (p + 1))) true ∧ ¬ ((decide (areasAt x p ≥ 0)) != (decide (areasAt l p ≥ 0))) = true := by
        rcases hatx with ⟨e1, e2⟩ | ⟨i, e0, e1, e2⟩
        · rcases hatl with ⟨g1, g2⟩ | ⟨j, g0, g1, g2⟩
          · rw [e1, g1]
            exact ⟨Ev.neg (by decide) nx, by decide⟩
          · rw [← ha, e2] at g2; cases g2
        · rcases hatl with ⟨g1, g2⟩ | ⟨j, g0, g1, g2⟩
          · rw [← ha, e2] at g2; cases g2
          · rw [← ha, e2] at g2
            injection g2 with g2
            injection g2 with q1 q2
            rw [e1, g1, rd_at, rd_at]
            refine ⟨Ev.pos (by omega) (Ev.pos (by omega) (Ev.pos (by omega) (Ev.pos (by omega) (Ev.pos (by omega) ?_)))), by simp⟩
            exact Ev.neg (by simp [q2]) (Ev.neg (by simp [q1]) nx)
      by_cases c1 : f ≤ p
      · exact Ev.pos c1 (Ev.neg tail.2 (Ev.neg (by omega) tail.1))
      · exact Ev.neg c1 (Ev.neg tail.2 tail.1)
theorem FnAreasSet : laws_FnAreasSet.Pure := by
  intro l _ _ hw
  refine Ev.rounds (r := true) ?_
  unfold laws_FnAreasSet.f
  by_cases h : (l.length : Int) > 1048576
  · exact Ev.pos h (Ev.pure rfl)
  refine Ev.neg h ?_
  obtain ⟨a, f, m, w, ea, ha⟩ := drawSet_ev l hw (by omega)
  have hr := areasSet_len a f m w
  refine Ev.bind ea (Ev.bind (implSet a f m w (by omega)) (Ev.bind (specSet a f m w (by omega)) (Ev.bind (qdAreas_self _ (by omega)) (Ev.pos rfl ?_))))
  refine Ev.step (fun k => by simp only [laws_FnAreasSet.j0]; rfl) ?_
  refine Ev.pos (by simp) ?_
  refine Ev.step (fun k => by simp only [laws_FnAreasSet.j1]; rfl) ?_
  cases ho : (areasSet a f m w).2 with
  | false => exact Ev.pos rfl (Ev.pure (by simp))
  | true =>
    refine Ev.neg (by decide) ?_
    obtain ⟨h1, h2, h3, h4, h5⟩ := areasSet_ok ho
    rw [h3]
    have hc' : 0 ≤ f ∧ f ≤ 15 ∧ 1 ≤ m ∧ m ≤ 16 - f := (areaOk_iff _).1 h2
    have hcov := (cov_all (e := f + m) ((areasOk_iff a).1 h1).1 (f := f) (by omega)).2
    have hm : f + m - f = m := by omega
    rw [hm] at hcov
    exact setPages_l a _ f m w h1 h4 h2 rfl (hcov.1 h5) 16 0 (by omega) (by omega)
end Go.Proofs.Ytlahnekinlkfmaa.Pure
