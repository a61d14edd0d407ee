/- LockIn as its reference, and as who is in. -/
import Derived.Test.YtmpdoodimmmemaaPflawsFnLockIn
import Derived.Test.YtmpdoodimmmemaaQLockDraw
namespace Go.Proofs.Ytmpdoodimmmemaa.Pure
open Go.RowKit Go.Proofs.YtmpdoodimmmemaaW.PrintWords Go.Proofs.Ytmpdoodimmmemaa.P Go.Proofs.Ytmpdoodimmmemaa.Q
set_option linter.unusedVariables false
theorem law_l (z w : Int) (m : List Int) (l : List Th) (hn : l.length ≤ 1048576) : ∀ (rest pre : List Th) (n : Int), l = pre ++ rest → 0 ≤ n → n ≤ pre.length → Ev (fun k => laws_FnLockIn.l0 k z n (pre.length : Int) w l m) (countH n rest == z) := by
  intro rest
  induction rest with
  | nil =>
    intro pre n hl h0 h1
    refine Ev.step (fun k => by simp only [laws_FnLockIn.l0]; rfl) ?_
    exact Ev.neg (by rw [hl]; simp) (Ev.now _)
  | cons a rest ih =>
    intro pre n hl h0 h1
    have hlt : pre.length < l.length := by rw [hl]; simp
    have hr : rd_T45 l (pre.length : Int) = a := by rw [hl]; exact rdT_at _ _ _
    have hx : wrap64 ((pre.length : Int) + 1) = ((pre ++ [a]).length : Int) := by rw [wrap_id (by omega) (by omega)]; simp
    have hlen : ((pre ++ [a]).length : Int) = (pre.length : Int) + 1 := by simp
    refine Ev.step (fun k => by simp only [laws_FnLockIn.l0]; rfl) ?_
    refine Ev.pos (by omega) (Ev.pos (by omega) ?_)
    rw [hr, hx]
    unfold countH
    by_cases h4 : a.f0 = 4
    · rw [if_pos h4]
      refine Ev.pos h4 ?_
      rw [wrap_id (by omega) (by omega)]
      exact ih (pre ++ [a]) (n + 1) (by simp [hl]) (by omega) (by rw [hlen]; omega)
    · rw [if_neg h4]
      exact Ev.neg h4 (ih (pre ++ [a]) n (by simp [hl]) (by omega) (by rw [hlen]; omega))
theorem FnLockIn : laws_FnLockIn.Pure := by
  intro c _ _ hw
  refine Ev.rounds (r := true) ?_
  unfold laws_FnLockIn.f
  by_cases h : (c.length : Int) > 1048576
  · exact Ev.pos h (Ev.pure rfl)
  refine Ev.neg h ?_
  obtain ⟨s, es, hs⟩ := open_ev c hw (by omega)
  obtain ⟨w, l, m, q, e, h1, h2⟩ := lock_draw s hs
  have ed : Ev (fun k => spec_DrawLockIn.f k c) (w, l, m) := by
    unfold spec_DrawLockIn.f
    exact Ev.bind (Ev.const es) (Ev.bind e (Ev.now _))
  obtain ⟨i1, i2⟩ := lockIn_ev w l m (by omega) (by omega)
  have hz : ∀ z, (if lockOk w l m = true then countH 0 l else -1) = z → z ≥ 0 → z = countH 0 l := by
    intro z hz h0
    by_cases ho : lockOk w l m = true
    · rw [if_pos ho] at hz; exact hz.symm
    · rw [if_neg ho] at hz; omega
  generalize hzz : (if lockOk w l m = true then countH 0 l else -1) = z at i1 i2
  refine Ev.bind ed (Ev.bind i1 (Ev.bind i2 (Ev.pos rfl ?_)))
  refine Ev.step (fun k => by simp only [laws_FnLockIn.j0]; rfl) ?_
  by_cases h0 : z ≥ 0
  · refine Ev.neg (by rw [decide_eq_true h0]; simp) ?_
    have e1 := law_l z w m l (by omega) l [] 0 rfl (by omega) (by simp)
    have e2 : (countH 0 l == z) = true := by rw [beq_iff_eq]; exact (hz z hzz h0).symm
    rw [e2] at e1
    exact e1
  · exact Ev.pos (by rw [decide_eq_false h0]; rfl) (Ev.now _)
end Go.Proofs.Ytmpdoodimmmemaa.Pure
