/- Nothing rings ahead of the next one. -/
import Derived.Test.YtlejcgnfpcngbaaPflawsFnClockNext
import Derived.Test.YtlejcgnfpcngbaaQClockN
import Derived.Test.YtlejcgnfpcngbaaQClockDraw
namespace Go.Proofs.Ytlejcgnfpcngbaa.Pure
open Go.RowKit Go.Proofs.YtlejcgnfpcngbaaW.PrintWords Go.Proofs.Ytlejcgnfpcngbaa.P Go.Proofs.Ytlejcgnfpcngbaa.Q
theorem next_j1 (n x4 x5 : Int) (l : List Al) : Ev (fun k => laws_FnClockNext.j1 k x4 x5 true true n l) true :=
  Ev.step (fun k => by simp only [laws_FnClockNext.j1]; rfl) (Ev.pos (by simp) (Ev.now _))
theorem next_j0 (n : Int) (l : List Al) : Ev (fun k => laws_FnClockNext.j0 k (clockNext n l).1 (clockNext n l).2.1 (clockNext n l).2.2 true n l) true := by
  refine Ev.step (fun k => by simp only [laws_FnClockNext.j0]; rfl) (Ev.pos (by simp) ?_)
  have no : ∀ x4 x5 : Int, Ev (fun k => laws_FnClockNext.j1 k x4 x5 true (!false) n l) true := fun x4 x5 => next_j1 n x4 x5 l
  cases hk : clockOk n l with
  | false =>
    have e : clockNext n l = (0, 0, false) := by unfold clockNext; rw [if_neg (by rw [hk]; simp)]
    rw [e]
    exact Ev.neg (by simp) (no _ _)
  | true =>
    cases l with
    | nil =>
      have e : clockNext n [] = (0, 0, false) := by unfold clockNext; rw [if_pos hk]
      rw [e]
      exact Ev.neg (by simp) (no _ _)
    | cons a l =>
      have hc := clockOk_iff.1 hk
      have ha := (hc.1.2 a (by simp)).2.1
      have e : clockNext n (a :: l) = (a.f1 - n, a.f0, true) := by
        unfold clockNext
        rw [if_pos hk]
        show (wrap64 (a.f1 - n), a.f0, true) = _
        rw [wrap_id (by omega) (by omega)]
      rw [e]
      refine Ev.pos rfl ?_
      by_cases h5 : a.f1 - n ≤ 500
      · have hd : (!(decide ((a.f1 - n, a.f0, true).1 ≤ 500))) = false := by simp [h5]
        rw [hd]
        refine Ev.step (fun k => by simp only [laws_FnClockNext.j1]; rfl) (Ev.neg (by simp) ?_)
        have w1 : wrap64 (a.f1 - n - 1) = a.f1 - n - 1 := wrap_id (by omega) (by omega)
        have t1 : clockTick n (a :: l) (a.f1 - n - 1) = (a.f1 - 1, a :: l, [], true) := by
          rw [(tick_pos hk (by omega) (by omega) (by omega)).1]
          have e0 : n + (a.f1 - n - 1) = a.f1 - 1 := by omega
          rw [e0, ring_stop (by omega)]
        have t2 : clockTick n (a :: l) (a.f1 - n) = (a.f1, (ring a.f1 (again a l)).1, a.f0 :: (ring a.f1 (again a l)).2, true) := by
          rw [(tick_pos hk (by omega) (by omega) (by omega)).1]
          have e0 : n + (a.f1 - n) = a.f1 := by omega
          rw [e0, ring_step (by omega) (by omega)]
        have i1 : Ev (fun k => impl_ClockTick.f k n (a :: l) (wrap64 (a.f1 - n - 1))) (a.f1 - 1, a :: l, [], true) := by
          rw [w1, ← t1]
          exact implTick n (a :: l) (a.f1 - n - 1) (by omega)
        have i2 : Ev (fun k => impl_ClockTick.f k n (a :: l) (a.f1 - n)) (a.f1, (ring a.f1 (again a l)).1, a.f0 :: (ring a.f1 (again a l)).2, true) := by
          rw [← t2]
          exact implTick n (a :: l) (a.f1 - n) (by omega)
        exact Ev.bind i1 (Ev.bind i2 (Ev.pos rfl (Ev.pos rfl (Ev.pos rfl (Ev.pos (by simp) (Ev.pos (by simp) (Ev.pure (by simp [rd]))))))))
      · have hd : (!(decide ((a.f1 - n, a.f0, true).1 ≤ 500))) = true := by simp [h5]
        rw [hd]
        exact next_j1 n _ _ (a :: l)
theorem FnClockNext : laws_FnClockNext.Pure := by
  intro c _ _ hw
  refine Ev.rounds (r := true) ?_
  unfold laws_FnClockNext.f
  by_cases h : (c.length : Int) > 1048576
  · exact Ev.pos h (Ev.pure rfl)
  refine Ev.neg h ?_
  obtain ⟨n, l, ed, hn, hl⟩ := clock_of (F := spec_DrawClockNext.f) (fun k c => by unfold spec_DrawClockNext.f; rfl) c hw (by omega)
  refine Ev.bind ed (Ev.bind (Ev.const (implNext n l)) (Ev.bind (specNext n l (by omega)) (Ev.pos rfl (Ev.pos rfl ?_))))
  rw [beq_self_eq_true]
  exact next_j0 n l
end Go.Proofs.Ytlejcgnfpcngbaa.Pure
