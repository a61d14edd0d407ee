/- A new clock has no alarms. -/
import Derived.Test.YtlejcgnfpcngbaaPflawsFnClockNew
import Derived.Test.YtlejcgnfpcngbaaQClock
import Derived.Test.YtlejcgnfpcngbaaQPick
namespace Go.Proofs.Ytlejcgnfpcngbaa.Pure
open Go.RowKit Go.Proofs.YtlejcgnfpcngbaaW.PrintWords Go.Proofs.Ytlejcgnfpcngbaa.P Go.Proofs.Ytlejcgnfpcngbaa.Q
theorem drawClockNew (l : List Int) (hw : ∀ x ∈ l, (Lit.int .u8 x).wf = true) (hl : l.length ≤ 1048576) : ∃ t, Ev (fun k => spec_DrawClockNew.f k l) t := by
  obtain ⟨s, es, hs⟩ := open_ev l hw hl
  obtain ⟨v, ev, hv, _, _⟩ := pick_ev s hs 0 200 (by omega) (by omega) (by omega)
  obtain ⟨u, eu, hu, hu', _⟩ := pick_ev s hs 1 5 (by omega) (by omega) (by omega)
  refine ⟨rd ([0, v, 4095, 4096, -1] : List Int) u, ?_⟩
  unfold spec_DrawClockNew.f
  refine Ev.bind (Ev.const es) (Ev.bind ev (Ev.bind (Ev.now _) (Ev.bind eu (Ev.pos hu (Ev.pos ?_ (Ev.now _))))))
  have := hu' (by omega)
  simp
  omega
theorem clockNewBoth (n : Int) : (0 ≤ n ∧ n ≤ 4095 ∧ impl_ClockNew.f n = some (n, [], true) ∧ spec_ClockNew.f n = some (n, [], true)) ∨ (impl_ClockNew.f n = some (0, [], false) ∧ spec_ClockNew.f n = some (0, [], false)) := by
  unfold spec_ClockNew.f impl_ClockNew.f spec_l19Time.f spec_l6In.f impl_in.f
  by_cases h : n ≥ 0
  · by_cases h' : n ≤ 4095
    · exact .inl ⟨h, h', by simp [h, h'], by simp [h, h']⟩
    · exact .inr ⟨by simp [h, h'], by simp [h, h']⟩
  · exact .inr ⟨by simp [h], by simp [h]⟩
theorem qdNone (m : Int) : Ev (fun k => laws_qdClock.f k m [] m []) true := by
  unfold laws_qdClock.f
  refine Ev.pos rfl ?_
  refine Ev.step (fun k => by simp only [laws_qdClock.j0]; rfl) (Ev.neg (by simp) ?_)
  exact Ev.step (fun k => by simp only [laws_qdClock.l0]; rfl) (Ev.neg (by simp) (Ev.pure rfl))
theorem FnClockNew : laws_FnClockNew.Pure := by
  intro l _ _ hw
  refine Ev.rounds (r := true) ?_
  unfold laws_FnClockNew.f
  by_cases h : (l.length : Int) > 1048576
  · exact Ev.pos h (Ev.pure rfl)
  refine Ev.neg h ?_
  obtain ⟨n, en⟩ := drawClockNew l hw (by omega)
  refine Ev.bind en ?_
  rcases clockNewBoth n with ⟨h0, h1, hi, hs⟩ | ⟨hi, hs⟩
  · refine Ev.bind (Ev.const hi) (Ev.bind (Ev.const hs) (Ev.bind (qdNone n) (Ev.pos rfl ?_)))
    refine Ev.step (fun k => by simp only [laws_FnClockNew.j0]; rfl) (Ev.pos (by simp) ?_)
    refine Ev.step (fun k => by simp only [laws_FnClockNew.j1]; rfl) (Ev.neg (by simp) ?_)
    have hok : clockOk n [] = true := by unfold clockOk goodL; rw [inR_iff.2 ⟨h0, h1⟩]; rfl
    have hnx : clockNext n [] = (0, 0, false) := by unfold clockNext; rw [hok]; rfl
    refine Ev.bind (Ev.const (implNext n [])) (Ev.bind (Ev.const (implClockOk n [])) ?_)
    rw [hok, hnx]
    exact Ev.pos rfl (Ev.neg (by simp) (Ev.pure (by simp)))
  · refine Ev.bind (Ev.const hi) (Ev.bind (Ev.const hs) (Ev.bind (qdNone 0) (Ev.pos rfl ?_)))
    refine Ev.step (fun k => by simp only [laws_FnClockNew.j0]; rfl) (Ev.pos (by simp) ?_)
    exact Ev.step (fun k => by simp only [laws_FnClockNew.j1]; rfl) (Ev.pos (by simp) (Ev.pure rfl))
end Go.Proofs.Ytlejcgnfpcngbaa.Pure
