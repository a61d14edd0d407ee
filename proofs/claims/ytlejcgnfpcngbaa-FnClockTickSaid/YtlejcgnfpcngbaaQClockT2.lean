/- Clocks: the reference's ticking. -/
import Derived.Test.YtlejcgnfpcngbaaQClockT
import Derived.Test.YtlejcgnfpcngbaaPfspecClockTick
namespace Go.Proofs.Ytlejcgnfpcngbaa.Q
open Go.RowKit Go.Proofs.YtlejcgnfpcngbaaW.PrintWords Go.Proofs.YtlejcgnfpcngbaaW.PrintLast Go.Proofs.YtlejcgnfpcngbaaW.PrintMore Go.Proofs.Ytlejcgnfpcngbaa.P
set_option linter.unusedVariables false
set_option linter.unusedSimpArgs false
theorem specTick_l (n t : Int) (hn : 0 ≤ n) (ht : t ≤ 4095) : ∀ l : List Al, ∀ rg : List Int, okSrt n l → l.length ≤ 12 → rg.length + mass l < 1000000000 →
    Ev (fun k => spec_ClockTick.l0 k t l rg) ((ring t l).1, rg ++ (ring t l).2) := by
  refine ring_ind ht ?_ ?_ ?_
  · intro rg _ _ _
    refine Ev.step (fun k => by simp only [spec_ClockTick.l0]; rfl) (Ev.pure ?_)
    rw [ring_nil]; simp
  · intro a l hlt rg _ _ _
    refine Ev.step (fun k => by simp only [spec_ClockTick.l0]; rfl) (Ev.neg (by omega) (Ev.pure ?_))
    rw [ring_stop hlt]; simp
  · intro a l hle ih rg hs hl hm
    have hma := mass_again (a := a) (l := l) (by omega)
    have hag := okSrt_again hs
    have ha := hs.2 a List.mem_cons_self
    have hw : wrap64 (a.f1 + a.f2) = a.f1 + a.f2 := wrap_id (by have := ha.2.1; have := ha.2.2; omega) (by have := ha.2.1; have := ha.2.2; omega)
    simp only [List.length_cons] at hl
    have hrl : (rg ++ [a.f0]).length = rg.length + 1 := by simp
    have h := ih (rg ++ [a.f0]) hag.1 (by omega) (by omega)
    rw [ring_step hle ht]
    have e : rg ++ [a.f0] ++ (ring t (again a l)).2 = rg ++ a.f0 :: (ring t (again a l)).2 := by simp
    rw [e] at h
    refine Ev.step (fun k => by simp only [spec_ClockTick.l0]; rfl) (Ev.pos hle (Ev.pos (by omega) (Ev.pos (by omega) ?_)))
    rw [hw]
    by_cases h1 : 0 < a.f2
    · refine Ev.pos h1 (Ev.bind (Ev.const (l19Time_eq _)) ?_)
      by_cases h2 : a.f1 + a.f2 ≤ 4095
      · have hr : inR (a.f1 + a.f2) 0 4095 = true := inR_iff.2 ⟨by have := ha.2.1; omega, h2⟩
        refine Ev.pos hr ?_
        rw [again_yes h1 h2] at h
        refine Ev.bind (l19Add_ev ⟨a.f0, a.f1 + a.f2, a.f2⟩ l (by omega)) ?_
        rw [again_yes h1 h2]
        exact h
      · have hr : ¬ inR (a.f1 + a.f2) 0 4095 = true := fun q => h2 (inR_iff.1 q).2
        refine Ev.neg hr ?_
        rw [again_no (fun q => h2 q.2)] at h ⊢
        exact h
    · refine Ev.neg h1 ?_
      rw [again_no (fun q => h1 q.1)] at h ⊢
      exact h
theorem specTick (n : Int) (l : List Al) (ticks : Int) (hl : l.length ≤ 900000000) (hn : -9223372036854775808 ≤ n ∧ n ≤ 9223372036854775807) (ht : -9223372036854775808 ≤ ticks ∧ ticks ≤ 9223372036854775807) : Ev (fun k => spec_ClockTick.f k n l ticks) (clockTick n l ticks) := by
  unfold spec_ClockTick.f clockTick
  refine Ev.bind (specClockOk n l (by omega)) ?_
  cases h0 : clockOk n l with
  | false => exact Ev.neg (by decide) (Ev.pure (by simp))
  | true =>
    obtain ⟨k1, k2, k3⟩ := clockOk_iff.1 h0
    refine Ev.pos (by trivial) (Ev.bind (Ev.const (l6In_eq ticks 0 500)) ?_)
    cases h1 : inR ticks 0 500 with
    | false => exact Ev.neg (by decide) (Ev.pure (by rw [if_neg (fun h => (inR_not.1 h1) h.2.1)]))
    | true =>
      have i1 := inR_iff.1 h1
      refine Ev.pos (by trivial) ?_
      rw [wrap_id (n := n + ticks) (by omega) (by omega)]
      refine Ev.bind (Ev.const (l19Time_eq _)) ?_
      cases h2 : inR (n + ticks) 0 4095 with
      | false => exact Ev.neg (by decide) (Ev.pure (by rw [if_neg (fun h => (inR_not.1 h2) ⟨by omega, h.2.2⟩)]))
      | true =>
        have i2 := inR_iff.1 h2
        refine Ev.pos (by trivial) (Ev.pos (by omega) ?_)
        rw [if_pos ⟨rfl, i1, i2.2⟩]
        have := mass_ok k1 k2.1 k3
        exact Ev.bind (specTick_l n (n + ticks) k2.1 i2.2 l [] k1 k3 (by simp only [List.length_nil]; omega)) (Ev.pure (by simp))
end Go.Proofs.Ytlejcgnfpcngbaa.Q
