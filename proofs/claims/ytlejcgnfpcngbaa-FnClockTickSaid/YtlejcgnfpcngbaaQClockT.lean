/- Clocks: ticking. -/
import Derived.Test.YtlejcgnfpcngbaaQClockS
import Derived.Test.YtlejcgnfpcngbaaPfimplClockTick
namespace Go.Proofs.Ytlejcgnfpcngbaa.Q
open Go.RowKit Go.Proofs.YtlejcgnfpcngbaaW.PrintWords Go.Proofs.YtlejcgnfpcngbaaW.PrintLast Go.Proofs.YtlejcgnfpcngbaaW.PrintMore Go.Proofs.Ytlejcgnfpcngbaa.P
set_option linter.unusedVariables false
set_option linter.unusedSimpArgs false

theorem again_yes {a : Al} {l : List Al} (h1 : 0 < a.f2) (h2 : a.f1 + a.f2 ≤ 4095) : again a l = addA l ⟨a.f0, a.f1 + a.f2, a.f2⟩ := by unfold again; rw [if_pos ⟨h1, h2⟩]
theorem again_no {a : Al} {l : List Al} (h : ¬ (0 < a.f2 ∧ a.f1 + a.f2 ≤ 4095)) : again a l = l := by unfold again; rw [if_neg h]
theorem implTick_l (n t : Int) (hn : 0 ≤ n) (ht : t ≤ 4095) : ∀ l : List Al, ∀ rg : List Int, okSrt n l → l.length ≤ 12 → rg.length + mass l < 1000000000 →
    Ev (fun k => impl_ClockTick.l0 k t l rg) ((ring t l).1, rg ++ (ring t l).2) := by
  refine ring_ind ht ?_ ?_ ?_
  · intro rg _ _ _
    refine Ev.step (fun k => by simp only [impl_ClockTick.l0]; rfl) (Ev.pure ?_)
    rw [ring_nil]; simp
  · intro a l hlt rg _ _ _
    refine Ev.step (fun k => by simp only [impl_ClockTick.l0]; rfl) (Ev.neg (by omega) (Ev.pure ?_))
    rw [ring_stop hlt]; simp
  · intro a l hle ih rg hs hl hm
    have hma := mass_again (a := a) (l := l) (by omega)
    have hag := okSrt_again hs
    have ha := hs.2 a List.mem_cons_self
    have hw : wrap64 (a.f1 + a.f2) = a.f1 + a.f2 := wrap_id (by have := ha.2.1; have := ha.2.2; omega) (by have := ha.2.1; have := ha.2.2; omega)
    simp only [List.length_cons] at hl
    have hrl : (rg ++ [a.f0]).length = rg.length + 1 := by simp
    have h := ih (rg ++ [a.f0]) hag.1 (by omega) (by omega)
    rw [ring_step hle ht]
    have e : rg ++ [a.f0] ++ (ring t (again a l)).2 = rg ++ a.f0 :: (ring t (again a l)).2 := by simp
    rw [e] at h
    refine Ev.step (fun k => by simp only [impl_ClockTick.l0]; rfl) (Ev.pos hle (Ev.pos (by omega) ?_))
    rw [hw]
    by_cases h1 : 0 < a.f2
    · refine Ev.pos h1 ?_
      by_cases h2 : a.f1 + a.f2 ≤ 4095
      · refine Ev.pos h2 ?_
        rw [again_yes h1 h2] at h
        obtain ⟨m, b, e1, r1, r2⟩ := put_ev l ⟨a.f0, a.f1 + a.f2, a.f2⟩ hs.1.2 (by omega) (fun x hx => okN_of hs hn x (List.mem_cons_of_mem _ hx)) ⟨ha.1, by show 0 ≤ a.f1 + a.f2; have := ha.2.1; omega, h2⟩ (fun x hx => (hs.1.1 x hx).2)
        refine Ev.bind e1 (Ev.pos (by simp only; omega) ?_)
        simp only [Int.toNat_natCast]
        rw [r2]
        rw [again_yes h1 h2]
        exact h
      · refine Ev.neg h2 ?_
        rw [again_no (fun q => h2 q.2)] at h ⊢
        exact h
    · refine Ev.neg h1 ?_
      rw [again_no (fun q => h1 q.1)] at h ⊢
      exact h
theorem mass_le {l : List Al} (h : ∀ a ∈ l, 0 ≤ a.f1) : mass l ≤ l.length * 4096 := by
  induction l with
  | nil => simp [mass]
  | cons a l ih =>
    have h1 := ih (fun x hx => h x (List.mem_cons_of_mem _ hx))
    have h2 := h a List.mem_cons_self
    simp only [mass, List.map_cons, List.sum_cons, List.length_cons] at h1 ⊢
    omega
theorem tcan_iff {n : Int} {l : List Al} {ticks : Int} (ht : -9223372036854775808 ≤ ticks ∧ ticks ≤ 9223372036854775807) :
    impl_ClockTick.can n l ticks = true ↔ clockOk n l = true ∧ (0 ≤ ticks ∧ ticks ≤ 500) ∧ n + ticks ≤ 4095 := by
  unfold impl_ClockTick.can
  rw [okVal, inB_eq]
  simp only [Bool.and_eq_true, inR_iff, Bool.not_eq_true', decide_eq_false_iff_not]
  constructor
  · rintro ⟨h1, h2, h5⟩
    have hn := (clockOk_iff.1 h1).2.1
    rw [wrap_id (by omega) (by omega)] at h5
    exact ⟨h1, h2, by omega⟩
  · rintro ⟨h1, h2, h3⟩
    have hn := (clockOk_iff.1 h1).2.1
    rw [wrap_id (by omega) (by omega)]
    exact ⟨h1, h2, by omega⟩
theorem mass_ok {n : Int} {l : List Al} (h : okSrt n l) (hn : 0 ≤ n) (hl : l.length ≤ 12) : mass l ≤ 49152 := by
  have := mass_le (l := l) (fun a ha => by have := (h.2 a ha).2.1; omega)
  omega
theorem implTick (n : Int) (l : List Al) (ticks : Int) (ht : -9223372036854775808 ≤ ticks ∧ ticks ≤ 9223372036854775807) : Ev (fun k => impl_ClockTick.f k n l ticks) (clockTick n l ticks) := by
  unfold impl_ClockTick.f clockTick
  by_cases hc : impl_ClockTick.can n l ticks = true
  · obtain ⟨h1, h2, h3⟩ := (tcan_iff ht).1 hc
    obtain ⟨k1, k2, k3⟩ := clockOk_iff.1 h1
    refine Ev.pos hc ?_
    rw [if_pos ⟨h1, h2, h3⟩, wrap_id (n := n + ticks) (by omega) (by omega)]
    have := mass_ok k1 k2.1 k3
    exact Ev.bind (implTick_l n (n + ticks) k2.1 h3 l [] k1 k3 (by simp only [List.length_nil]; omega)) (Ev.pure (by simp))
  · exact Ev.neg hc (Ev.pure (by rw [if_neg (fun h => hc ((tcan_iff ht).2 h))]))
theorem ring_len {t : Int} (ht : t ≤ 4095) : ∀ l : List Al, (ring t l).2.length ≤ mass l := by
  refine ring_ind ht ?_ ?_ ?_
  · rw [ring_nil]; exact Nat.zero_le _
  · intro a l h; rw [ring_stop h]; exact Nat.zero_le _
  · intro a l h ih
    rw [ring_step h ht]
    have := mass_again (a := a) (l := l) (by omega)
    show (ring t (again a l)).2.length + 1 ≤ mass (a :: l)
    omega
theorem tick_len (n : Int) (l : List Al) (t : Int) : (clockTick n l t).2.1.length ≤ 12 ∧ (clockTick n l t).2.2.1.length ≤ 49152 := by
  unfold clockTick
  split
  · rename_i h
    obtain ⟨k1, k2, k3⟩ := clockOk_iff.1 h.1
    have h1 := ring_ok h.2.2 l k1
    have h2 := ring_len h.2.2 l
    have h3 := mass_ok k1 k2.1 k3
    exact ⟨by show (ring (n + t) l).1.length ≤ 12; omega, by show (ring (n + t) l).2.length ≤ 49152; omega⟩
  · exact ⟨Nat.zero_le _, Nat.zero_le _⟩
end Go.Proofs.Ytlejcgnfpcngbaa.Q
