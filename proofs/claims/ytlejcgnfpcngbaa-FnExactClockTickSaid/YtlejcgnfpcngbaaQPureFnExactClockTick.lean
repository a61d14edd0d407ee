/- ClockTick and its reference agree on every clock and all numbers. -/
import Derived.Test.YtlejcgnfpcngbaaQSFnExactClockTick
import Derived.Test.YtlejcgnfpcngbaaQClockEx
import Derived.Test.YtlejcgnfpcngbaaQClockT2
import Derived.Test.YtlejcgnfpcngbaaQInts
namespace Go.Proofs.Ytlejcgnfpcngbaa.QPure
open Go.RowKit Go.Proofs.YtlejcgnfpcngbaaW.PrintWords Go.Proofs.Ytlejcgnfpcngbaa.P Go.Proofs.Ytlejcgnfpcngbaa.Q
theorem ring_len {t : Int} (ht : t ≤ 4095) : ∀ l : List Al, (ring t l).2.length ≤ mass l := by
  refine ring_ind ht ?_ ?_ ?_
  · rw [ring_nil]; exact Nat.zero_le _
  · intro a l h; rw [ring_stop h]; exact Nat.zero_le _
  · intro a l h ih
    rw [ring_step h ht]
    have := mass_again (a := a) (l := l) (by omega)
    show (ring t (again a l)).2.length + 1 ≤ mass (a :: l)
    omega
theorem tick_len (n : Int) (l : List Al) (t : Int) : (clockTick n l t).2.1.length ≤ 12 ∧ (clockTick n l t).2.2.1.length ≤ 49152 := by
  unfold clockTick
  split
  · rename_i h
    obtain ⟨k1, k2, k3⟩ := clockOk_iff.1 h.1
    have h1 := ring_ok h.2.2 l k1
    have h2 := ring_len h.2.2 l
    have h3 := mass_ok k1 k2.1 k3
    exact ⟨by show (ring (n + t) l).1.length ≤ 12; omega, by show (ring (n + t) l).2.length ≤ 49152; omega⟩
  · exact ⟨Nat.zero_le _, Nat.zero_le _⟩
theorem FnExactClockTick : laws_FnExactClockTick.Pure := by
  intro c l t hc hl hti
  refine Ev.rounds (r := true) ?_
  unfold laws_FnExactClockTick.f
  have hn := hl.1
  refine Ev.bind (Ev.const (szClock_eq c l hn _ (by decide) (by decide))) ?_
  by_cases hs : szR 1048576 l.length < 0
  · exact Ev.pos hs (Ev.pure rfl)
  · refine Ev.neg hs ?_
    have hb : l.length ≤ 1048576 := by
      unfold szR at hs
      split at hs <;> omega
    have hm : (l.map toAl).length ≤ 1048576 := by simp; omega
    have ht := toClock_ev c l hb
    obtain ⟨⟨r0, r1, r2, r3⟩, hr⟩ : ∃ r, clockTick c (l.map toAl) t = r := ⟨_, rfl⟩
    have hd := specTick c (l.map toAl) t (by omega) (okI64 hc) (okI64 hti)
    have hi := implTick c (l.map toAl) t (okI64 hti)
    have hlen := tick_len c (l.map toAl) t
    rw [hr] at hd hi hlen
    have hrl : r1.length ≤ 12 := hlen.1
    have hrg : r2.length ≤ 49152 := hlen.2
    refine Ev.bind ht (Ev.bind hd (Ev.bind ht (Ev.bind hi (Ev.bind (eqClock_self r0 r1 (by omega)) (Ev.pos rfl (Ev.bind (eqIntS_self r2 (by omega)) (Ev.pos rfl ?_)))))))
    refine Ev.step (fun k => by simp only [laws_FnExactClockTick.j0]; rfl) (Ev.neg (by simp) ?_)
    obtain ⟨x', hx1, hx2, hx3⟩ := markClock_held c (l.map toAl) 1 (by omega) (by omega)
    refine Ev.bind ht (Ev.bind (eqClock_self c _ (by omega)) (Ev.pos rfl (Ev.bind hx1 (Ev.neg (by simp only; omega) (Ev.bind (eqClock_self r0 r1 (by omega)) (Ev.pos rfl (Ev.bind (eqIntS_self r2 (by omega)) (Ev.pos rfl ?_))))))))
    refine Ev.step (fun k => by simp only [laws_FnExactClockTick.j1]; rfl) (Ev.neg (by simp) ?_)
    obtain ⟨g', hg1, hg2, hg3⟩ := markClock_held r0 r1 1 (by omega) (by omega)
    obtain ⟨i', hi1, hi2, hi3⟩ := markIntS_held r2 (1 + 3 * r1.length) (by omega) (by omega)
    refine Ev.bind hg1 (Ev.bind hi1 (Ev.bind hg2 (Ev.neg (by omega) (Ev.bind hi2 (Ev.neg (by omega) (Ev.pos rfl (Ev.bind ht (Ev.bind hi (Ev.bind (eqClock_self r0 r1 (by omega)) (Ev.pos rfl (Ev.bind (eqIntS_self r2 (by omega)) (Ev.pos rfl ?_))))))))))))
    refine Ev.step (fun k => by simp only [laws_FnExactClockTick.j2]; rfl) (Ev.neg (by simp) ?_)
    exact Ev.bind hg2 (Ev.neg (by omega) (Ev.bind hi2 (Ev.neg (by omega) (Ev.pos rfl (Ev.pure rfl)))))
end Go.Proofs.Ytlejcgnfpcngbaa.QPure
