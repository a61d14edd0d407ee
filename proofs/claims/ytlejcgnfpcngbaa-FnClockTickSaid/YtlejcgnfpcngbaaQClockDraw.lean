/- Clocks, without Go and memory: how clocks are drawn. -/
import Derived.Test.YtlejcgnfpcngbaaQClockS2
import Derived.Test.YtlejcgnfpcngbaaQClockT2
import Derived.Test.YtlejcgnfpcngbaaQPick
import Derived.Test.YtlejcgnfpcngbaaPflawsqdClock
import Derived.Test.YtlejcgnfpcngbaaPfspecClockNew
import Derived.Test.YtlejcgnfpcngbaaPfspecl19Time
import Derived.Test.YtlejcgnfpcngbaaPfspecl6In
import Derived.Test.YtlejcgnfpcngbaaPfspecl6Open
import Derived.Test.YtlejcgnfpcngbaaPfspecl97Clock
namespace Go.Proofs.Ytlejcgnfpcngbaa.Q
open Go.RowKit Go.Proofs.YtlejcgnfpcngbaaW.PrintWords Go.Proofs.YtlejcgnfpcngbaaW.PrintLast Go.Proofs.YtlejcgnfpcngbaaW.PrintMore Go.Proofs.Ytlejcgnfpcngbaa.P
set_option linter.unusedVariables false
set_option linter.unusedSimpArgs false

/-- A drawn clock and where the reader stands then. -/
def Drawn (F : Nat → Option (Int × List Al × Int)) (p b : Int) : Prop :=
  ∃ (n : Int) (l : List Al) (q : Int), Ev F (n, l, q) ∧ (-1 ≤ n ∧ n ≤ 4200) ∧ l.length ≤ 13 ∧ p ≤ q ∧ q ≤ b
theorem clock_end (s : List Int) (hs : Bytes s) (n : Int) (l : List Al) (p : Int) (h0 : 0 ≤ n) (h1 : n ≤ 4095) (hl : l.length ≤ 12) (hp : 0 ≤ p) (hp' : p ≤ 900000) :
    Drawn (fun k => spec_l97Clock.l0 k 0 s p n l) p (p + 7) := by
  obtain ⟨v, e, lo, hi, _⟩ := pick_ev s hs p 24 hp (by omega) (by omega)
  by_cases h : v = 0
  · obtain ⟨u, eu, lu, hu, _⟩ := pick_ev s hs (p + 1) 4 (by omega) (by omega) (by omega)
    have hu' := hu (by omega)
    have hw : wrap64 (n + 9) = n + 9 := wrap_id (by omega) (by omega)
    refine ⟨rd [(-1), 4095, 4096, n + 9] u, l, p + 1 + 1, ?_, ?_, by omega, by omega, by omega⟩
    · refine Ev.step (fun k => by simp only [spec_l97Clock.l0]; rfl) (Ev.neg (by decide) (Ev.bind e (Ev.pos h ?_)))
      rw [hw]
      exact Ev.bind (Ev.now _) (Ev.bind eu (Ev.pos lu (Ev.pos (by simpa using hu') (Ev.pure rfl))))
    · have : u = 0 ∨ u = 1 ∨ u = 2 ∨ u = 3 := by omega
      rcases this with rfl | rfl | rfl | rfl
      · constructor <;> (simp [rd] <;> omega)
      · constructor <;> (simp [rd] <;> omega)
      · constructor <;> (simp [rd] <;> omega)
      · constructor <;> (simp [rd] <;> omega)
  by_cases h' : v = 1
  · obtain ⟨u, eu, lu, hu, _⟩ := pick_ev s hs (p + 1) 101 (by omega) (by omega) (by omega)
    obtain ⟨x, ex, lx, hx, _⟩ := pick_ev s hs (p + 1 + 1) 3 (by omega) (by omega) (by omega)
    obtain ⟨y, ey, ly, hy, _⟩ := pick_ev s hs (p + 1 + 1 + 1) 101 (by omega) (by omega) (by omega)
    have hx' := hx (by omega)
    refine ⟨n, l ++ [⟨u, rd [0, 4095, 4096] x, y⟩], p + 1 + 1 + 1 + 1, ?_, by omega, by simp; omega, by omega, by omega⟩
    refine Ev.step (fun k => by simp only [spec_l97Clock.l0]; rfl) (Ev.neg (by decide) (Ev.bind e (Ev.neg h (Ev.pos h' ?_))))
    exact Ev.bind eu (Ev.bind (Ev.now _) (Ev.bind ex (Ev.pos lx (Ev.pos (by simpa using hx') (Ev.bind ey (Ev.pos (by omega) (Ev.pure rfl)))))))
  · refine ⟨n, l, p + 1, ?_, by omega, by omega, by omega, by omega⟩
    exact Ev.step (fun k => by simp only [spec_l97Clock.l0]; rfl) (Ev.neg (by decide) (Ev.bind e (Ev.neg h (Ev.neg h' (Ev.pure rfl)))))
theorem set_small {n : Int} {l : List Al} {id ticks every : Int} (h : (clockSet n l id ticks every).2.2 = true) : (clockSet n l id ticks every).1 = n ∧ (clockSet n l id ticks every).2.1.length ≤ 12 := by
  have hs := set_ok h
  rw [hs.1]
  exact ⟨rfl, (clockOk_iff.1 hs.2.2.2.2.2.2).2.2⟩
theorem tick_small {n : Int} {l : List Al} {t : Int} (h : (clockTick n l t).2.2.2 = true) : 0 ≤ (clockTick n l t).1 ∧ (clockTick n l t).1 ≤ 4095 ∧ (clockTick n l t).2.1.length ≤ 12 := by
  obtain ⟨h1, h2, h3⟩ := tick_ok h
  obtain ⟨e, ok⟩ := tick_pos h1 h2.1 h2.2 h3
  rw [e]
  have hc := clockOk_iff.1 ok
  exact ⟨hc.2.1.1, hc.2.1.2, hc.2.2⟩
theorem clock_j (s : List Int) (hs : Bytes s) (m : Nat) (hm : m ≤ 100) (ih : ∀ (n : Int) (l : List Al) (p : Int), 0 ≤ n → n ≤ 4095 → l.length ≤ 12 → 0 ≤ p → p + 6 * m ≤ 800000 → Drawn (fun k => spec_l97Clock.l0 k (m : Int) s p n l) p (p + 6 * m + 7))
    (n : Int) (l : List Al) (p : Int) (h0 : 0 ≤ n) (h1 : n ≤ 4095) (hl : l.length ≤ 12) (hp : 0 ≤ p) (hp' : p + 2 + 6 * m ≤ 800000) : Drawn (fun k => spec_l97Clock.j1 k ((m + 1 : Nat) : Int) s p n l) p (p + 2 + 6 * m + 7) := by
  have hw : wrap64 (((m + 1 : Nat) : Int) - 1) = (m : Int) := by rw [wrap_id (by omega) (by omega)]; omega
  obtain ⟨v, e, lo, hi, _⟩ := pick_ev s hs p 4 hp (by omega) (by omega)
  by_cases h : v = 0
  · obtain ⟨u, eu, lu, hu, _⟩ := pick_ev s hs (p + 1) 20 (by omega) (by omega) (by omega)
    have hu' := hu (by omega)
    have ht := specTick n l u (by omega) (by omega) (by omega)
    by_cases hk : (clockTick n l u).2.2.2 = true
    · obtain ⟨g0, g1, g2⟩ := tick_small hk
      obtain ⟨a, b, c, ea, ha, hb, hc, hd⟩ := ih (clockTick n l u).1 (clockTick n l u).2.1 (p + 1 + 1) g0 g1 g2 (by omega) (by omega)
      refine ⟨a, b, c, ?_, ha, hb, by omega, by omega⟩
      refine Ev.step (fun k => by simp only [spec_l97Clock.j1]; rfl) (Ev.bind e (Ev.pos h (Ev.bind eu (Ev.bind ht (Ev.pos hk ?_)))))
      rw [hw]
      exact ea
    · obtain ⟨a, b, c, ea, ha, hb, hc, hd⟩ := ih n l (p + 1 + 1) h0 h1 hl (by omega) (by omega)
      refine ⟨a, b, c, ?_, ha, hb, by omega, by omega⟩
      refine Ev.step (fun k => by simp only [spec_l97Clock.j1]; rfl) (Ev.bind e (Ev.pos h (Ev.bind eu (Ev.bind ht (Ev.neg hk ?_)))))
      rw [hw]
      exact ea
  · obtain ⟨a, b, c, ea, ha, hb, hc, hd⟩ := ih n l (p + 1) h0 h1 hl (by omega) (by omega)
    refine ⟨a, b, c, ?_, ha, hb, by omega, by omega⟩
    refine Ev.step (fun k => by simp only [spec_l97Clock.j1]; rfl) (Ev.bind e (Ev.neg h ?_))
    rw [hw]
    exact ea
theorem clock_l (s : List Int) (hs : Bytes s) : ∀ (m : Nat), m ≤ 100 → ∀ (n : Int) (l : List Al) (p : Int), 0 ≤ n → n ≤ 4095 → l.length ≤ 12 → 0 ≤ p → p + 6 * m ≤ 800000 →
    Drawn (fun k => spec_l97Clock.l0 k (m : Int) s p n l) p (p + 6 * m + 7) := by
  intro m
  induction m with
  | zero =>
    intro _ n l p h0 h1 hl hp hp'
    have h := clock_end s hs n l p h0 h1 hl hp (by omega)
    obtain ⟨a, b, c, ea, ha, hb, hc, hd⟩ := h
    exact ⟨a, b, c, ea, ha, hb, hc, by omega⟩
  | succ m ih =>
    intro hm n l p h0 h1 hl hp hp'
    obtain ⟨v0, e0, l0, u0, _⟩ := pick_ev s hs p 12 hp (by omega) (by omega)
    obtain ⟨v1, e1, l1, u1, _⟩ := pick_ev s hs (p + 1) 60 (by omega) (by omega) (by omega)
    obtain ⟨v2, e2, l2, u2, _⟩ := pick_ev s hs (p + 1 + 1) 3 (by omega) (by omega) (by omega)
    obtain ⟨v3, e3, l3, u3, _⟩ := pick_ev s hs (p + 1 + 1 + 1) 40 (by omega) (by omega) (by omega)
    have hset := specSet n l v0 (wrap64 (1 + v1)) (wrap64 (v2 * v3)) (by omega) (by omega) ⟨wrap_lo _, wrap_hi _⟩
    by_cases hk : (clockSet n l v0 (wrap64 (1 + v1)) (wrap64 (v2 * v3))).2.2 = true
    · obtain ⟨g0, g1⟩ := set_small hk
      obtain ⟨a, b, c, ea, ha, hb, hc, hd⟩ := clock_j s hs m (by omega) (ih (by omega)) (clockSet n l v0 (wrap64 (1 + v1)) (wrap64 (v2 * v3))).1 (clockSet n l v0 (wrap64 (1 + v1)) (wrap64 (v2 * v3))).2.1 (p + 1 + 1 + 1 + 1) (by omega) (by omega) g1 (by omega) (by omega)
      refine ⟨a, b, c, ?_, ha, hb, by omega, by omega⟩
      refine Ev.step (fun k => by simp only [spec_l97Clock.l0]; rfl) (Ev.pos (by omega) (Ev.bind e0 (Ev.bind e1 (Ev.bind e2 (Ev.bind e3 (Ev.bind hset (Ev.pos hk ?_)))))))
      exact ea
    · obtain ⟨a, b, c, ea, ha, hb, hc, hd⟩ := clock_j s hs m (by omega) (ih (by omega)) n l (p + 1 + 1 + 1 + 1) h0 h1 hl (by omega) (by omega)
      refine ⟨a, b, c, ?_, ha, hb, by omega, by omega⟩
      refine Ev.step (fun k => by simp only [spec_l97Clock.l0]; rfl) (Ev.pos (by omega) (Ev.bind e0 (Ev.bind e1 (Ev.bind e2 (Ev.bind e3 (Ev.bind hset (Ev.neg hk ?_)))))))
      exact ea
theorem specNew (n : Int) : ∃ m b, spec_ClockNew.f n = some (m, [], b) ∧ 0 ≤ m ∧ m ≤ 4095 := by
  unfold spec_ClockNew.f spec_l19Time.f spec_l6In.f
  by_cases h : n ≥ 0
  · by_cases h' : n ≤ 4095
    · exact ⟨n, true, by simp [h, h'], h, h'⟩
    · exact ⟨0, false, by simp [h, h'], by omega, by omega⟩
  · exact ⟨0, false, by simp [h], by omega, by omega⟩
theorem clock_draw (s : List Int) (hs : Bytes s) (p : Int) (hp : 0 ≤ p) (hp' : p ≤ 700000) : Drawn (fun k => spec_l97Clock.f k s p) p (p + 100) := by
  obtain ⟨v, e, lo, hi, _⟩ := pick_ev s hs p 4 hp (by omega) (by omega)
  have hi' := hi (by omega)
  obtain ⟨n, b, en, hn0, hn1⟩ := specNew (rd [0, 100, 4000, 4090] v)
  obtain ⟨u, eu, lu, hu, _⟩ := pick_ev s hs (p + 1) 14 (by omega) (by omega) (by omega)
  have hu' := hu (by omega)
  obtain ⟨m, rfl⟩ := Int.eq_ofNat_of_zero_le lu
  obtain ⟨a, c, d, ea, ha, hb, hc, hd⟩ := clock_l s hs m (by omega) n [] (p + 1 + 1) hn0 hn1 (by simp) (by omega) (by omega)
  refine ⟨a, c, d, ?_, ha, hb, by omega, by omega⟩
  unfold spec_l97Clock.f
  exact Ev.bind (Ev.now _) (Ev.bind e (Ev.pos lo (Ev.pos (by simpa using hi') (Ev.bind (Ev.const en) (Ev.bind eu ea)))))
theorem qdClock_l (n : Int) : ∀ (rest pre : List Al), (pre ++ rest).length ≤ 9223372036854775807 → Ev (fun k => laws_qdClock.l0 k (pre.length : Int) n (pre ++ rest) n (pre ++ rest)) true := by
  intro rest
  induction rest with
  | nil =>
    intro pre hn
    exact Ev.step (fun k => by simp only [laws_qdClock.l0]; rfl) (Ev.neg (by simp) (Ev.pure rfl))
  | cons y rest ih =>
    intro pre hn
    have hlt : pre.length < (pre ++ y :: rest).length := by simp
    refine Ev.step (fun k => by simp only [laws_qdClock.l0]; rfl) ?_
    refine Ev.pos (by omega) (Ev.pos (by omega) (Ev.pos (by omega) (Ev.neg (by simp) ?_)))
    rw [lsucc_wrap hlt hn]
    have h := ih (pre ++ [y]) (by simp at hn ⊢; omega)
    simp only [List.append_assoc, List.cons_append, List.nil_append, List.length_append, List.length_cons, List.length_nil] at h
    exact h
theorem qdClock_self (n : Int) (l : List Al) (hn : l.length ≤ 9223372036854775807) : Ev (fun k => laws_qdClock.f k n l n l) true := by
  unfold laws_qdClock.f
  refine Ev.pos rfl (Ev.step (fun k => by simp only [laws_qdClock.j0]; rfl) (Ev.neg (by simp) ?_))
  exact qdClock_l n l [] hn
theorem clock_of {F : Nat → List Int → Option (Int × List Al)} (hF : ∀ k c, F k c = (spec_l6Open.f c).bind fun b => ((spec_l97Clock.f k b.1 b.2).bind fun d => (some (d.1, d.2.1)))) (c : List Int) (hw : ∀ x ∈ c, (Lit.int .u8 x).wf = true) (hl : c.length ≤ 1048576) :
    ∃ (n : Int) (l : List Al), Ev (fun k => F k c) (n, l) ∧ (-1 ≤ n ∧ n ≤ 4200) ∧ l.length ≤ 13 := by
  obtain ⟨s, es, hs⟩ := open_ev c hw hl
  obtain ⟨n, l, q, e, h1, h2, _⟩ := clock_draw s hs 0 (by omega) (by omega)
  refine ⟨n, l, ?_, h1, h2⟩
  simp only [hF]
  exact Ev.bind (Ev.const es) (Ev.bind e (Ev.now _))
end Go.Proofs.Ytlejcgnfpcngbaa.Q
