/- An alarm that comes again every 'every' ticks rings 400/every times in 400 ticks. -/
import Derived.Test.YtlejcgnfpcngbaaPflawsFnClockOften
import Derived.Test.YtlejcgnfpcngbaaQClockT
import Derived.Test.YtlejcgnfpcngbaaQPick
namespace Go.Proofs.Ytlejcgnfpcngbaa.Pure
open Go.RowKit Go.Proofs.YtlejcgnfpcngbaaW.PrintWords Go.Proofs.Ytlejcgnfpcngbaa.P Go.Proofs.Ytlejcgnfpcngbaa.Q
theorem drawClockNew' (l : List Int) (hw : ∀ x ∈ l, (Lit.int .u8 x).wf = true) (hl : l.length ≤ 1048576) : ∃ t, Ev (fun k => spec_DrawClockNew.f k l) t := by
  obtain ⟨s, es, hs⟩ := open_ev l hw hl
  obtain ⟨v, ev, hv, _, _⟩ := pick_ev s hs 0 200 (by omega) (by omega) (by omega)
  obtain ⟨u, eu, hu, hu', _⟩ := pick_ev s hs 1 5 (by omega) (by omega) (by omega)
  refine ⟨rd ([0, v, 4095, 4096, -1] : List Int) u, ?_⟩
  unfold spec_DrawClockNew.f
  refine Ev.bind (Ev.const es) (Ev.bind ev (Ev.bind (Ev.now _) (Ev.bind eu (Ev.pos hu (Ev.pos ?_ (Ev.now _))))))
  have := hu' (by omega)
  simp
  omega
theorem clockNewBoth' (n : Int) : (0 ≤ n ∧ n ≤ 4095 ∧ impl_ClockNew.f n = some (n, [], true) ∧ spec_ClockNew.f n = some (n, [], true)) ∨ (impl_ClockNew.f n = some (0, [], false) ∧ spec_ClockNew.f n = some (0, [], false)) := by
  unfold spec_ClockNew.f impl_ClockNew.f spec_l19Time.f spec_l6In.f impl_in.f
  by_cases h : n ≥ 0
  · by_cases h' : n ≤ 4095
    · exact .inl ⟨h, h', by simp [h, h'], by simp [h, h']⟩
    · exact .inr ⟨by simp [h, h'], by simp [h, h']⟩
  · exact .inr ⟨by simp [h], by simp [h]⟩
theorem qdNone' (m : Int) : Ev (fun k => laws_qdClock.f k m [] m []) true := by
  unfold laws_qdClock.f
  refine Ev.pos rfl ?_
  refine Ev.step (fun k => by simp only [laws_qdClock.j0]; rfl) (Ev.neg (by simp) ?_)
  exact Ev.step (fun k => by simp only [laws_qdClock.l0]; rfl) (Ev.neg (by simp) (Ev.pure rfl))
theorem often_j1 (n e : Int) (l1 : List Int) (he : e = 1 + ((l1.length : Int) % 99)) (h0 : 0 ≤ n) (h1 : n ≤ 3000) : Ev (fun k => laws_FnClockOften.j1 k l1 true true false n [] n []) true := by
  have e1 : 1 ≤ e := by omega
  have e2 : e ≤ 99 := by omega
  refine Ev.step (fun k => by simp only [laws_FnClockOften.j1]; rfl) (Ev.neg (by simp) ?_)
  rw [← he]
  have hok : clockOk n [] = true := by unfold clockOk goodL; rw [inR_iff.2 ⟨h0, by omega⟩]; rfl
  have hset : clockSet n [] 7 e e = (n, [⟨7, n + e, e⟩], true) := by
    unfold clockSet
    rw [if_pos ⟨hok, by omega, by omega, by omega, by simp [lessA]⟩]
    rfl
  have hst : (clockSet n [] 7 e e).2.2 = true := by rw [hset]
  have hok2 : clockOk n [⟨7, n + e, e⟩] = true := by have := (set_ok hst).2.2.2.2.2.2; exact this
  have ht := (tick_pos (ticks := 400) hok2 (by omega) (by omega) (by omega)).1
  obtain ⟨u, r, hr, hlen⟩ := ring_often e e1 7 400 (n + e) (n + 400) (by omega) (by omega) (by omega)
  rw [if_pos (by omega)] at hlen
  have hdiv : (n + 400 - (n + e)) / e + 1 = 400 / e := by
    have h3 : n + 400 - (n + e) = 400 + (-1) * e := by omega
    rw [h3, Int.add_mul_ediv_right _ _ (by omega)]
    omega
  refine Ev.bind (implSet n [] 7 e e (by omega)) ?_
  rw [hset]
  refine Ev.bind (implTick n [⟨7, n + e, e⟩] 400 (by omega)) ?_
  rw [ht, hr]
  refine Ev.pos rfl (Ev.pos rfl (Ev.neg (by omega) (Ev.pos ?_ (Ev.pure rfl))))
  rw [hlen, hdiv]
theorem often_true (l1 : List Int) (a b : Bool) (m : Int) (hab : (a == b) = true) : Ev (fun k => laws_FnClockOften.j1 k l1 a b true m [] m []) true :=
  Ev.step (fun k => by simp only [laws_FnClockOften.j1]; rfl) (Ev.pos (by simp) (Ev.pos (by exact hab) (Ev.bind (qdNone' m) (Ev.now _))))
theorem FnClockOften : laws_FnClockOften.Pure := by
  intro l0 l1 _ _ hw _ _ _
  refine Ev.rounds (r := true) ?_
  unfold laws_FnClockOften.f
  have big : Ev (fun k => laws_FnClockOften.j0 k l0 l1 true) true := Ev.step (fun k => by simp only [laws_FnClockOften.j0]; rfl) (Ev.pos (by simp) (Ev.pure rfl))
  by_cases h : (l0.length : Int) > 1048576
  · exact Ev.pos h big
  refine Ev.neg h ?_
  by_cases h' : (l1.length : Int) > 1048576
  · rw [decide_eq_true h']
    exact big
  rw [decide_eq_false h']
  obtain ⟨n, en⟩ := drawClockNew' l0 hw (by omega)
  refine Ev.step (fun k => by simp only [laws_FnClockOften.j0]; rfl) (Ev.neg (by simp) (Ev.bind en ?_))
  rcases clockNewBoth' n with ⟨h0, h1, hi, hs⟩ | ⟨hi, hs⟩
  · refine Ev.bind (Ev.const hi) (Ev.bind (Ev.const hs) (Ev.neg (by simp) (Ev.bind (qdNone' n) (Ev.pos rfl (Ev.pos rfl ?_)))))
    by_cases hn : n > 3000
    · rw [decide_eq_true hn]
      exact often_true l1 true true n rfl
    · rw [decide_eq_false hn]
      exact often_j1 n _ l1 rfl h0 (by omega)
  · refine Ev.bind (Ev.const hi) (Ev.bind (Ev.const hs) (Ev.neg (by simp) (Ev.bind (qdNone' 0) (Ev.pos rfl (Ev.neg (by simp) ?_)))))
    exact often_true l1 false false 0 rfl
end Go.Proofs.Ytlejcgnfpcngbaa.Pure
