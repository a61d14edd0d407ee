/- What is set rings in time. -/
import Derived.Test.YtlejcgnfpcngbaaPflawsFnClockSet
import Derived.Test.YtlejcgnfpcngbaaQClockDrawSet
namespace Go.Proofs.Ytlejcgnfpcngbaa.Pure
open Go.RowKit Go.Proofs.YtlejcgnfpcngbaaW.PrintWords Go.Proofs.Ytlejcgnfpcngbaa.P Go.Proofs.Ytlejcgnfpcngbaa.Q
theorem set_l1 (id n : Int) (l : List Al) (all : List Int) (hn : all.length ≤ 9223372036854775807) (hc : clockOk n l = true) : ∀ (rest pre : List Int) (b : Bool), all = pre ++ rest → (b = true ∨ id ∈ rest) →
    Ev (fun k => laws_FnClockSet.l1 k id true all true false b (pre.length : Int) n l) true := by
  intro rest
  induction rest with
  | nil =>
    intro pre b hall hb
    have hb' : b = true := by simpa using hb
    refine Ev.step (fun k => by simp only [laws_FnClockSet.l1]; rfl) (Ev.neg (by rw [hall]; simp) (Ev.bind (Ev.const (implClockOk n l)) (Ev.pos hc ?_)))
    exact Ev.pos (by trivial) (Ev.pos (by trivial) (Ev.neg (by simp) (Ev.pure hb')))
  | cons y rest ih =>
    intro pre b hall hb
    have hlt : pre.length < all.length := by rw [hall]; simp
    have hx := lsucc_wrap hlt hn
    have hr : rd all (pre.length : Int) = y := by
      rw [hall]
      unfold rd
      rw [Int.toNat_natCast]
      exact lgetD_prefix _ _ _ _
    have hlen : ((pre ++ [y]).length : Int) = ((pre.length + 1 : Nat) : Int) := by simp
    refine Ev.step (fun k => by simp only [laws_FnClockSet.l1]; rfl) (Ev.pos (by omega) ?_)
    cases b with
    | true =>
      have h := ih (pre ++ [y]) true (by simp [hall]) (.inl rfl)
      refine Ev.pos (by trivial) ?_
      rw [hx, ← hlen]
      exact h
    | false =>
      have hm : id ∈ y :: rest := by simpa using hb
      have h := ih (pre ++ [y]) (y == id) (by simp [hall]) (by
        rcases List.mem_cons.1 hm with rfl | hm
        · exact .inl (by simp)
        · exact .inr hm)
      refine Ev.neg (by simp) (Ev.pos (by omega) ?_)
      rw [hx, hr, ← hlen]
      exact h
theorem set_l0 (id n : Int) (l : List Al) (all more : List Int) (hn : all.length ≤ 9223372036854775807) (hno : id ∉ all) (hin : Ev (fun k => laws_FnClockSet.l1 k id true more true false false 0 n l) true) : ∀ (rest pre : List Int), all = pre ++ rest →
    Ev (fun k => laws_FnClockSet.l0 k id all true more true false (pre.length : Int) n l) true := by
  intro rest
  induction rest with
  | nil =>
    intro pre hall
    exact Ev.step (fun k => by simp only [laws_FnClockSet.l0]; rfl) (Ev.neg (by rw [hall]; simp) hin)
  | cons y rest ih =>
    intro pre hall
    have hlt : pre.length < all.length := by rw [hall]; simp
    have hx := lsucc_wrap hlt hn
    have hr : rd all (pre.length : Int) = y := by
      rw [hall]
      unfold rd
      rw [Int.toNat_natCast]
      exact lgetD_prefix _ _ _ _
    have hlen : ((pre ++ [y]).length : Int) = ((pre.length + 1 : Nat) : Int) := by simp
    have hy : (y == id) = false := by
      have : y ≠ id := fun e => hno (by rw [hall, e]; simp)
      simpa using this
    have h := ih (pre ++ [y]) (by simp [hall])
    refine Ev.step (fun k => by simp only [laws_FnClockSet.l0]; rfl) (Ev.pos (by omega) (Ev.neg (by simp) (Ev.pos (by omega) ?_)))
    rw [hx, hr, hy, ← hlen]
    exact h
theorem set_j1 (n id t e : Int) (l : List Al) (h : (clockSet n l id t e).2.2 = true) :
    Ev (fun k => laws_FnClockSet.j1 k id t true (!(clockSet n l id t e).2.2) (clockSet n l id t e).1 (clockSet n l id t e).2.1) true := by
  obtain ⟨es, c0, hid, ht, hev, hless, hok⟩ := set_ok h
  have hc := clockOk_iff.1 hok
  have hn := (clockOk_iff.1 c0).2.1
  rw [h]
  refine Ev.step (fun k => by simp only [laws_FnClockSet.j1]; rfl) (Ev.neg (by simp) ?_)
  rw [es]
  by_cases h5 : t > 500
  · exact Ev.pos h5 (Ev.bind (Ev.const (implClockOk _ _)) (Ev.pure hok))
  refine Ev.neg h5 ?_
  have w1 : wrap64 (t - 1) = t - 1 := wrap_id (by omega) (by omega)
  rw [w1]
  have hmem : (⟨id, n + t, e⟩ : Al) ∈ addA (lessA l id) ⟨id, n + t, e⟩ := mem_addA.2 (.inl rfl)
  have t1 := (tick_pos (ticks := t - 1) hok (by omega) (by omega) (by omega)).1
  have t2 := (tick_pos (ticks := t) hok (by omega) (by omega) (by omega)).1
  have i1 := implTick n (addA (lessA l id) ⟨id, n + t, e⟩) (t - 1) (by omega)
  have i2 := implTick n (addA (lessA l id) ⟨id, n + t, e⟩) t (by omega)
  have n1 := (tick_len n (addA (lessA l id) ⟨id, n + t, e⟩) (t - 1)).2
  have n2 := (tick_len n (addA (lessA l id) ⟨id, n + t, e⟩) t).2
  rw [t1] at i1 n1
  rw [t2] at i2 n2
  have n1' : (ring (n + (t - 1)) (addA (lessA l id) ⟨id, n + t, e⟩)).2.length ≤ 49152 := n1
  have n2' : (ring (n + t) (addA (lessA l id) ⟨id, n + t, e⟩)).2.length ≤ 49152 := n2
  refine Ev.bind i1 (Ev.bind i2 ?_)
  have hno := (ring_not (t := n + (t - 1)) (by omega) _ (by show n + (t - 1) < n + t; omega) _ hc.1.1 hmem).1
  have hin := ring_does (t := n + t) (by omega) _ (by show n + t ≤ n + t; omega) _ hc.1.1 hmem
  exact set_l0 id n _ (ring (n + (t - 1)) (addA (lessA l id) ⟨id, n + t, e⟩)).2 (ring (n + t) (addA (lessA l id) ⟨id, n + t, e⟩)).2 (by omega) hno (set_l1 id n _ (ring (n + t) (addA (lessA l id) ⟨id, n + t, e⟩)).2 (by omega) hok _ [] false rfl (.inr hin)) _ [] rfl
theorem FnClockSet : laws_FnClockSet.Pure := by
  intro c _ _ hw
  refine Ev.rounds (r := true) ?_
  unfold laws_FnClockSet.f
  by_cases h : (c.length : Int) > 1048576
  · exact Ev.pos h (Ev.pure rfl)
  refine Ev.neg h ?_
  obtain ⟨n, l, id, t, e, ed, hn, hl, ht⟩ := set_of c hw (by omega)
  refine Ev.bind ed (Ev.bind (implSet n l id t e (by omega)) (Ev.bind (specSet n l id t e (by omega) (by omega) (by omega)) ?_))
  have hlen : (clockSet n l id t e).2.1.length ≤ 12 := by
    by_cases hk : (clockSet n l id t e).2.2 = true
    · exact (set_small hk).2
    · unfold clockSet
      split
      · rename_i hc
        exact absurd (by unfold clockSet; rw [if_pos hc]) hk
      · exact Nat.zero_le _
  refine Ev.bind (qdClock_self _ _ (by omega)) (Ev.pos rfl ?_)
  rw [beq_self_eq_true]
  refine Ev.step (fun k => by simp only [laws_FnClockSet.j0]; rfl) (Ev.pos (by simp) ?_)
  by_cases hk : (clockSet n l id t e).2.2 = true
  · exact set_j1 n id t e l hk
  · have e' : (!(clockSet n l id t e).2.2) = true := by simpa using hk
    show Ev (fun k => laws_FnClockSet.j1 k id t true (!(clockSet n l id t e).2.2) (clockSet n l id t e).1 (clockSet n l id t e).2.1) true
    rw [e']
    exact Ev.step (fun k => by simp only [laws_FnClockSet.j1]; rfl) (Ev.pos (by simp) (Ev.now _))
end Go.Proofs.Ytlejcgnfpcngbaa.Pure
