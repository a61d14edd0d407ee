/- Alarms may be set in any order. -/
import Derived.Test.YtlejcgnfpcngbaaPflawsFnClockOrder
import Derived.Test.YtlejcgnfpcngbaaQClockDrawSet
namespace Go.Proofs.Ytlejcgnfpcngbaa.Pure
open Go.RowKit Go.Proofs.YtlejcgnfpcngbaaW.PrintWords Go.Proofs.Ytlejcgnfpcngbaa.P Go.Proofs.Ytlejcgnfpcngbaa.Q
theorem set_len (n : Int) (l : List Al) (id t e : Int) : (clockSet n l id t e).2.1.length ≤ 12 := by
  by_cases hk : (clockSet n l id t e).2.2 = true
  · exact (set_small hk).2
  · unfold clockSet
    split
    · rename_i hc
      exact absurd (by unfold clockSet; rw [if_pos hc]) hk
    · exact Nat.zero_le _
theorem order_true (a b c d e f : Int) (n m : Int) (l r : List Al) (o : Bool) (hr : r.length ≤ 12) : Ev (fun k => laws_FnClockOrder.j1 k a b c d e f o o true n l m r m r) true :=
  Ev.step (fun k => by simp only [laws_FnClockOrder.j1]; rfl) (Ev.pos (by simp) (Ev.pos (by simp) (Ev.bind (qdClock_self m r (by omega)) (Ev.now _))))
theorem order_j1 (n id t e tw t' e' : Int) (l : List Al) (h : (clockSet n l id t e).2.2 = true) (hne : id ≠ tw) (ht : 0 ≤ t ∧ t ≤ 4095) (ht' : 0 ≤ t' ∧ t' ≤ 4095) :
    Ev (fun k => laws_FnClockOrder.j1 k id t e tw t' e' true true false n l (clockSet n l id t e).1 (clockSet n l id t e).2.1 (clockSet n l id t e).1 (clockSet n l id t e).2.1) true := by
  obtain ⟨es, c0, hid, htt, hev, hless, hok⟩ := set_ok h
  rw [es]
  refine Ev.step (fun k => by simp only [laws_FnClockOrder.j1]; rfl) (Ev.neg (by simp) ?_)
  refine Ev.bind (implSet n (addA (lessA l id) ⟨id, n + t, e⟩) tw t' e' (by omega)) (Ev.bind (implSet n l tw t' e' (by omega)) ?_)
  refine Ev.bind (implSet (clockSet n l tw t' e').1 (clockSet n l tw t' e').2.1 id t e (by omega)) ?_
  by_cases h1 : (clockSet n (addA (lessA l id) ⟨id, n + t, e⟩) tw t' e').2.2 = true
  rotate_left
  · exact Ev.neg h1 (Ev.now _)
  refine Ev.pos h1 ?_
  by_cases h2 : (clockSet n l tw t' e').2.2 = true
  rotate_left
  · exact Ev.neg h2 (Ev.now _)
  refine Ev.pos h2 ?_
  by_cases h3 : (clockSet (clockSet n l tw t' e').1 (clockSet n l tw t' e').2.1 id t e).2.2 = true
  rotate_left
  · exact Ev.neg h3 (Ev.now _)
  refine Ev.pos h3 ?_
  obtain ⟨f1, _, gid, gt, gev, _, _⟩ := set_ok h1
  have f2 := (set_ok h2).1
  rw [f2] at h3 ⊢
  have f3 := (set_ok h3).1
  have hs := set_len (n := n) (addA (lessA l id) ⟨id, n + t, e⟩) tw t' e'
  have hn := (clockOk_iff.1 c0).2.1
  have hcomm := set_comm (a := ⟨id, n + t, e⟩) (b := ⟨tw, n + t', e'⟩) (clockOk_iff.1 c0).1
    ⟨hid, ⟨by show n < n + t; omega, by show n + t ≤ 4095; omega⟩, hev⟩ ⟨gid, ⟨by show n < n + t'; omega, by show n + t' ≤ 4095; omega⟩, gev⟩ hne
  have hq : clockSet n (addA (lessA l tw) ⟨tw, n + t', e'⟩) id t e = clockSet n (addA (lessA l id) ⟨id, n + t, e⟩) tw t' e' := by
    have f3' : clockSet n (addA (lessA l tw) ⟨tw, n + t', e'⟩) id t e = (n, addA (lessA (addA (lessA l tw) ⟨tw, n + t', e'⟩) id) ⟨id, n + t, e⟩, true) := f3
    rw [f3', f1]
    exact congrArg (fun z => (n, z, true)) hcomm.symm
  show Ev (fun k => (laws_qdClock.f k (clockSet n (addA (lessA l id) ⟨id, n + t, e⟩) tw t' e').1 (clockSet n (addA (lessA l id) ⟨id, n + t, e⟩) tw t' e').2.1 (clockSet n (addA (lessA l tw) ⟨tw, n + t', e'⟩) id t e).1 (clockSet n (addA (lessA l tw) ⟨tw, n + t', e'⟩) id t e).2.1).bind fun t149 => (some t149)) true
  rw [hq]
  exact Ev.bind (qdClock_self _ _ (by omega)) (Ev.now _)
theorem FnClockOrder : laws_FnClockOrder.Pure := by
  intro l0 l1 _ _ hw _ _ hw'
  refine Ev.rounds (r := true) ?_
  unfold laws_FnClockOrder.f
  have big : Ev (fun k => laws_FnClockOrder.j0 k l0 l1 true) true := Ev.step (fun k => by simp only [laws_FnClockOrder.j0]; rfl) (Ev.pos (by simp) (Ev.pure rfl))
  by_cases h : (l0.length : Int) > 1048576
  · exact Ev.pos h big
  refine Ev.neg h ?_
  by_cases h' : (l1.length : Int) > 1048576
  · rw [decide_eq_true h']
    exact big
  rw [decide_eq_false h']
  obtain ⟨n, l, id, t, e, ed, hn, hl, ht⟩ := set_of l0 hw (by omega)
  obtain ⟨n', l', tw, t', e', ed', hn', hl', ht'⟩ := set_of l1 hw' (by omega)
  refine Ev.step (fun k => by simp only [laws_FnClockOrder.j0]; rfl) (Ev.neg (by simp) (Ev.bind ed (Ev.bind ed' ?_)))
  refine Ev.bind (implSet n l id t e (by omega)) (Ev.bind (specSet n l id t e (by omega) (by omega) (by omega)) ?_)
  have hlen := set_len n l id t e
  refine Ev.neg (by simp) (Ev.bind (qdClock_self _ _ (by omega)) (Ev.pos rfl ?_))
  by_cases hk : (clockSet n l id t e).2.2 = true
  · refine Ev.pos hk ?_
    rw [hk]
    by_cases hne : id = tw
    · have hb : (id == tw) = true := by simpa using hne
      rw [hb]
      exact order_true _ _ _ _ _ _ n _ l _ true hlen
    · have hb : (id == tw) = false := by simpa using hne
      rw [hb]
      exact order_j1 n id t e tw t' e' l hk hne ht ht'
  · refine Ev.neg hk ?_
    have hk' : (clockSet n l id t e).2.2 = false := by simpa using hk
    rw [hk']
    exact order_true _ _ _ _ _ _ n _ l _ false hlen
end Go.Proofs.Ytlejcgnfpcngbaa.Pure
