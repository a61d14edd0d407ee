/- Time can be cut anywhere. -/
import Derived.Test.YtlejcgnfpcngbaaPflawsFnClockTick
import Derived.Test.YtlejcgnfpcngbaaQClockDraw
namespace Go.Proofs.Ytlejcgnfpcngbaa.Pure
open Go.RowKit Go.Proofs.YtlejcgnfpcngbaaW.PrintWords Go.Proofs.Ytlejcgnfpcngbaa.P Go.Proofs.Ytlejcgnfpcngbaa.Q
theorem qdInts_l : ∀ (rest pre : List Int), (pre ++ rest).length ≤ 9223372036854775807 → Ev (fun k => laws_qdInts.l0 k (pre ++ rest) (pre ++ rest) (pre.length : Int)) true := by
  intro rest
  induction rest with
  | nil =>
    intro pre hn
    exact Ev.step (fun k => by simp only [laws_qdInts.l0]; rfl) (Ev.neg (by simp) (Ev.pure rfl))
  | cons y rest ih =>
    intro pre hn
    have hlt : pre.length < (pre ++ y :: rest).length := by simp
    refine Ev.step (fun k => by simp only [laws_qdInts.l0]; rfl) ?_
    refine Ev.pos (by omega) (Ev.pos (by omega) (Ev.pos (by omega) (Ev.pos (by trivial) ?_)))
    rw [lsucc_wrap hlt hn]
    have h := ih (pre ++ [y]) (by simp at hn ⊢; omega)
    simp only [List.append_assoc, List.cons_append, List.nil_append, List.length_append, List.length_cons, List.length_nil] at h
    exact h
theorem qdInts_self (l : List Int) (hn : l.length ≤ 9223372036854775807) : Ev (fun k => laws_qdInts.f k l l) true := by
  unfold laws_qdInts.f
  exact Ev.pos rfl (qdInts_l l [] hn)
theorem tick_of (c : List Int) (hw : ∀ x ∈ c, (Lit.int .u8 x).wf = true) (hl : c.length ≤ 1048576) :
    ∃ (n : Int) (l : List Al) (t : Int), Ev (fun k => spec_DrawClockTick.f k c) (n, l, t) ∧ (-1 ≤ n ∧ n ≤ 4200) ∧ l.length ≤ 13 ∧ -1 ≤ t ∧ t ≤ 501 := by
  obtain ⟨s, es, hs⟩ := open_ev c hw hl
  obtain ⟨n, l, q, e, h1, h2, hq0, hq1⟩ := clock_draw s hs 0 (by omega) (by omega)
  obtain ⟨v0, e0, l0, u0, _⟩ := pick_ev s hs q 60 (by omega) (by omega) (by omega)
  obtain ⟨v1, e1, l1, u1, _⟩ := pick_ev s hs (q + 1) 300 (by omega) (by omega) (by omega)
  obtain ⟨v2, e2, l2, u2, _⟩ := pick_ev s hs (q + 1 + 1) 7 (by omega) (by omega) (by omega)
  have u0' := u0 (by omega)
  have u1' := u1 (by omega)
  have u2' := u2 (by omega)
  refine ⟨n, l, rd [0, 1, v0, v1, 500, 501, (-1)] v2, ?_, h1, h2, ?_⟩
  · unfold spec_DrawClockTick.f
    exact Ev.bind (Ev.const es) (Ev.bind e (Ev.bind e0 (Ev.bind e1 (Ev.bind (Ev.now _) (Ev.bind e2 (Ev.pos l2 (Ev.pos (by simpa using u2') (Ev.now _))))))))
  · have : v2 = 0 ∨ v2 = 1 ∨ v2 = 2 ∨ v2 = 3 ∨ v2 = 4 ∨ v2 = 5 ∨ v2 = 6 := by omega
    rcases this with rfl | rfl | rfl | rfl | rfl | rfl | rfl
    · constructor <;> (simp [rd] <;> omega)
    · constructor <;> (simp [rd] <;> omega)
    · constructor <;> (simp [rd] <;> omega)
    · constructor <;> (simp [rd] <;> omega)
    · constructor <;> (simp [rd] <;> omega)
    · constructor <;> (simp [rd] <;> omega)
    · constructor <;> (simp [rd] <;> omega)
theorem tick_j2 (n t : Int) (l : List Al) (m : List Int) (h : (clockTick n l t).2.2.2 = true) :
    Ev (fun k => laws_FnClockTick.j2 k m t (clockTick n l t).2.2.1 true (!(clockTick n l t).2.2.2) n l (clockTick n l t).1 (clockTick n l t).2.1) true := by
  obtain ⟨c1, c2, c3⟩ := tick_ok h
  have hn := (clockOk_iff.1 c1).2.1
  rw [h]
  refine Ev.step (fun k => by simp only [laws_FnClockTick.j2]; rfl) (Ev.neg (by simp) ?_)
  have w1 : wrap64 (t + 1) = t + 1 := wrap_id (by omega) (by omega)
  rw [w1]
  refine Ev.neg (by omega) ?_
  obtain ⟨k, hk⟩ : ∃ k, (m.length : Int) % (t + 1) = k := ⟨_, rfl⟩
  have k0 : 0 ≤ k := by rw [← hk]; exact Int.emod_nonneg _ (by omega)
  have k1 : k ≤ t := by have := Int.emod_lt_of_pos (m.length : Int) (show 0 < t + 1 by omega); omega
  rw [hk]
  obtain ⟨y, a, e1, z, b, e2, e3, ok⟩ := tick_cut h k0 k1
  have la := (tick_len n l k).2
  have lb := (tick_len (n + k) y (t - k)).2
  have lz := (tick_len n l t).1
  have i1 := implTick n l k (by omega)
  have i2 := implTick (n + k) y (t - k) (by omega)
  have w2 : wrap64 (t - k) = t - k := wrap_id (by omega) (by omega)
  have w3 : wrap64 (n + t) = n + t := wrap_id (by omega) (by omega)
  rw [e1] at i1 la
  rw [e2] at i2 lb
  rw [e3] at lz ⊢
  have la' : a.length ≤ 49152 := la
  have lb' : b.length ≤ 49152 := lb
  have lz' : z.length ≤ 12 := lz
  refine Ev.bind i1 ?_
  rw [w2, w3]
  refine Ev.bind i2 (Ev.pos rfl (Ev.pos rfl (Ev.bind (qdClock_self (n + t) z (by omega)) (Ev.pos rfl (Ev.bind (Ev.now _) (Ev.pos (by simp only [List.length_nil]; omega) (Ev.bind (Ev.now _) (Ev.pos (by simp only [List.nil_append]; omega) ?_))))))))
  refine Ev.bind (r := true) ?_ (Ev.pos rfl (Ev.bind (Ev.const (implClockOk (n + t) z)) (Ev.pos ok (Ev.pure (by simp)))))
  show Ev (fun k => laws_qdInts.f k (([] ++ a) ++ b) (a ++ b)) true
  rw [List.nil_append]
  exact qdInts_self (a ++ b) (by simp; omega)
theorem FnClockTick : laws_FnClockTick.Pure := by
  intro l0 l1 _ _ hw _ _ _
  refine Ev.rounds (r := true) ?_
  unfold laws_FnClockTick.f
  have big : Ev (fun k => laws_FnClockTick.j0 k l0 l1 true) true := Ev.step (fun k => by simp only [laws_FnClockTick.j0]; rfl) (Ev.pos (by simp) (Ev.pure rfl))
  by_cases h : (l0.length : Int) > 1048576
  · exact Ev.pos h big
  refine Ev.neg h ?_
  by_cases h' : (l1.length : Int) > 1048576
  · rw [decide_eq_true h']
    exact big
  rw [decide_eq_false h']
  obtain ⟨n, l, t, ed, hn, hl, ht⟩ := tick_of l0 hw (by omega)
  have hlen := tick_len n l t
  refine Ev.step (fun k => by simp only [laws_FnClockTick.j0]; rfl) (Ev.neg (by simp) (Ev.bind ed ?_))
  refine Ev.bind (implTick n l t (by omega)) (Ev.bind (specTick n l t (by omega) (by omega) (by omega)) ?_)
  refine Ev.bind (qdClock_self _ _ (by omega)) (Ev.pos rfl (Ev.bind (qdInts_self _ (by omega)) (Ev.pos rfl ?_)))
  rw [beq_self_eq_true]
  refine Ev.step (fun k => by simp only [laws_FnClockTick.j1]; rfl) (Ev.pos (by simp) ?_)
  by_cases hk : (clockTick n l t).2.2.2 = true
  · exact tick_j2 n t l l1 hk
  · have e : (!(clockTick n l t).2.2.2) = true := by simpa using hk
    show Ev (fun k => laws_FnClockTick.j2 k l1 t (clockTick n l t).2.2.1 true (!(clockTick n l t).2.2.2) n l (clockTick n l t).1 (clockTick n l t).2.1) true
    rw [e]
    exact Ev.step (fun k => by simp only [laws_FnClockTick.j2]; rfl) (Ev.pos (by simp) (Ev.now _))
end Go.Proofs.Ytlejcgnfpcngbaa.Pure
