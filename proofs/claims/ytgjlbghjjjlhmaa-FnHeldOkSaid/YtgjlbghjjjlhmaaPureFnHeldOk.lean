/- Valid locks let no two owners write and read one byte. -/
import Derived.Test.YtgjlbghjjjlhmaaPflawsFnHeldOk
import Derived.Test.YtgjlbghjjjlhmaaQHeldD
import Derived.Test.YtgjlbghjjjlhmaaQHeldN
namespace Go.Proofs.Ytgjlbghjjjlhmaa.Pure
open Go.RowKit Go.Proofs.YtgjlbghjjjlhmaaW.PrintWords Go.Proofs.Ytgjlbghjjjlhmaa.P Go.Proofs.Ytgjlbghjjjlhmaa.Q
theorem held_of {F : Nat → List Int → Option (List Ho × List Ho)} (hF : ∀ k c, F k c = (spec_l6Open.f c).bind fun b => ((spec_l92Held.f k b.1 b.2).bind fun d => (some (d.1, d.2.1)))) (c : List Int) (hw : ∀ x ∈ c, (Lit.int .u8 x).wf = true) (hl : c.length ≤ 1048576) :
    ∃ (l w : List Ho), Ev (fun k => F k c) (l, w) ∧ l.length ≤ 65 ∧ w.length ≤ 21 := by
  obtain ⟨s, es, hs⟩ := open_ev c hw hl
  obtain ⟨l, w, q, e, h1, h2, _⟩ := held_ev s hs 0 (by omega) (by omega)
  refine ⟨l, w, ?_, h1, h2⟩
  simp only [hF]
  exact Ev.bind (Ev.const es) (Ev.bind e (Ev.now _))
theorem ok_l2 (hs ws : List Ho) (T : Tidy hs) (hm : ∀ o b wt, Ev (fun k => impl_HeldMay.f k hs ws o b wt) (true && hs.any (impl_HeldMay.hit o b wt))) (b i : Int) (hn : Ev (fun k => laws_FnHeldOk.l1 k b (wrap64 (i + 1)) hs ws) true) :
    ∀ (d n : Nat), n + d = 4 → Ev (fun k => laws_FnHeldOk.l2 k b i (n : Int) hs ws) true := by
  intro d
  induction d with
  | zero =>
    intro n hd
    refine Ev.step (fun k => by simp only [laws_FnHeldOk.l2]; rfl) ?_
    exact Ev.neg (by omega) hn
  | succ d ih =>
    intro n hd
    have hx : wrap64 ((n : Int) + 1) = ((n + 1 : Nat) : Int) := by rw [wrap_id (by omega) (by omega)]; omega
    have hi := ih (n + 1) (by omega)
    rw [← hx] at hi
    refine Ev.step (fun k => by simp only [laws_FnHeldOk.l2]; rfl) ?_
    refine Ev.pos (by omega) ?_
    by_cases he : i = (n : Int)
    · exact Ev.pos he hi
    refine Ev.neg he (Ev.bind (hm i b true) ?_)
    cases h1 : hs.any (impl_HeldMay.hit i b true) with
    | false => exact Ev.neg (by simp) hi
    | true =>
      refine Ev.pos (by simp) (Ev.bind (hm (n : Int) b false) ?_)
      cases h2 : hs.any (impl_HeldMay.hit (n : Int) b false) with
      | false => exact Ev.neg (by simp) hi
      | true =>
        exfalso
        obtain ⟨x, hx1, hx2⟩ := List.any_eq_true.1 h1
        obtain ⟨y, hy1, hy2⟩ := List.any_eq_true.1 h2
        obtain ⟨⟨a1, a2, a3⟩, a4⟩ := (hit_iff' _ _ _ x).1 hx2
        obtain ⟨⟨c1, c2, c3⟩, _⟩ := (hit_iff' _ _ _ y).1 hy2
        have ha := T.apart x hx1 y hy1
        have a4' : x.f3 = true := by rcases a4 with a4 | a4; exact a4; cases a4
        have k1 : x.f1 ≤ y.f2 := by omega
        have k2 : y.f1 ≤ x.f2 := by omega
        have k3 : ¬ x.f0 = y.f0 := by omega
        unfold cl at ha
        rw [decide_eq_false k3, decide_eq_true k1, decide_eq_true k2, a4'] at ha
        cases ha
theorem ok_l1 (hs ws : List Ho) (T : Tidy hs) (hm : ∀ o b wt, Ev (fun k => impl_HeldMay.f k hs ws o b wt) (true && hs.any (impl_HeldMay.hit o b wt))) (b : Int) (hn : Ev (fun k => laws_FnHeldOk.l0 k (wrap64 (b + 1)) hs ws) true) :
    ∀ (d n : Nat), n + d = 4 → Ev (fun k => laws_FnHeldOk.l1 k b (n : Int) hs ws) true := by
  intro d
  induction d with
  | zero =>
    intro n hd
    refine Ev.step (fun k => by simp only [laws_FnHeldOk.l1]; rfl) ?_
    exact Ev.neg (by omega) hn
  | succ d ih =>
    intro n hd
    have hx : wrap64 ((n : Int) + 1) = ((n + 1 : Nat) : Int) := by rw [wrap_id (by omega) (by omega)]; omega
    refine Ev.step (fun k => by simp only [laws_FnHeldOk.l1]; rfl) ?_
    refine Ev.pos (by omega) (ok_l2 hs ws T hm b (n : Int) ?_ 4 0 rfl)
    rw [hx]
    exact ih (n + 1) (by omega)
theorem ok_l0 (hs ws : List Ho) (T : Tidy hs) (hm : ∀ o b wt, Ev (fun k => impl_HeldMay.f k hs ws o b wt) (true && hs.any (impl_HeldMay.hit o b wt))) :
    ∀ (d n : Nat), n + d = 16 → Ev (fun k => laws_FnHeldOk.l0 k (n : Int) hs ws) true := by
  intro d
  induction d with
  | zero =>
    intro n hd
    refine Ev.step (fun k => by simp only [laws_FnHeldOk.l0]; rfl) ?_
    exact Ev.neg (by omega) (Ev.now _)
  | succ d ih =>
    intro n hd
    have hx : wrap64 ((n : Int) + 1) = ((n + 1 : Nat) : Int) := by rw [wrap_id (by omega) (by omega)]; omega
    refine Ev.step (fun k => by simp only [laws_FnHeldOk.l0]; rfl) ?_
    refine Ev.pos (by omega) (ok_l1 hs ws T hm (n : Int) ?_ 4 0 rfl)
    rw [hx]
    exact ih (n + 1) (by omega)
theorem FnHeldOk : laws_FnHeldOk.Pure := by
  intro c _ _ hw
  refine Ev.rounds (r := true) ?_
  unfold laws_FnHeldOk.f
  by_cases h : (c.length : Int) > 1048576
  · exact Ev.pos h (Ev.pure rfl)
  refine Ev.neg h ?_
  obtain ⟨l, w, ed, hl, hw'⟩ := held_of (F := spec_DrawHeldOk.f) (fun k c => by unfold spec_DrawHeldOk.f; rfl) c hw (by omega)
  obtain ⟨r, e1, e2, hT, hm⟩ := mayW l w (by omega) (by omega)
  refine Ev.bind ed (Ev.bind e1 (Ev.bind e2 (Ev.pos (by simp) ?_)))
  refine Ev.step (fun k => by simp only [laws_FnHeldOk.j0]; rfl) ?_
  cases r with
  | false => exact Ev.pos rfl (Ev.now _)
  | true => exact Ev.neg (by simp) (ok_l0 l w (hT rfl) hm 16 0 rfl)
end Go.Proofs.Ytgjlbghjjjlhmaa.Pure
