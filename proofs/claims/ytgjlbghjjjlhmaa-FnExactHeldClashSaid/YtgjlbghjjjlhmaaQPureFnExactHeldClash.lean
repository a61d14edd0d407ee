/- HeldClash and its reference agree, and what it returns is the caller's own. -/
import Derived.Test.YtgjlbghjjjlhmaaQSFnExactHeldClash
import Derived.Test.YtgjlbghjjjlhmaaQHeldEx
import Derived.Test.YtgjlbghjjjlhmaaQInts
import Derived.Test.YtgjlbghjjjlhmaaPfimplHeldClash
import Derived.Test.YtgjlbghjjjlhmaaPflawsFnExactHeldClash
import Derived.Test.YtgjlbghjjjlhmaaPfspecHeldClash
namespace Go.Proofs.Ytgjlbghjjjlhmaa.QPure
open Go.RowKit Go.Proofs.YtgjlbghjjjlhmaaW.PrintWords Go.Proofs.YtgjlbghjjjlhmaaW.PrintLast Go.Proofs.YtgjlbghjjjlhmaaW.PrintMore Go.Proofs.Ytgjlbghjjjlhmaa.P Go.Proofs.Ytgjlbghjjjlhmaa.Q
theorem clash_ev (hs ws : List Ho) (hn : hs.length ≤ 1048576) (hw : ws.length ≤ 1048576) (x : Ho) : ∃ (L : List Int) (b : Bool), Ev (fun k => impl_HeldClash.f k hs ws x.f0 x.f1 x.f2 x.f3) (L, b) ∧ Ev (fun k => spec_HeldClash.f k hs ws x.f0 x.f1 x.f2 x.f3) (L, b) ∧ L.length ≤ 4 := by
  unfold impl_HeldClash.f spec_HeldClash.f
  obtain ⟨r, e1, e2, hT⟩ := heldOk hs ws hn hw
  cases r with
  | false => exact ⟨[], false, Ev.bind e1 (Ev.neg (by simp) (Ev.now _)), Ev.bind e2 (Ev.neg (by simp) (Ev.now _)), by simp⟩
  | true =>
    have hr : ∀ y ∈ hs, 0 ≤ y.f0 ∧ y.f0 ≤ 3 := fun y hy => ⟨((hT rfl).rng y hy).1, ((hT rfl).rng y hy).2.1⟩
    cases hv : vH x with
    | false => exact ⟨[], false, Ev.bind e1 (Ev.pos rfl (Ev.bind (Ev.const (implHok x)) (Ev.neg (by simp [hv]) (Ev.now _)))), Ev.bind e2 (Ev.pos rfl (Ev.bind (Ev.const (specHok x)) (Ev.neg (by simp [hv]) (Ev.now _)))), by simp⟩
    | true =>
      have hc := implClashes x hs ws hn
      rw [clI_who x hs hr] at hc
      exact ⟨who hs x, true, Ev.bind e1 (Ev.pos rfl (Ev.bind (Ev.const (implHok x)) (Ev.pos hv (Ev.bind hc (Ev.now _))))), Ev.bind e2 (Ev.pos rfl (Ev.bind (Ev.const (specHok x)) (Ev.pos hv (Ev.bind (specWho x hs hn) (Ev.now _))))), who_le hs x⟩
theorem FnExactHeldClash : laws_FnExactHeldClash.Pure := by
  intro l m a0 a1 a2 a3 hl hm _ _ _
  refine Ev.rounds (r := true) ?_
  unfold laws_FnExactHeldClash.f
  obtain ⟨s, hs, hb⟩ := szHeld_eq l m hl.1 hm.1
  refine Ev.bind (Ev.const hs) ?_
  by_cases h0 : s < 0
  · exact Ev.pos h0 (Ev.pure rfl)
  refine Ev.neg h0 ?_
  obtain ⟨b1, b2⟩ := hb h0
  have ht := toHeld_ev l m b1 b2
  have c1 : (l.map toHd).length ≤ 1048576 := by simpa using b1
  have c2 : (m.map toHd).length ≤ 1048576 := by simpa using b2
  obtain ⟨L, b, e1, e2, hL⟩ := clash_ev (l.map toHd) (m.map toHd) c1 c2 ⟨a0, a1, a2, a3⟩
  have eq1 := eqIntS_self L (by omega)
  obtain ⟨r, l', m', em, hr⟩ := markHeld_ev (l.map toHd) (m.map toHd) c1 c2
  obtain ⟨L', k1, k2, k3⟩ := markIntS_held L 1 (by omega) (by omega)
  have hbb : (b != b) = false := by simp
  refine Ev.bind ht (Ev.bind (Ev.now (a0, a1, a2, a3)) (Ev.bind e2 (Ev.bind ht (Ev.bind (Ev.now (a0, a1, a2, a3)) (Ev.bind e1 (Ev.bind eq1 (Ev.pos rfl ?_)))))))
  rw [hbb]
  refine Ev.step (fun k => by simp only [laws_FnExactHeldClash.j0]; rfl) ?_
  refine Ev.neg (by simp) (Ev.bind ht (Ev.bind (eqHeld_self (l.map toHd) (m.map toHd) (by omega) (by omega)) (Ev.pos rfl (Ev.bind em ?_))))
  refine Ev.neg (by show ¬ r < 0; omega) (Ev.bind eq1 (Ev.pos rfl ?_))
  rw [hbb]
  refine Ev.step (fun k => by simp only [laws_FnExactHeldClash.j1]; rfl) ?_
  refine Ev.neg (by simp) (Ev.bind k1 (Ev.bind k2 ?_))
  refine Ev.neg (by omega) (Ev.pos rfl (Ev.bind ht (Ev.bind (Ev.now (a0, a1, a2, a3)) (Ev.bind e1 (Ev.bind eq1 (Ev.pos rfl ?_))))))
  rw [hbb]
  refine Ev.step (fun k => by simp only [laws_FnExactHeldClash.j2]; rfl) ?_
  refine Ev.neg (by simp) (Ev.bind k2 ?_)
  exact Ev.neg (by omega) (Ev.pos rfl (Ev.now _))
end Go.Proofs.Ytgjlbghjjjlhmaa.QPure
