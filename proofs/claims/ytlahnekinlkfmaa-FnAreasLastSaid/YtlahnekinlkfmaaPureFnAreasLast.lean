/- What is set last counts. -/
import Derived.Test.YtlahnekinlkfmaaPflawsFnAreasLast
import Derived.Test.YtlahnekinlkfmaaQAreasBig
namespace Go.Proofs.Ytlahnekinlkfmaa.Pure
open Go.RowKit Go.Proofs.YtlahnekinlkfmaaW.PrintWords Go.Proofs.Ytlahnekinlkfmaa.P Go.Proofs.Ytlahnekinlkfmaa.Q
theorem lastPages_l (x z : List Ar) (hx : areasOk x = true) (hz : areasOk z = true) (ha : ∀ p, attr p x = attr p z) : ∀ (d : Nat) (p : Int), p + d = 16 → 0 ≤ p → Ev (fun k => laws_FnAreasLast.l0 k x true z true p) true := by
  have l1 := ((areasOk_iff x).1 hx).2
  have l2 := ((areasOk_iff z).1 hz).2
  intro d
  induction d with
  | zero =>
    intro p h0 h1
    refine Ev.step (fun k => by simp only [laws_FnAreasLast.l0]; rfl) (Ev.neg (by omega) ?_)
    exact Ev.step (fun k => by simp only [laws_FnAreasLast.j2]; rfl) (Ev.neg (by simp) (Ev.pure rfl))
  | succ d ih =>
    intro p h0 h1
    refine Ev.step (fun k => by simp only [laws_FnAreasLast.l0]; rfl) ?_
    refine Ev.pos (by omega) ?_
    refine Ev.pos (by trivial) ?_
    refine Ev.step (fun k => by simp only [laws_FnAreasLast.j2]; rfl) ?_
    refine Ev.pos (by trivial) ?_
    refine Ev.bind (implAt x (by omega) p) (Ev.bind (implAt z (by omega) p) ?_)
    rw [wrap_id (n := p + 1) (by omega) (by omega)]
    have nx := ih (p + 1) (by omega) (by omega)
    rcases at_attr hx p with ⟨e1, e2⟩ | ⟨i, e0, e1, e2⟩
    · rcases at_attr hz p with ⟨g1, g2⟩ | ⟨j, g0, g1, g2⟩
      · rw [e1, g1]
        exact Ev.neg (by decide) (Ev.neg (by decide) nx)
      · rw [← ha p, e2] at g2; cases g2
    · rcases at_attr hz p with ⟨g1, g2⟩ | ⟨j, g0, g1, g2⟩
      · rw [← ha p, e2] at g2; cases g2
      · rw [← ha p, e2] at g2
        injection g2 with g2
        injection g2 with q1 q2
        rw [e1, g1, rd_at, rd_at]
        refine Ev.neg (by simp) (Ev.pos (by omega) (Ev.pos (by omega) (Ev.pos (by omega) (Ev.pos (by omega) (Ev.pos (by omega) ?_)))))
        exact Ev.neg (by simp [q1]) (Ev.neg (by simp [q2]) nx)
theorem FnAreasLast : laws_FnAreasLast.Pure := by
  intro l _ _ hw
  refine Ev.rounds (r := true) ?_
  unfold laws_FnAreasLast.f
  by_cases h : (l.length : Int) > 1048576
  · exact Ev.pos h (Ev.pure rfl)
  refine Ev.neg h ?_
  obtain ⟨a, f, m, w, ea, ha⟩ := drawSet_ev l hw (by omega)
  have hr := areasSet_len a f m w
  refine Ev.bind ea (Ev.bind (implSet a f m w (by omega)) (Ev.bind (specSet a f m w (by omega)) (Ev.neg (by simp) (Ev.bind (qdAreas_self _ (by omega)) (Ev.pos rfl ?_)))))
  refine Ev.step (fun k => by simp only [laws_FnAreasLast.j0]; rfl) ?_
  cases ho : (areasSet a f m w).2 with
  | false => exact Ev.pos rfl (Ev.pos (by simp) (Ev.bind (qdAreas_self _ (by omega)) (Ev.pure rfl)))
  | true =>
    refine Ev.neg (by decide) ?_
    obtain ⟨h1, h2, h3, h4, h5⟩ := areasSet_ok ho
    have hc' : 0 ≤ f ∧ f ≤ 15 ∧ 1 ≤ m ∧ m ≤ 16 - f := (areaOk_iff _).1 h2
    have hy := areasSet_len (areasSet a f m w).1 f m (!w)
    have hz := areasSet_len a f m (!w)
    refine Ev.bind (implSet _ f m (!w) (by omega)) (Ev.bind (implSet a f m (!w) (by omega)) ?_)
    have stop : ∀ (y z : List Ar) (p q : Bool), (p && q) = false → Ev (fun k => laws_FnAreasLast.l0 k y p z q 0) true := by
      intro y z p q hpq
      refine Ev.step (fun k => by simp only [laws_FnAreasLast.l0]; rfl) (Ev.pos (by decide) ?_)
      have fin2 : ∀ c : Bool, Ev (fun k => laws_FnAreasLast.j2 k y c z q 0 false) true := fun c => Ev.step (fun k => by simp only [laws_FnAreasLast.j2]; rfl) (Ev.neg (by simp) (Ev.pure rfl))
      cases p with
      | false => exact Ev.neg (by simp) (fin2 false)
      | true =>
        cases q with
        | false => exact Ev.pos (by trivial) (fin2 true)
        | true => cases hpq
    cases hp : (areasSet (areasSet a f m w).1 f m (!w)).2 with
    | false => exact stop _ _ _ _ (by simp)
    | true =>
      cases hq : (areasSet a f m (!w)).2 with
      | false => exact stop _ _ _ _ (by simp)
      | true =>
        obtain ⟨y1, y2, y3, y4, y5⟩ := areasSet_ok hp
        obtain ⟨z1, z2, z3, z4, z5⟩ := areasSet_ok hq
        rw [y3, z3]
        rw [h3] at y4 ⊢
        refine lastPages_l _ _ y4 z4 (fun p => ?_) 16 0 (by omega) (by omega)
        have hlt : f < f + m := by omega
        rw [attr_setL hlt ((areasOk_iff _).1 h4).1, attr_setL hlt ((areasOk_iff _).1 h1).1, attr_setL hlt ((areasOk_iff _).1 h1).1]
        by_cases c : f ≤ p ∧ p < f + m
        · rw [if_pos c, if_pos c, if_pos c]
          cases attr p a <;> rfl
        · rw [if_neg c, if_neg c, if_neg c]
end Go.Proofs.Ytlahnekinlkfmaa.Pure
