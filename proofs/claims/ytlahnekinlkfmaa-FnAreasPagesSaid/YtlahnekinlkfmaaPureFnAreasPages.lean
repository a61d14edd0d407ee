/- The pure side of FnAreasPages: pages are counted one by one. -/
import Derived.Test.YtlahnekinlkfmaaPflawsFnAreasPages
import Derived.Test.YtlahnekinlkfmaaQAreasDraw
namespace Go.Proofs.Ytlahnekinlkfmaa.Pure
open Go.RowKit Go.Proofs.YtlahnekinlkfmaaW.PrintWords Go.Proofs.Ytlahnekinlkfmaa.P Go.Proofs.Ytlahnekinlkfmaa.Q
/-- How many of the pages from lo on, d of them, are in an area. -/
def cnt (l : List Ar) : Nat → Int → Int
  | 0, _ => 0
  | d + 1, p => (if l.any (has p) = true then 1 else 0) + cnt l d (p + 1)
theorem any_at (l : List Ar) (p b : Int) (hb : 0 ≤ b) (hok : ∀ a ∈ l, areaOk a = true) : decide (0 ≤ impl_AreasAt.idx p l b) = l.any (has p) := by
  induction l generalizing b with
  | nil => rfl
  | cons a l ih =>
    simp only [impl_AreasAt.idx, List.any_cons, hit_has (hok a (by simp))]
    cases has p a with
    | true => simpa using hb
    | false => simpa using ih (b + 1) (by omega) (fun x hx => hok x (by simp [hx]))
theorem cnt_skip (a : Ar) (l : List Ar) : ∀ (d : Nat) (p : Int), fin a ≤ p → cnt (a :: l) d p = cnt l d p := by
  intro d
  induction d with
  | zero => intro p _; rfl
  | succ d ih =>
    intro p hp
    have e : has p a = false := by simp [has]; omega
    simp only [cnt, List.any_cons, e, Bool.false_or]
    rw [ih (p + 1) (by omega)]
theorem cnt_in (a : Ar) (l : List Ar) : ∀ (d : Nat) (p : Int), a.f0 ≤ p → p + d = fin a → ∀ r : Nat, cnt (a :: l) (d + r) p = d + cnt (a :: l) r (fin a) := by
  intro d
  induction d with
  | zero => intro p _ h r; simp at h; rw [h]; simp
  | succ d ih =>
    intro p h0 h1 r
    have e : has p a = true := by simp [has]; omega
    rw [show d + 1 + r = (d + r) + 1 by omega]
    simp only [cnt, List.any_cons, e, Bool.true_or, if_true]
    rw [ih (p + 1) (by omega) (by omega) r]
    omega
theorem cnt_out (l : List Ar) : ∀ (d : Nat) (p q : Int), vldA q l = true → p + d = q → ∀ r : Nat, cnt l (d + r) p = cnt l r q := by
  intro d
  induction d with
  | zero => intro p q _ h r; simp at h; rw [h]; simp
  | succ d ih =>
    intro p q hok h1 r
    have e : l.any (has p) = false := by
      rw [List.any_eq_false]
      intro a ha
      have := (vldA_mem hok a ha).2
      simp [has]; omega
    rw [show d + 1 + r = (d + r) + 1 by omega]
    simp only [cnt, e]
    rw [ih (p + 1) q hok (by omega) r]
    simp
theorem cnt_sum : ∀ (l : List Ar) (lo : Int) (d : Nat), vldA lo l = true → lo + d = 16 → cnt l d lo = sumA l := by
  intro l
  induction l with
  | nil =>
    intro lo d _ _
    have : ∀ (d : Nat) (p : Int), cnt [] d p = 0 := by
      intro d
      induction d with
      | zero => intro p; rfl
      | succ d ih => intro p; simp [cnt, ih]
    rw [this]; rfl
  | cons a l ih =>
    intro lo d h hd
    have h' := (vldA_cons).1 h
    have ha := (areaOk_iff a).1 h'.1
    have hfin : fin a = a.f0 + a.f1 := rfl
    have e1 : cnt (a :: l) d lo = cnt (a :: l) ((16 - a.f0).toNat) a.f0 := by
      have hk : vldA a.f0 (a :: l) = true := (vldA_cons).2 ⟨h'.1, by omega, h'.2.2⟩
      have := cnt_out (a :: l) (a.f0 - lo).toNat lo a.f0 hk (by omega) ((16 - a.f0).toNat)
      rw [← this]
      congr 1
      omega
    have e2 : cnt (a :: l) ((16 - a.f0).toNat) a.f0 = a.f1 + cnt (a :: l) ((16 - fin a).toNat) (fin a) := by
      have := cnt_in a l a.f1.toNat a.f0 (by omega) (by omega) ((16 - fin a).toNat)
      rw [show (16 - a.f0).toNat = a.f1.toNat + (16 - fin a).toNat by omega, this]
      omega
    rw [e1, e2, cnt_skip a l _ _ (by omega), ih (fin a) ((16 - fin a).toNat) h'.2.2 (by omega)]
    rfl
theorem pages_l (l : List Ar) (s : Int) (hn : l.length ≤ 1000) (ho : areasOk l = true) : ∀ (d : Nat) (n p : Int), p + d = 16 → 0 ≤ p → 0 ≤ n → n ≤ p → n + cnt l d p = s → Ev (fun k => laws_FnAreasPages.l0 k l s n p) true := by
  intro d
  induction d with
  | zero =>
    intro n p h0 _ _ _ h
    refine Ev.step (fun k => by simp only [laws_FnAreasPages.l0]; rfl) ?_
    simp only [cnt] at h
    exact Ev.neg (by omega) (Ev.pure (by simp; omega))
  | succ d ih =>
    intro n p h0 h1 h2 h3 h
    refine Ev.step (fun k => by simp only [laws_FnAreasPages.l0]; rfl) ?_
    refine Ev.pos (by omega) (Ev.bind (implAt l (by omega) p) ?_)
    rw [wrap_id (n := p + 1) (by omega) (by omega), wrap_id (n := n + 1) (by omega) (by omega)]
    have ea : areasAt l p = impl_AreasAt.idx p l 0 := if_pos ho
    rw [ea]
    have hany := any_at l p 0 (by omega) (fun a ha => (vldA_mem ((areasOk_iff l).1 ho).1 a ha).1)
    simp only [cnt] at h
    by_cases c : 0 ≤ impl_AreasAt.idx p l 0
    · have : l.any (has p) = true := by rw [← hany]; simpa using c
      rw [if_pos this] at h
      exact Ev.pos c (ih (n + 1) (p + 1) (by omega) (by omega) (by omega) (by omega) (by omega))
    · have : l.any (has p) = false := by rw [← hany]; simpa using c
      rw [this] at h
      simp only [Bool.false_eq_true, if_false] at h
      exact Ev.neg c (ih n (p + 1) (by omega) (by omega) (by omega) (by omega) (by omega))
theorem FnAreasPages : laws_FnAreasPages.Pure := by
  intro l _ _ hw
  refine Ev.rounds (r := true) ?_
  unfold laws_FnAreasPages.f
  by_cases h : (l.length : Int) > 1048576
  · exact Ev.pos h (Ev.pure rfl)
  · refine Ev.neg h ?_
    obtain ⟨s, es, hs⟩ := open_ev l hw (by omega)
    obtain ⟨a, p', ea, hl, _, _⟩ := areas_ev s hs 0 (by omega) (by omega)
    refine Ev.bind (a := a) (by unfold spec_DrawAreasPages.f; exact Ev.bind (Ev.const es) (Ev.bind ea (Ev.now _))) ?_
    have hn : a.length ≤ 9223372036854775807 := by omega
    refine Ev.bind (implPages a hn) (Ev.bind (specPages a hn) (Ev.pos rfl ?_))
    refine Ev.step (fun k => by simp only [laws_FnAreasPages.j0]; rfl) ?_
    unfold areasPages
    by_cases ho : areasOk a = true
    · rw [if_pos ho]
      have hk := ((areasOk_iff a).1 ho).1
      have := sumA_ok hk (by omega)
      refine Ev.neg (by simp; omega) ?_
      exact pages_l a (sumA a) (by omega) ho 16 0 0 (by omega) (by omega) (by omega) (by omega) (by rw [cnt_sum a 0 16 hk (by omega)]; omega)
    · rw [if_neg ho]
      exact Ev.pos (by decide) (Ev.pure rfl)
end Go.Proofs.Ytlahnekinlkfmaa.Pure
