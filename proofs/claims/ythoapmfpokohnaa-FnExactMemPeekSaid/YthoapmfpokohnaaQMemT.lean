/- Memory's Ok: who tells of a page, who is alone; both sides agree. -/
import Derived.Test.YthoapmfpokohnaaQMemS
import Derived.Test.YthoapmfpokohnaaPfM6
import Derived.Test.YthoapmfpokohnaaPfspecl3Alone
import Derived.Test.YthoapmfpokohnaaPfM4
namespace Go.Proofs.Ythoapmfpokohnaa.Q
open Go.RowKit Go.Proofs.YthoapmfpokohnaaW.PrintWords Go.Proofs.YthoapmfpokohnaaW.PrintLast Go.Proofs.YthoapmfpokohnaaW.PrintMore Go.Proofs.Ythoapmfpokohnaa.P
set_option linter.unusedVariables false
set_option linter.unusedSimpArgs false
theorem at_app (A B : Tell) (q : Int × Int) : at_ (A ++ B) q = at_ A q ++ at_ B q := by simp [at_]
theorem at_ent (s : Sp) (p : Nat) {kind id : Int} (hk : kind ≠ 0) : at_ (ent s p) (kind, id) = if (sl s p).f0 = kind ∧ (sl s p).f1 = id then [(⟨(sl s p).f2, shB s p⟩ : Te)] else [] := by
  unfold ent
  by_cases h0 : (sl s p).f0 = 0
  · rw [if_pos h0, if_neg (fun h => hk (by rw [← h.1, h0]))]
    rfl
  · rw [if_neg h0]
    by_cases h : (sl s p).f0 = kind ∧ (sl s p).f1 = id
    · rw [if_pos h, ← h.1, ← h.2]
      simp [at_]
    · rw [if_neg h]
      simp only [at_, List.map_eq_nil_iff, List.filter_eq_nil_iff, beq_iff_eq, List.mem_singleton]
      rintro x rfl e
      injection e with e1 e2
      exact h ⟨e1, e2⟩
theorem spB_areas {s : Sp} (h : spB s = true) (h0 : 0 < s.f2.length) : areasOk s.f1 = true ∧ s.f2.length = 16 := by
  unfold spB at h
  split at h
  · simp only [Bool.and_eq_true, decide_eq_true_eq] at h
    exact ⟨h.1, h.2.1⟩
  · simp only [Bool.and_eq_true, decide_eq_true_eq] at h
    omega
theorem spB_len {s : Sp} (h : spB s = true) : s.f2.length ≤ 16 := by
  rcases Nat.eq_zero_or_pos s.f2.length with h0 | h0
  · omega
  · have := (spB_areas h h0).2
    omega
theorem told_l1 (d1 : List ByteArray) (r1 : List Int) (d2 : List ByteArray) (r2 : List Int) (l : List Sp) (c kind id : Int) (hk : kind ≠ 0) (i : Nat) (hi : i < l.length) (hl : l.length ≤ 100) (h16 : (spA l i).f2.length ≤ 16) (C : Nat)
    (rest : ∀ x : Nat, x ≤ 16 * (i + 1) → Ev (fun k => spec_l3Told.l0 k kind id (x : Int) ((i + 1 : Nat) : Int) d1 r1 d2 r2 l c) ((x + C : Nat) : Int)) :
    ∀ n p x : Nat, p + n = (spA l i).f2.length → x ≤ 16 * i + p → Ev (fun k => spec_l3Told.l1 k kind id (x : Int) (i : Int) (p : Int) d1 r1 d2 r2 l c) ((x + ((at_ (ents (spA l i) n p) (kind, id)).length + C) : Nat) : Int) := by
  intro n
  induction n with
  | zero =>
    intro p x hp hx
    refine Ev.step (fun k => by simp only [spec_l3Told.l1]; rfl) ?_
    refine Ev.pos (by omega) (Ev.pos (by omega) (Ev.neg (by show ¬ (p : Int) < ((spA l i).f2.length : Int); omega) ?_))
    rw [lsucc_wrap hi (by omega)]
    have h := rest x (by omega)
    simpa [ents, at_] using h
  | succ n ih =>
    intro p x hp hx
    refine Ev.step (fun k => by simp only [spec_l3Told.l1]; rfl) ?_
    refine Ev.pos (by omega) (Ev.pos (by omega) (Ev.pos (by show (p : Int) < ((spA l i).f2.length : Int); omega) (Ev.pos (by omega) ?_)))
    rw [lsucc_wrap (i := p) (n := 100) (by omega) (by omega), lsucc_wrap (i := x) (n := 100000) (by omega) (by omega)]
    show Ev (fun k => if (sl (spA l i) p).f0 = kind then (if (sl (spA l i) p).f1 = id then spec_l3Told.l1 k kind id ((x + 1 : Nat) : Int) (i : Int) ((p + 1 : Nat) : Int) d1 r1 d2 r2 l c else spec_l3Told.l1 k kind id (x : Int) (i : Int) ((p + 1 : Nat) : Int) d1 r1 d2 r2 l c) else spec_l3Told.l1 k kind id (x : Int) (i : Int) ((p + 1 : Nat) : Int) d1 r1 d2 r2 l c) ((x + ((at_ (ent (spA l i) p ++ ents (spA l i) n (p + 1)) (kind, id)).length + C) : Nat) : Int)
    rw [at_app, at_ent _ _ hk]
    by_cases ha : (sl (spA l i) p).f0 = kind
    · refine Ev.pos ha ?_
      by_cases hb : (sl (spA l i) p).f1 = id
      · rw [if_pos ⟨ha, hb⟩]
        refine Ev.pos hb (Ev.cast (ih (p + 1) (x + 1) (by omega) (by omega)) ?_)
        simp only [List.length_append, List.length_cons, List.length_nil]
        omega
      · rw [if_neg (fun h => hb h.2)]
        exact Ev.neg hb (ih (p + 1) x (by omega) (by omega))
    · rw [if_neg (fun h => ha h.1)]
      exact Ev.neg ha (ih (p + 1) x (by omega) (by omega))
theorem told_l0 (d1 : List ByteArray) (r1 : List Int) (d2 : List ByteArray) (r2 : List Int) (l : List Sp) (c kind id : Int) (hk : kind ≠ 0) (hl : l.length ≤ 100) (h16 : ∀ j, j < l.length → (spA l j).f2.length ≤ 16) :
    ∀ n i x : Nat, i + n = l.length → x ≤ 16 * i → Ev (fun k => spec_l3Told.l0 k kind id (x : Int) (i : Int) d1 r1 d2 r2 l c) ((x + (at_ (entsL l n i) (kind, id)).length : Nat) : Int) := by
  intro n
  induction n with
  | zero =>
    intro i x hi hx
    refine Ev.step (fun k => by simp only [spec_l3Told.l0]; rfl) ?_
    exact Ev.neg (by omega) (Ev.pure (by simp [entsL, at_]))
  | succ n ih =>
    intro i x hi hx
    refine Ev.step (fun k => by simp only [spec_l3Told.l0]; rfl) ?_
    refine Ev.pos (by omega) ?_
    have h := told_l1 d1 r1 d2 r2 l c kind id hk i (by omega) hl (h16 i (by omega)) (at_ (entsL l n (i + 1)) (kind, id)).length (fun y hy => ih (i + 1) y (by omega) (by omega)) (spA l i).f2.length 0 x (by omega) (by omega)
    refine Ev.cast h ?_
    show _ = ((x + (at_ (ents (spA l i) (spA l i).f2.length 0 ++ entsL l n (i + 1)) (kind, id)).length : Nat) : Int)
    rw [at_app, List.length_append]
def al (n : Nat) (o v : Bool) : Bool := if (n : Int) < 2 then true else if o = true then !v else true
def ow (L : List Te) : Bool := L.any (fun t => t.f0)
def pv (L : List Te) : Bool := L.any (fun t => !t.f1)
theorem ow_app (A B : List Te) : ow (A ++ B) = (ow A || ow B) := by simp [ow, List.any_append]
theorem pv_app (A B : List Te) : pv (A ++ B) = (pv A || pv B) := by simp [pv, List.any_append]
theorem alone_l1 (d1 : List ByteArray) (r1 : List Int) (d2 : List ByteArray) (r2 : List Int) (l : List Sp) (c kind id : Int) (hk : kind ≠ 0) (i : Nat) (hi : i < l.length) (hl : l.length ≤ 100) (hs : spB (spA l i) = true) (M : List Te)
    (rest : ∀ (x : Nat) (o v : Bool), x ≤ 16 * (i + 1) → Ev (fun k => spec_l3Alone.l0 k kind id (x : Int) o v ((i + 1 : Nat) : Int) d1 r1 d2 r2 l c) (al (x + M.length) (o || ow M) (v || pv M))) :
    ∀ (n p x : Nat) (o v : Bool), p + n = (spA l i).f2.length → x ≤ 16 * i + p → Ev (fun k => spec_l3Alone.l1 k kind id (x : Int) o v (i : Int) (p : Int) d1 r1 d2 r2 l c) (al (x + (at_ (ents (spA l i) n p) (kind, id) ++ M).length) (o || ow (at_ (ents (spA l i) n p) (kind, id) ++ M)) (v || pv (at_ (ents (spA l i) n p) (kind, id) ++ M))) := by
  have h16 := spB_len hs
  intro n
  induction n with
  | zero =>
    intro p x o v hp hx
    refine Ev.step (fun k => by simp only [spec_l3Alone.l1]; rfl) ?_
    refine Ev.pos (by omega) (Ev.pos (by omega) (Ev.neg (by show ¬ (p : Int) < ((spA l i).f2.length : Int); omega) ?_))
    rw [lsucc_wrap hi (by omega)]
    exact rest x o v (by omega)
  | succ n ih =>
    intro p x o v hp hx
    have hA := (spB_areas hs (by omega)).1
    refine Ev.step (fun k => by simp only [spec_l3Alone.l1]; rfl) ?_
    refine Ev.pos (by omega) (Ev.pos (by omega) (Ev.pos (by show (p : Int) < ((spA l i).f2.length : Int); omega) (Ev.pos (by omega) ?_)))
    rw [lsucc_wrap (i := p) (n := 100) (by omega) (by omega), lsucc_wrap (i := x) (n := 100000) (by omega) (by omega)]
    have hsh := sh_spec hA p
    have ih0 := ih (p + 1) x o v (by omega) (by omega)
    have ih1 := ih (p + 1) (x + 1) (o || (sl (spA l i) p).f2) (v || !shB (spA l i) p) (by omega) (by omega)
    show Ev (fun k => if (sl (spA l i) p).f0 = kind then (if (sl (spA l i) p).f1 = id then (if o = true then (if v = true then spec_l3Alone.l1 k kind id ((x + 1 : Nat) : Int) true true (i : Int) ((p + 1 : Nat) : Int) d1 r1 d2 r2 l c else (spec_l3Shared.f k (spA l i).f0 (spA l i).f1 (spA l i).f2 (p : Int)).bind fun t => spec_l3Alone.l1 k kind id ((x + 1 : Nat) : Int) true (!t) (i : Int) ((p + 1 : Nat) : Int) d1 r1 d2 r2 l c)
      else (if v = true then spec_l3Alone.l1 k kind id ((x + 1 : Nat) : Int) (sl (spA l i) p).f2 true (i : Int) ((p + 1 : Nat) : Int) d1 r1 d2 r2 l c else (spec_l3Shared.f k (spA l i).f0 (spA l i).f1 (spA l i).f2 (p : Int)).bind fun t => spec_l3Alone.l1 k kind id ((x + 1 : Nat) : Int) (sl (spA l i) p).f2 (!t) (i : Int) ((p + 1 : Nat) : Int) d1 r1 d2 r2 l c))
      else spec_l3Alone.l1 k kind id (x : Int) o v (i : Int) ((p + 1 : Nat) : Int) d1 r1 d2 r2 l c) else spec_l3Alone.l1 k kind id (x : Int) o v (i : Int) ((p + 1 : Nat) : Int) d1 r1 d2 r2 l c) (al (x + (at_ (ent (spA l i) p ++ ents (spA l i) n (p + 1)) (kind, id) ++ M).length) (o || ow (at_ (ent (spA l i) p ++ ents (spA l i) n (p + 1)) (kind, id) ++ M)) (v || pv (at_ (ent (spA l i) p ++ ents (spA l i) n (p + 1)) (kind, id) ++ M)))
    rw [at_app, at_ent _ _ hk]
    by_cases ha : (sl (spA l i) p).f0 = kind
    · refine Ev.pos ha ?_
      by_cases hb : (sl (spA l i) p).f1 = id
      · rw [if_pos ⟨ha, hb⟩]
        refine Ev.pos hb ?_
        have e : al (x + ([(⟨(sl (spA l i) p).f2, shB (spA l i) p⟩ : Te)] ++ at_ (ents (spA l i) n (p + 1)) (kind, id) ++ M).length) (o || ow ([(⟨(sl (spA l i) p).f2, shB (spA l i) p⟩ : Te)] ++ at_ (ents (spA l i) n (p + 1)) (kind, id) ++ M)) (v || pv ([(⟨(sl (spA l i) p).f2, shB (spA l i) p⟩ : Te)] ++ at_ (ents (spA l i) n (p + 1)) (kind, id) ++ M)) = al (x + 1 + (at_ (ents (spA l i) n (p + 1)) (kind, id) ++ M).length) (o || (sl (spA l i) p).f2 || ow (at_ (ents (spA l i) n (p + 1)) (kind, id) ++ M)) (v || !shB (spA l i) p || pv (at_ (ents (spA l i) n (p + 1)) (kind, id) ++ M)) := by
          rw [List.append_assoc, ow_app, pv_app, List.length_append]
          simp only [ow, pv, List.any_cons, List.any_nil, Bool.or_false, List.length_cons, List.length_nil, Bool.or_assoc]
          congr 1
          omega
        rw [e]
        revert ih1
        cases o with
        | true =>
          cases v with
          | true => exact fun ih1 => Ev.pos rfl (Ev.pos rfl ih1)
          | false => exact fun ih1 => Ev.pos rfl (Ev.neg (by decide) (Ev.bind hsh ih1))
        | false =>
          cases v with
          | true => exact fun ih1 => Ev.neg (by decide) (Ev.pos rfl ih1)
          | false => exact fun ih1 => Ev.neg (by decide) (Ev.neg (by decide) (Ev.bind hsh ih1))
      · rw [if_neg (fun h => hb h.2)]
        exact Ev.neg hb ih0
    · rw [if_neg (fun h => ha h.1)]
      exact Ev.neg ha ih0
theorem alone_l0 (d1 : List ByteArray) (r1 : List Int) (d2 : List ByteArray) (r2 : List Int) (l : List Sp) (c kind id : Int) (hk : kind ≠ 0) (hl : l.length ≤ 100) (hs : ∀ j, j < l.length → spB (spA l j) = true) :
    ∀ (n i x : Nat) (o v : Bool), i + n = l.length → x ≤ 16 * i → Ev (fun k => spec_l3Alone.l0 k kind id (x : Int) o v (i : Int) d1 r1 d2 r2 l c) (al (x + (at_ (entsL l n i) (kind, id)).length) (o || ow (at_ (entsL l n i) (kind, id))) (v || pv (at_ (entsL l n i) (kind, id)))) := by
  intro n
  induction n with
  | zero =>
    intro i x o v hi hx
    refine Ev.step (fun k => by simp only [spec_l3Alone.l0]; rfl) ?_
    refine Ev.neg (by omega) ?_
    have e : at_ (entsL l 0 i) (kind, id) = [] := rfl
    rw [e]
    simp only [ow, pv, List.any_nil, Bool.or_false, List.length_nil, Nat.add_zero]
    by_cases h2 : (x : Int) < 2
    · exact Ev.cast (Ev.pos h2 (Ev.now _)) (by unfold al; rw [if_pos h2])
    · cases o
      · exact Ev.cast (Ev.neg h2 (Ev.neg (by decide) (Ev.now _))) (by unfold al; rw [if_neg h2]; rfl)
      · exact Ev.cast (Ev.neg h2 (Ev.pos rfl (Ev.now _))) (by unfold al; rw [if_neg h2]; rfl)
  | succ n ih =>
    intro i x o v hi hx
    refine Ev.step (fun k => by simp only [spec_l3Alone.l0]; rfl) ?_
    refine Ev.pos (by omega) ?_
    have h := alone_l1 d1 r1 d2 r2 l c kind id hk i (by omega) hl (hs i (by omega)) (at_ (entsL l n (i + 1)) (kind, id)) (fun y o v hy => ih (i + 1) y o v (by omega) (by omega)) (spA l i).f2.length 0 x o v (by omega) (by omega)
    refine Ev.cast h ?_
    show _ = al (x + (at_ (ents (spA l i) (spA l i).f2.length 0 ++ entsL l n (i + 1)) (kind, id)).length) (o || ow (at_ (ents (spA l i) (spA l i).f2.length 0 ++ entsL l n (i + 1)) (kind, id))) (v || pv (at_ (ents (spA l i) (spA l i).f2.length 0 ++ entsL l n (i + 1)) (kind, id)))
    rw [at_app]
def alB (L : List Te) : Bool := al L.length (ow L) (pv L)
def kB (E : Tell) (kind : Int) (r : List Int) (a : Nat) : Bool := decide (((at_ E (kind, (a : Int))).length : Int) = rd r (a : Int)) && alB (at_ E (kind, (a : Int)))
section
variable (d1 : List ByteArray) (r1 : List Int) (d2 : List ByteArray) (r2 : List Int) (l : List Sp) (c : Int)
theorem told_ev (hl : l.length ≤ 100) (hs : ∀ j, j < l.length → spB (spA l j) = true) (kind id : Int) (hk : kind ≠ 0) : Ev (fun k => spec_l3Told.f k d1 r1 d2 r2 l c kind id) ((at_ (entsL l l.length 0) (kind, id)).length : Int) := by
  have h := told_l0 d1 r1 d2 r2 l c kind id hk hl (fun j hj => spB_len (hs j hj)) l.length 0 0 (by omega) (by omega)
  exact Ev.cast h (by omega)
theorem alone_ev (hl : l.length ≤ 100) (hs : ∀ j, j < l.length → spB (spA l j) = true) (kind id : Int) (hk : kind ≠ 0) : Ev (fun k => spec_l3Alone.f k d1 r1 d2 r2 l c kind id) (alB (at_ (entsL l l.length 0) (kind, id))) := by
  have h := alone_l0 d1 r1 d2 r2 l c kind id hk hl hs l.length 0 0 false false (by omega) (by omega)
  refine Ev.cast h ?_
  simp only [Bool.false_or, Nat.zero_add]
  rfl
theorem mem_l3 (hl : l.length ≤ 100) (hs : ∀ j, j < l.length → spB (spA l j) = true) (h2 : r2.length = 12) : ∀ n a : Nat, a + n = 12 → Ev (fun k => spec_MemOk.l3 k (a : Int) d1 r1 d2 r2 l c) (allP (kB (entsL l l.length 0) 2 r2) n a) := by
  intro n
  induction n with
  | zero =>
    intro a ha
    refine Ev.step (fun k => by simp only [spec_MemOk.l3]; rfl) ?_
    exact Ev.neg (by omega) (Ev.pure rfl)
  | succ n ih =>
    intro a ha
    refine Ev.step (fun k => by simp only [spec_MemOk.l3]; rfl) ?_
    refine Ev.pos (by omega) (Ev.bind (told_ev d1 r1 d2 r2 l c hl hs 2 (a : Int) (by decide)) (Ev.pos (by omega) (Ev.pos (by omega) ?_)))
    show Ev _ ((decide (((at_ (entsL l l.length 0) (2, (a : Int))).length : Int) = rd r2 (a : Int)) && alB (at_ (entsL l l.length 0) (2, (a : Int)))) && allP (kB (entsL l l.length 0) 2 r2) n (a + 1))
    rw [lsucc_wrap (n := 100) (by omega) (by omega)]
    by_cases he : ((at_ (entsL l l.length 0) (2, (a : Int))).length : Int) = rd r2 (a : Int)
    · refine Ev.pos he (Ev.bind (alone_ev d1 r1 d2 r2 l c hl hs 2 (a : Int) (by decide)) ?_)
      rw [decide_eq_true he]
      cases alB (at_ (entsL l l.length 0) (2, (a : Int)))
      · exact Ev.neg (by decide) (Ev.pure rfl)
      · exact Ev.pos rfl (ih (a + 1) (by omega))
    · rw [decide_eq_false he]
      exact Ev.neg he (Ev.pure rfl)
theorem mem_l2 (hl : l.length ≤ 100) (hs : ∀ j, j < l.length → spB (spA l j) = true) (h1 : r1.length = 12) (h2 : r2.length = 12) : ∀ n a : Nat, a + n = 12 → Ev (fun k => spec_MemOk.l2 k (a : Int) d1 r1 d2 r2 l c) (allP (kB (entsL l l.length 0) 1 r1) n a && allP (kB (entsL l l.length 0) 2 r2) 12 0) := by
  intro n
  induction n with
  | zero =>
    intro a ha
    refine Ev.step (fun k => by simp only [spec_MemOk.l2]; rfl) ?_
    exact Ev.neg (by omega) (mem_l3 d1 r1 d2 r2 l c hl hs h2 12 0 (by omega))
  | succ n ih =>
    intro a ha
    refine Ev.step (fun k => by simp only [spec_MemOk.l2]; rfl) ?_
    refine Ev.pos (by omega) (Ev.bind (told_ev d1 r1 d2 r2 l c hl hs 1 (a : Int) (by decide)) (Ev.pos (by omega) (Ev.pos (by omega) ?_)))
    show Ev _ (((decide (((at_ (entsL l l.length 0) (1, (a : Int))).length : Int) = rd r1 (a : Int)) && alB (at_ (entsL l l.length 0) (1, (a : Int)))) && allP (kB (entsL l l.length 0) 1 r1) n (a + 1)) && allP (kB (entsL l l.length 0) 2 r2) 12 0)
    rw [lsucc_wrap (n := 100) (by omega) (by omega)]
    by_cases he : ((at_ (entsL l l.length 0) (1, (a : Int))).length : Int) = rd r1 (a : Int)
    · refine Ev.pos he (Ev.bind (alone_ev d1 r1 d2 r2 l c hl hs 1 (a : Int) (by decide)) ?_)
      rw [decide_eq_true he]
      cases alB (at_ (entsL l l.length 0) (1, (a : Int)))
      · exact Ev.neg (by decide) (Ev.pure rfl)
      · exact Ev.pos rfl (ih (a + 1) (by omega))
    · rw [decide_eq_false he]
      exact Ev.neg he (Ev.pure rfl)
theorem mem_l1 (i : Nat) (hi : i < 5) (hl : l.length = 5) (h16 : (spA l i).f2.length ≤ 16) (R : Bool) (rest : Ev (fun k => spec_MemOk.l0 k ((i + 1 : Nat) : Int) d1 r1 d2 r2 l c) R) : ∀ n p : Nat, p + n = (spA l i).f2.length → Ev (fun k => spec_MemOk.l1 k (i : Int) (p : Int) d1 r1 d2 r2 l c) (allP (idB (spA l i)) n p && R) := by
  intro n
  induction n with
  | zero =>
    intro p hp
    refine Ev.step (fun k => by simp only [spec_MemOk.l1]; rfl) ?_
    refine Ev.pos (by omega) (Ev.pos (by omega) (Ev.neg (by show ¬ (p : Int) < ((spA l i).f2.length : Int); omega) ?_))
    rw [lsucc_wrap (n := 100) (by omega) (by omega)]
    exact rest
  | succ n ih =>
    intro p hp
    refine Ev.step (fun k => by simp only [spec_MemOk.l1]; rfl) ?_
    refine Ev.pos (by omega) (Ev.pos (by omega) (Ev.pos (by show (p : Int) < ((spA l i).f2.length : Int); omega) (Ev.pos (by omega) ?_)))
    rw [lsucc_wrap (n := 100) (by omega) (by omega)]
    have ih := ih (p + 1) (by omega)
    simp only [l6In_eq, Option.bind_some]
    show Ev (fun k => if (sl (spA l i) p).f0 = 2 then (if (sl (spA l i) p).f0 = 0 then spec_MemOk.l1 k (i : Int) ((p + 1 : Nat) : Int) d1 r1 d2 r2 l c else (if (decide (0 ≤ (sl (spA l i) p).f1) && decide ((sl (spA l i) p).f1 ≤ 11)) = true then spec_MemOk.l1 k (i : Int) ((p + 1 : Nat) : Int) d1 r1 d2 r2 l c else some false)) else (if (sl (spA l i) p).f0 = 0 then spec_MemOk.l1 k (i : Int) ((p + 1 : Nat) : Int) d1 r1 d2 r2 l c else (if (decide (0 ≤ (sl (spA l i) p).f1) && decide ((sl (spA l i) p).f1 ≤ 11)) = true then spec_MemOk.l1 k (i : Int) ((p + 1 : Nat) : Int) d1 r1 d2 r2 l c else some false))) ((idB (spA l i) p && allP (idB (spA l i)) n (p + 1)) && R)
    have e : ∀ {α : Type} (a : Prop) [Decidable a] (x : α), (if a then x else x) = x := fun a _ x => by split <;> rfl
    simp only [e]
    have e0 : idB (spA l i) p = (decide ((sl (spA l i) p).f0 = 0) || (decide (0 ≤ (sl (spA l i) p).f1) && decide ((sl (spA l i) p).f1 ≤ 11))) := rfl
    rw [e0]
    by_cases h0 : (sl (spA l i) p).f0 = 0
    · rw [decide_eq_true h0]
      exact Ev.pos h0 (Ev.cast ih (by simp))
    · rw [decide_eq_false h0]
      refine Ev.neg h0 ?_
      cases hb : (decide (0 ≤ (sl (spA l i) p).f1) && decide ((sl (spA l i) p).f1 ≤ 11))
      · exact Ev.neg (by decide) (Ev.pure rfl)
      · exact Ev.pos rfl ih
theorem mem_l0 (hl : l.length = 5) (hx : ∀ j, j < 5 → (spA l j).f1.length ≤ 9223372036854775807) (R : Bool) (rest : (∀ j, j < 5 → spB (spA l j) = true) → Ev (fun k => spec_MemOk.l2 k 0 d1 r1 d2 r2 l c) R) : ∀ n i : Nat, i + n = 5 → (∀ j, j < i → spB (spA l j) = true) → Ev (fun k => spec_MemOk.l0 k (i : Int) d1 r1 d2 r2 l c) (allP (fun j => spB (spA l j) && idS (spA l j)) n i && R) := by
  intro n
  induction n with
  | zero =>
    intro i hi hb
    refine Ev.step (fun k => by simp only [spec_MemOk.l0]; rfl) ?_
    exact Ev.neg (by omega) (rest (fun j hj => hb j (by omega)))
  | succ n ih =>
    intro i hi hb
    refine Ev.step (fun k => by simp only [spec_MemOk.l0]; rfl) ?_
    refine Ev.pos (by omega) (Ev.pos (by omega) (Ev.pos (by omega) ?_))
    refine Ev.bind (space_ev (spA l i) (hx i (by omega))) ?_
    show Ev _ (((spB (spA l i) && idS (spA l i)) && allP (fun j => spB (spA l j) && idS (spA l j)) n (i + 1)) && R)
    cases hsp : spB (spA l i)
    · exact Ev.neg (by decide) (Ev.pure rfl)
    refine Ev.pos rfl ?_
    have h := mem_l1 d1 r1 d2 r2 l c i (by omega) hl (spB_len hsp) _ (ih (i + 1) (by omega) (fun j hj => by
      rcases Nat.lt_or_ge j i with h | h
      · exact hb j h
      · have : j = i := by omega
        rw [this]
        exact hsp)) (spA l i).f2.length 0 (by omega)
    refine Ev.cast h ?_
    simp only [Bool.true_and, Bool.and_assoc]
    rfl
def preB : Bool := pagesB d1 r1 && (pagesB d2 r2 && (decide (r1.length = 12) && (decide (r2.length = 12) && (decide (l.length = 5) && (decide (0 ≤ c) && decide (c ≤ 11))))))
def memB : Bool := preB d1 r1 d2 r2 l c && (allP (fun j => spB (spA l j) && idS (spA l j)) 5 0 && (allP (kB (entsL l l.length 0) 1 r1) 12 0 && allP (kB (entsL l l.length 0) 2 r2) 12 0))
theorem spec_ok (hr1 : r1.length ≤ 1048576) (hr2 : r2.length ≤ 1048576) (hx : ∀ j, j < l.length → (spA l j).f1.length ≤ 9223372036854775807) : Ev (fun k => spec_MemOk.f k d1 r1 d2 r2 l c) (memB d1 r1 d2 r2 l c) := by
  unfold spec_MemOk.f memB preB
  simp only [l6In_eq, Option.bind_some]
  have no : Ev (fun k => spec_MemOk.j0 k true d1 r1 d2 r2 l c) false := Ev.step (fun k => by simp only [spec_MemOk.j0]; rfl) (Ev.now _)
  refine Ev.bind (pages_spec d1 r1 hr1) ?_
  cases pagesB d1 r1
  · exact Ev.neg (by decide) no
  refine Ev.pos rfl (Ev.bind (pages_spec d2 r2 hr2) ?_)
  cases pagesB d2 r2
  · exact Ev.neg (by decide) no
  refine Ev.pos rfl ?_
  by_cases h1 : r1.length = 12
  rotate_left
  · rw [decide_eq_false h1]
    exact Ev.neg (by omega) no
  rw [decide_eq_true h1]
  refine Ev.pos (by omega) ?_
  by_cases h2 : r2.length = 12
  rotate_left
  · rw [decide_eq_false h2]
    exact Ev.neg (by omega) no
  rw [decide_eq_true h2]
  refine Ev.pos (by omega) ?_
  by_cases h3 : l.length = 5
  rotate_left
  · rw [decide_eq_false h3]
    exact Ev.neg (by omega) no
  rw [decide_eq_true h3]
  refine Ev.pos (by omega) (Ev.step (fun k => by simp only [spec_MemOk.j0]; rfl) ?_)
  cases hc : (decide (0 ≤ c) && decide (c ≤ 11))
  · exact Ev.pos rfl (Ev.pure rfl)
  · exact Ev.neg (by decide) (mem_l0 d1 r1 d2 r2 l c h3 (fun j hj => hx j (by omega)) _ (fun hs => mem_l2 d1 r1 d2 r2 l c (by omega) (fun j hj => hs j (by omega)) h1 h2 12 0 (by omega)) 5 0 (by omega) (fun j hj => absurd hj (by omega)))
end
end Go.Proofs.Ythoapmfpokohnaa.Q
