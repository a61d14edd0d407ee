/- Locks of records: HeldOk: the program's and the reference's answer alike, and what it says. -/
import Derived.Test.YtgjlbghjjjlhmaaQHeld2
import Derived.Test.YtgjlbghjjjlhmaaPf0
import Derived.Test.YtgjlbghjjjlhmaaPfimplHeldOk
import Derived.Test.YtgjlbghjjjlhmaaPfimplHeldround
import Derived.Test.YtgjlbghjjjlhmaaPfspecHeldOk
import Derived.Test.YtgjlbghjjjlhmaaPfspecl17Round
namespace Go.Proofs.Ytgjlbghjjjlhmaa.Q
open Go.RowKit Go.Proofs.YtgjlbghjjjlhmaaW.PrintWords Go.Proofs.YtgjlbghjjjlhmaaW.PrintLast Go.Proofs.YtgjlbghjjjlhmaaW.PrintMore Go.Proofs.Ytgjlbghjjjlhmaa.P
set_option linter.unusedVariables false
set_option linter.unusedSimpArgs false

def ordW (p : Option Ho) (y : Ho) : Bool := match p with
  | none => true
  | some p => !decide (p.f0 ≥ y.f0)
def waitsI (hs : List Ho) : Option Ho → List Ho → Bool
  | _, [] => true
  | p, y :: l => vH y && (!decide (((clI y hs).length : Int) = 0) && (ordW p y && waitsI hs (some y) l))
def waitsS (hs : List Ho) (rn : Ho → Bool) : Option Ho → List Ho → Bool
  | _, [] => true
  | p, y :: l => vH y && (ordW p y && (!decide (((who hs y).length : Int) = 0) && (!rn y && waitsS hs rn (some y) l)))
theorem waits_eq (hs : List Ho) (hr : ∀ y ∈ hs, 0 ≤ y.f0 ∧ y.f0 ≤ 3) (rn : Ho → Bool) : ∀ (l : List Ho) (p : Option Ho), (waitsI hs p l && !l.any rn) = waitsS hs rn p l
  | [], p => rfl
  | y :: l, p => by
    have ih := waits_eq hs hr rn l (some y)
    simp only [waitsI, waitsS, List.any_cons]
    rw [← ih, clI_who y hs hr]
    cases vH y <;> cases ordW p y <;> cases decide (((who hs y).length : Int) = 0) <;> cases rn y <;> simp
theorem implAll (hs ws : List Ho) (hn : hs.length ≤ 1048576) (hr : ∀ y ∈ hs, 0 ≤ y.f0 ∧ y.f0 ≤ 3) (rn : Ho → Bool) (hrn : ∀ y, Ev (fun k => impl_Held_round.bfs hs ws y.f0 k (who hs y) []) (rn y)) : ∀ l : List Ho, Ev (fun k => impl_Held_round.all k hs ws l) (l.any rn)
  | [] => Ev.now _
  | y :: l => by
    have hc := implClashes y hs ws hn
    rw [clI_who y hs hr] at hc
    simp only [impl_Held_round.all, List.any_cons]
    refine Ev.bind hc (Ev.bind (hrn y) ?_)
    cases hy : rn y with
    | true => exact Ev.pos rfl (Ev.now _)
    | false =>
      rw [Bool.false_or]
      exact Ev.neg (by simp) (implAll hs ws hn hr rn hrn l)
theorem last_wrap {pre' : List Ho} {p : Ho} {n : Nat} (h : (pre'.concat p).length < n) (hn : n ≤ 1048576) : wrap64 (((pre'.concat p).length : Int) - 1) = (pre'.length : Int) ∧ (pre'.length : Int) < (n : Int) := by
  rw [List.concat_eq_append, List.length_append, List.length_singleton] at *
  rw [wrap_id (by omega) (by omega)]
  omega
theorem last_rd {l pre' rest : List Ho} {p : Ho} (hl : l = pre'.concat p ++ rest) : rd_T40 l (pre'.length : Int) = p := by
  rw [hl, List.concat_eq_append, List.append_assoc]
  exact rdH_at _ _ _
theorem implHeld_l1 (hs ws : List Ho) (hn : hs.length ≤ 1048576) (hw : ws.length ≤ 1048576) {q : Bool} (hq : Ev (fun k => impl_Held_round.f k hs ws) q) : ∀ (rest pre : List Ho), ws = pre ++ rest →
    Ev (fun k => impl_HeldOk.l1 k ws (ws.length : Int) (pre.length : Int) hs ws) (waitsI hs pre.getLast? rest && !q) := by
  intro rest
  induction rest with
  | nil =>
    intro pre hl
    refine Ev.step (fun k => by simp only [impl_HeldOk.l1]; rfl) (Ev.neg (by rw [hl]; simp) ?_)
    exact Ev.bind hq (Ev.pure (by simp [waitsI]))
  | cons y rest ih =>
    intro pre hl
    have hlt : pre.length < ws.length := by rw [hl]; simp
    have hr : rd_T40 ws (pre.length : Int) = y := by rw [hl]; exact rdH_at _ _ _
    have hlen : ((pre ++ [y]).length : Int) = ((pre.length + 1 : Nat) : Int) := by simp
    have hx := lsucc_wrap hlt (by omega : ws.length ≤ 9223372036854775807)
    have hi := ih (pre ++ [y]) (by simp [hl])
    rw [List.getLast?_concat, hlen, ← hx] at hi
    simp only [waitsI]
    refine Ev.step (fun k => by simp only [impl_HeldOk.l1]; rfl) (Ev.pos (by omega) (Ev.pos (by omega) (Ev.pos (by omega) ?_)))
    rw [hr]
    refine Ev.bind (Ev.const (implHok y)) ?_
    cases hv : vH y with
    | false => exact Ev.neg (by simp) (Ev.now _)
    | true =>
      refine Ev.pos rfl (Ev.bind (implClashes y hs ws hn) ?_)
      rw [Bool.true_and]
      by_cases h0 : ((clI y hs).length : Int) = 0
      · exact Ev.pos h0 (Ev.pure (by simp [h0]))
      · refine Ev.neg h0 ?_
        have h0' : decide (((clI y hs).length : Int) = 0) = false := decide_eq_false h0
        rw [h0', Bool.not_false, Bool.true_and]
        rcases List.eq_nil_or_concat pre with rfl | ⟨pre', p, rfl⟩
        · refine Ev.neg (by simp) ?_
          have : ordW ([] : List Ho).getLast? y = true := rfl
          rw [this, Bool.true_and]
          exact hi
        · obtain ⟨w1, w2⟩ := last_wrap hlt hw
          have w3 := last_rd hl
          have hla : ordW (pre'.concat p).getLast? y = !decide (p.f0 ≥ y.f0) := by rw [List.concat_eq_append, List.getLast?_concat]; rfl
          rw [hla]
          refine Ev.pos (by rw [List.concat_eq_append, List.length_append, List.length_singleton]; omega) ?_
          rw [w1]
          refine Ev.pos (by omega) (Ev.pos w2 ?_)
          rw [w3]
          by_cases h1 : p.f0 ≥ y.f0
          · exact Ev.pos h1 (Ev.pure (by simp [h1]))
          · refine Ev.neg h1 (Ev.cast hi ?_)
            have h1' : decide (p.f0 ≥ y.f0) = false := decide_eq_false h1
            rw [h1']
            simp
theorem specHeld_l0 (hs ws : List Ho) (hn : hs.length ≤ 1048576) (hw : ws.length ≤ 1048576) (rn : Ho → Bool) (hrn : ∀ y, Ev (fun k => spec_l17Round.f k hs ws (who hs y) y.f0) (rn y)) : ∀ (rest pre : List Ho), ws = pre ++ rest →
    Ev (fun k => spec_HeldOk.l0 k (pre.length : Int) hs ws) (waitsS hs rn pre.getLast? rest) := by
  intro rest
  induction rest with
  | nil =>
    intro pre hl
    exact Ev.step (fun k => by simp only [spec_HeldOk.l0]; rfl) (Ev.neg (by rw [hl]; simp) (Ev.now _))
  | cons y rest ih =>
    intro pre hl
    have hlt : pre.length < ws.length := by rw [hl]; simp
    have hr : rd_T40 ws (pre.length : Int) = y := by rw [hl]; exact rdH_at _ _ _
    have hlen : ((pre ++ [y]).length : Int) = ((pre.length + 1 : Nat) : Int) := by simp
    have hx := lsucc_wrap hlt (by omega : ws.length ≤ 9223372036854775807)
    have hi := ih (pre ++ [y]) (by simp [hl])
    rw [List.getLast?_concat, hlen, ← hx] at hi
    have hj : Ev (fun k => spec_HeldOk.j1 k (pre.length : Int) false hs ws y.f0 y.f1 y.f2 y.f3) (!decide (((who hs y).length : Int) = 0) && (!rn y && waitsS hs rn (some y) rest)) := by
      refine Ev.step (fun k => by simp only [spec_HeldOk.j1]; rfl) (Ev.neg (by simp) (Ev.bind (specWho y hs hn) ?_))
      by_cases h0 : ((who hs y).length : Int) = 0
      · exact Ev.pos h0 (Ev.pure (by simp [h0]))
      · have h0' : decide (((who hs y).length : Int) = 0) = false := decide_eq_false h0
        rw [h0', Bool.not_false, Bool.true_and]
        refine Ev.neg h0 (Ev.bind (hrn y) ?_)
        cases rn y with
        | true => exact Ev.pos rfl (Ev.now _)
        | false =>
          rw [Bool.not_false, Bool.true_and]
          exact Ev.neg (by simp) hi
    have hbad : Ev (fun k => spec_HeldOk.j1 k (pre.length : Int) true hs ws y.f0 y.f1 y.f2 y.f3) false := by
      refine Ev.step (fun k => by simp only [spec_HeldOk.j1]; rfl) ?_
      exact Ev.pos (by trivial) (Ev.now _)
    simp only [waitsS]
    refine Ev.step (fun k => by simp only [spec_HeldOk.l0]; rfl) (Ev.pos (by omega) (Ev.pos (by omega) ?_))
    rw [hr]
    refine Ev.bind (Ev.const (specHok y)) ?_
    cases hv : vH y with
    | false => exact Ev.neg (by simp) hbad
    | true =>
      refine Ev.pos rfl ?_
      rw [Bool.true_and]
      rcases List.eq_nil_or_concat pre with rfl | ⟨pre', p, rfl⟩
      · refine Ev.neg (by simp) ?_
        have : ordW ([] : List Ho).getLast? y = true := rfl
        rw [this, Bool.true_and]
        exact hj
      · obtain ⟨w1, w2⟩ := last_wrap hlt hw
        have w3 := last_rd hl
        have hla : ordW (pre'.concat p).getLast? y = !decide (p.f0 ≥ y.f0) := by rw [List.concat_eq_append, List.getLast?_concat]; rfl
        rw [hla]
        refine Ev.pos (by rw [List.concat_eq_append, List.length_append, List.length_singleton]; omega) ?_
        rw [w1]
        refine Ev.pos (by omega) (Ev.pos w2 ?_)
        rw [w3]
        cases hd : decide (p.f0 ≥ y.f0) with
        | true => exact hbad
        | false =>
          rw [Bool.not_false, Bool.true_and]
          exact hj
theorem implHeld_l0 (hs ws : List Ho) (hn : hs.length ≤ 1048576) {r : Bool} : ∀ (rest pre : List Ho), hs = pre ++ rest → (∀ p, pre.getLast? = some p → vH p = true) →
    (tidyI hs pre.getLast? rest = true → Ev (fun k => impl_HeldOk.l1 k ws (ws.length : Int) 0 hs ws) r) → (tidyI hs pre.getLast? rest = false → r = false) →
    Ev (fun k => impl_HeldOk.l0 k hs (hs.length : Int) (pre.length : Int) hs ws) r := by
  intro rest
  induction rest with
  | nil =>
    intro pre hl _ h1 _
    exact Ev.step (fun k => by simp only [impl_HeldOk.l0]; rfl) (Ev.neg (by rw [hl]; simp) (h1 rfl))
  | cons x rest ih =>
    intro pre hl hp h1 h2
    have hlt : pre.length < hs.length := by rw [hl]; simp
    have hr : rd_T40 hs (pre.length : Int) = x := by rw [hl]; exact rdH_at _ _ _
    have hlen : ((pre ++ [x]).length : Int) = ((pre.length + 1 : Nat) : Int) := by simp
    have hx := lsucc_wrap hlt (by omega : hs.length ≤ 9223372036854775807)
    have hi := ih (pre ++ [x]) (by simp [hl])
    rw [List.getLast?_concat, hlen, ← hx] at hi
    have hT : tidyI hs pre.getLast? (x :: rest) = (vH x && (noCl hs x && (adj pre.getLast? x && tidyI hs (some x) rest))) := by
      unfold tidyI
      simp only [List.all_cons, adjL]
      cases vH x <;> cases noCl hs x <;> cases adj pre.getLast? x <;> cases (rest.all fun x => vH x && noCl hs x) <;> rfl
    rw [hT] at h1 h2
    have hbad : r = false → Ev (fun k => impl_HeldOk.j1 k (pre.length : Int) hs (hs.length : Int) (pre.length : Int) true hs ws x.f0 x.f1 x.f2 x.f3) r := fun e => by
      refine Ev.step (fun k => by simp only [impl_HeldOk.j1]; rfl) ?_
      exact Ev.pos (by trivial) (Ev.pure e.symm)
    refine Ev.step (fun k => by simp only [impl_HeldOk.l0]; rfl) (Ev.pos (by omega) (Ev.pos (by omega) (Ev.pos (by omega) ?_)))
    rw [hr]
    refine Ev.bind (Ev.const (implHok x)) ?_
    cases hv : vH x with
    | false =>
      rw [hv] at h2
      exact Ev.neg (by simp) (hbad (h2 rfl))
    | true =>
      rw [hv] at h1 h2
      simp only [Bool.true_and] at h1 h2
      refine Ev.pos rfl (Ev.bind (implClashes x hs ws hn) ?_)
      cases hc : noCl hs x with
      | false =>
        have hd : decide (((clI x hs).length : Int) > 0) = true := by
          refine decide_eq_true ?_
          rcases Nat.eq_zero_or_pos (clI x hs).length with h0 | h0
          · exfalso
            have := (clI_nil x hs).1 h0
            have h3 : noCl hs x = true := by
              unfold noCl
              rw [List.all_eq_true]
              intro y hy
              rw [this y hy]
              rfl
            rw [h3] at hc
            cases hc
          · omega
        rw [hc] at h2
        rw [hd]
        exact hbad (h2 rfl)
      | true =>
        have hd : decide (((clI x hs).length : Int) > 0) = false := by
          refine decide_eq_false ?_
          have h0 : (clI x hs).length = 0 := by
            rw [clI_nil]
            intro y hy
            have := List.all_eq_true.1 hc y hy
            simpa using this
          omega
        rw [hc] at h1 h2
        simp only [Bool.true_and] at h1 h2
        rw [hd]
        refine Ev.step (fun k => by simp only [impl_HeldOk.j1]; rfl) (Ev.neg (by simp) ?_)
        have hv1 : ∀ p, some x = some p → vH p = true := fun p e => by cases e; exact hv
        rcases List.eq_nil_or_concat pre with rfl | ⟨pre', p, rfl⟩
        · have : adj ([] : List Ho).getLast? x = true := rfl
          rw [this, Bool.true_and] at h1 h2
          exact Ev.pos rfl (hi hv1 h1 h2)
        · obtain ⟨w1, w2⟩ := last_wrap hlt hn
          have w3 := last_rd hl
          have hla : adj (pre'.concat p).getLast? x = adjP p x := by rw [List.concat_eq_append, List.getLast?_concat]; rfl
          have hvp : vH p = true := hp p (by rw [List.concat_eq_append, List.getLast?_concat])
          obtain ⟨_, _, _, g4, _⟩ := vH_rng hvp
          rw [hla] at h1 h2
          refine Ev.neg (by rw [List.concat_eq_append, List.length_append, List.length_singleton]; omega) ?_
          rw [w1]
          refine Ev.pos (by omega) (Ev.pos w2 ?_)
          rw [w3]
          unfold adjP at h1 h2
          by_cases c1 : p.f0 > x.f0
          · exact Ev.pos c1 (Ev.pure (h2 (by simp [c1])).symm)
          refine Ev.neg c1 ?_
          have c1' : decide (p.f0 > x.f0) = false := decide_eq_false c1
          rw [c1', Bool.false_or] at h1 h2
          by_cases c2 : p.f0 = x.f0
          · refine Ev.pos c2 ?_
            have c2' : decide (p.f0 = x.f0) = true := decide_eq_true c2
            rw [c2', Bool.true_and] at h1 h2
            by_cases c3 : p.f1 ≥ x.f1
            · have c4 : p.f2 ≥ x.f1 := by omega
              exact Ev.pos c3 (Ev.pure (h2 (by simp [c4])).symm)
            refine Ev.neg c3 ?_
            by_cases c4 : p.f2 ≥ x.f1
            · exact Ev.pos c4 (Ev.pure (h2 (by simp [c4])).symm)
            refine Ev.neg c4 ?_
            have c4' : decide (p.f2 ≥ x.f1) = false := decide_eq_false c4
            rw [c4', Bool.false_or] at h1 h2
            by_cases c5 : (p.f3 == x.f3) = true
            · refine Ev.pos c5 ?_
              rw [c5, Bool.and_true] at h1 h2
              by_cases c6 : wrap64 (p.f2 + 1) = x.f1
              · exact Ev.pos c6 (Ev.pure (h2 (by simp [c6])).symm)
              · have c6' : decide (wrap64 (p.f2 + 1) = x.f1) = false := decide_eq_false c6
                rw [c6', Bool.not_false, Bool.true_and] at h1 h2
                exact Ev.neg c6 (hi hv1 h1 h2)
            · have c5' : (p.f3 == x.f3) = false := by simpa using c5
              rw [c5', Bool.and_false, Bool.not_false, Bool.true_and] at h1 h2
              exact Ev.neg c5 (hi hv1 h1 h2)
          · have c2' : decide (p.f0 = x.f0) = false := decide_eq_false c2
            rw [c2', Bool.false_and, Bool.not_false, Bool.true_and] at h1 h2
            exact Ev.neg c2 (hi hv1 h1 h2)
/-- What a valid Held says of its holds. -/
structure Tidy (hs : List Ho) : Prop where
  rng : ∀ x ∈ hs, 0 ≤ x.f0 ∧ x.f0 ≤ 3 ∧ 0 ≤ x.f1 ∧ x.f1 ≤ x.f2 ∧ x.f2 ≤ 15
  apart : ∀ x ∈ hs, ∀ y ∈ hs, cl x y = false
  adj : adjL none hs = true
theorem tidy_of {hs : List Ho} (h : tidyI hs none hs = true) : Tidy hs := by
  unfold tidyI at h
  rw [Bool.and_eq_true, List.all_eq_true] at h
  obtain ⟨h1, h2⟩ := h
  refine ⟨fun x hx => ?_, fun x hx y hy => ?_, h2⟩
  · have := h1 x hx
    rw [Bool.and_eq_true] at this
    exact vH_rng this.1
  · have := h1 x hx
    rw [Bool.and_eq_true] at this
    have := List.all_eq_true.1 this.2 y hy
    simpa using this
theorem waitsS_ok (hs : List Ho) (rn : Ho → Bool) : ∀ (l : List Ho) (p : Option Ho) (m : Int), ((p = none ∧ m = -1) ∨ ∃ q, p = some q ∧ m = q.f0 ∧ m ≤ 3) → waitsS hs rn p l = true → (∀ y ∈ l, vH y = true) ∧ (l.length : Int) ≤ 3 - m
  | [], p, m, hp, h => ⟨fun _ hy => by simp at hy, by
    simp only [List.length_nil]
    rcases hp with ⟨_, h⟩ | ⟨q, _, _, h⟩ <;> omega⟩
  | y :: l, p, m, hp, h => by
    simp only [waitsS, Bool.and_eq_true] at h
    obtain ⟨hv, ho, _, _, hw⟩ := h
    have hr := vH_rng hv
    have ih := waitsS_ok hs rn l (some y) y.f0 (.inr ⟨y, rfl, rfl, hr.2.1⟩) hw
    have hm : m + 1 ≤ y.f0 := by
      rcases hp with ⟨rfl, h⟩ | ⟨q, rfl, h, _⟩
      · omega
      · simp only [ordW, Bool.not_eq_true', decide_eq_false_iff_not] at ho
        omega
    refine ⟨fun z hz => ?_, ?_⟩
    · rcases List.mem_cons.1 hz with rfl | hz
      · exact hv
      · exact ih.1 z hz
    · have h3 := ih.2
      simp only [List.length_cons]
      omega
/-- HeldOk: one answer; and where it is yes, the holds are tidy, the waits valid and few. -/
theorem heldOkW (hs ws : List Ho) (hn : hs.length ≤ 1048576) (hw : ws.length ≤ 1048576) : ∃ r, Ev (fun k => impl_HeldOk.f k hs ws) r ∧ Ev (fun k => spec_HeldOk.f k hs ws) r ∧ (r = true → Tidy hs ∧ (∀ y ∈ ws, vH y = true) ∧ ws.length ≤ 4) := by
  cases ht : tidyI hs none hs with
  | false =>
    refine ⟨false, ?_, ?_, fun e => by cases e⟩
    · unfold impl_HeldOk.f
      exact implHeld_l0 hs ws hn hs [] rfl (fun p e => by cases e) (fun e => by rw [show ([] : List Ho).getLast? = none from rfl, ht] at e; cases e) (fun _ => rfl)
    · unfold spec_HeldOk.f
      have h := specTidy hs hn
      rw [← tidy_eq, ht] at h
      exact Ev.bind h (Ev.neg (by simp) (Ev.now _))
  | true =>
    have hT := tidy_of ht
    have hr : ∀ y ∈ hs, 0 ≤ y.f0 ∧ y.f0 ≤ 3 := fun y hy => ⟨(hT.rng y hy).1, (hT.rng y hy).2.1⟩
    obtain ⟨rn, hrn⟩ := Classical.axiomOfChoice (rounds_ex hs ws hn hw hr)
    refine ⟨waitsS hs rn none ws, ?_, ?_, fun e => ⟨hT, (waitsS_ok hs rn ws none (-1) (.inl ⟨rfl, rfl⟩) e).1, by have := (waitsS_ok hs rn ws none (-1) (.inl ⟨rfl, rfl⟩) e).2; omega⟩⟩
    · unfold impl_HeldOk.f
      refine implHeld_l0 hs ws hn hs [] rfl (fun p e => by cases e) (fun _ => ?_) (fun e => by rw [show ([] : List Ho).getLast? = none from rfl, ht] at e; cases e)
      rw [← waits_eq hs hr rn ws none]
      exact implHeld_l1 hs ws hn hw (implAll hs ws hn hr rn (fun y => (hrn y).1) ws) ws [] rfl
    · unfold spec_HeldOk.f
      have h := specTidy hs hn
      rw [← tidy_eq, ht] at h
      exact Ev.bind h (Ev.pos rfl (specHeld_l0 hs ws hn hw rn (fun y => (hrn y).2) ws [] rfl))
theorem heldOk (hs ws : List Ho) (hn : hs.length ≤ 1048576) (hw : ws.length ≤ 1048576) : ∃ r, Ev (fun k => impl_HeldOk.f k hs ws) r ∧ Ev (fun k => spec_HeldOk.f k hs ws) r ∧ (r = true → Tidy hs) := by
  obtain ⟨r, h1, h2, h3⟩ := heldOkW hs ws hn hw
  exact ⟨r, h1, h2, fun e => (h3 e).1⟩
end Go.Proofs.Ytgjlbghjjjlhmaa.Q
