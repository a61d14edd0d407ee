/- Areas, without Go and memory: one more area (the reference's), and how areas are drawn. -/
import Derived.Test.YtlahnekinlkfmaaQAreas2
import Derived.Test.YtlahnekinlkfmaaQPick
import Derived.Test.YtlahnekinlkfmaaPfspecAreasAdd
import Derived.Test.YtlahnekinlkfmaaPfspecl2Add
import Derived.Test.YtlahnekinlkfmaaPfspecl91Area
import Derived.Test.YtlahnekinlkfmaaPfspecl91Areas
namespace Go.Proofs.Ytlahnekinlkfmaa.Q
open Go.RowKit Go.Proofs.YtlahnekinlkfmaaW.PrintWords Go.Proofs.YtlahnekinlkfmaaW.PrintLast Go.Proofs.YtlahnekinlkfmaaW.PrintMore Go.Proofs.Ytlahnekinlkfmaa.P
set_option linter.unusedVariables false
set_option linter.unusedSimpArgs false

def addL (a : Ar) : List Ar → List Ar
  | [] => [a]
  | b :: l => if b.f0 ≥ a.f0 then a :: b :: l else b :: addL a l
theorem addL_length (a : Ar) : ∀ l, (addL a l).length = l.length + 1
  | [] => rfl
  | b :: l => by
    simp only [addL]
    split
    · simp
    · simp [addL_length a l]
theorem l2Add_done (a : Ar) : ∀ (rest pre out : List Ar), (pre ++ rest).length ≤ 1048576 → out.length + rest.length ≤ 1048577 → Ev (fun k => spec_l2Add.l0 k (pre ++ rest) out true (pre.length : Int) a.f0 a.f1 a.f2 a.f3) (out ++ rest) := by
  intro rest
  induction rest with
  | nil =>
    intro pre out hn ho
    refine Ev.step (fun k => by simp only [spec_l2Add.l0]; rfl) ?_
    exact Ev.neg (by simp) (Ev.pos (by trivial) (Ev.pure (by simp)))
  | cons x rest ih =>
    intro pre out hn ho
    have hlt : pre.length < (pre ++ x :: rest).length := by simp
    simp only [List.length_cons] at ho
    refine Ev.step (fun k => by simp only [spec_l2Add.l0]; rfl) ?_
    refine Ev.pos (by omega) (Ev.pos (by trivial) (Ev.pos (by omega) (Ev.pos (by omega) ?_)))
    rw [rd_pre, succ_wrap hlt (by omega)]
    have := ih (pre ++ [x]) (out ++ [x]) (by simpa using hn) (by simp; omega)
    simp only [List.append_assoc, List.singleton_append, List.length_append, List.length_singleton] at this
    exact this
theorem l2Add_l (a : Ar) : ∀ (rest pre out : List Ar), (pre ++ rest).length ≤ 1048576 → out.length + rest.length ≤ 1048576 → Ev (fun k => spec_l2Add.l0 k (pre ++ rest) out false (pre.length : Int) a.f0 a.f1 a.f2 a.f3) (out ++ addL a rest) := by
  intro rest
  induction rest with
  | nil =>
    intro pre out hn ho
    refine Ev.step (fun k => by simp only [spec_l2Add.l0]; rfl) ?_
    simp only [List.length_nil] at ho
    exact Ev.neg (by simp) (Ev.neg (by decide) (Ev.pos (by omega) (Ev.pure rfl)))
  | cons x rest ih =>
    intro pre out hn ho
    have hlt : pre.length < (pre ++ x :: rest).length := by simp
    simp only [List.length_cons] at ho
    refine Ev.step (fun k => by simp only [spec_l2Add.l0]; rfl) ?_
    refine Ev.pos (by omega) (Ev.neg (by decide) (Ev.pos (by omega) ?_))
    rw [rd_pre, succ_wrap hlt (by omega)]
    by_cases h : x.f0 ≥ a.f0
    · refine Ev.pos h (Ev.pos (by omega) (Ev.bind (Ev.now _) (Ev.pos (by simp; omega) ?_)))
      have := l2Add_done a rest (pre ++ [x]) (out ++ [a] ++ [x]) (by simpa using hn) (by simp; omega)
      simp only [List.append_assoc, List.singleton_append, List.length_append, List.length_singleton] at this
      simp only [addL, if_pos h]
      simp only [List.append_assoc, List.singleton_append, List.cons_append, List.nil_append] at this ⊢
      exact this
    · refine Ev.neg h (Ev.pos (by omega) ?_)
      have := ih (pre ++ [x]) (out ++ [x]) (by simpa using hn) (by simp; omega)
      simp only [List.append_assoc, List.singleton_append, List.length_append, List.length_singleton] at this
      simp only [addL, if_neg h]
      exact this
theorem l2Add_ev (l : List Ar) (a : Ar) (hn : l.length ≤ 1048576) : Ev (fun k => spec_l2Add.f k l a.f0 a.f1 a.f2 a.f3) (addL a l) := by
  unfold spec_l2Add.f
  have := l2Add_l a l [] [] hn (by simpa using hn)
  simpa using this
def areasAdd (l : List Ar) (a : Ar) : List Ar × Bool := if areasOk l && areaOk a then (if areasOk (addL a l) then (addL a l, true) else ([], false)) else ([], false)
theorem specAdd (l : List Ar) (a : Ar) (hn : l.length ≤ 1048576) : Ev (fun k => spec_AreasAdd.f k l a.f0 a.f1 a.f2 a.f3) (areasAdd l a) := by
  unfold spec_AreasAdd.f areasAdd
  refine Ev.bind (specOk l (by omega)) ?_
  cases h1 : areasOk l with
  | false =>
    refine Ev.neg (by decide) ?_
    refine Ev.step (fun k => by simp only [spec_AreasAdd.j0]; rfl) ?_
    exact Ev.pos (by trivial) (Ev.pure rfl)
  | true =>
    refine Ev.pos rfl (Ev.bind (Ev.const (specAreaOk_eq _ _ _ _)) ?_)
    refine Ev.step (fun k => by simp only [spec_AreasAdd.j0]; rfl) ?_
    cases h2 : areaOk a with
    | false => exact Ev.pos rfl (Ev.pure rfl)
    | true =>
      refine Ev.neg (by decide) (Ev.bind (l2Add_ev l a hn) (Ev.bind (specOk _ (by rw [addL_length]; omega)) ?_))
      cases h3 : areasOk (addL a l) with
      | false => exact Ev.neg (by decide) (Ev.pure rfl)
      | true => exact Ev.pos rfl (Ev.pure rfl)
theorem areasAdd_len (l : List Ar) (a : Ar) : (areasAdd l a).1.length ≤ 6 := by
  unfold areasAdd
  split
  · split
    · rename_i h
      exact ((areasOk_iff _).1 h).2
    · simp
  · simp

theorem area_ev (s : List Int) (hs : Bytes s) (p : Int) (hp : 0 ≤ p) (hp' : p ≤ 900000) : ∃ (a : Ar) (p' : Int), Ev (fun k => spec_l91Area.f k s p) (a.f0, a.f1, a.f2, a.f3, p') ∧ p ≤ p' ∧ p' ≤ p + 6 := by
  obtain ⟨v0, e0, l0, u0, _⟩ := pick_ev s hs p 16 hp (by omega) (by omega)
  obtain ⟨v1, e1, l1, u1, _⟩ := pick_ev s hs (p + 1) 5 (by omega) (by omega) (by omega)
  obtain ⟨v2, e2, l2, u2, _⟩ := pick_ev s hs (p + 1 + 1) 4 (by omega) (by omega) (by omega)
  obtain ⟨v3, e3, l3, u3, _⟩ := pick_ev s hs (p + 1 + 1 + 1) 3 (by omega) (by omega) (by omega)
  obtain ⟨v4, e4, l4, u4, _⟩ := pick_ev s hs (p + 1 + 1 + 1 + 1) 20 (by omega) (by omega) (by omega)
  obtain ⟨v5, e5, l5, u5, _⟩ := pick_ev s hs (p + 1 + 1 + 1 + 1 + 1) 4 (by omega) (by omega) (by omega)
  have u5' := u5 (by omega)
  unfold spec_l91Area.f
  by_cases h : v4 = 0
  · refine ⟨⟨v0, rd [0, (-1), 16, 17] v5, decide (v2 > 0), v3 == 0⟩, p + 1 + 1 + 1 + 1 + 1 + 1, ?_, by omega, by omega⟩
    refine Ev.bind e0 (Ev.bind e1 (Ev.bind e2 (Ev.bind e3 (Ev.bind e4 (Ev.pos h (Ev.bind (Ev.now _) (Ev.bind e5 (Ev.pos l5 (Ev.pos ?_ (Ev.pure rfl))))))))))
    simpa using u5'
  · refine ⟨⟨v0, wrap64 (1 + v1), decide (v2 > 0), v3 == 0⟩, p + 1 + 1 + 1 + 1 + 1, ?_, by omega, by omega⟩
    exact Ev.bind e0 (Ev.bind e1 (Ev.bind e2 (Ev.bind e3 (Ev.bind e4 (Ev.neg h (Ev.pure rfl))))))
theorem areas_l (s : List Int) (hs : Bytes s) : ∀ (n : Nat) (list : List Ar) (p : Int), list.length ≤ 6 → n ≤ 100 → 0 ≤ p → p + 6 * n ≤ 800000 →
    ∃ (l : List Ar) (p' : Int), Ev (fun k => spec_l91Areas.l0 k list (n : Int) s p) (l, p') ∧ l.length ≤ 7 ∧ p ≤ p' ∧ p' ≤ p + 6 * n + 7 := by
  intro n
  induction n with
  | zero =>
    intro list p hl _ hp hp'
    obtain ⟨v, e, lo, hi, _⟩ := pick_ev s hs p 16 hp (by omega) (by omega)
    by_cases h : v = 0
    · obtain ⟨a, q, ea, h1, h2⟩ := area_ev s hs (p + 1) (by omega) (by omega)
      refine ⟨list ++ [a], q, ?_, by simp; omega, by omega, by omega⟩
      refine Ev.step (fun k => by simp only [spec_l91Areas.l0]; rfl) ?_
      exact Ev.neg (by decide) (Ev.bind e (Ev.pos h (Ev.bind ea (Ev.pos (by omega) (Ev.pure rfl)))))
    · refine ⟨list, p + 1, ?_, by omega, by omega, by omega⟩
      refine Ev.step (fun k => by simp only [spec_l91Areas.l0]; rfl) ?_
      exact Ev.neg (by decide) (Ev.bind e (Ev.neg h (Ev.pure rfl)))
  | succ n ih =>
    intro list p hl hn hp hp'
    obtain ⟨a, q, ea, h1, h2⟩ := area_ev s hs p hp (by omega)
    have hadd := specAdd list ⟨a.f0, wrap64 (1 + Int.tmod a.f1 3), a.f2, a.f3⟩ (by omega)
    have hlen := areasAdd_len list ⟨a.f0, wrap64 (1 + Int.tmod a.f1 3), a.f2, a.f3⟩
    have hw : wrap64 (((n + 1 : Nat) : Int) - 1) = (n : Int) := by rw [wrap_id (by omega) (by omega)]; omega
    generalize areasAdd list ⟨a.f0, wrap64 (1 + Int.tmod a.f1 3), a.f2, a.f3⟩ = res at hadd hlen
    obtain ⟨nx, ok⟩ := res
    cases ok with
    | true =>
      obtain ⟨l, p', el, hl', g1, g2⟩ := ih nx q hlen (by omega) (by omega) (by omega)
      refine ⟨l, p', ?_, hl', by omega, by omega⟩
      refine Ev.step (fun k => by simp only [spec_l91Areas.l0]; rfl) ?_
      refine Ev.pos (by omega) (Ev.bind ea (Ev.bind hadd (Ev.pos rfl ?_)))
      rw [hw]
      exact el
    | false =>
      obtain ⟨l, p', el, hl', g1, g2⟩ := ih list q hl (by omega) (by omega) (by omega)
      refine ⟨l, p', ?_, hl', by omega, by omega⟩
      refine Ev.step (fun k => by simp only [spec_l91Areas.l0]; rfl) ?_
      refine Ev.pos (by omega) (Ev.bind ea (Ev.bind hadd (Ev.neg (by simp) ?_)))
      rw [hw]
      exact el
theorem areas_ev (s : List Int) (hs : Bytes s) (p : Int) (hp : 0 ≤ p) (hp' : p ≤ 700000) : ∃ (l : List Ar) (p' : Int), Ev (fun k => spec_l91Areas.f k s p) (l, p') ∧ l.length ≤ 7 ∧ p ≤ p' ∧ p' ≤ p + 60 := by
  obtain ⟨v, e, lo, hi, _⟩ := pick_ev s hs p 7 hp (by omega) (by omega)
  have hi' := hi (by omega)
  obtain ⟨m, rfl⟩ := Int.eq_ofNat_of_zero_le lo
  obtain ⟨l, p', el, hl, h1, h2⟩ := areas_l s hs m [] (p + 1) (by simp) (by omega) (by omega) (by omega)
  refine ⟨l, p', ?_, hl, by omega, by omega⟩
  unfold spec_l91Areas.f
  exact Ev.bind e el
end Go.Proofs.Ytlahnekinlkfmaa.Q
