/- Clocks: what the program's and the reference's setting and dropping answer is what the model says. -/
import Derived.Test.YtlejcgnfpcngbaaQClockM
import Derived.Test.YtlejcgnfpcngbaaPf0
import Derived.Test.YtlejcgnfpcngbaaPfimplClockOk
import Derived.Test.YtlejcgnfpcngbaaPfimplClockat
import Derived.Test.YtlejcgnfpcngbaaPfspecl19Add
import Derived.Test.YtlejcgnfpcngbaaPfspecl19Less
namespace Go.Proofs.Ytlejcgnfpcngbaa.Q
open Go.RowKit Go.Proofs.YtlejcgnfpcngbaaW.PrintWords Go.Proofs.YtlejcgnfpcngbaaW.PrintLast Go.Proofs.YtlejcgnfpcngbaaW.PrintMore Go.Proofs.Ytlejcgnfpcngbaa.P
set_option linter.unusedVariables false
set_option linter.unusedSimpArgs false

-- the reference's lists
theorem l19Less_l (id : Int) (l : List Al) (hn : l.length ≤ 5000000000000) : ∀ rest pre : List Al, l = pre ++ rest →
    Ev (fun k => spec_l19Less.l0 k l id (lessA pre id) (pre.length : Int)) (lessA l id) := by
  intro rest
  induction rest with
  | nil =>
    intro pre hl
    rw [List.append_nil] at hl
    subst hl
    refine Ev.step (fun k => by simp only [spec_l19Less.l0]; rfl) ?_
    exact Ev.neg (by omega) (Ev.pure rfl)
  | cons a rest ih =>
    intro pre hl
    have hlt : pre.length < l.length := by rw [hl]; simp
    have hx : rd_T62 l (pre.length : Int) = a := by unfold rd_T62; rw [hl, Int.toNat_natCast, lgetD_prefix]
    have hle : (lessA pre id).length ≤ pre.length := List.length_filter_le _ _
    have h := ih (pre ++ [a]) (by rw [hl]; simp)
    refine Ev.step (fun k => by simp only [spec_l19Less.l0]; rfl) ?_
    rw [hx]
    refine Ev.pos (by omega) (Ev.pos (by omega) ?_)
    rw [lsucc_wrap hlt (by omega)]
    have e : lessA (pre ++ [a]) id = if a.f0 = id then lessA pre id else lessA pre id ++ [a] := by
      unfold lessA
      rw [List.filter_append]
      by_cases h : a.f0 = id
      · simp [h]
      · simp [h]
    rw [e] at h
    simp only [List.length_append, List.length_cons, List.length_nil, Nat.zero_add] at h
    by_cases hd : a.f0 = id
    · rw [if_pos hd] at h
      exact Ev.pos hd h
    · rw [if_neg hd] at h
      exact Ev.neg hd (Ev.pos (by omega) h)
theorem l19Less_ev (id : Int) (l : List Al) (hn : l.length ≤ 5000000000000) : Ev (fun k => spec_l19Less.f k l id) (lessA l id) := by
  unfold spec_l19Less.f
  exact l19Less_l id l hn l [] rfl
def addTail (done : Bool) (l : List Al) (a : Al) : List Al := if done = true then l else addA l a
theorem l19Add_l (a : Al) (l : List Al) (hn : l.length ≤ 5000000000000) : ∀ (rest pre out : List Al) (done : Bool), l = pre ++ rest → out.length ≤ pre.length + (if done = true then 1 else 0) →
    Ev (fun k => spec_l19Add.l0 k l out done (pre.length : Int) a.f0 a.f1 a.f2) (out ++ addTail done rest a) := by
  intro rest
  induction rest with
  | nil =>
    intro pre out done hl ho
    have hpl : pre.length = l.length := by rw [hl]; simp
    refine Ev.step (fun k => by simp only [spec_l19Add.l0]; rfl) ?_
    refine Ev.neg (by omega) ?_
    cases done with
    | true => exact Ev.pos rfl (Ev.pure (by simp [addTail]))
    | false => exact Ev.neg (by decide) (Ev.pos (by simp at ho; omega) (Ev.pure (by simp [addTail, addA])))
  | cons x rest ih =>
    intro pre out done hl ho
    have hlt : pre.length < l.length := by rw [hl]; simp
    have hx : rd_T62 l (pre.length : Int) = x := by unfold rd_T62; rw [hl, Int.toNat_natCast, lgetD_prefix]
    have h := fun (o : List Al) (d : Bool) (hol : o.length ≤ pre.length + 1 + (if d = true then 1 else 0)) => ih (pre ++ [x]) o d (by rw [hl]; simp) (by simpa using hol)
    simp only [List.length_append, List.length_cons, List.length_nil, Nat.zero_add] at h
    refine Ev.step (fun k => by simp only [spec_l19Add.l0]; rfl) ?_
    rw [hx]
    refine Ev.pos (by omega) ?_
    rw [lsucc_wrap hlt (by omega)]
    cases done with
    | true =>
      refine Ev.pos rfl (Ev.pos (by omega) (Ev.pos (by simp at ho; omega) ?_))
      have := h (out ++ [x]) true (by simp at ho ⊢; omega)
      refine Ev.cast this ?_
      simp [addTail]
    | false =>
      refine Ev.neg (by decide) (Ev.pos (by omega) (Ev.bind (Ev.const (l19Ahead_eq a x)) ?_))
      cases ha : ahead a x with
      | true =>
        refine Ev.pos rfl (Ev.pos (by simp at ho; omega) (Ev.bind (Ev.now _) (Ev.pos (by simp at ho ⊢; omega) ?_)))
        have := h (out ++ [a] ++ [x]) true (by simp at ho ⊢; omega)
        refine Ev.cast this ?_
        simp [addTail, addA, ha]
      | false =>
        refine Ev.neg (by decide) (Ev.pos (by simp at ho; omega) ?_)
        have := h (out ++ [x]) false (by simp at ho ⊢; omega)
        refine Ev.cast this ?_
        simp [addTail, addA, ha]
theorem l19Add_ev (a : Al) (l : List Al) (hn : l.length ≤ 5000000000000) : Ev (fun k => spec_l19Add.f k l a.f0 a.f1 a.f2) (addA l a) := by
  unfold spec_l19Add.f
  exact Ev.cast (l19Add_l a l hn l [] [] false rfl (Nat.zero_le _)) (by simp [addTail])

theorem okVal (n : Int) (l : List Al) : impl_ClockOk.val n l = clockOk n l := by
  have := implClockOk n l
  unfold impl_ClockOk.f at this
  exact Option.some.inj this
theorem idx_less (id : Int) : ∀ (l : List Al) (b : Int), srt l →
    (impl_Clock_at.idx id l b = -1 ∧ lessA l id = l) ∨ (∃ k : Nat, impl_Clock_at.idx id l b = b + k ∧ k < l.length ∧ lessA l id = l.take k ++ l.drop (k + 1)) := by
  intro l
  induction l with
  | nil => intro b _; exact .inl ⟨rfl, rfl⟩
  | cons a l ih =>
    intro b hs
    simp only [impl_Clock_at.idx]
    by_cases h : a.f0 = id
    · right
      refine ⟨0, by simp [impl_Clock_at.hit, h], by simp, ?_⟩
      have : lessA l id = l := by
        unfold lessA
        rw [List.filter_eq_self]
        intro x hx
        exact decide_eq_true (fun e => (hs.1 x hx).2 (e.trans h.symm))
      show lessA (a :: l) id = _
      unfold lessA at this ⊢
      rw [List.filter_cons, if_neg (by simp [h]), this]
      simp
    · have e : lessA (a :: l) id = a :: lessA l id := by
        unfold lessA
        rw [List.filter_cons, if_pos (by simp [h])]
      rw [if_neg (by simp [impl_Clock_at.hit, h]), e]
      rcases ih (b + 1) hs.2 with ⟨h1, h2⟩ | ⟨k, h1, h2, h3⟩
      · exact .inl ⟨h1, by rw [h2]⟩
      · exact .inr ⟨k + 1, by rw [h1]; omega, by simp; omega, by rw [h3]; simp⟩
end Go.Proofs.Ytlejcgnfpcngbaa.Q
