/- Locks, without Go and memory: what the program's and the reference's LockOk answer is what the model says. -/
import Derived.Test.YtmpdoodimmmemaaQLoops
import Derived.Test.YtmpdoodimmmemaaPf0
import Derived.Test.YtmpdoodimmmemaaPfimplLockOk
import Derived.Test.YtmpdoodimmmemaaPfimplin
import Derived.Test.YtmpdoodimmmemaaPfslicesContainsint
import Derived.Test.YtmpdoodimmmemaaPfslicesIndexint
import Derived.Test.YtmpdoodimmmemaaPfspecLockOk
import Derived.Test.YtmpdoodimmmemaaPfspecl5In
import Derived.Test.YtmpdoodimmmemaaPfspecl6In
namespace Go.Proofs.Ytmpdoodimmmemaa.Q
open Go.RowKit Go.Proofs.YtmpdoodimmmemaaW.PrintWords Go.Proofs.YtmpdoodimmmemaaW.PrintLast Go.Proofs.YtmpdoodimmmemaaW.PrintMore Go.Proofs.Ytmpdoodimmmemaa.P
set_option linter.unusedVariables false
set_option linter.unusedSimpArgs false

abbrev Th := S45
def inR (x lo hi : Int) : Bool := decide (lo ≤ x) && decide (x ≤ hi)
theorem implIn (x lo hi : Int) : impl_in.f x lo hi = some (inR x lo hi) := by
  unfold impl_in.f inR
  by_cases h : x ≥ lo <;> simp [h]
theorem specIn (x lo hi : Int) : spec_l6In.f x lo hi = some (inR x lo hi) := by
  unfold spec_l6In.f inR
  by_cases h : x ≥ lo <;> simp [h]
def badT (a : Th) : Bool := !inR a.f0 0 6 || (!inR a.f1 0 2 || ((decide (a.f1 > 0) && !decide (a.f0 = 1)) || (!inR a.f2 0 3 || ((decide (a.f0 > 0) && decide (a.f2 = 0)) || (a.f3 && !decide (a.f0 = 3))))))
def lockL (m : List Int) : Int → Int → List Th → Bool
  | n, _, [] => n == (m.length : Int)
  | n, i, a :: l => if badT a = true then false else if (a.f3 != m.contains i) = true then false else lockL m (if a.f3 = true then n + 1 else n) (i + 1) l
def lockOk (w : Int) (l : List Th) (m : List Int) : Bool := if inR w 0 2 = true then (if inR (l.length : Int) 1 4 = true then lockL m 0 0 l else false) else false
-- a number in a list
theorem rdI_at (pre : List Int) (y : Int) (rest : List Int) : rd (pre ++ y :: rest) (pre.length : Int) = y := by
  unfold rd
  rw [Int.toNat_natCast]
  exact lgetD_prefix _ _ _ _
theorem index_l (x : Int) (l : List Int) (hn : l.length ≤ 9223372036854775807) : ∀ rest pre : List Int, l = pre ++ rest → x ∉ pre →
    ∃ r : Int, Ev (fun k => slices_Index_int.l0 k l x (l.length : Int) (pre.length : Int)) r ∧ decide (r ≥ 0) = l.contains x := by
  intro rest
  induction rest with
  | nil =>
    intro pre hl hp
    refine ⟨-1, Ev.step (fun k => by simp only [slices_Index_int.l0]; rfl) (Ev.neg (by rw [hl]; simp) (Ev.now _)), ?_⟩
    rw [hl, List.append_nil]
    simpa using hp
  | cons y rest ih =>
    intro pre hl hp
    have hlt : pre.length < l.length := by rw [hl]; simp
    have hr : rd l (pre.length : Int) = y := by rw [hl]; exact rdI_at _ _ _
    by_cases hy : x = y
    · refine ⟨(pre.length : Int), Ev.step (fun k => by simp only [slices_Index_int.l0]; rfl) (Ev.pos (by omega) (Ev.pos (by omega) (Ev.pos (by omega) (Ev.pos (by rw [hr]; exact hy) (Ev.now _))))), ?_⟩
      rw [hl, hy]
      simp
    · obtain ⟨r, e, h⟩ := ih (pre ++ [y]) (by simp [hl]) (by simp [hp, hy])
      refine ⟨r, Ev.step (fun k => by simp only [slices_Index_int.l0]; rfl) (Ev.pos (by omega) (Ev.pos (by omega) (Ev.pos (by omega) (Ev.neg (by rw [hr]; exact hy) ?_)))), h⟩
      rw [lsucc_wrap hlt hn]
      have hlen : ((pre ++ [y]).length : Int) = ((pre.length + 1 : Nat) : Int) := by simp
      rw [← hlen]
      exact e
theorem contains_ev (x : Int) (l : List Int) (hn : l.length ≤ 9223372036854775807) : Ev (fun k => slices_Contains_int.f k l x) (l.contains x) := by
  obtain ⟨r, e, h⟩ := index_l x l hn l [] rfl (by simp)
  unfold slices_Contains_int.f slices_Index_int.f
  exact Ev.bind e (Ev.pure (by rw [h]))
theorem l5In_l (x : Int) (l : List Int) (hn : l.length ≤ 9223372036854775807) : ∀ rest pre : List Int, l = pre ++ rest → x ∉ pre →
    Ev (fun k => spec_l5In.l0 k l x (pre.length : Int)) (l.contains x) := by
  intro rest
  induction rest with
  | nil =>
    intro pre hl hp
    refine Ev.step (fun k => by simp only [spec_l5In.l0]; rfl) (Ev.neg (by rw [hl]; simp) (Ev.pure ?_))
    rw [hl, List.append_nil]
    simpa using hp
  | cons y rest ih =>
    intro pre hl hp
    have hlt : pre.length < l.length := by rw [hl]; simp
    have hr : rd l (pre.length : Int) = y := by rw [hl]; exact rdI_at _ _ _
    by_cases hy : y = x
    · refine Ev.step (fun k => by simp only [spec_l5In.l0]; rfl) (Ev.pos (by omega) (Ev.pos (by omega) (Ev.pos (by rw [hr]; exact hy) (Ev.pure ?_))))
      rw [hl, hy]
      simp
    · have h := ih (pre ++ [y]) (by simp [hl]) (by simp [hp]; exact fun e => hy e.symm)
      refine Ev.step (fun k => by simp only [spec_l5In.l0]; rfl) (Ev.pos (by omega) (Ev.pos (by omega) (Ev.neg (by rw [hr]; exact hy) ?_)))
      rw [lsucc_wrap hlt hn]
      have hlen : ((pre ++ [y]).length : Int) = ((pre.length + 1 : Nat) : Int) := by simp
      rw [← hlen]
      exact h
theorem l5In_ev (x : Int) (l : List Int) (hn : l.length ≤ 9223372036854775807) : Ev (fun k => spec_l5In.f k l x) (l.contains x) := l5In_l x l hn l [] rfl (by simp)
-- one thread
theorem impl_step (k : Nat) (n i w : Int) (l : List Th) (m : List Int) (h0 : 0 ≤ i) (h1 : i < (l.length : Int)) :
    impl_LockOk.l0 (k + 1) n l (l.length : Int) i w l m = impl_LockOk.j2 k n i l (l.length : Int) i (badT (rd_T45 l i)) w l m (rd_T45 l i).f0 (rd_T45 l i).f1 (rd_T45 l i).f2 (rd_T45 l i).f3 := by
  simp only [impl_LockOk.l0, if_pos h1, if_pos h0, implIn, Option.bind_some]
  generalize rd_T45 l i = a
  obtain ⟨f0, f1, f2, f3⟩ := a
  cases f3 <;> simp only [Bool.false_eq_true, ↓reduceIte] <;> (repeat' split) <;> (refine congrArg (fun b => impl_LockOk.j2 k n i l (l.length : Int) i b w l m _ _ _ _) ?_; simp_all [badT, inR] <;> first | omega | (rw [Bool.eq_iff_iff]; simp; omega))
theorem spec_step (k : Nat) (n i w : Int) (l : List Th) (m : List Int) (h0 : 0 ≤ i) (h1 : i < (l.length : Int)) :
    spec_LockOk.l0 (k + 1) n i w l m = if badT (rd_T45 l i) = true then spec_LockOk.j2 k n i true w l m (rd_T45 l i).f0 (rd_T45 l i).f1 (rd_T45 l i).f2 (rd_T45 l i).f3
      else (spec_l5In.f k m i).bind fun t => spec_LockOk.j2 k n i ((rd_T45 l i).f3 != t) w l m (rd_T45 l i).f0 (rd_T45 l i).f1 (rd_T45 l i).f2 (rd_T45 l i).f3 := by
  simp only [spec_LockOk.l0, if_pos h1, if_pos h0, specIn, Option.bind_some]
  generalize rd_T45 l i = a
  obtain ⟨f0, f1, f2, f3⟩ := a
  cases f3 <;> simp only [Bool.false_eq_true, ↓reduceIte] <;> (repeat' split) <;> first | rfl | (exfalso; simp [badT, inR] at *; omega)
theorem rdT_at (pre : List Th) (y : Th) (rest : List Th) : rd_T45 (pre ++ y :: rest) (pre.length : Int) = y := by
  unfold rd_T45
  rw [Int.toNat_natCast]
  exact lgetD_prefix _ _ _ _
theorem implOk_l (w : Int) (l : List Th) (m : List Int) (hn : l.length ≤ 1048576) (hm : m.length ≤ 1048576) : ∀ (rest pre : List Th) (n : Int), l = pre ++ rest → 0 ≤ n → n ≤ pre.length →
    Ev (fun k => impl_LockOk.l0 k n l (l.length : Int) (pre.length : Int) w l m) (lockL m n (pre.length : Int) rest) := by
  intro rest
  induction rest with
  | nil =>
    intro pre n hl h0 h1
    exact Ev.step (fun k => by simp only [impl_LockOk.l0]; rfl) (Ev.neg (by rw [hl]; simp) (Ev.now _))
  | cons a rest ih =>
    intro pre n hl h0 h1
    have hlt : pre.length < l.length := by rw [hl]; simp
    have hr : rd_T45 l (pre.length : Int) = a := by rw [hl]; exact rdT_at _ _ _
    have hx := lsucc_wrap hlt (by omega : l.length ≤ 9223372036854775807)
    have hlen : ((pre ++ [a]).length : Int) = ((pre.length + 1 : Nat) : Int) := by simp
    have hw : wrap64 (n + 1) = n + 1 := wrap_id (by omega) (by omega)
    have hc := contains_ev (pre.length : Int) m (by omega)
    refine Ev.step (fun k => impl_step k n (pre.length : Int) w l m (by omega) (by omega)) ?_
    rw [hr]
    refine Ev.step (fun k => by simp only [impl_LockOk.j2]; rfl) ?_
    unfold lockL
    by_cases hb : badT a = true
    · rw [if_pos hb]
      exact Ev.pos hb (Ev.now _)
    rw [if_neg hb]
    refine Ev.neg hb ?_
    have goal : ∀ n' : Int, 0 ≤ n' → n' ≤ pre.length + 1 → Ev (fun k => impl_LockOk.l0 k n' l (l.length : Int) (wrap64 ((pre.length : Int) + 1)) w l m) (lockL m n' ((pre.length : Int) + 1) rest) := fun n' g0 g1 => by
      have h := ih (pre ++ [a]) n' (by simp [hl]) g0 (by rw [hlen]; omega)
      rw [hx, ← hlen]
      refine Ev.cast h ?_
      rw [hlen]
      congr 1
    by_cases hf : a.f3 = true
    · refine Ev.pos hf (Ev.bind hc ?_)
      by_cases hq : (a.f3 != m.contains (pre.length : Int)) = true
      · rw [if_pos hq]
        exact Ev.pos hq (Ev.now _)
      · rw [if_neg hq, if_pos hf, hw]
        exact Ev.neg hq (goal (n + 1) (by omega) (by omega))
    · refine Ev.neg hf (Ev.bind hc ?_)
      by_cases hq : (a.f3 != m.contains (pre.length : Int)) = true
      · rw [if_pos hq]
        exact Ev.pos hq (Ev.now _)
      · rw [if_neg hq, if_neg hf]
        exact Ev.neg hq (goal n (by omega) (by omega))
theorem implLockOk (w : Int) (l : List Th) (m : List Int) (hn : l.length ≤ 1048576) (hm : m.length ≤ 1048576) : Ev (fun k => impl_LockOk.f k w l m) (lockOk w l m) := by
  unfold impl_LockOk.f lockOk
  simp only [implIn, Option.bind_some]
  by_cases h : inR w 0 2 = true
  · rw [if_pos h]
    refine Ev.pos h (Ev.step (fun k => by simp only [impl_LockOk.j0]; rfl) ?_)
    by_cases h' : inR (l.length : Int) 1 4 = true
    · rw [if_pos h', h']
      exact Ev.neg (by simp) (implOk_l w l m hn hm l [] 0 rfl (by omega) (by simp))
    · rw [if_neg h']
      exact Ev.pos (by simpa using h') (Ev.now _)
  · rw [if_neg h]
    exact Ev.neg h (Ev.step (fun k => by simp only [impl_LockOk.j0]; rfl) (Ev.pos (by simp) (Ev.now _)))
theorem specOk_l (w : Int) (l : List Th) (m : List Int) (hn : l.length ≤ 1048576) (hm : m.length ≤ 1048576) : ∀ (rest pre : List Th) (n : Int), l = pre ++ rest → 0 ≤ n → n ≤ pre.length →
    Ev (fun k => spec_LockOk.l0 k n (pre.length : Int) w l m) (lockL m n (pre.length : Int) rest) := by
  intro rest
  induction rest with
  | nil =>
    intro pre n hl h0 h1
    exact Ev.step (fun k => by simp only [spec_LockOk.l0]; rfl) (Ev.neg (by rw [hl]; simp) (Ev.now _))
  | cons a rest ih =>
    intro pre n hl h0 h1
    have hlt : pre.length < l.length := by rw [hl]; simp
    have hr : rd_T45 l (pre.length : Int) = a := by rw [hl]; exact rdT_at _ _ _
    have hx := lsucc_wrap hlt (by omega : l.length ≤ 9223372036854775807)
    have hlen : ((pre ++ [a]).length : Int) = ((pre.length + 1 : Nat) : Int) := by simp
    have hw : wrap64 (n + 1) = n + 1 := wrap_id (by omega) (by omega)
    have hc := l5In_ev (pre.length : Int) m (by omega)
    refine Ev.step (fun k => spec_step k n (pre.length : Int) w l m (by omega) (by omega)) ?_
    rw [hr]
    unfold lockL
    by_cases hb : badT a = true
    · rw [if_pos hb]
      exact Ev.pos hb (Ev.step (fun k => by simp only [spec_LockOk.j2]; rfl) (Ev.pos (by simp) (Ev.now _)))
    rw [if_neg hb]
    refine Ev.neg hb (Ev.bind hc ?_)
    have goal : ∀ n' : Int, 0 ≤ n' → n' ≤ pre.length + 1 → Ev (fun k => spec_LockOk.l0 k n' (wrap64 ((pre.length : Int) + 1)) w l m) (lockL m n' ((pre.length : Int) + 1) rest) := fun n' g0 g1 => by
      have h := ih (pre ++ [a]) n' (by simp [hl]) g0 (by rw [hlen]; omega)
      rw [hx, ← hlen]
      refine Ev.cast h ?_
      rw [hlen]
      congr 1
    refine Ev.step (fun k => by simp only [spec_LockOk.j2]; rfl) ?_
    by_cases hq : (a.f3 != m.contains (pre.length : Int)) = true
    · rw [if_pos hq]
      exact Ev.pos hq (Ev.now _)
    rw [if_neg hq]
    refine Ev.neg hq ?_
    by_cases hf : a.f3 = true
    · rw [if_pos hf, hw]
      exact Ev.pos hf (goal (n + 1) (by omega) (by omega))
    · rw [if_neg hf]
      exact Ev.neg hf (goal n (by omega) (by omega))
theorem specLockOk (w : Int) (l : List Th) (m : List Int) (hn : l.length ≤ 1048576) (hm : m.length ≤ 1048576) : Ev (fun k => spec_LockOk.f k w l m) (lockOk w l m) := by
  unfold spec_LockOk.f lockOk
  simp only [specIn, Option.bind_some]
  by_cases h : inR w 0 2 = true
  · rw [if_pos h]
    refine Ev.pos h (Ev.step (fun k => by simp only [spec_LockOk.j0]; rfl) ?_)
    by_cases h' : inR (l.length : Int) 1 4 = true
    · rw [if_pos h', h']
      exact Ev.neg (by simp) (specOk_l w l m hn hm l [] 0 rfl (by omega) (by simp))
    · rw [if_neg h']
      exact Ev.pos (by simpa using h') (Ev.now _)
  · rw [if_neg h]
    exact Ev.neg h (Ev.step (fun k => by simp only [spec_LockOk.j0]; rfl) (Ev.pos (by simp) (Ev.now _)))
end Go.Proofs.Ytmpdoodimmmemaa.Q
