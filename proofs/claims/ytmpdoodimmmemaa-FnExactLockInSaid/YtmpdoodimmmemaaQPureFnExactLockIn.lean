/- LockIn and its reference agree on every lock. -/
import Derived.Test.YtmpdoodimmmemaaQSFnExactLockIn
import Derived.Test.YtmpdoodimmmemaaQLockEx
namespace Go.Proofs.Ytmpdoodimmmemaa.QPure
open Go.RowKit Go.Proofs.YtmpdoodimmmemaaW.PrintWords Go.Proofs.Ytmpdoodimmmemaa.P Go.Proofs.Ytmpdoodimmmemaa.Q
def countH : Int → List Th → Int
  | n, [] => n
  | n, a :: l => countH (if a.f0 = 4 then n + 1 else n) l
theorem implIn_l (l : List Th) (hn : l.length ≤ 1048576) : ∀ (rest pre : List Th) (n : Int), l = pre ++ rest → 0 ≤ n → n ≤ pre.length →
    Ev (fun k => impl_LockIn.l0 k n l (l.length : Int) (pre.length : Int)) (countH n rest) := by
  intro rest
  induction rest with
  | nil =>
    intro pre n hl h0 h1
    exact Ev.step (fun k => by simp only [impl_LockIn.l0]; rfl) (Ev.neg (by rw [hl]; simp) (Ev.now _))
  | cons a rest ih =>
    intro pre n hl h0 h1
    have hlt : pre.length < l.length := by rw [hl]; simp
    have hr : rd_T45 l (pre.length : Int) = a := by rw [hl]; exact rdT_at _ _ _
    have hx := lsucc_wrap hlt (by omega : l.length ≤ 9223372036854775807)
    have hlen : ((pre ++ [a]).length : Int) = ((pre.length + 1 : Nat) : Int) := by simp
    have hw : wrap64 (n + 1) = n + 1 := wrap_id (by omega) (by omega)
    refine Ev.step (fun k => by simp only [impl_LockIn.l0]; rfl) (Ev.pos (by omega) (Ev.pos (by omega) (Ev.pos (by omega) ?_)))
    rw [hr, hx, hw, ← hlen]
    unfold countH
    by_cases h4 : a.f0 = 4
    · rw [if_pos h4]
      exact Ev.pos h4 (ih (pre ++ [a]) (n + 1) (by simp [hl]) (by omega) (by rw [hlen]; omega))
    · rw [if_neg h4]
      exact Ev.neg h4 (ih (pre ++ [a]) n (by simp [hl]) (by omega) (by rw [hlen]; omega))
theorem specIn_l (w : Int) (m : List Int) (l : List Th) (hn : l.length ≤ 1048576) : ∀ (rest pre : List Th) (n : Int), l = pre ++ rest → 0 ≤ n → n ≤ pre.length →
    Ev (fun k => spec_l12In.l0 k n (pre.length : Int) w l m) (countH n rest) := by
  intro rest
  induction rest with
  | nil =>
    intro pre n hl h0 h1
    exact Ev.step (fun k => by simp only [spec_l12In.l0]; rfl) (Ev.neg (by rw [hl]; simp) (Ev.now _))
  | cons a rest ih =>
    intro pre n hl h0 h1
    have hlt : pre.length < l.length := by rw [hl]; simp
    have hr : rd_T45 l (pre.length : Int) = a := by rw [hl]; exact rdT_at _ _ _
    have hx := lsucc_wrap hlt (by omega : l.length ≤ 9223372036854775807)
    have hlen : ((pre ++ [a]).length : Int) = ((pre.length + 1 : Nat) : Int) := by simp
    have hw : wrap64 (n + 1) = n + 1 := wrap_id (by omega) (by omega)
    refine Ev.step (fun k => by simp only [spec_l12In.l0]; rfl) (Ev.pos (by omega) (Ev.pos (by omega) ?_))
    rw [hr, hx, hw, ← hlen]
    unfold countH
    by_cases h4 : a.f0 = 4
    · rw [if_pos h4]
      exact Ev.pos h4 (ih (pre ++ [a]) (n + 1) (by simp [hl]) (by omega) (by rw [hlen]; omega))
    · rw [if_neg h4]
      exact Ev.neg h4 (ih (pre ++ [a]) n (by simp [hl]) (by omega) (by rw [hlen]; omega))
theorem FnExactLockIn : laws_FnExactLockIn.Pure := by
  intro w l m _ hl hm
  refine Ev.rounds (r := true) ?_
  unfold laws_FnExactLockIn.f
  obtain ⟨r, hr, hb⟩ := szLock_eq w l m hl.1 hm.1
  refine Ev.bind (Ev.const hr) ?_
  by_cases hs : r < 0
  · exact Ev.pos hs (Ev.pure rfl)
  refine Ev.neg hs ?_
  obtain ⟨b1, b2⟩ := hb hs
  have ht := toLock_ev w l m b1 b2
  have b3 : (l.map toTh).length ≤ 1048576 := by simp; omega
  obtain ⟨z, hz⟩ : ∃ z, (if lockOk w (l.map toTh) m = true then countH 0 (l.map toTh) else -1) = z := ⟨_, rfl⟩
  have hi : Ev (fun k => impl_LockIn.f k w (l.map toTh) m) z := by
    unfold impl_LockIn.f
    refine Ev.bind (implLockOk w (l.map toTh) m b3 b2) ?_
    by_cases h : lockOk w (l.map toTh) m = true
    · rw [if_pos h] at hz
      rw [← hz]
      exact Ev.pos h (implIn_l (l.map toTh) b3 (l.map toTh) [] 0 rfl (by omega) (by simp))
    · rw [if_neg h] at hz
      exact Ev.neg h (Ev.pure hz)
  have hsp : Ev (fun k => spec_LockIn.f k w (l.map toTh) m) z := by
    unfold spec_LockIn.f spec_l12In.f
    refine Ev.bind (specLockOk w (l.map toTh) m b3 b2) ?_
    by_cases h : lockOk w (l.map toTh) m = true
    · rw [if_pos h] at hz
      rw [← hz]
      exact Ev.pos h (Ev.bind (specIn_l w m (l.map toTh) b3 (l.map toTh) [] 0 rfl (by omega) (by simp)) (Ev.now _))
    · rw [if_neg h] at hz
      exact Ev.neg h (Ev.pure hz)
  exact Ev.bind ht (Ev.bind hsp (Ev.bind ht (Ev.bind hi (Ev.pos rfl (Ev.bind ht (Ev.bind (eqLock_self w (l.map toTh) m (by omega) (by omega)) (Ev.pos rfl (Ev.pure rfl))))))))
end Go.Proofs.Ytmpdoodimmmemaa.QPure
