/- LockStuck and its reference agree on every lock. -/
import Derived.Test.YtmpdoodimmmemaaQSFnExactLockStuck
import Derived.Test.YtmpdoodimmmemaaQLockEx
namespace Go.Proofs.Ytmpdoodimmmemaa.QPure
open Go.RowKit Go.Proofs.YtmpdoodimmmemaaW.PrintWords Go.Proofs.Ytmpdoodimmmemaa.P Go.Proofs.Ytmpdoodimmmemaa.Q
def canT (a : Th) : Bool := if a.f3 = true then false else if a.f0 > 0 then true else decide (a.f2 > 0)
def noneCan : List Th → Bool
  | [] => true
  | a :: l => if canT a = true then false else noneCan l
theorem implCan (w i : Int) (l : List Th) (m : List Int) (h0 : 0 ≤ i) (h1 : i < (l.length : Int)) : impl_Lock_can.f w l m i = some (canT (rd_T45 l i)) := by
  unfold impl_Lock_can.f canT
  rw [if_pos h0, if_pos h1]
  repeat' split
  all_goals rfl
theorem specCan (w i : Int) (l : List Th) (m : List Int) (h0 : 0 ≤ i) (h1 : i < (l.length : Int)) : spec_l12Can.f w l m i = some (canT (rd_T45 l i)) := by
  unfold spec_l12Can.f canT
  rw [if_pos h0, if_pos h1]
  repeat' split
  all_goals rfl
theorem implSt_l (w : Int) (m : List Int) (l : List Th) (hn : l.length ≤ 1048576) : ∀ (rest pre : List Th), l = pre ++ rest →
    Ev (fun k => impl_LockStuck.l0 k (l.length : Int) (pre.length : Int) w l m) (noneCan rest) := by
  intro rest
  induction rest with
  | nil =>
    intro pre hl
    exact Ev.step (fun k => by simp only [impl_LockStuck.l0]; rfl) (Ev.neg (by rw [hl]; simp) (Ev.now _))
  | cons a rest ih =>
    intro pre hl
    have hlt : pre.length < l.length := by rw [hl]; simp
    have hr : rd_T45 l (pre.length : Int) = a := by rw [hl]; exact rdT_at _ _ _
    have hx := lsucc_wrap hlt (by omega : l.length ≤ 9223372036854775807)
    have hlen : ((pre ++ [a]).length : Int) = ((pre.length + 1 : Nat) : Int) := by simp
    have hc := implCan w (pre.length : Int) l m (by omega) (by omega)
    rw [hr] at hc
    refine Ev.step (fun k => by simp only [impl_LockStuck.l0]; rfl) (Ev.pos (by omega) (Ev.bind (Ev.const hc) ?_))
    rw [hx, ← hlen]
    unfold noneCan
    by_cases h : canT a = true
    · rw [if_pos h]
      exact Ev.pos h (Ev.now _)
    · rw [if_neg h]
      exact Ev.neg h (ih (pre ++ [a]) (by simp [hl]))
theorem specSt_l (w : Int) (m : List Int) (l : List Th) (hn : l.length ≤ 1048576) : ∀ (rest pre : List Th), l = pre ++ rest →
    Ev (fun k => spec_l12Stuck.l0 k (pre.length : Int) w l m) (noneCan rest && decide ((m.length : Int) > 0)) := by
  intro rest
  induction rest with
  | nil =>
    intro pre hl
    exact Ev.step (fun k => by simp only [spec_l12Stuck.l0]; rfl) (Ev.neg (by rw [hl]; simp) (Ev.pure (by simp [noneCan])))
  | cons a rest ih =>
    intro pre hl
    have hlt : pre.length < l.length := by rw [hl]; simp
    have hr : rd_T45 l (pre.length : Int) = a := by rw [hl]; exact rdT_at _ _ _
    have hx := lsucc_wrap hlt (by omega : l.length ≤ 9223372036854775807)
    have hlen : ((pre ++ [a]).length : Int) = ((pre.length + 1 : Nat) : Int) := by simp
    have hc := specCan w (pre.length : Int) l m (by omega) (by omega)
    rw [hr] at hc
    refine Ev.step (fun k => by simp only [spec_l12Stuck.l0]; rfl) (Ev.pos (by omega) (Ev.bind (Ev.const hc) ?_))
    rw [hx, ← hlen]
    unfold noneCan
    by_cases h : canT a = true
    · rw [if_pos h]
      exact Ev.pos h (Ev.pure (by simp))
    · rw [if_neg h]
      exact Ev.neg h (ih (pre ++ [a]) (by simp [hl]))
theorem FnExactLockStuck : laws_FnExactLockStuck.Pure := by
  intro w l m _ hl hm
  refine Ev.rounds (r := true) ?_
  unfold laws_FnExactLockStuck.f
  obtain ⟨r, hr, hb⟩ := szLock_eq w l m hl.1 hm.1
  refine Ev.bind (Ev.const hr) ?_
  by_cases hs : r < 0
  · exact Ev.pos hs (Ev.pure rfl)
  refine Ev.neg hs ?_
  obtain ⟨b1, b2⟩ := hb hs
  have ht := toLock_ev w l m b1 b2
  have b3 : (l.map toTh).length ≤ 1048576 := by simp; omega
  obtain ⟨z, hz⟩ : ∃ z, (if lockOk w (l.map toTh) m = true then noneCan (l.map toTh) && decide ((m.length : Int) > 0) else false) = z := ⟨_, rfl⟩
  have hi : Ev (fun k => impl_LockStuck.f k w (l.map toTh) m) z := by
    unfold impl_LockStuck.f
    refine Ev.bind (implLockOk w (l.map toTh) m b3 b2) ?_
    by_cases h : lockOk w (l.map toTh) m = true
    · rw [if_pos h] at hz
      refine Ev.pos h (Ev.step (fun k => by simp only [impl_LockStuck.j0]; rfl) ?_)
      by_cases h0 : (m.length : Int) = 0
      · refine Ev.pos (by simpa using h0) (Ev.pure ?_)
        rw [← hz, h0]
        simp
      · refine Ev.neg (by simpa using h0) ?_
        have hd : decide ((m.length : Int) > 0) = true := decide_eq_true (by omega)
        rw [hd, Bool.and_true] at hz
        rw [← hz]
        exact implSt_l w m (l.map toTh) b3 (l.map toTh) [] rfl
    · rw [if_neg h] at hz
      refine Ev.neg h (Ev.step (fun k => by simp only [impl_LockStuck.j0]; rfl) ?_)
      exact Ev.pos (by simp) (Ev.pure hz)
  have hsp : Ev (fun k => spec_LockStuck.f k w (l.map toTh) m) z := by
    unfold spec_LockStuck.f spec_l12Stuck.f
    refine Ev.bind (specLockOk w (l.map toTh) m b3 b2) ?_
    by_cases h : lockOk w (l.map toTh) m = true
    · rw [if_pos h] at hz
      rw [← hz]
      exact Ev.pos h (Ev.bind (specSt_l w m (l.map toTh) b3 (l.map toTh) [] rfl) (Ev.now _))
    · rw [if_neg h] at hz
      exact Ev.neg h (Ev.pure hz)
  refine Ev.bind ht (Ev.bind hsp (Ev.bind ht (Ev.bind hi (Ev.neg (by simp) (Ev.bind ht (Ev.bind (eqLock_self w (l.map toTh) m (by omega) (by omega)) (Ev.pos rfl (Ev.pure rfl))))))))
end Go.Proofs.Ytmpdoodimmmemaa.QPure
