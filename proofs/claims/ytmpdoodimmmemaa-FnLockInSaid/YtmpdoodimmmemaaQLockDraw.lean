/- Locks, without Go and memory: how they are drawn, and how many hold one. -/
import Derived.Test.YtmpdoodimmmemaaQLock
import Derived.Test.YtmpdoodimmmemaaQPick
import Derived.Test.YtmpdoodimmmemaaPf0
import Derived.Test.YtmpdoodimmmemaaPfimplLockIn
import Derived.Test.YtmpdoodimmmemaaPfspecLockIn
import Derived.Test.YtmpdoodimmmemaaPfspecLockNew
import Derived.Test.YtmpdoodimmmemaaPfspecl12Can
import Derived.Test.YtmpdoodimmmemaaPfspecl12Copy
import Derived.Test.YtmpdoodimmmemaaPfspecl12In
import Derived.Test.YtmpdoodimmmemaaPfspecl12Step
import Derived.Test.YtmpdoodimmmemaaPfspecl92Lock
namespace Go.Proofs.Ytmpdoodimmmemaa.Q
open Go.RowKit Go.Proofs.YtmpdoodimmmemaaW.PrintWords Go.Proofs.YtmpdoodimmmemaaW.PrintLast Go.Proofs.YtmpdoodimmmemaaW.PrintMore Go.Proofs.Ytmpdoodimmmemaa.P
set_option linter.unusedVariables false
set_option linter.unusedSimpArgs false
def countH : Int → List Th → Int
  | n, [] => n
  | n, a :: l => countH (if a.f0 = 4 then n + 1 else n) l
theorem implIn_l (l : List Th) (hn : l.length ≤ 1048576) : ∀ (rest pre : List Th) (n : Int), l = pre ++ rest → 0 ≤ n → n ≤ pre.length →
    Ev (fun k => impl_LockIn.l0 k n l (l.length : Int) (pre.length : Int)) (countH n rest) := by
  intro rest
  induction rest with
  | nil =>
    intro pre n hl h0 h1
    exact Ev.step (fun k => by simp only [impl_LockIn.l0]; rfl) (Ev.neg (by rw [hl]; simp) (Ev.now _))
  | cons a rest ih =>
    intro pre n hl h0 h1
    have hlt : pre.length < l.length := by rw [hl]; simp
    have hr : rd_T45 l (pre.length : Int) = a := by rw [hl]; exact rdT_at _ _ _
    have hx := lsucc_wrap hlt (by omega : l.length ≤ 9223372036854775807)
    have hlen : ((pre ++ [a]).length : Int) = ((pre.length + 1 : Nat) : Int) := by simp
    have hw : wrap64 (n + 1) = n + 1 := wrap_id (by omega) (by omega)
    refine Ev.step (fun k => by simp only [impl_LockIn.l0]; rfl) (Ev.pos (by omega) (Ev.pos (by omega) (Ev.pos (by omega) ?_)))
    rw [hr, hx, hw, ← hlen]
    unfold countH
    by_cases h4 : a.f0 = 4
    · rw [if_pos h4]
      exact Ev.pos h4 (ih (pre ++ [a]) (n + 1) (by simp [hl]) (by omega) (by rw [hlen]; omega))
    · rw [if_neg h4]
      exact Ev.neg h4 (ih (pre ++ [a]) n (by simp [hl]) (by omega) (by rw [hlen]; omega))
theorem specIn_l (w : Int) (m : List Int) (l : List Th) (hn : l.length ≤ 1048576) : ∀ (rest pre : List Th) (n : Int), l = pre ++ rest → 0 ≤ n → n ≤ pre.length →
    Ev (fun k => spec_l12In.l0 k n (pre.length : Int) w l m) (countH n rest) := by
  intro rest
  induction rest with
  | nil =>
    intro pre n hl h0 h1
    exact Ev.step (fun k => by simp only [spec_l12In.l0]; rfl) (Ev.neg (by rw [hl]; simp) (Ev.now _))
  | cons a rest ih =>
    intro pre n hl h0 h1
    have hlt : pre.length < l.length := by rw [hl]; simp
    have hr : rd_T45 l (pre.length : Int) = a := by rw [hl]; exact rdT_at _ _ _
    have hx := lsucc_wrap hlt (by omega : l.length ≤ 9223372036854775807)
    have hlen : ((pre ++ [a]).length : Int) = ((pre.length + 1 : Nat) : Int) := by simp
    have hw : wrap64 (n + 1) = n + 1 := wrap_id (by omega) (by omega)
    refine Ev.step (fun k => by simp only [spec_l12In.l0]; rfl) (Ev.pos (by omega) (Ev.pos (by omega) ?_))
    rw [hr, hx, hw, ← hlen]
    unfold countH
    by_cases h4 : a.f0 = 4
    · rw [if_pos h4]
      exact Ev.pos h4 (ih (pre ++ [a]) (n + 1) (by simp [hl]) (by omega) (by rw [hlen]; omega))
    · rw [if_neg h4]
      exact Ev.neg h4 (ih (pre ++ [a]) n (by simp [hl]) (by omega) (by rw [hlen]; omega))
theorem lockIn_ev (w : Int) (l : List Th) (m : List Int) (b3 : l.length ≤ 1048576) (b2 : m.length ≤ 1048576) : Ev (fun k => impl_LockIn.f k w l m) (if lockOk w l m = true then countH 0 l else -1) ∧ Ev (fun k => spec_LockIn.f k w l m) (if lockOk w l m = true then countH 0 l else -1) := by
  constructor
  · unfold impl_LockIn.f
    refine Ev.bind (implLockOk w l m b3 b2) ?_
    by_cases h : lockOk w l m = true
    · rw [if_pos h]
      exact Ev.pos h (implIn_l l b3 l [] 0 rfl (by omega) (by simp))
    · rw [if_neg h]
      exact Ev.neg h (Ev.now _)
  · unfold spec_LockIn.f spec_l12In.f
    refine Ev.bind (specLockOk w l m b3 b2) ?_
    by_cases h : lockOk w l m = true
    · rw [if_pos h]
      exact Ev.pos h (Ev.bind (specIn_l w m l b3 l [] 0 rfl (by omega) (by simp)) (Ev.now _))
    · rw [if_neg h]
      exact Ev.neg h (Ev.now _)
theorem tail1 (who : Int) (w : Int) (l : List Th) (m : List Int) (a b c : Int) (d : Bool) (h0 : 0 ≤ who) (h1 : who < (l.length : Int)) : ∃ t, Ev (fun k => spec_l12Step.j1 k who w l m a b c d) (w, l.set who.toNat t, m) := by
  refine ⟨⟨a, b, c, d⟩, ?_⟩
  refine Ev.step (fun k => by simp only [spec_l12Step.j1]; rfl) ?_
  exact Ev.pos h0 (Ev.pos h1 (Ev.now _))
theorem j0_ev (n : Nat) (who c : Int) (b : Bool) (w : Int) (l : List Th) (m : List Int) (t0 t1 t2 : Int) (t3 : Bool) (hl : l.length = n) (hm : ∀ x ∈ m, 0 ≤ x ∧ x < (n : Int)) (hmm : m.length ≤ 100000) (h0 : 0 ≤ who) (h1 : who < (n : Int)) :
    ∃ w' l' m', Ev (fun k => spec_l12Step.j0 k who c b w l m t0 t1 t2 t3) (w', l', m') ∧ l'.length = n ∧ (∀ x ∈ m', 0 ≤ x ∧ x < (n : Int)) ∧ m'.length ≤ m.length + 1 := by
  have h1' : who < (l.length : Int) := by omega
  have fin : ∀ (w' : Int) (l' : List Th) (m' : List Int) (g : Nat → Option (Int × List Th × List Int)), l'.length = n → (∀ x ∈ m', 0 ≤ x ∧ x < (n : Int)) → m'.length ≤ m.length + 1 → (∃ t, Ev g (w', l'.set who.toNat t, m')) →
      ∃ w' l' m', Ev g (w', l', m') ∧ l'.length = n ∧ (∀ x ∈ m', 0 ≤ x ∧ x < (n : Int)) ∧ m'.length ≤ m.length + 1 := fun w' l' m' g a1 a2 a3 ⟨t, e⟩ => ⟨w', _, m', e, by simpa using a1, a2, a3⟩
  have up : ∀ {g : Nat → Option (Int × List Th × List Int)}, (∃ w' l' m', Ev g (w', l', m') ∧ l'.length = n ∧ (∀ x ∈ m', 0 ≤ x ∧ x < (n : Int)) ∧ m'.length ≤ m.length + 1) → (∀ r, Ev g r → Ev (fun k => spec_l12Step.j0 k who c b w l m t0 t1 t2 t3) r) →
      ∃ w' l' m', Ev (fun k => spec_l12Step.j0 k who c b w l m t0 t1 t2 t3) (w', l', m') ∧ l'.length = n ∧ (∀ x ∈ m', 0 ≤ x ∧ x < (n : Int)) ∧ m'.length ≤ m.length + 1 := fun ⟨w', l', m', e, a⟩ hu => ⟨w', l', m', hu _ e, a⟩
  by_cases hb : b = true
  · by_cases hw : w = 0
    · refine up (fin _ l m _ hl hm (by omega) (tail1 who (wrap64 (1 + (wrap64 (Int.tdiv t0 3)))) l m 4 t1 t2 t3 h0 h1')) (fun r e => ?_)
      refine Ev.step (fun k => by simp only [spec_l12Step.j0]; rfl) ?_
      exact Ev.pos hb (Ev.pos hw e)
    · refine up (fin _ l m _ hl hm (by omega) (tail1 who w l m 1 w t2 t3 h0 h1')) (fun r e => ?_)
      refine Ev.step (fun k => by simp only [spec_l12Step.j0]; rfl) ?_
      exact Ev.pos hb (Ev.neg hw e)
  by_cases c1 : c = 1
  · by_cases hs : t1 = 2
    · refine up (fin _ l m _ hl hm (by omega) (tail1 who w l m 2 0 t2 t3 h0 h1')) (fun r e => ?_)
      refine Ev.step (fun k => by simp only [spec_l12Step.j0]; rfl) ?_
      exact Ev.neg hb (Ev.pos c1 (Ev.pos hs e))
    by_cases hw : w = 0
    · refine up (fin _ l m _ hl hm (by omega) (tail1 who w l m 3 0 t2 t3 h0 h1')) (fun r e => ?_)
      refine Ev.step (fun k => by simp only [spec_l12Step.j0]; rfl) ?_
      exact Ev.neg hb (Ev.pos c1 (Ev.neg hs (Ev.pos hw e)))
    · refine up (fin _ l m _ hl hm (by omega) (tail1 who 2 l m 2 0 t2 t3 h0 h1')) (fun r e => ?_)
      refine Ev.step (fun k => by simp only [spec_l12Step.j0]; rfl) ?_
      exact Ev.neg hb (Ev.pos c1 (Ev.neg hs (Ev.neg hw e)))
  by_cases c2 : c = 2
  · by_cases hw : w = 2
    · refine up (fin _ l (m ++ [who]) _ hl (fun x hx => ?_) (by simp) (tail1 who w l (m ++ [who]) 3 t1 t2 true h0 h1')) (fun r e => ?_)
      · rcases List.mem_append.1 hx with hx | hx
        · exact hm x hx
        · rw [List.mem_singleton.1 hx]; exact ⟨h0, h1⟩
      refine Ev.step (fun k => by simp only [spec_l12Step.j0]; rfl) ?_
      exact Ev.neg hb (Ev.neg c1 (Ev.pos c2 (Ev.pos hw (Ev.pos (by omega) e))))
    · refine up (fin _ l m _ hl hm (by omega) (tail1 who w l m 3 t1 t2 t3 h0 h1')) (fun r e => ?_)
      refine Ev.step (fun k => by simp only [spec_l12Step.j0]; rfl) ?_
      exact Ev.neg hb (Ev.neg c1 (Ev.pos c2 (Ev.neg hw e)))
  by_cases c4 : c = 4
  · by_cases hw : wrap64 (w - 1) ≤ 0
    · refine up (fin _ l m _ hl hm (by omega) (tail1 who 0 l m 0 t1 (wrap64 (t2 - 1)) t3 h0 h1')) (fun r e => ?_)
      refine Ev.step (fun k => by simp only [spec_l12Step.j0]; rfl) ?_
      exact Ev.neg hb (Ev.neg c1 (Ev.neg c2 (Ev.pos c4 (Ev.pos hw e))))
    · refine up (fin _ l m _ hl hm (by omega) (tail1 who (wrap64 (w - 1)) l m 5 t1 t2 t3 h0 h1')) (fun r e => ?_)
      refine Ev.step (fun k => by simp only [spec_l12Step.j0]; rfl) ?_
      exact Ev.neg hb (Ev.neg c1 (Ev.neg c2 (Ev.pos c4 (Ev.neg hw e))))
  by_cases c5 : c = 5
  · refine up (fin _ l m _ hl hm (by omega) (tail1 who 0 l m 6 t1 t2 t3 h0 h1')) (fun r e => ?_)
    refine Ev.step (fun k => by simp only [spec_l12Step.j0]; rfl) ?_
    exact Ev.neg hb (Ev.neg c1 (Ev.neg c2 (Ev.neg c4 (Ev.pos c5 e))))
  by_cases c6 : c = 6
  · cases m with
    | nil =>
      refine up (fin _ l [] _ hl hm (by omega) (tail1 who w l [] 0 t1 (wrap64 (t2 - 1)) t3 h0 h1')) (fun r e => ?_)
      refine Ev.step (fun k => by simp only [spec_l12Step.j0]; rfl) ?_
      exact Ev.neg hb (Ev.neg c1 (Ev.neg c2 (Ev.neg c4 (Ev.neg c5 (Ev.pos c6 (Ev.neg (by simp) e))))))
    | cons x m =>
      have hx := hm x (by simp)
      have hr : rd (x :: m) 0 = x := rfl
      refine up (fin _ (l.set x.toNat ⟨(rd_T45 l x).f0, (rd_T45 l x).f1, (rd_T45 l x).f2, false⟩) ([] ++ m) _ (by simpa using hl) (fun y hy => hm y (by simp at hy; simp [hy])) (by simp; omega) (tail1 who w _ ([] ++ m) 0 t1 (wrap64 (t2 - 1)) t3 h0 (by simp only [List.length_set]; exact h1'))) (fun r e => ?_)
      refine Ev.step (fun k => by simp only [spec_l12Step.j0]; rfl) ?_
      refine Ev.neg hb (Ev.neg c1 (Ev.neg c2 (Ev.neg c4 (Ev.neg c5 (Ev.pos c6 (Ev.pos (by simp only [List.length_cons]; omega) (Ev.pos (by simp only [List.length_cons]; omega) ?_)))))))
      rw [hr]
      refine Ev.pos hx.1 (Ev.pos (by omega) (Ev.bind (Ev.now _) (Ev.pos (by simp only [List.length_cons]; omega) (Ev.bind (Ev.now _) (Ev.pos (by simp only [List.length_cons, List.drop_succ_cons, List.drop_zero, List.length_nil] at hmm ⊢; omega) e)))))
  · refine up (fin _ l m _ hl hm (by omega) (tail1 who w l m t0 t1 t2 t3 h0 h1')) (fun r e => ?_)
    refine Ev.step (fun k => by simp only [spec_l12Step.j0]; rfl) ?_
    exact Ev.neg hb (Ev.neg c1 (Ev.neg c2 (Ev.neg c4 (Ev.neg c5 (Ev.neg c6 e)))))
theorem step_ev (n : Nat) (who w : Int) (l : List Th) (m : List Int) (hl : l.length = n) (hm : ∀ x ∈ m, 0 ≤ x ∧ x < (n : Int)) (hmm : m.length ≤ 100000) (h0 : 0 ≤ who) (h1 : who < (n : Int)) :
    ∃ w' l' m', Ev (fun k => spec_l12Step.f k w l m who) (w', l', m') ∧ l'.length = n ∧ (∀ x ∈ m', 0 ≤ x ∧ x < (n : Int)) ∧ m'.length ≤ m.length + 1 := by
  unfold spec_l12Step.f
  by_cases hz : (rd_T45 l who).f0 = 0
  · obtain ⟨w', l', m', e, a⟩ := j0_ev n who (rd_T45 l who).f0 true w l m (rd_T45 l who).f0 (rd_T45 l who).f1 (rd_T45 l who).f2 (rd_T45 l who).f3 hl hm hmm h0 h1
    exact ⟨w', l', m', Ev.pos h0 (Ev.pos (by omega) (Ev.pos hz e)), a⟩
  · obtain ⟨w', l', m', e, a⟩ := j0_ev n who (rd_T45 l who).f0 ((rd_T45 l who).f0 == 3) w l m (rd_T45 l who).f0 (rd_T45 l who).f1 (rd_T45 l who).f2 (rd_T45 l who).f3 hl hm hmm h0 h1
    exact ⟨w', l', m', Ev.pos h0 (Ev.pos (by omega) (Ev.neg hz e)), a⟩
theorem can_ev (w : Int) (l : List Th) (m : List Int) (who : Int) (h0 : 0 ≤ who) (h1 : who < (l.length : Int)) : ∃ b, spec_l12Can.f w l m who = some b := by
  unfold spec_l12Can.f
  rw [if_pos h0, if_pos h1]
  split
  · exact ⟨_, rfl⟩
  · split <;> exact ⟨_, rfl⟩
theorem copy_ev (w : Int) (l : List Th) (m : List Int) (hl : l.length ≤ 1000) (hm : m.length ≤ 100000) : spec_l12Copy.f w l m = some (w, l, m) := by
  unfold spec_l12Copy.f
  simp only [Option.bind_some, List.length_nil, List.nil_append]
  rw [if_pos (by omega), if_pos (by omega)]
theorem new_l (n : Nat) (hn : n ≤ 4) (t : Int) : ∀ (d i : Nat) (l : List Th), i + d = n → l.length = i → ∃ l', Ev (fun k => spec_LockNew.l0 k (n : Int) t (i : Int) 0 l []) (0, l', [], true) ∧ l'.length = n := by
  intro d
  induction d with
  | zero =>
    intro i l hd hl
    refine ⟨l, ?_, by omega⟩
    refine Ev.step (fun k => by simp only [spec_LockNew.l0]; rfl) ?_
    exact Ev.neg (by omega) (Ev.now _)
  | succ d ih =>
    intro i l hd hl
    have hw : wrap64 ((i : Int) + 1) = ((i + 1 : Nat) : Int) := by rw [wrap_id (by omega) (by omega)]; omega
    obtain ⟨l', e, h⟩ := ih (i + 1) (l ++ [⟨0, 0, t, false⟩]) (by omega) (by simp; omega)
    refine ⟨l', ?_, h⟩
    refine Ev.step (fun k => by simp only [spec_LockNew.l0]; rfl) ?_
    refine Ev.pos (by omega) (Ev.pos (by omega) ?_)
    rw [hw]
    exact e
theorem new_ev (n : Nat) (h1 : 1 ≤ n) (hn : n ≤ 4) (t : Int) (h0 : 0 ≤ t) (h3 : t ≤ 3) : ∃ l', Ev (fun k => spec_LockNew.f k (n : Int) t) (0, l', [], true) ∧ l'.length = n := by
  obtain ⟨l', e, h⟩ := new_l n hn t n 0 [] (by omega) rfl
  refine ⟨l', ?_, h⟩
  unfold spec_LockNew.f
  refine Ev.bind (Ev.const (specIn (n : Int) 1 4)) (Ev.pos (by unfold inR; rw [decide_eq_true (by omega : (1 : Int) ≤ (n : Int)), decide_eq_true (by omega : (n : Int) ≤ 4)]; rfl) (Ev.bind (Ev.const (specIn t 0 3)) ?_))
  have hb : inR t 0 3 = true := by unfold inR; rw [decide_eq_true h0, decide_eq_true h3]; rfl
  rw [hb]
  refine Ev.step (fun k => by simp only [spec_LockNew.j0]; rfl) ?_
  exact Ev.neg (by simp) e
theorem lock_l (s : List Int) (hs : Bytes s) (n : Nat) (h1 : 1 ≤ n) (hn : n ≤ 4) : ∀ (r : Nat) (p w : Int) (l : List Th) (m : List Int), r ≤ 50 → 0 ≤ p → p + r ≤ 10000 → l.length = n → (∀ x ∈ m, 0 ≤ x ∧ x < (n : Int)) → m.length + r ≤ 1000 →
    ∃ (w' : Int) (l' : List Th) (m' : List Int) (q : Int), Ev (fun k => spec_l92Lock.l0 k (r : Int) s p w l m) (w', l', m', q) ∧ l'.length = n ∧ m'.length ≤ 1001 := by
  intro r
  induction r with
  | zero =>
    intro p w l m hr hp hp' hl hm hmm
    obtain ⟨v, e, _⟩ := pick_ev s hs p 24 hp (by omega) (by omega)
    obtain ⟨u, eu, _⟩ := pick_ev s hs (p + 1) 4 (by omega) (by omega) (by omega)
    obtain ⟨x, ex, _⟩ := pick_ev s hs (p + 1) 8 (by omega) (by omega) (by omega)
    by_cases c0 : v = 0
    · refine ⟨u, l, m, p + 1 + 1, ?_, hl, by omega⟩
      refine Ev.step (fun k => by simp only [spec_l92Lock.l0]; rfl) ?_
      exact Ev.neg (by decide) (Ev.bind e (Ev.pos c0 (Ev.bind eu (Ev.now _))))
    by_cases c1 : v = 1
    · refine ⟨w, l.set 0 ⟨x, (rd_T45 l 0).f1, (rd_T45 l 0).f2, (rd_T45 l 0).f3⟩, m, p + 1 + 1, ?_, by simpa using hl, by omega⟩
      refine Ev.step (fun k => by simp only [spec_l92Lock.l0]; rfl) ?_
      exact Ev.neg (by decide) (Ev.bind e (Ev.neg c0 (Ev.pos c1 (Ev.bind ex (Ev.pos (by omega) (Ev.now _))))))
    by_cases c2 : v = 2
    · refine ⟨w, l, m ++ [0], p + 1, ?_, hl, by simp; omega⟩
      refine Ev.step (fun k => by simp only [spec_l92Lock.l0]; rfl) ?_
      exact Ev.neg (by decide) (Ev.bind e (Ev.neg c0 (Ev.neg c1 (Ev.pos c2 (Ev.pos (by omega) (Ev.now _))))))
    by_cases c3 : v = 3
    · refine ⟨w, l.set 0 ⟨(rd_T45 l 0).f0, (rd_T45 l 0).f1, (rd_T45 l 0).f2, !(rd_T45 l 0).f3⟩, m, p + 1, ?_, by simpa using hl, by omega⟩
      refine Ev.step (fun k => by simp only [spec_l92Lock.l0]; rfl) ?_
      exact Ev.neg (by decide) (Ev.bind e (Ev.neg c0 (Ev.neg c1 (Ev.neg c2 (Ev.pos c3 (Ev.pos (by omega) (Ev.now _)))))))
    · refine ⟨w, l, m, p + 1, ?_, hl, by omega⟩
      refine Ev.step (fun k => by simp only [spec_l92Lock.l0]; rfl) ?_
      exact Ev.neg (by decide) (Ev.bind e (Ev.neg c0 (Ev.neg c1 (Ev.neg c2 (Ev.neg c3 (Ev.now _))))))
  | succ r ih =>
    intro p w l m hr hp hp' hl hm hmm
    have hx : wrap64 (((r + 1 : Nat) : Int) - 1) = (r : Int) := by rw [wrap_id (by omega) (by omega)]; omega
    obtain ⟨who, e, g0, g1, _⟩ := pick_ev s hs p (l.length : Int) hp (by omega) (by omega)
    have g1' := g1 (by omega)
    obtain ⟨b, hb⟩ := can_ev w l m who g0 g1'
    cases b with
    | true =>
      obtain ⟨w1, l1, m1, e1, a1, a2, a3⟩ := step_ev n who w l m hl hm (by omega) g0 (by omega)
      obtain ⟨w', l', m', q, eq, hq⟩ := ih (p + 1) w1 l1 m1 (by omega) (by omega) (by omega) a1 a2 (by omega)
      rw [← hx] at eq
      refine ⟨w', l', m', q, ?_, hq⟩
      refine Ev.step (fun k => by simp only [spec_l92Lock.l0]; rfl) ?_
      exact Ev.pos (by omega) (Ev.bind e (Ev.bind (Ev.const hb) (Ev.pos rfl (Ev.bind (Ev.const (copy_ev w l m (by omega) (by omega))) (Ev.bind e1 eq)))))
    | false =>
      obtain ⟨w', l', m', q, eq, hq⟩ := ih (p + 1) w l m (by omega) (by omega) (by omega) hl hm (by omega)
      rw [← hx] at eq
      refine ⟨w', l', m', q, ?_, hq⟩
      refine Ev.step (fun k => by simp only [spec_l92Lock.l0]; rfl) ?_
      exact Ev.pos (by omega) (Ev.bind e (Ev.bind (Ev.const hb) (Ev.neg (by simp) eq)))
theorem lock_draw (s : List Int) (hs : Bytes s) : ∃ (w : Int) (l : List Th) (m : List Int) (q : Int), Ev (fun k => spec_l92Lock.f k s 0) (w, l, m, q) ∧ l.length ≤ 4 ∧ m.length ≤ 1001 := by
  unfold spec_l92Lock.f
  obtain ⟨v1, e1, a0, a1, _⟩ := pick_ev s hs 0 4 (by omega) (by omega) (by omega)
  obtain ⟨v2, e2, b0, b1, _⟩ := pick_ev s hs (0 + 1) 4 (by omega) (by omega) (by omega)
  obtain ⟨v3, e3, d0, d1, _⟩ := pick_ev s hs (0 + 1 + 1) 40 (by omega) (by omega) (by omega)
  have a1' := a1 (by omega)
  have b1' := b1 (by omega)
  have d1' := d1 (by omega)
  obtain ⟨n, rfl⟩ : ∃ n : Nat, v1 = (n : Int) := ⟨v1.toNat, by omega⟩
  obtain ⟨r, rfl⟩ : ∃ r : Nat, v3 = (r : Int) := ⟨v3.toNat, by omega⟩
  obtain ⟨l0, en, hl0⟩ := new_ev (n + 1) (by omega) (by omega) v2 b0 (by omega)
  obtain ⟨w', l', m', q, eq, h1, h2⟩ := lock_l s hs (n + 1) (by omega) (by omega) r (0 + 1 + 1 + 1) 0 l0 [] (by omega) (by omega) (by omega) hl0 (fun x hx => by simp at hx) (by simp; omega)
  refine ⟨w', l', m', q, Ev.bind e1 (Ev.bind e2 ?_), by omega, h2⟩
  have hw : wrap64 (1 + (n : Int)) = ((n + 1 : Nat) : Int) := by rw [wrap_id (by omega) (by omega)]; omega
  simp only [hw]
  exact Ev.bind en (Ev.bind e3 eq)
end Go.Proofs.Ytmpdoodimmmemaa.Q
