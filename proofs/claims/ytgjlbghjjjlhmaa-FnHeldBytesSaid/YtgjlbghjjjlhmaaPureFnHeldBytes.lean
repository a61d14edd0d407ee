/- HeldBytes as its reference, and as who may read. -/
import Derived.Test.YtgjlbghjjjlhmaaPflawsFnHeldBytes
import Derived.Test.YtgjlbghjjjlhmaaQHeldD
import Derived.Test.YtgjlbghjjjlhmaaQHeldB
namespace Go.Proofs.Ytgjlbghjjjlhmaa.Pure
open Go.RowKit Go.Proofs.YtgjlbghjjjlhmaaW.PrintWords Go.Proofs.Ytgjlbghjjjlhmaa.P Go.Proofs.Ytgjlbghjjjlhmaa.Q
set_option linter.unusedVariables false
theorem qdInts_l (l : List Int) (hn : l.length ≤ 9223372036854775807) : ∀ rest pre : List Int, l = pre ++ rest → Ev (fun k => laws_qdInts.l0 k l l (pre.length : Int)) true := by
  intro rest
  induction rest with
  | nil =>
    intro pre hp
    refine Ev.step (fun k => by simp only [laws_qdInts.l0]; rfl) ?_
    exact Ev.neg (by rw [hp]; simp) (Ev.now _)
  | cons y rest ih =>
    intro pre hp
    have hlt : pre.length < l.length := by rw [hp]; simp
    refine Ev.step (fun k => by simp only [laws_qdInts.l0]; rfl) ?_
    refine Ev.pos (by omega) (Ev.pos (by omega) (Ev.pos (by omega) (Ev.pos (by trivial) ?_)))
    rw [lsucc_wrap hlt hn]
    have h := ih (pre ++ [y]) (by simp [hp])
    simpa using h
theorem qdInts_self (l : List Int) (hn : l.length ≤ 9223372036854775807) : Ev (fun k => laws_qdInts.f k l l) true := by
  unfold laws_qdInts.f
  exact Ev.pos rfl (qdInts_l l hn l [] rfl)
theorem qdLists_self (l : List (List Int)) (hn : l.length ≤ 9223372036854775807) (h : ∀ x ∈ l, x.length ≤ 9223372036854775807) : Ev (fun k => laws_qdLists.f k l l) true := by
  unfold laws_qdLists.f
  exact Ev.pos rfl (eqLoop (L := laws_qdLists.l0) (cmp := laws_qdInts.f) (fun k x0 x1 i => by simp only [laws_qdLists.l0]; rfl) l hn (fun x hx => qdInts_self x (h x hx)))
theorem bytes_l1 (hs ws : List Ho) (T : Tidy hs) (hm : ∀ o b wt, Ev (fun k => impl_HeldMay.f k hs ws o b wt) (true && hs.any (impl_HeldMay.hit o b wt))) (hn : hs.length ≤ 1048576) (b : Nat) (hb : b < 16) (next : Ev (fun k => laws_FnHeldBytes.l0 k (outF hs) (wrap64 ((b : Int) + 1)) hs ws) true) :
    ∀ (d n : Nat) (pre rest : List Int), n + d = 4 → own hs (b : Int) = pre ++ rest → (∀ o ∈ pre, o < (n : Int)) → (∀ o ∈ rest, (n : Int) ≤ o ∧ o ≤ 3) → rest.Pairwise (· < ·) →
      Ev (fun k => laws_FnHeldBytes.l1 k (outF hs) (b : Int) (pre.length : Int) (n : Int) hs ws) true := by
  have hrd : rd_L11 (outF hs) (b : Int) = own hs (b : Int) := by unfold rd_L11; rw [Int.toNat_natCast]; exact outF_at hs hb
  have hlen := outF_len hs
  have hol := own_len hs (b : Int)
  intro d
  induction d with
  | zero =>
    intro n pre rest hd hp h1 h2 _
    refine Ev.step (fun k => by simp only [laws_FnHeldBytes.l1]; rfl) ?_
    refine Ev.neg (by omega) (Ev.pos (by omega) (Ev.pos (by omega) ?_))
    rw [hrd]
    have hr : rest = [] := by
      rcases rest with _ | ⟨y, rest⟩
      · rfl
      · have := h2 y (by simp)
        omega
    exact Ev.pos (by rw [hp, hr, List.append_nil]) next
  | succ d ih =>
    intro n pre rest hd hp h1 h2 h3
    have hw : wrap64 ((n : Int) + 1) = ((n + 1 : Nat) : Int) := by rw [wrap_id (by omega) (by omega)]; omega
    have hin : hs.any (impl_HeldMay.hit (n : Int) (b : Int) false) = true ↔ (n : Int) ∈ own hs (b : Int) := by
      rw [own_mem, List.any_eq_true]
      constructor
      · rintro ⟨x, hx, h⟩
        exact ⟨x, hx, ((hit_iff' _ _ _ x).1 h).1⟩
      · rintro ⟨x, hx, h⟩
        exact ⟨x, hx, (hit_iff' _ _ _ x).2 ⟨h, .inr rfl⟩⟩
    refine Ev.step (fun k => by simp only [laws_FnHeldBytes.l1]; rfl) ?_
    refine Ev.pos (by omega) (Ev.bind (hm (n : Int) (b : Int) false) ?_)
    rw [Bool.true_and]
    by_cases hmem : (n : Int) ∈ own hs (b : Int)
    · have hmr : (n : Int) ∈ rest := by
        rw [hp] at hmem
        rcases List.mem_append.1 hmem with h | h
        · have := h1 _ h; omega
        · exact h
      rcases rest with _ | ⟨y, rest⟩
      · cases hmr
      have hy := h2 y (by simp)
      obtain ⟨h4, h5⟩ := List.pairwise_cons.1 h3
      have hyn : y = (n : Int) := by
        rcases List.mem_cons.1 hmr with e | e
        · exact e.symm
        · have := h4 _ e; omega
      subst hyn
      refine Ev.pos (hin.2 hmem) (Ev.pos (by omega) (Ev.pos (by omega) ?_))
      rw [hrd]
      have hlp : (pre.length : Int) < ((own hs (b : Int)).length : Int) := by rw [hp]; simp only [List.length_append, List.length_cons]; omega
      have hlp' : (own hs (b : Int)).length ≤ 1048576 := by omega
      refine Ev.neg (by omega) (Ev.pos (by omega) (Ev.pos hlp ?_))
      have hat : rd (own hs (b : Int)) (pre.length : Int) = (n : Int) := by rw [hp]; exact rdI_at _ _ _
      have hw2 : wrap64 ((pre.length : Int) + 1) = ((pre ++ [(n : Int)]).length : Int) := by rw [wrap_id (by omega) (by omega)]; simp
      refine Ev.pos hat ?_
      rw [hw, hw2]
      exact ih (n + 1) (pre ++ [(n : Int)]) rest (by omega) (by simp [hp]) (fun o ho => by
        rcases List.mem_append.1 ho with ho | ho
        · have := h1 o ho; omega
        · rw [List.mem_singleton.1 ho]; omega) (fun o ho => by have := h4 o ho; have := h2 o (List.mem_cons_of_mem _ ho); omega) h5
    · refine Ev.neg (fun h => hmem (hin.1 h)) ?_
      rw [hw]
      exact ih (n + 1) pre rest (by omega) hp (fun o ho => by have := h1 o ho; omega) (fun o ho => by
        have a := h2 o ho
        have : o ≠ (n : Int) := fun e => hmem (by rw [hp]; exact List.mem_append.2 (.inr (e ▸ ho)))
        omega) h3
theorem bytes_l0 (hs ws : List Ho) (T : Tidy hs) (hm : ∀ o b wt, Ev (fun k => impl_HeldMay.f k hs ws o b wt) (true && hs.any (impl_HeldMay.hit o b wt))) (hn : hs.length ≤ 1048576) : ∀ (d n : Nat), n + d = 16 → Ev (fun k => laws_FnHeldBytes.l0 k (outF hs) (n : Int) hs ws) true := by
  intro d
  induction d with
  | zero =>
    intro n hd
    refine Ev.step (fun k => by simp only [laws_FnHeldBytes.l0]; rfl) ?_
    exact Ev.neg (by omega) (Ev.pure (by rw [outF_len]; rfl))
  | succ d ih =>
    intro n hd
    have hw : wrap64 ((n : Int) + 1) = ((n + 1 : Nat) : Int) := by rw [wrap_id (by omega) (by omega)]; omega
    refine Ev.step (fun k => by simp only [laws_FnHeldBytes.l0]; rfl) ?_
    refine Ev.pos (by omega) (bytes_l1 hs ws T hm hn n (by omega) ?_ 4 0 [] (own hs (n : Int)) rfl rfl (fun o ho => by simp at ho) (fun o ho => ?_) (own_sorted T _))
    · rw [hw]
      exact ih (n + 1) (by omega)
    · obtain ⟨x, hx, h⟩ := (own_mem hs (n : Int) o).1 ho
      have := T.rng x hx
      unfold cov at h
      omega
theorem FnHeldBytes : laws_FnHeldBytes.Pure := by
  intro c _ _ hw
  refine Ev.rounds (r := true) ?_
  unfold laws_FnHeldBytes.f
  by_cases h : (c.length : Int) > 1048576
  · exact Ev.pos h (Ev.pure rfl)
  refine Ev.neg h ?_
  obtain ⟨s, es, hs⟩ := open_ev c hw (by omega)
  obtain ⟨l, w, q, e, hl, hw', q0, q1⟩ := held_ev s hs 0 (by omega) (by omega)
  have ed : Ev (fun k => spec_DrawHeldBytes.f k c) (l, w) := by
    unfold spec_DrawHeldBytes.f
    exact Ev.bind (Ev.const es) (Ev.bind e (Ev.now _))
  obtain ⟨r, hT, e1, e2, hm⟩ := bytesEv l w (by omega) (by omega)
  refine Ev.bind ed (Ev.bind e1 (Ev.bind e2 ?_))
  cases r with
  | false =>
    refine Ev.bind (qdLists_self [] (by simp) (by simp)) (Ev.pos rfl ?_)
    refine Ev.step (fun k => by simp only [laws_FnHeldBytes.j0]; rfl) ?_
    refine Ev.pos (by simp) ?_
    refine Ev.step (fun k => by simp only [laws_FnHeldBytes.j1]; rfl) ?_
    exact Ev.pos (by simp) (Ev.now _)
  | true =>
    refine Ev.bind (qdLists_self (outF l) (by rw [outF_len]; decide) (fun x hx => ?_)) (Ev.pos rfl ?_)
    · unfold outF at hx
      obtain ⟨j, _, rfl⟩ := List.mem_map.1 hx
      have := own_len l (j : Int)
      omega
    refine Ev.step (fun k => by simp only [laws_FnHeldBytes.j0]; rfl) ?_
    refine Ev.pos (by simp) ?_
    refine Ev.step (fun k => by simp only [laws_FnHeldBytes.j1]; rfl) ?_
    exact Ev.neg (by simp) (bytes_l0 l w (hT rfl) hm (by omega) 16 0 rfl)
end Go.Proofs.Ytgjlbghjjjlhmaa.Pure
