/- Locks of records: the owners of each byte, told twice. -/
import Derived.Test.YtgjlbghjjjlhmaaQHeldN
import Derived.Test.YtgjlbghjjjlhmaaQLoops
import Derived.Test.YtgjlbghjjjlhmaaPf0
import Derived.Test.YtgjlbghjjjlhmaaPfimplHeldBytes
import Derived.Test.YtgjlbghjjjlhmaaPfimplHeldMay
import Derived.Test.YtgjlbghjjjlhmaaPfspecHeldBytes
namespace Go.Proofs.Ytgjlbghjjjlhmaa.Q
open Go.RowKit Go.Proofs.YtgjlbghjjjlhmaaW.PrintWords Go.Proofs.YtgjlbghjjjlhmaaW.PrintLast Go.Proofs.YtgjlbghjjjlhmaaW.PrintMore Go.Proofs.Ytgjlbghjjjlhmaa.P
set_option linter.unusedVariables false
set_option linter.unusedSimpArgs false

def covB (b : Int) (x : Ho) : Bool := decide (x.f1 ≤ b) && decide (b ≤ x.f2)
theorem covB_iff (b : Int) (x : Ho) : covB b x = true ↔ x.f1 ≤ b ∧ b ≤ x.f2 := by unfold covB; rw [Bool.and_eq_true, decide_eq_true_eq, decide_eq_true_eq]
def own (hs : List Ho) (b : Int) : List Int := (hs.filter (covB b)).map (·.f0)
def outF (hs : List Ho) : List (List Int) := (List.range 16).map fun (j : Nat) => own hs (j : Int)
theorem outF_len (hs : List Ho) : (outF hs).length = 16 := by simp [outF]
theorem outF_at (hs : List Ho) {j : Nat} (h : j < 16) : (outF hs).getD j [] = own hs (j : Int) := by
  simp [outF, List.getD_eq_getElem?_getD, h]
theorem outF_ext (hs : List Ho) {o : List (List Int)} (hl : o.length = 16) (h : ∀ j, j < 16 → o.getD j [] = own hs (j : Int)) : o = outF hs := by
  apply List.ext_getElem (by rw [hl, outF_len])
  intro j g1 g2
  have a := h j (by omega)
  have b := outF_at hs (j := j) (by omega)
  rw [List.getD_eq_getElem?_getD, List.getElem?_eq_getElem g1, Option.getD_some] at a
  rw [List.getD_eq_getElem?_getD, List.getElem?_eq_getElem g2, Option.getD_some] at b
  rw [a, b]
theorem own_len (hs : List Ho) (b : Int) : (own hs b).length ≤ hs.length := by
  unfold own
  rw [List.length_map]
  exact List.length_filter_le _ _
theorem own_snoc (pre : List Ho) (x : Ho) (b : Int) : own (pre ++ [x]) b = if covB b x = true then own pre b ++ [x.f0] else own pre b := by
  unfold own
  rw [List.filter_append, List.map_append]
  by_cases h : covB b x = true
  · rw [if_pos h, List.filter_cons_of_pos h]; rfl
  · rw [if_neg h, List.filter_cons_of_neg h]; simp
theorem own_mem (hs : List Ho) (b o : Int) : o ∈ own hs b ↔ ∃ x ∈ hs, cov x o b := by
  unfold own cov
  rw [List.mem_map]
  constructor
  · rintro ⟨x, hx, h⟩
    obtain ⟨h1, h2⟩ := List.mem_filter.1 hx
    exact ⟨x, h1, h, (covB_iff b x).1 h2⟩
  · rintro ⟨x, hx, h, h2⟩
    exact ⟨x, List.mem_filter.2 ⟨hx, (covB_iff b x).2 h2⟩, h⟩
theorem own_sorted {hs : List Ho} (T : Tidy hs) (b : Int) : (own hs b).Pairwise (· < ·) := by
  unfold own
  rw [List.pairwise_map]
  refine (List.Pairwise.filter _ T.sorted).imp_of_mem ?_
  intro x y hx hy h
  have h1 := (covB_iff b x).1 (List.mem_filter.1 hx).2
  have h2 := (covB_iff b y).1 (List.mem_filter.1 hy).2
  unfold Rh at h
  omega
theorem implB_l1 (hs : List Ho) (n i : Int) (x : Ho) (h0 : 0 ≤ x.f1) (h2 : x.f2 ≤ 15) {r : List (List Int) × Bool} : ∀ (d : Nat) (out : List (List Int)) (b : Int), 0 ≤ b → (x.f2 + 1 - b).toNat = d → out.length = 16 → (∀ j : Nat, b ≤ (j : Int) → (out.getD j []).length ≤ 2000000) →
    (∀ out' : List (List Int), out'.length = 16 → (∀ j : Nat, j < 16 → out'.getD j [] = if b ≤ (j : Int) ∧ (j : Int) ≤ x.f2 then out.getD j [] ++ [x.f0] else out.getD j []) → Ev (fun k => impl_HeldBytes.l0 k out' hs n (wrap64 (i + 1))) r) →
    Ev (fun k => impl_HeldBytes.l1 k out b hs n i x.f0 x.f1 x.f2 x.f3) r := by
  intro d
  induction d with
  | zero =>
    intro out b hb hd hl _ next
    refine Ev.step (fun k => by simp only [impl_HeldBytes.l1]; rfl) ?_
    exact Ev.neg (by omega) (next out hl (fun j _ => by rw [if_neg (by omega)]))
  | succ d ih =>
    intro out b hb hd hl hs' next
    have hle : b ≤ x.f2 := by omega
    obtain ⟨m, rfl⟩ : ∃ m : Nat, b = (m : Int) := ⟨b.toNat, by omega⟩
    have hw : wrap64 ((m : Int) + 1) = ((m + 1 : Nat) : Int) := by rw [wrap_id (by omega) (by omega)]; omega
    refine Ev.step (fun k => by simp only [impl_HeldBytes.l1]; rfl) ?_
    refine Ev.pos hle (Ev.pos hb (Ev.pos (by omega) ?_))
    have hrd : rd_L11 out (m : Int) = out.getD m [] := by unfold rd_L11; rw [Int.toNat_natCast]
    rw [hrd, Int.toNat_natCast, hw]
    have hlm := hs' m (by omega)
    refine Ev.pos (by omega) ?_
    have hset : ∀ j : Nat, j < 16 → (out.set m (out.getD m [] ++ [x.f0])).getD j [] = if j = m then out.getD m [] ++ [x.f0] else out.getD j [] := by
      intro j hj
      rw [List.getD_eq_getElem?_getD, List.getElem?_set]
      by_cases h : m = j
      · subst h
        rw [if_pos rfl, if_pos rfl, if_pos (by omega)]
        rfl
      · rw [if_neg h, if_neg (fun e => h e.symm), List.getD_eq_getElem?_getD]
    refine ih (out.set m (out.getD m [] ++ [x.f0])) ((m + 1 : Nat) : Int) (by omega) (by omega) (by simpa using hl) (fun j hj => ?_) (fun out' hl' h' => next out' hl' (fun j hj => ?_))
    · by_cases h16 : j < 16
      · rw [hset j h16, if_neg (by omega)]
        exact hs' j (by omega)
      · rw [List.getD_eq_getElem?_getD, List.getElem?_eq_none (by simp; omega)]
        simp
    · rw [h' j hj, hset j hj]
      by_cases e : j = m
      · subst e
        rw [if_pos rfl, if_neg (by omega), if_pos ⟨by omega, hle⟩]
      · rw [if_neg e]
        by_cases c : (m : Int) ≤ (j : Int) ∧ (j : Int) ≤ x.f2
        · rw [if_pos c, if_pos (by omega)]
        · rw [if_neg c, if_neg (by omega)]
theorem implB_l0 (hs : List Ho) (T : Tidy hs) (hn : hs.length ≤ 1048576) : ∀ (rest pre : List Ho), hs = pre ++ rest → Ev (fun k => impl_HeldBytes.l0 k (outF pre) hs (hs.length : Int) (pre.length : Int)) (outF hs, true) := by
  intro rest
  induction rest with
  | nil =>
    intro pre hp
    refine Ev.step (fun k => by simp only [impl_HeldBytes.l0]; rfl) ?_
    exact Ev.neg (by rw [hp]; simp) (Ev.pure (by rw [hp, List.append_nil]))
  | cons x rest ih =>
    intro pre hp
    have hlt : pre.length < hs.length := by rw [hp]; simp
    have hr : rd_T40 hs (pre.length : Int) = x := by rw [hp]; exact rdH_at _ _ _
    have hx := T.rng x (by rw [hp]; simp)
    have hw : wrap64 ((pre.length : Int) + 1) = ((pre ++ [x]).length : Int) := by rw [wrap_id (by omega) (by omega)]; simp
    refine Ev.step (fun k => by simp only [impl_HeldBytes.l0]; rfl) ?_
    refine Ev.pos (by omega) (Ev.pos (by omega) (Ev.pos (by omega) ?_))
    rw [hr]
    refine implB_l1 hs _ _ x (by omega) (by omega) _ (outF pre) x.f1 (by omega) rfl (outF_len pre) (fun j _ => ?_) (fun out' hl' h' => ?_)
    · by_cases h16 : j < 16
      · rw [outF_at pre h16]
        have := own_len pre (j : Int)
        omega
      · rw [List.getD_eq_getElem?_getD, List.getElem?_eq_none (by rw [outF_len]; omega)]
        simp
    · have he : out' = outF (pre ++ [x]) := outF_ext _ hl' (fun j hj => by
        rw [h' j hj, own_snoc, outF_at pre hj]
        by_cases c : x.f1 ≤ (j : Int) ∧ (j : Int) ≤ x.f2
        · rw [if_pos c, if_pos ((covB_iff _ x).2 c)]
        · rw [if_neg c, if_neg (fun e => c ((covB_iff _ x).1 e))])
      rw [he, hw]
      exact ih (pre ++ [x]) (by simp [hp])
-- the reference's
def inB (hs : List Ho) (b o : Int) : List Int := if modeF o b 0 hs > 0 then [o] else []
def own4 (hs : List Ho) (b : Int) : List Int := ((([] ++ inB hs b 0) ++ inB hs b 1) ++ inB hs b 2) ++ inB hs b 3
theorem modeF_pos {hs : List Ho} (T : Tidy hs) (o b : Int) : modeF o b 0 hs > 0 ↔ ∃ x ∈ hs, cov x o b := by
  constructor
  · intro h
    apply Classical.byContradiction
    intro hc
    rw [modeF_none o b hs 0 (fun x hx h => hc ⟨x, hx, h⟩)] at h
    omega
  · rintro ⟨x, hx, h⟩
    rw [modeF_some o b hs 0 T.sorted x hx h]
    unfold mv
    split <;> omega
theorem own4_eq {hs : List Ho} (T : Tidy hs) (b : Int) : own4 hs b = own hs b := by
  have s1 : (own4 hs b).Pairwise (· < ·) := by
    unfold own4 inB
    split <;> split <;> split <;> split <;> decide
  have s2 := own_sorted T b
  have hm : ∀ o, o ∈ own4 hs b ↔ o ∈ own hs b := by
    intro o
    have h4 : o ∈ own4 hs b ↔ (o = 0 ∨ o = 1 ∨ o = 2 ∨ o = 3) ∧ modeF o b 0 hs > 0 := by
      unfold own4 inB
      simp only [List.mem_append, List.nil_append]
      constructor
      · rintro (((h | h) | h) | h) <;> (split at h) <;> simp at h <;> subst h <;> (refine ⟨by omega, ?_⟩; assumption)
      · rintro ⟨rfl | rfl | rfl | rfl, h⟩
        · exact .inl (.inl (.inl (by rw [if_pos h]; simp)))
        · exact .inl (.inl (.inr (by rw [if_pos h]; simp)))
        · exact .inl (.inr (by rw [if_pos h]; simp))
        · exact .inr (by rw [if_pos h]; simp)
    rw [h4, own_mem, modeF_pos T]
    constructor
    · exact fun h => h.2
    · rintro ⟨x, hx, h⟩
      have := T.rng x hx
      refine ⟨?_, x, hx, h⟩
      unfold cov at h
      omega
  have n1 : (own4 hs b).Nodup := s1.imp (fun h => by omega)
  have n2 : (own hs b).Nodup := s2.imp (fun h => by omega)
  have hp : (own4 hs b).Perm (own hs b) := (List.perm_ext_iff_of_nodup n1 n2).2 hm
  exact hp.eq_of_pairwise (fun a b _ _ h1 h2 => by omega) s1 s2
theorem specB_step (hs ws : List Ho) (T : Tidy hs) (hn : hs.length ≤ 1048576) (x4 : List (List Int)) (b n : Nat) (hb : b < 16) (h4 : n < 4) (acc : List Int) (ha : acc.length ≤ 4) {r : List (List Int) × Bool}
    (next : Ev (fun k => spec_HeldBytes.l1 k x4 (b : Int) (acc ++ inB hs (b : Int) (n : Int)) ((n + 1 : Nat) : Int) hs ws) r) : Ev (fun k => spec_HeldBytes.l1 k x4 (b : Int) acc (n : Int) hs ws) r := by
  have hw : wrap64 ((n : Int) + 1) = ((n + 1 : Nat) : Int) := by rw [wrap_id (by omega) (by omega)]; omega
  obtain ⟨out, em, hl, hj⟩ := modes hs hn (fun x hx => by have := T.rng x hx; omega) (n : Int)
  have hrd : rd out (b : Int) = modeF (n : Int) (b : Int) 0 hs := by
    unfold rd
    rw [Int.toNat_natCast]
    exact hj b hb
  refine Ev.step (fun k => by simp only [spec_HeldBytes.l1]; rfl) ?_
  refine Ev.pos (by omega) (Ev.bind em (Ev.pos (by omega) (Ev.pos (by omega) ?_)))
  rw [hrd, hw]
  unfold inB at next
  by_cases h : modeF (n : Int) (b : Int) 0 hs > 0
  · rw [if_pos h] at next
    exact Ev.pos h (Ev.pos (by omega) next)
  · rw [if_neg h, List.append_nil] at next
    exact Ev.neg h next
theorem inB_le (hs : List Ho) (b o : Int) : (inB hs b o).length ≤ 1 := by
  unfold inB
  split <;> simp
theorem specB_l0 (hs ws : List Ho) (T : Tidy hs) (hn : hs.length ≤ 1048576) : ∀ (d n : Nat), n + d = 16 → Ev (fun k => spec_HeldBytes.l0 k ((List.range n).map fun (j : Nat) => own hs (j : Int)) (n : Int) hs ws) (outF hs, true) := by
  intro d
  induction d with
  | zero =>
    intro n hd
    obtain rfl : n = 16 := by omega
    refine Ev.step (fun k => by simp only [spec_HeldBytes.l0]; rfl) ?_
    exact Ev.neg (by omega) (Ev.pure rfl)
  | succ d ih =>
    intro n hd
    have hw : wrap64 ((n : Int) + 1) = ((n + 1 : Nat) : Int) := by rw [wrap_id (by omega) (by omega)]; omega
    have hi := ih (n + 1) (by omega)
    rw [List.range_succ, List.map_append, List.map_cons, List.map_nil, ← own4_eq T, ← hw] at hi
    refine Ev.step (fun k => by simp only [spec_HeldBytes.l0]; rfl) ?_
    refine Ev.pos (by omega) ?_
    have a0 := inB_le hs (n : Int) 0
    have a1 := inB_le hs (n : Int) 1
    have a2 := inB_le hs (n : Int) 2
    have a3 := inB_le hs (n : Int) 3
    have e := specB_step hs ws T hn ((List.range n).map fun (j : Nat) => own hs (j : Int)) n 0 (by omega) (by omega) [] (by simp) (r := (outF hs, true))
      (specB_step hs ws T hn _ n 1 (by omega) (by omega) ([] ++ inB hs (n : Int) 0) (by simp; omega)
        (specB_step hs ws T hn _ n 2 (by omega) (by omega) (([] ++ inB hs (n : Int) 0) ++ inB hs (n : Int) 1) (by simp; omega)
          (specB_step hs ws T hn _ n 3 (by omega) (by omega) ((([] ++ inB hs (n : Int) 0) ++ inB hs (n : Int) 1) ++ inB hs (n : Int) 2) (by simp; omega)
            (by
              refine Ev.step (fun k => by simp only [spec_HeldBytes.l1]; rfl) ?_
              exact Ev.neg (by omega) (Ev.pos (by simp; omega) hi)))))
    exact e
theorem bytesEv (hs ws : List Ho) (hn : hs.length ≤ 1048576) (hw : ws.length ≤ 1048576) : ∃ r, (r = true → Tidy hs) ∧ Ev (fun k => impl_HeldBytes.f k hs ws) (if r = true then (outF hs, true) else ([], false)) ∧ Ev (fun k => spec_HeldBytes.f k hs ws) (if r = true then (outF hs, true) else ([], false)) ∧ ∀ o b wt, Ev (fun k => impl_HeldMay.f k hs ws o b wt) (r && hs.any (impl_HeldMay.hit o b wt)) := by
  obtain ⟨r, e1, e2, hT, hm⟩ := mayW hs ws hn hw
  refine ⟨r, hT, ?_, ?_, hm⟩
  · unfold impl_HeldBytes.f
    refine Ev.bind e1 ?_
    cases r with
    | false => exact Ev.neg (by simp) (Ev.pure rfl)
    | true =>
      refine Ev.pos rfl (Ev.pos (by decide) ?_)
      have h := implB_l0 hs (hT rfl) hn hs [] rfl
      have e0 : outF [] = List.replicate 16 [] := by rfl
      rw [e0] at h
      exact h
  · unfold spec_HeldBytes.f
    refine Ev.bind (Ev.now _) (Ev.bind e2 ?_)
    cases r with
    | false => exact Ev.neg (by simp) (Ev.pure rfl)
    | true => exact Ev.pos rfl (specB_l0 hs ws (hT rfl) hn 16 0 rfl)
end Go.Proofs.Ytgjlbghjjjlhmaa.Q
