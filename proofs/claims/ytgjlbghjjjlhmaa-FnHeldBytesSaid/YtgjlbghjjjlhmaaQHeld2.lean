/- Locks of records: rounds, and HeldOk: the program's and the reference's answer alike. -/
import Derived.Test.YtgjlbghjjjlhmaaQHeld
import Derived.Test.YtgjlbghjjjlhmaaPf0
import Derived.Test.YtgjlbghjjjlhmaaPfimplHeldround
import Derived.Test.YtgjlbghjjjlhmaaPfspecl17Round
import Derived.Test.YtgjlbghjjjlhmaaPfspecl17Tidy
namespace Go.Proofs.Ytgjlbghjjjlhmaa.Q
open Go.RowKit Go.Proofs.YtgjlbghjjjlhmaaW.PrintWords Go.Proofs.YtgjlbghjjjlhmaaW.PrintLast Go.Proofs.YtgjlbghjjjlhmaaW.PrintMore Go.Proofs.Ytgjlbghjjjlhmaa.P
set_option linter.unusedVariables false
set_option linter.unusedSimpArgs false

def gath (hs : List Ho) (o : Int) : List Ho → List Int
  | [] => []
  | y :: l => (if y.f0 = o then who hs y else []) ++ gath hs o l
theorem gath_le (hs : List Ho) (o : Int) : ∀ l, (gath hs o l).length ≤ 4 * l.length
  | [] => by simp [gath]
  | y :: l => by
    have h1 := gath_le hs o l
    have h2 := who_le hs y
    simp only [gath, List.length_append, List.length_cons]
    split <;> simp <;> omega
theorem gath_rng (hs : List Ho) (o : Int) : ∀ l, ∀ i ∈ gath hs o l, 0 ≤ i ∧ i ≤ 3
  | [], i, h => by simp [gath] at h
  | y :: l, i, h => by
    simp only [gath, List.mem_append] at h
    rcases h with h | h
    · split at h
      · exact who_rng hs y i h
      · cases h
    · exact gath_rng hs o l i h
theorem implAdd (hs ws : List Ho) (hn : hs.length ≤ 1048576) (hr : ∀ y ∈ hs, 0 ≤ y.f0 ∧ y.f0 ≤ 3) (o : Int) : ∀ (l : List Ho) (acc : List Int), acc.length + 4 * l.length < 1000000000 → Ev (fun k => impl_Held_round.add k hs ws o l acc) (acc ++ gath hs o l)
  | [], acc, _ => Ev.pure (by simp [gath])
  | y :: l, acc, h => by
    simp only [List.length_cons] at h
    have h2 := who_le hs y
    have hc := implClashes y hs ws hn
    rw [clI_who y hs hr] at hc
    simp only [impl_Held_round.add, gath]
    by_cases hy : y.f0 = o
    · rw [if_pos hy]
      refine Ev.pos hy (Ev.pos (by omega) (Ev.bind hc (Ev.pos (by omega) ?_)))
      rw [← List.append_assoc]
      exact implAdd hs ws hn hr o l (acc ++ who hs y) (by simp <;> omega)
    · rw [if_neg hy, List.nil_append]
      exact Ev.neg hy (implAdd hs ws hn hr o l acc (by omega))
theorem specAdd (hs ws : List Ho) (hn : hs.length ≤ 1048576) (hw : ws.length ≤ 1048576) (own o : Int) (met : List Bool) {r : Bool} : ∀ (rest pre : List Ho) (acc : List Int), ws = pre ++ rest → acc.length + 4 * rest.length < 1000000000 →
    Ev (fun k => spec_l17Round.l0 k hs ws own met (acc ++ gath hs o rest)) r → Ev (fun k => spec_l17Round.l1 k hs ws own met acc o (pre.length : Int)) r := by
  intro rest
  induction rest with
  | nil =>
    intro pre acc hl hb h
    simp only [gath, List.append_nil] at h
    exact Ev.step (fun k => by simp only [spec_l17Round.l1]; rfl) (Ev.neg (by rw [hl]; simp) h)
  | cons y rest ih =>
    intro pre acc hl hb h
    simp only [List.length_cons] at hb
    have h2 := who_le hs y
    have hlt : pre.length < ws.length := by rw [hl]; simp
    have hr : rd_T40 ws (pre.length : Int) = y := by rw [hl]; exact rdH_at _ _ _
    have hlen : ((pre ++ [y]).length : Int) = ((pre.length + 1 : Nat) : Int) := by simp
    have hx := lsucc_wrap hlt (by omega : ws.length ≤ 9223372036854775807)
    simp only [gath] at h
    refine Ev.step (fun k => by simp only [spec_l17Round.l1]; rfl) (Ev.pos (by omega) (Ev.pos (by omega) ?_))
    rw [hr, hx, ← hlen]
    by_cases hy : y.f0 = o
    · rw [if_pos hy, ← List.append_assoc] at h
      exact Ev.pos hy (Ev.bind (specWho y hs hn) (Ev.pos (by omega) (ih (pre ++ [y]) (acc ++ who hs y) (by simp [hl]) (by simp <;> omega) h)))
    · rw [if_neg hy, List.nil_append] at h
      exact Ev.neg hy (ih (pre ++ [y]) acc (by simp [hl]) (by omega) h)
theorem met_set (met : List Bool) (i : Nat) (h : i < met.length) (hf : met.getD i false = false) : (met.set i true).count false + 1 = met.count false := by
  rw [List.getD_eq_getElem?_getD, List.getElem?_eq_getElem h, Option.getD_some] at hf
  have hp : 0 < met.count false := by
    rw [List.count_pos_iff]
    exact hf ▸ List.getElem_mem h
  rw [List.count_set h, hf]
  simp
  omega
/-- From owner to owner: the two tell one answer. -/
theorem rounds (hs ws : List Ho) (hn : hs.length ≤ 1048576) (hw : ws.length ≤ 1048576) (hr : ∀ y ∈ hs, 0 ≤ y.f0 ∧ y.f0 ≤ 3) (own : Int) : ∀ (m : Nat) (todo seen : List Int) (met : List Bool),
    todo.length + met.count false * (4 * ws.length) ≤ m → m ≤ 100000000 → met.length = 4 → (∀ o ∈ todo, 0 ≤ o ∧ o ≤ 3) → (∀ i : Nat, i < 4 → met.getD i false = seen.contains (i : Int)) → seen.length + met.count false = 4 →
    ∃ b, Ev (fun k => impl_Held_round.bfs hs ws own k todo seen) b ∧ Ev (fun k => spec_l17Round.l0 k hs ws own met todo) b := by
  intro m
  induction m with
  | zero =>
    intro todo seen met h1 hm hl ht hs' hc
    have : todo = [] := List.eq_nil_of_length_eq_zero (by omega)
    subst this
    exact ⟨false, Ev.step (fun k => by simp only [impl_Held_round.bfs]) (Ev.now _), Ev.step (fun k => by simp only [spec_l17Round.l0]; rfl) (Ev.neg (by simp) (Ev.now _))⟩
  | succ m ih =>
    intro todo seen met h1 hm hl ht hs' hc
    cases todo with
    | nil => exact ⟨false, Ev.step (fun k => by simp only [impl_Held_round.bfs]) (Ev.now _), Ev.step (fun k => by simp only [spec_l17Round.l0]; rfl) (Ev.neg (by simp) (Ev.now _))⟩
    | cons o l =>
      simp only [List.length_cons] at h1
      have ho := ht o List.mem_cons_self
      have ht' : ∀ i ∈ l, 0 ≤ i ∧ i ≤ 3 := fun i hi => ht i (List.mem_cons_of_mem _ hi)
      obtain ⟨i, rfl⟩ : ∃ i : Nat, o = (i : Int) := ⟨o.toNat, by omega⟩
      have hi : i < 4 := by omega
      have hmi := hs' i hi
      have hrd : rd ((i : Int) :: l) 0 = i := rfl
      have hlb : l.length ≤ 100000000 := by omega
      have si : ∀ {b : Bool}, Ev (fun k => if (0 : Int) ≤ i ∧ (i : Int) ≤ 1000 then (if (i : Int) = own then some true else if seen.contains (i : Int) = true then impl_Held_round.bfs hs ws own k l seen else if seen.length < 1000000000 then (impl_Held_round.add k hs ws i ws l).bind fun l' => impl_Held_round.bfs hs ws own k l' ((i : Int) :: seen) else none) else none) b → Ev (fun k => impl_Held_round.bfs hs ws own k ((i : Int) :: l) seen) b := fun h => Ev.step (fun k => by simp only [impl_Held_round.bfs]) h
      have ss : ∀ {b : Bool}, Ev (fun k => if (i : Int) = own then some true else (if (0 : Int) ≤ i then (if (i : Int) < (met.length : Int) then (if rdOf false met (i : Int) = true then (spec_l17Round.l0 k hs ws own met l) else (spec_l17Round.l1 k hs ws own (met.set (i : Int).toNat true) l i 0)) else none) else none)) b → Ev (fun k => spec_l17Round.l0 k hs ws own met ((i : Int) :: l)) b := fun h => by
        refine Ev.step (fun k => by simp only [spec_l17Round.l0]; rfl) (Ev.pos (by simp <;> omega) (Ev.pos (by simp <;> omega) ?_))
        rw [hrd]
        refine Ev.bind (Ev.now _) (Ev.pos (by simp <;> omega) (Ev.bind (Ev.now _) (Ev.pos (by simp <;> omega) (Ev.bind (Ev.now _) ?_))))
        exact h
      by_cases hown : (i : Int) = own
      · exact ⟨true, si (Ev.pos (by omega) (Ev.pos hown (Ev.now _))), ss (Ev.pos hown (Ev.now _))⟩
      have hro : rdOf false met (i : Int) = seen.contains (i : Int) := by
        unfold rdOf
        rw [Int.toNat_natCast]
        exact hmi
      by_cases hsn : seen.contains (i : Int) = true
      · obtain ⟨b, e1, e2⟩ := ih l seen met (by omega) (by omega) hl ht' hs' hc
        exact ⟨b, si (Ev.pos (by omega) (Ev.neg hown (Ev.pos hsn e1))), ss (Ev.neg hown (Ev.pos (by omega) (Ev.pos (by omega) (Ev.pos (by rw [hro]; exact hsn) e2))))⟩
      · have hsf : seen.contains (i : Int) = false := by simpa using hsn
        have hst := met_set met i (by omega) (hmi.trans hsf)
        have hg := gath_le hs (i : Int) ws
        have hb : (l ++ gath hs i ws).length + (met.set i true).count false * (4 * ws.length) ≤ m := by
          rw [← hst, Nat.add_mul, Nat.one_mul] at h1
          simp only [List.length_append]
          omega
        obtain ⟨b, e1, e2⟩ := ih (l ++ gath hs i ws) ((i : Int) :: seen) (met.set i true) hb (by omega) (by simpa using hl) (fun j hj => by
          rcases List.mem_append.1 hj with hj | hj
          · exact ht' j hj
          · exact gath_rng hs i ws j hj) (fun j hj => by
          rw [List.getD_eq_getElem?_getD, List.getElem?_set, List.contains_cons]
          by_cases hij : i = j
          · subst hij
            simp [hl, hi]
          · have h3 := hs' j hj
            rw [List.getD_eq_getElem?_getD] at h3
            rw [if_neg hij, h3]
            have h4 : ((j : Int) == (i : Int)) = false := by simp; omega
            rw [h4, Bool.false_or]) (by simp only [List.length_cons]; omega)
        refine ⟨b, si (Ev.pos (by omega) (Ev.neg hown (Ev.neg hsn (Ev.pos (by omega) (Ev.bind (implAdd hs ws hn hr i ws l (by omega)) e1))))), ss (Ev.neg hown (Ev.pos (by omega) (Ev.pos (by omega) (Ev.neg (by rw [hro]; exact hsn) ?_))))⟩
        rw [Int.toNat_natCast]
        exact specAdd hs ws hn hw own i (met.set i true) ws [] l rfl (by omega) e2
theorem rounds_ex (hs ws : List Ho) (hn : hs.length ≤ 1048576) (hw : ws.length ≤ 1048576) (hr : ∀ y ∈ hs, 0 ≤ y.f0 ∧ y.f0 ≤ 3) (y : Ho) : ∃ b, Ev (fun k => impl_Held_round.bfs hs ws y.f0 k (who hs y) []) b ∧ Ev (fun k => spec_l17Round.f k hs ws (who hs y) y.f0) b := by
  have h1 := who_le hs y
  obtain ⟨b, e1, e2⟩ := rounds hs ws hn hw hr y.f0 (4 + 4 * (4 * ws.length)) (who hs y) [] (List.replicate 4 false) (by rw [show (List.replicate 4 false).count false = 4 from rfl]; omega) (by omega) rfl (who_rng hs y) (fun i hi => by
    simp only [List.contains_nil, List.getD_eq_getElem?_getD, List.getElem?_replicate]
    split <;> rfl) rfl
  refine ⟨b, e1, ?_⟩
  unfold spec_l17Round.f
  exact Ev.pos (by omega) (Ev.bind (Ev.now _) (Ev.pos (by simp <;> omega) (by simpa using e2)))
-- tidy
def adjP (p x : Ho) : Bool := !(decide (p.f0 > x.f0) || (decide (p.f0 = x.f0) && (decide (p.f2 ≥ x.f1) || (decide (wrap64 (p.f2 + 1) = x.f1) && (p.f3 == x.f3)))))
def adj (p : Option Ho) (x : Ho) : Bool := match p with
  | none => true
  | some p => adjP p x
def adjL : Option Ho → List Ho → Bool
  | _, [] => true
  | p, x :: l => adj p x && adjL (some x) l
def noCl (hs : List Ho) (x : Ho) : Bool := hs.all fun y => !cl x y
def tidyI (hs : List Ho) (p : Option Ho) (l : List Ho) : Bool := (l.all fun x => vH x && noCl hs x) && adjL p l
def pairs : List Ho → List Ho → Bool
  | _, [] => true
  | pre, x :: l => (pre.all fun y => !cl y x) && pairs (pre ++ [x]) l
def tidyS (pre : List Ho) (p : Option Ho) (l : List Ho) : Bool := (l.all vH && pairs pre l) && adjL p l
theorem pairs_iff : ∀ (l pre : List Ho), pairs pre l = true ↔ (∀ y ∈ pre, ∀ x ∈ l, cl y x = false) ∧ l.Pairwise (fun a b => cl a b = false)
  | [], pre => by simp [pairs]
  | x :: l, pre => by
    simp only [pairs, Bool.and_eq_true, List.all_eq_true, Bool.not_eq_true']
    rw [pairs_iff l (pre ++ [x]), List.pairwise_cons]
    constructor
    · rintro ⟨h1, h2, h3⟩
      refine ⟨fun y hy z hz => ?_, fun z hz => h2 x (by simp) z hz, h3⟩
      rcases List.mem_cons.1 hz with rfl | hz
      · exact h1 y hy
      · exact h2 y (by simp [hy]) z hz
    · rintro ⟨h1, h2, h3⟩
      refine ⟨fun y hy => h1 y hy x List.mem_cons_self, fun y hy z hz => ?_, h3⟩
      rcases List.mem_append.1 hy with hy | hy
      · exact h1 y hy z (List.mem_cons_of_mem _ hz)
      · rw [List.mem_singleton.1 hy]
        exact h2 z hz
theorem cl_self (x : Ho) : cl x x = false := by unfold cl; simp
theorem pw_all : ∀ (l : List Ho), l.Pairwise (fun a b => cl a b = false) → ∀ x ∈ l, ∀ y ∈ l, cl x y = false
  | [], _, x, hx => by cases hx
  | z :: l, h, x, hx => by
    obtain ⟨h1, h2⟩ := List.pairwise_cons.1 h
    intro y hy
    rcases List.mem_cons.1 hx with hx' | hx'
    · subst hx'
      rcases List.mem_cons.1 hy with rfl | hy
      · exact cl_self _
      · exact h1 y hy
    · rcases List.mem_cons.1 hy with rfl | hy
      · rw [cl_comm]
        exact h1 x hx'
      · exact pw_all l h2 x hx' y hy
theorem all_pw (hs : List Ho) : ∀ (l : List Ho), (∀ x ∈ l, x ∈ hs) → (∀ x ∈ hs, ∀ y ∈ hs, cl x y = false) → l.Pairwise (fun a b => cl a b = false)
  | [], _, _ => List.Pairwise.nil
  | z :: l, hm, h => List.pairwise_cons.2 ⟨fun y hy => h z (hm z List.mem_cons_self) y (hm y (List.mem_cons_of_mem _ hy)), all_pw hs l (fun x hx => hm x (List.mem_cons_of_mem _ hx)) h⟩
theorem tidy_eq (hs : List Ho) : tidyI hs none hs = tidyS [] none hs := by
  unfold tidyI tidyS
  congr 1
  rw [Bool.eq_iff_iff, Bool.and_eq_true, List.all_eq_true, List.all_eq_true, pairs_iff]
  simp only [Bool.and_eq_true, noCl, List.all_eq_true, Bool.not_eq_true']
  constructor
  · intro h
    exact ⟨fun x hx => (h x hx).1, fun y hy => by simp at hy, all_pw hs hs (fun _ h => h) (fun x hx => (h x hx).2)⟩
  · rintro ⟨h1, _, h2⟩ x hx
    exact ⟨h1 x hx, pw_all hs h2 x hx⟩
theorem vH_rng {a : Ho} (h : vH a = true) : 0 ≤ a.f0 ∧ a.f0 ≤ 3 ∧ 0 ≤ a.f1 ∧ a.f1 ≤ a.f2 ∧ a.f2 ≤ 15 := by
  unfold vH inR at h
  simp only [Bool.and_eq_true, decide_eq_true_eq] at h
  omega
theorem specTidy_l1 (l : List Ho) (hn : l.length ≤ 1048576) (x : Ho) (i : Nat) (hi : i < l.length) (hx : rd_T40 l (i : Int) = x) {r : Bool} : ∀ (rest pre tail : List Ho), l = pre ++ rest ++ tail → (pre ++ rest).length = i →
    ((rest.all fun y => !cl y x) = true → Ev (fun k => spec_l17Tidy.l1 k l (i : Int) (i : Int)) r) → ((rest.all fun y => !cl y x) = false → r = false) → Ev (fun k => spec_l17Tidy.l1 k l (i : Int) (pre.length : Int)) r := by
  intro rest
  induction rest with
  | nil =>
    intro pre tail hl hp h1 _
    have : pre.length = i := by simpa using hp
    rw [this]
    exact h1 rfl
  | cons y rest ih =>
    intro pre tail hl hp h1 h2
    simp only [List.length_append, List.length_cons] at hp
    have hr : rd_T40 l (pre.length : Int) = y := by rw [hl, List.append_assoc, List.cons_append]; exact rdH_at _ _ _
    have hlen : ((pre ++ [y]).length : Int) = ((pre.length + 1 : Nat) : Int) := by simp
    have hx' := lsucc_wrap (show pre.length < l.length by omega) (by omega : l.length ≤ 9223372036854775807)
    refine Ev.step (fun k => by simp only [spec_l17Tidy.l1]; rfl) (Ev.pos (by omega) (Ev.pos (by omega) (Ev.pos (by omega) (Ev.pos (by omega) (Ev.pos (by omega) ?_)))))
    rw [hr, hx]
    refine Ev.bind (Ev.const (specCl y x)) ?_
    simp only [List.all_cons] at h1 h2
    cases hc : cl y x with
    | true =>
      rw [hc] at h2
      exact Ev.pos rfl (Ev.pure (h2 (by simp)).symm)
    | false =>
      rw [hc] at h1 h2
      simp only [Bool.not_false, Bool.true_and] at h1 h2
      refine Ev.neg (by simp) ?_
      rw [hx', ← hlen]
      exact ih (pre ++ [y]) tail (by simp [hl]) (by simp <;> omega) h1 h2
theorem specTidy_l (l : List Ho) (hn : l.length ≤ 1048576) : ∀ (rest pre : List Ho), l = pre ++ rest → Ev (fun k => spec_l17Tidy.l0 k l (pre.length : Int)) (tidyS pre pre.getLast? rest) := by
  intro rest
  induction rest with
  | nil =>
    intro pre hl
    exact Ev.step (fun k => by simp only [spec_l17Tidy.l0]; rfl) (Ev.neg (by rw [hl]; simp) (Ev.pure (by simp [tidyS, pairs, adjL])))
  | cons x rest ih =>
    intro pre hl
    have hlt : pre.length < l.length := by rw [hl]; simp
    have hr : rd_T40 l (pre.length : Int) = x := by rw [hl]; exact rdH_at _ _ _
    have hlen : ((pre ++ [x]).length : Int) = ((pre.length + 1 : Nat) : Int) := by simp
    have hx := lsucc_wrap hlt (by omega : l.length ≤ 9223372036854775807)
    have hi := ih (pre ++ [x]) (by simp [hl])
    rw [List.getLast?_concat, hlen, ← hx] at hi
    have hT : tidyS pre pre.getLast? (x :: rest) = (vH x && ((pre.all fun y => !cl y x) && (adj pre.getLast? x && tidyS (pre ++ [x]) (some x) rest))) := by
      unfold tidyS
      simp only [List.all_cons, pairs, adjL]
      cases vH x <;> cases rest.all vH <;> cases (pre.all fun y => !cl y x) <;> cases pairs (pre ++ [x]) rest <;> cases adj pre.getLast? x <;> rfl
    rw [hT]
    refine Ev.step (fun k => by simp only [spec_l17Tidy.l0]; rfl) (Ev.pos (by omega) (Ev.pos (by omega) ?_))
    rw [hr]
    refine Ev.bind (Ev.const (specHok x)) ?_
    cases hv : vH x with
    | false => exact Ev.neg (by simp) (Ev.now _)
    | true =>
      refine Ev.pos rfl ?_
      rw [Bool.true_and]
      refine specTidy_l1 l hn x pre.length hlt hr pre [] (x :: rest) (by simpa using hl) (by simp) (fun ha => ?_) (fun ha => by rw [ha, Bool.false_and])
      rw [ha, Bool.true_and]
      refine Ev.step (fun k => by simp only [spec_l17Tidy.l1]; rfl) (Ev.neg (by omega) ?_)
      rcases List.eq_nil_or_concat pre with rfl | ⟨pre', p, rfl⟩
      · refine Ev.pos rfl ?_
        have : adj ([] : List Ho).getLast? x = true := rfl
        rw [this, Bool.true_and]
        exact hi
      · have hq : pre'.length + 1 < l.length := by rw [List.concat_eq_append, List.length_append, List.length_singleton] at hlt; exact hlt
        have hw : wrap64 (((pre'.concat p).length : Int) - 1) = (pre'.length : Int) := by
          rw [List.concat_eq_append, List.length_append, List.length_singleton, wrap_id (by omega) (by omega)]
          omega
        have hrp : rd_T40 l (pre'.length : Int) = p := by
          rw [hl, List.concat_eq_append, List.append_assoc]
          exact rdH_at _ _ _
        have hla : adj (pre'.concat p).getLast? x = adjP p x := by rw [List.concat_eq_append, List.getLast?_concat]; rfl
        rw [hla]
        refine Ev.neg (by simp [List.concat_eq_append]; omega) ?_
        rw [hw]
        have hl' : (pre'.length : Int) < (l.length : Int) := by
          rw [List.concat_eq_append, List.length_append, List.length_singleton] at hlt
          omega
        refine Ev.pos (by omega) (Ev.pos hl' (Ev.pos (by omega) (Ev.pos (by omega) ?_)))
        rw [hrp, hr]
        unfold adjP
        by_cases h1 : p.f0 > x.f0
        · exact Ev.pos h1 (Ev.pure (by simp [h1]))
        refine Ev.neg h1 ?_
        by_cases h2 : p.f0 = x.f0
        · refine Ev.pos h2 ?_
          by_cases h3 : p.f2 ≥ x.f1
          · exact Ev.pos h3 (Ev.pure (by simp [h2, h3]))
          refine Ev.neg h3 ?_
          by_cases h4 : wrap64 (p.f2 + 1) = x.f1
          · refine Ev.pos h4 ?_
            by_cases h5 : (p.f3 == x.f3) = true
            · exact Ev.pos h5 (Ev.pure (by rw [h5]; simp [h2, h4]))
            · refine Ev.neg h5 (Ev.cast hi ?_)
              have h5' : (p.f3 == x.f3) = false := by simpa using h5
              have h3' : decide (p.f2 ≥ x.f1) = false := decide_eq_false h3
              rw [h5', h3']
              simp [h1]
          · refine Ev.neg h4 (Ev.cast hi ?_)
            have h3' : decide (p.f2 ≥ x.f1) = false := decide_eq_false h3
            have h4' : decide (wrap64 (p.f2 + 1) = x.f1) = false := decide_eq_false h4
            rw [h3', h4']
            simp [h1]
        · refine Ev.neg h2 (Ev.cast hi ?_)
          have h1' : decide (p.f0 > x.f0) = false := decide_eq_false h1
          have h2' : decide (p.f0 = x.f0) = false := decide_eq_false h2
          rw [h1', h2']
          simp
theorem specTidy (l : List Ho) (hn : l.length ≤ 1048576) : Ev (fun k => spec_l17Tidy.f k l) (tidyS [] none l) := by
  unfold spec_l17Tidy.f
  exact specTidy_l l hn l [] rfl
end Go.Proofs.Ytgjlbghjjjlhmaa.Q
