/- Loops over lists, whatever they do with an element: copying, comparing, sizing. -/
import Derived.Test.YtkjjlkkfhbfbmaaDoorQBase
namespace Go.Proofs.YtkjjlkkfhbfbmaaDoor.Q
open Go.RowKit Go.Proofs.YtkjjlkkfhbfbmaaDoorW.PrintWords Go.Proofs.YtkjjlkkfhbfbmaaDoorW.PrintLast Go.Proofs.YtkjjlkkfhbfbmaaDoorW.PrintMore
set_option linter.unusedVariables false
set_option linter.unusedSimpArgs false

theorem lset_prefix {α : Type} (pre : List α) (x y : α) (post : List α) : (pre ++ x :: post).set pre.length y = pre ++ y :: post := by
  induction pre with
  | nil => rfl
  | cons a pre ih => simp [ih]
theorem lgetD_prefix {α : Type} (pre : List α) (x z : α) (post : List α) : (pre ++ x :: post).getD pre.length z = x := by
  simp [List.getD_eq_getElem?_getD]
theorem lsucc_wrap {i n : Nat} (h : i < n) (hn : n ≤ 9223372036854775807) : wrap64 ((i : Int) + 1) = ((i + 1 : Nat) : Int) := by
  rw [wrap_id (by omega) (by omega)]; omega

theorem mapLoop_l {α β γ : Type} {z : α} {L : Nat → List α → List β → Int → Option (List β)} {conv : Nat → α → Option γ} {mkb : γ → β}
    (hL : ∀ k x0 x3 x4, L (k + 1) x0 x3 x4 = if x4 < (x0.length : Int) then (if 0 ≤ x4 then ((conv k (x0.getD x4.toNat z)).bind fun b => if x4 < (x3.length : Int) then L k x0 (x3.set x4.toNat (mkb b)) (wrap64 (x4 + 1)) else none) else none) else some x3)
    (c : α → γ) (l : List α) (hn : l.length ≤ 9223372036854775807) (hc : ∀ x ∈ l, Ev (fun k => conv k x) (c x)) :
    ∀ (rest pre : List α) (tail : List β), l = pre ++ rest → tail.length = rest.length → Ev (fun k => L k l ((pre.map fun x => mkb (c x)) ++ tail) (pre.length : Int)) (l.map fun x => mkb (c x)) := by
  intro rest
  induction rest with
  | nil =>
    intro pre tail hl ht
    have ht' : tail = [] := List.eq_nil_of_length_eq_zero ht
    subst ht'
    refine Ev.step (fun k => hL k _ _ _) ?_
    refine Ev.neg (by rw [hl]; simp) (Ev.pure ?_)
    rw [hl]; simp
  | cons x rest ih =>
    intro pre tail hl ht
    match tail, ht with
    | y :: tail, ht =>
      have hlt : pre.length < l.length := by rw [hl]; simp
      refine Ev.step (fun k => hL k _ _ _) ?_
      refine Ev.pos (by omega) (Ev.pos (by omega) ?_)
      have hx : l.getD (pre.length : Int).toNat z = x := by rw [hl, Int.toNat_natCast, lgetD_prefix]
      rw [hx]
      refine Ev.bind (hc x (by rw [hl]; simp)) ?_
      refine Ev.pos (by simp; omega) ?_
      rw [lsucc_wrap hlt hn, show ((pre.length : Int)).toNat = (pre.map fun x => mkb (c x)).length by simp, lset_prefix]
      have h := ih (pre ++ [x]) tail (by rw [hl]; simp) (by simpa using ht)
      simp only [List.map_append, List.map_cons, List.map_nil, List.append_assoc, List.cons_append, List.nil_append, List.length_append, List.length_cons, List.length_nil] at h
      exact h
theorem mapLoop {α β γ : Type} {z : α} {L : Nat → List α → List β → Int → Option (List β)} {conv : Nat → α → Option γ} {mkb : γ → β}
    (hL : ∀ k x0 x3 x4, L (k + 1) x0 x3 x4 = if x4 < (x0.length : Int) then (if 0 ≤ x4 then ((conv k (x0.getD x4.toNat z)).bind fun b => if x4 < (x3.length : Int) then L k x0 (x3.set x4.toNat (mkb b)) (wrap64 (x4 + 1)) else none) else none) else some x3)
    (c : α → γ) (l : List α) (hn : l.length ≤ 9223372036854775807) (hc : ∀ x ∈ l, Ev (fun k => conv k x) (c x)) (y : β) :
    Ev (fun k => L k l (List.replicate l.length y) 0) (l.map fun x => mkb (c x)) := by
  have h := mapLoop_l hL c l hn hc l [] (List.replicate l.length y) rfl (by simp)
  simpa using h

theorem eqLoop_l {α : Type} {z : α} {L : Nat → List α → List α → Int → Option Bool} {cmp : Nat → α → α → Option Bool}
    (hL : ∀ k x0 x1 i, L (k + 1) x0 x1 i = if i < (x0.length : Int) then (if 0 ≤ i then (if i < (x1.length : Int) then ((cmp k (x0.getD i.toNat z) (x1.getD i.toNat z)).bind fun t => if t = true then L k x0 x1 (wrap64 (i + 1)) else some false) else none) else none) else some true)
    (l : List α) (hn : l.length ≤ 9223372036854775807) (hc : ∀ x ∈ l, Ev (fun k => cmp k x x) true) : ∀ rest pre : List α, l = pre ++ rest → Ev (fun k => L k l l (pre.length : Int)) true := by
  intro rest
  induction rest with
  | nil =>
    intro pre hl
    refine Ev.step (fun k => hL k _ _ _) ?_
    exact Ev.neg (by rw [hl]; simp) (Ev.pure rfl)
  | cons x rest ih =>
    intro pre hl
    have hlt : pre.length < l.length := by rw [hl]; simp
    refine Ev.step (fun k => hL k _ _ _) ?_
    refine Ev.pos (by omega) (Ev.pos (by omega) (Ev.pos (by omega) ?_))
    have hx : l.getD (pre.length : Int).toNat z = x := by rw [hl, Int.toNat_natCast, lgetD_prefix]
    rw [hx]
    refine Ev.bind (hc x (by rw [hl]; simp)) (Ev.pos rfl ?_)
    rw [lsucc_wrap hlt hn]
    have h := ih (pre ++ [x]) (by rw [hl]; simp)
    simpa using h
theorem eqLoop {α : Type} {z : α} {L : Nat → List α → List α → Int → Option Bool} {cmp : Nat → α → α → Option Bool}
    (hL : ∀ k x0 x1 i, L (k + 1) x0 x1 i = if i < (x0.length : Int) then (if 0 ≤ i then (if i < (x1.length : Int) then ((cmp k (x0.getD i.toNat z) (x1.getD i.toNat z)).bind fun t => if t = true then L k x0 x1 (wrap64 (i + 1)) else some false) else none) else none) else some true)
    (l : List α) (hn : l.length ≤ 9223372036854775807) (hc : ∀ x ∈ l, Ev (fun k => cmp k x x) true) : Ev (fun k => L k l l 0) true :=
  eqLoop_l hL l hn hc l [] rfl

/-- What a size leaves. -/
def szR (n : Int) (w : Nat) : Int := if n - w < 0 then -1 else n - w
theorem szR_add {n : Int} {a b : Nat} (h : ¬ szR n a < 0) : szR (szR n a) b = szR n (a + b) := by
  unfold szR at *
  split at h <;> rename_i h1
  · omega
  · rw [if_neg h1]; split <;> split <;> omega
theorem szR_neg {n : Int} {a b : Nat} (h : szR n a < 0) : szR n (a + b) = -1 := by
  unfold szR at *
  split at h <;> rename_i h1
  · rw [if_pos (by omega)]
  · omega
def sumW {α : Type} (w : α → Nat) : List α → Nat
  | [] => 0
  | x :: l => w x + sumW w l
theorem sumW_le {α : Type} {w : α → Nat} {l : List α} {x : α} (h : x ∈ l) : w x ≤ sumW w l := by
  induction l with
  | nil => simp at h
  | cons y l ih =>
    rcases List.mem_cons.1 h with rfl | h
    · simp [sumW]
    · have := ih h; simp [sumW]; omega
theorem szLoop_l {α : Type} {z : α} {L : Nat → List α → Int → Int → Option Int} {sz : Nat → α → Int → Option Int} {w : α → Nat}
    (hL : ∀ k x0 x1 i, L (k + 1) x0 x1 i = if i < (x0.length : Int) then (if 0 ≤ i then ((sz k (x0.getD i.toNat z) x1).bind fun t => if t < 0 then some (-1) else L k x0 t (wrap64 (i + 1))) else none) else some x1)
    (l : List α) (hn : l.length ≤ 9223372036854775807) (hc : ∀ x ∈ l, ∀ n : Int, 0 ≤ n → n ≤ 1048576 → Ev (fun k => sz k x n) (szR n (w x))) : ∀ (rest pre : List α) (n : Int), l = pre ++ rest → 0 ≤ n → n ≤ 1048576 → Ev (fun k => L k l n (pre.length : Int)) (szR n (sumW w rest)) := by
  intro rest
  induction rest with
  | nil =>
    intro pre n hl h0 h1
    refine Ev.step (fun k => hL k _ _ _) ?_
    exact Ev.neg (by rw [hl]; simp) (Ev.pure (by simp [szR, sumW]; omega))
  | cons x rest ih =>
    intro pre n hl h0 h1
    have hlt : pre.length < l.length := by rw [hl]; simp
    refine Ev.step (fun k => hL k _ _ _) ?_
    refine Ev.pos (by omega) (Ev.pos (by omega) ?_)
    have hx : l.getD (pre.length : Int).toNat z = x := by rw [hl, Int.toNat_natCast, lgetD_prefix]
    rw [hx]
    refine Ev.bind (hc x (by rw [hl]; simp) n h0 h1) ?_
    by_cases hs : szR n (w x) < 0
    · exact Ev.pos hs (Ev.pure (by simp only [sumW]; rw [szR_neg hs]))
    · refine Ev.neg hs ?_
      rw [lsucc_wrap hlt hn]
      have h := ih (pre ++ [x]) (szR n (w x)) (by rw [hl]; simp) (by omega) (by unfold szR; split <;> omega)
      rw [szR_add hs] at h
      simpa [sumW] using h
/-- A slice's size: its length, and its elements' sizes. -/
theorem szLoop {α : Type} {z : α} {L : Nat → List α → Int → Int → Option Int} {sz : Nat → α → Int → Option Int} {w : α → Nat}
    (hL : ∀ k x0 x1 i, L (k + 1) x0 x1 i = if i < (x0.length : Int) then (if 0 ≤ i then ((sz k (x0.getD i.toNat z) x1).bind fun t => if t < 0 then some (-1) else L k x0 t (wrap64 (i + 1))) else none) else some x1)
    (l : List α) (hn : l.length ≤ 9223372036854775807) (hc : ∀ x ∈ l, ∀ n : Int, 0 ≤ n → n ≤ 1048576 → Ev (fun k => sz k x n) (szR n (w x))) (n : Int) (h0 : 0 ≤ n) (h1 : n ≤ 1048576) :
    Ev (fun k => if (wrap64 (n - (l.length : Int))) < 0 then (some (-1)) else (L k l (wrap64 (n - (l.length : Int))) 0)) (szR n (l.length + sumW w l)) := by
  rw [wrap_id (n := n - (l.length : Int)) (by omega) (by omega)]
  by_cases hs : n - (l.length : Int) < 0
  · exact Ev.pos hs (Ev.pure (by unfold szR; rw [if_pos (by omega)]))
  · refine Ev.neg hs ?_
    have e : n - (l.length : Int) = szR n l.length := by unfold szR; rw [if_neg hs]
    have h := szLoop_l hL l hn hc l [] (n - (l.length : Int)) rfl (by omega) (by omega)
    rw [e, szR_add (by rw [← e]; exact hs)] at h
    rw [e]
    exact h
end Go.Proofs.YtkjjlkkfhbfbmaaDoor.Q
