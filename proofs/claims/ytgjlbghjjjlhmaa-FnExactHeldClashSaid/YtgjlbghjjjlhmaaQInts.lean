/- Comparing and marking lists of ints, as the exact laws do. -/
import Derived.Test.YtgjlbghjjjlhmaaQLoops
import Derived.Test.YtgjlbghjjjlhmaaPf0
import Derived.Test.YtgjlbghjjjlhmaaPflawseqIntS
import Derived.Test.YtgjlbghjjjlhmaaPflawsheldIntS
import Derived.Test.YtgjlbghjjjlhmaaPflawsmarkIntS
namespace Go.Proofs.Ytgjlbghjjjlhmaa.Q
open Go.RowKit Go.Proofs.YtgjlbghjjjlhmaaW.PrintWords Go.Proofs.YtgjlbghjjjlhmaaW.PrintLast Go.Proofs.YtgjlbghjjjlhmaaW.PrintMore Go.Proofs.Ytgjlbghjjjlhmaa.P
theorem rdI_prefix (pre : List Int) (y : Int) (rest : List Int) : rd (pre ++ y :: rest) (pre.length : Int) = y := by
  unfold rd
  rw [Int.toNat_natCast]
  exact lgetD_prefix _ _ _ _
theorem eqIntS_l : ∀ (rest pre : List Int), (pre ++ rest).length ≤ 9223372036854775807 → Ev (fun k => laws_eqIntS.l0 k (pre ++ rest) (pre ++ rest) (pre.length : Int)) true := by
  intro rest
  induction rest with
  | nil =>
    intro pre hn
    exact Ev.step (fun k => by simp only [laws_eqIntS.l0]; rfl) (Ev.neg (by simp) (Ev.pure rfl))
  | cons y rest ih =>
    intro pre hn
    have hlt : pre.length < (pre ++ y :: rest).length := by simp
    refine Ev.step (fun k => by simp only [laws_eqIntS.l0]; rfl) ?_
    refine Ev.pos (by omega) (Ev.pos (by omega) (Ev.pos (by omega) (Ev.pos (by trivial) ?_)))
    rw [lsucc_wrap hlt hn]
    have h := ih (pre ++ [y]) (by simp at hn ⊢; omega)
    simp only [List.append_assoc, List.cons_append, List.nil_append, List.length_append, List.length_cons, List.length_nil] at h
    exact h
theorem eqIntS_self (l : List Int) (hn : l.length ≤ 9223372036854775807) : Ev (fun k => laws_eqIntS.f k l l) true := by
  unfold laws_eqIntS.f
  exact Ev.pos rfl (eqIntS_l l [] hn)
def markI : Nat → Int → List Int
  | 0, _ => []
  | d + 1, x => x :: markI d (x + 1)
theorem markI_length : ∀ (d : Nat) (x : Int), (markI d x).length = d
  | 0, _ => rfl
  | d + 1, x => by simp [markI, markI_length d]
theorem markIntS_l : ∀ (rest pre : List Int) (x : Int), 0 ≤ x → x + rest.length ≤ 4611686018427387904 → (pre ++ rest).length ≤ 9223372036854775807 → Ev (fun k => laws_markIntS.l0 k (pre ++ rest) x (pre.length : Int)) (x + rest.length, pre ++ markI rest.length x) := by
  intro rest
  induction rest with
  | nil =>
    intro pre x _ _ hn
    exact Ev.step (fun k => by simp only [laws_markIntS.l0]; rfl) (Ev.neg (by simp) (Ev.pure (by simp [markI])))
  | cons y rest ih =>
    intro pre x h0 h1 hn
    have hlt : pre.length < (pre ++ y :: rest).length := by simp
    simp only [List.length_cons] at h1
    refine Ev.step (fun k => by simp only [laws_markIntS.l0]; rfl) ?_
    refine Ev.pos (by omega) (Ev.pos (by omega) ?_)
    rw [Int.toNat_natCast, lset_prefix, lsucc_wrap hlt hn, wrap_id (n := x + 1) (by omega) (by omega)]
    have h := ih (pre ++ [x]) (x + 1) (by omega) (by omega) (by simp at hn ⊢; omega)
    simp only [List.append_assoc, List.cons_append, List.nil_append, List.length_append, List.length_cons, List.length_nil] at h
    refine Ev.cast h ?_
    simp only [List.length_cons, markI]
    refine Prod.ext ?_ rfl
    show x + 1 + (rest.length : Int) = x + ((rest.length + 1 : Nat) : Int)
    omega
theorem heldIntS_l : ∀ (d : Nat) (pre : List Int) (x : Int), 0 ≤ x → x + d ≤ 4611686018427387904 → pre.length + d ≤ 9223372036854775807 → Ev (fun k => laws_heldIntS.l0 k (pre ++ markI d x) x (pre.length : Int)) (x + d) := by
  intro d
  induction d with
  | zero =>
    intro pre x _ _ hn
    exact Ev.step (fun k => by simp only [laws_heldIntS.l0]; rfl) (Ev.neg (by simp [markI]) (Ev.pure (by simp)))
  | succ d ih =>
    intro pre x h0 h1 hn
    refine Ev.step (fun k => by simp only [laws_heldIntS.l0]; rfl) ?_
    refine Ev.pos (by simp [markI]; omega) (Ev.pos (by omega) ?_)
    have e : rd (pre ++ markI (d + 1) x) (pre.length : Int) = x := rdI_prefix _ _ _
    rw [e, wrap_id (n := (pre.length : Int) + 1) (by omega) (by omega), wrap_id (n := x + 1) (by omega) (by omega)]
    refine Ev.pos rfl ?_
    have h := ih (pre ++ [x]) (x + 1) (by omega) (by omega) (by simp; omega)
    simp only [List.append_assoc, List.cons_append, List.nil_append, List.length_append, List.length_cons, List.length_nil] at h
    refine Ev.cast h ?_
    omega
/-- Marked, a list of ints is held. -/
theorem markIntS_held (l : List Int) (x : Int) (h0 : 0 ≤ x) (h1 : x + l.length ≤ 4611686018427387904) : ∃ l' : List Int, Ev (fun k => laws_markIntS.f k l x) (x + l.length, l') ∧ Ev (fun k => laws_heldIntS.f k l' x) (x + l.length) ∧ l'.length = l.length :=
  ⟨markI l.length x, markIntS_l l [] x h0 h1 (by simp; omega), heldIntS_l l.length [] x h0 h1 (by simp; omega), markI_length _ _⟩
end Go.Proofs.Ytgjlbghjjjlhmaa.Q
