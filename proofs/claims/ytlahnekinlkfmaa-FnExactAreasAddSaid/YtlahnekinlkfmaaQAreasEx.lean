/- What the exact laws' own functions over areas answer: copying, comparing, marking. -/
import Derived.Test.YtlahnekinlkfmaaQAreas
import Derived.Test.YtlahnekinlkfmaaPf0
import Derived.Test.YtlahnekinlkfmaaPflawseqArea
import Derived.Test.YtlahnekinlkfmaaPflawseqAreaS
import Derived.Test.YtlahnekinlkfmaaPflawsheldAreaS
import Derived.Test.YtlahnekinlkfmaaPflawsmarkAreaS
import Derived.Test.YtlahnekinlkfmaaPflawsszAreaS
import Derived.Test.YtlahnekinlkfmaaPflawstoArea
import Derived.Test.YtlahnekinlkfmaaPflawstoAreaS
namespace Go.Proofs.Ytlahnekinlkfmaa.Q
open Go.RowKit Go.Proofs.YtlahnekinlkfmaaW.PrintWords Go.Proofs.YtlahnekinlkfmaaW.PrintLast Go.Proofs.YtlahnekinlkfmaaW.PrintMore Go.Proofs.Ytlahnekinlkfmaa.P
set_option linter.unusedVariables false
set_option linter.unusedSimpArgs false

def toA (x : S47) : Ar := ⟨x.f0, x.f1, x.f2, x.f3⟩

theorem set_prefix {α : Type} (pre : List α) (x y : α) (post : List α) : (pre ++ x :: post).set pre.length y = pre ++ y :: post := by
  induction pre with
  | nil => rfl
  | cons a pre ih => simp [ih]
theorem getD_prefix {α : Type} (pre : List α) (x z : α) (post : List α) : (pre ++ x :: post).getD pre.length z = x := by
  simp [List.getD_eq_getElem?_getD]

theorem toAreaS_l (l : List S47) (hn : l.length ≤ 9223372036854775807) : ∀ (rest pre : List S47) (tail : List Ar), l = pre ++ rest → tail.length = rest.length →
    Ev (fun k => laws_toAreaS.l0 k l (pre.map toA ++ tail) (pre.length : Int)) (l.map toA) := by
  intro rest
  induction rest with
  | nil =>
    intro pre tail hl ht
    have ht' : tail = [] := List.eq_nil_of_length_eq_zero ht
    subst ht'
    refine Ev.step (fun k => by simp only [laws_toAreaS.l0]; rfl) ?_
    refine Ev.neg (by rw [hl]; simp) (Ev.pure ?_)
    rw [hl]; simp
  | cons x rest ih =>
    intro pre tail hl ht
    match tail, ht with
    | y :: tail, ht =>
      have hlt : pre.length < l.length := by rw [hl]; simp
      refine Ev.step (fun k => by simp only [laws_toAreaS.l0]; rfl) ?_
      refine Ev.pos (by omega) (Ev.pos (by omega) ?_)
      refine Ev.bind (Ev.const (by unfold laws_toArea.f; rfl)) ?_
      refine Ev.pos (by simp; omega) ?_
      rw [succ_wrap hlt hn, show ((pre.length : Int)).toNat = (pre.map toA).length by simp, set_prefix]
      have hx : rd_T47 l (pre.length : Int) = x := by unfold rd_T47; rw [hl, Int.toNat_natCast, getD_prefix]
      rw [hx]
      have h := ih (pre ++ [x]) tail (by rw [hl]; simp) (by simpa using ht)
      simp only [List.map_append, List.map_cons, List.map_nil, List.append_assoc, List.cons_append, List.nil_append, List.length_append, List.length_cons, List.length_nil] at h
      exact h
theorem toAreaS_ev (l : List S47) (hn : l.length ≤ 1048576) : Ev (fun k => laws_toAreaS.f k l) (l.map toA) := by
  unfold laws_toAreaS.f
  refine Ev.pos (by omega) (Ev.pos (by omega) ?_)
  have h := toAreaS_l l (by omega) l [] (List.replicate l.length z24) rfl (by simp)
  simpa using h

theorem eqArea_self (a b : Int) (c d : Bool) : laws_eqArea.f a b c d a b c d = some true := by
  unfold laws_eqArea.f
  simp
theorem eqAreaS_l (l : List Ar) (hn : l.length ≤ 9223372036854775807) : ∀ d i : Nat, i + d = l.length → Ev (fun k => laws_eqAreaS.l0 k l l (i : Int)) true := by
  intro d
  induction d with
  | zero =>
    intro i hi
    refine Ev.step (fun k => by simp only [laws_eqAreaS.l0]; rfl) ?_
    exact Ev.neg (by omega) (Ev.pure rfl)
  | succ d ih =>
    intro i hi
    have hlt : i < l.length := by omega
    refine Ev.step (fun k => by simp only [laws_eqAreaS.l0]; rfl) ?_
    refine Ev.pos (by omega) (Ev.pos (by omega) (Ev.pos (by omega) ?_))
    refine Ev.bind (Ev.const (eqArea_self _ _ _ _)) ?_
    rw [succ_wrap hlt hn]
    exact Ev.pos rfl (ih (i + 1) (by omega))
theorem eqAreaS_self (l : List Ar) (hn : l.length ≤ 9223372036854775807) : Ev (fun k => laws_eqAreaS.f k l l) true := by
  unfold laws_eqAreaS.f
  exact Ev.pos rfl (eqAreaS_l l hn l.length 0 (by omega))

theorem szAreaS_eq (l : List S47) (hn : l.length ≤ 9223372036854775807) (n : Int) (h0 : 0 ≤ n) (h1 : n ≤ 1048576) : laws_szAreaS.f l n = some (if n - l.length < 0 then -1 else n - l.length) := by
  unfold laws_szAreaS.f
  have : wrap64 (n - (l.length : Int)) = n - l.length := wrap_id (by omega) (by omega)
  rw [this]
  split <;> rfl

def nx4 (x : Int) : Int := wrap64 ((wrap64 ((wrap64 ((wrap64 (x + 1)) + 1)) + 1)) + 1)
def mkA (x : Int) : Ar := ⟨x, wrap64 (x + 1), (Int.tmod (wrap64 ((wrap64 (x + 1)) + 1)) 3) == 0, (Int.tmod (wrap64 ((wrap64 ((wrap64 (x + 1)) + 1)) + 1)) 3) == 0⟩
def markA : Nat → Int → List Ar
  | 0, _ => []
  | d + 1, x => mkA x :: markA d (nx4 x)
def endA : Nat → Int → Int
  | 0, x => x
  | d + 1, x => endA d (nx4 x)
theorem markAreaS_l : ∀ (rest pre : List Ar) (x : Int), (pre ++ rest).length ≤ 9223372036854775807 → Ev (fun k => laws_markAreaS.l0 k (pre ++ rest) x (pre.length : Int)) (endA rest.length x, pre ++ markA rest.length x) := by
  intro rest
  induction rest with
  | nil =>
    intro pre x hn
    refine Ev.step (fun k => by simp only [laws_markAreaS.l0]; rfl) ?_
    exact Ev.neg (by simp) (Ev.pure (by simp [endA, markA]))
  | cons y rest ih =>
    intro pre x hn
    have hlt : pre.length < (pre ++ y :: rest).length := by simp
    refine Ev.step (fun k => by simp only [laws_markAreaS.l0]; rfl) ?_
    refine Ev.pos (by omega) (Ev.pos (by omega) ?_)
    rw [Int.toNat_natCast, set_prefix, succ_wrap hlt hn]
    refine Ev.bind (Ev.now _) ?_
    rw [set_prefix]
    refine Ev.bind (Ev.now _) ?_
    rw [set_prefix]
    refine Ev.bind (Ev.now _) ?_
    rw [set_prefix]
    have e : ∀ (u : Ar), rd_T24 (pre ++ u :: rest) (pre.length : Int) = u := fun u => by unfold rd_T24; rw [Int.toNat_natCast, getD_prefix]
    simp only [e]
    have h := ih (pre ++ [mkA x]) (nx4 x) (by simp at hn ⊢; omega)
    simp only [List.append_assoc, List.cons_append, List.nil_append, List.length_append, List.length_cons, List.length_nil] at h
    exact h
theorem heldAreaS_l : ∀ (d : Nat) (pre : List Ar) (x : Int), pre.length + d ≤ 9223372036854775807 → Ev (fun k => laws_heldAreaS.l0 k (pre ++ markA d x) x (pre.length : Int)) (endA d x) := by
  intro d
  induction d with
  | zero =>
    intro pre x hn
    refine Ev.step (fun k => by simp only [laws_heldAreaS.l0]; rfl) ?_
    exact Ev.neg (by simp [markA]) (Ev.pure (by simp [endA]))
  | succ d ih =>
    intro pre x hn
    refine Ev.step (fun k => by simp only [laws_heldAreaS.l0]; rfl) ?_
    refine Ev.pos (by simp [markA]; omega) (Ev.pos (by omega) ?_)
    have e : rd_T24 (pre ++ markA (d + 1) x) (pre.length : Int) = mkA x := by unfold rd_T24; rw [Int.toNat_natCast]; exact getD_prefix _ _ _ _
    rw [e, wrap_id (n := (pre.length : Int) + 1) (by omega) (by omega)]
    refine Ev.pos rfl (Ev.pos rfl (Ev.neg (by simp [mkA]) (Ev.neg (by simp [mkA]) ?_)))
    have h := ih (pre ++ [mkA x]) (nx4 x) (by simp; omega)
    simp only [List.append_assoc, List.cons_append, List.nil_append, List.length_append, List.length_cons, List.length_nil] at h
    exact h
theorem nx4_eq {x : Int} (h0 : 0 ≤ x) (h1 : x ≤ 4611686018427387904) : nx4 x = x + 4 := by
  unfold nx4
  rw [wrap_id (n := x + 1) (by omega) (by omega), wrap_id (n := x + 1 + 1) (by omega) (by omega), wrap_id (n := x + 1 + 1 + 1) (by omega) (by omega), wrap_id (by omega) (by omega)]
  omega
theorem endA_eq : ∀ (d : Nat) (x : Int), 0 ≤ x → x + 4 * d ≤ 4611686018427387904 → endA d x = x + 4 * d := by
  intro d
  induction d with
  | zero => intro x _ _; simp [endA]
  | succ d ih =>
    intro x h0 h1
    show endA d (nx4 x) = _
    rw [nx4_eq h0 (by omega), ih _ (by omega) (by omega)]
    omega
theorem markA_length : ∀ (d : Nat) (x : Int), (markA d x).length = d := by
  intro d
  induction d with
  | zero => intro x; rfl
  | succ d ih => intro x; simp [markA, ih]
/-- Marked, a list is held. -/
theorem mark_held (l : List Ar) (x : Int) (hx : 0 ≤ x) (h1 : x + 4 * l.length ≤ 4611686018427387904) : ∃ l' : List Ar, Ev (fun k => laws_markAreaS.f k l x) (x + 4 * l.length, l') ∧ Ev (fun k => laws_heldAreaS.f k l' x) (x + 4 * l.length) ∧ l'.length = l.length := by
  refine ⟨markA l.length x, ?_, ?_, markA_length _ _⟩
  · have h := markAreaS_l l [] x (by simp; omega)
    rw [endA_eq _ _ hx h1] at h
    exact h
  · have h := heldAreaS_l l.length [] x (by simp; omega)
    rw [endA_eq _ _ hx h1] at h
    exact h

end Go.Proofs.Ytlahnekinlkfmaa.Q
