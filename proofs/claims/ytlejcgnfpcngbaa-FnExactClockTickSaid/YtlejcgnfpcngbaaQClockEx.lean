/- What the exact laws' own functions over clocks answer: copying, comparing, sizing, marking. -/
import Derived.Test.YtlejcgnfpcngbaaQClock
import Derived.Test.YtlejcgnfpcngbaaPf0
import Derived.Test.YtlejcgnfpcngbaaPflawseqAlarm
import Derived.Test.YtlejcgnfpcngbaaPflawseqAlarmS
import Derived.Test.YtlejcgnfpcngbaaPflawseqClock
import Derived.Test.YtlejcgnfpcngbaaPflawsheldAlarmS
import Derived.Test.YtlejcgnfpcngbaaPflawsheldClock
import Derived.Test.YtlejcgnfpcngbaaPflawsmarkAlarmS
import Derived.Test.YtlejcgnfpcngbaaPflawsmarkClock
import Derived.Test.YtlejcgnfpcngbaaPflawsszAlarmS
import Derived.Test.YtlejcgnfpcngbaaPflawsszClock
import Derived.Test.YtlejcgnfpcngbaaPflawstoAlarm
import Derived.Test.YtlejcgnfpcngbaaPflawstoAlarmS
import Derived.Test.YtlejcgnfpcngbaaPflawstoClock
namespace Go.Proofs.Ytlejcgnfpcngbaa.Q
open Go.RowKit Go.Proofs.YtlejcgnfpcngbaaW.PrintWords Go.Proofs.YtlejcgnfpcngbaaW.PrintLast Go.Proofs.YtlejcgnfpcngbaaW.PrintMore Go.Proofs.Ytlejcgnfpcngbaa.P
set_option linter.unusedVariables false
set_option linter.unusedSimpArgs false

def toAl (x : S79) : Al := ⟨x.f0, x.f1, x.f2⟩
theorem toAlarmS_ev (l : List S79) (hn : l.length ≤ 1048576) : Ev (fun k => laws_toAlarmS.f k l) (l.map toAl) := by
  unfold laws_toAlarmS.f
  refine Ev.pos (by omega) (Ev.pos (by omega) ?_)
  exact mapLoop (L := laws_toAlarmS.l0) (z := z79) (conv := fun k x => laws_toAlarm.f x.f0 x.f1 x.f2) (mkb := fun b => (⟨b.1, b.2.1, b.2.2⟩ : Al)) (by intro k x0 x3 x4; simp only [laws_toAlarmS.l0]; rfl) (fun x => (x.f0, x.f1, x.f2)) l (by omega) (fun x _ => Ev.const (by unfold laws_toAlarm.f; rfl)) _
theorem toClock_ev (n : Int) (l : List S79) (hn : l.length ≤ 1048576) : Ev (fun k => laws_toClock.f k n l) (n, l.map toAl) := by
  unfold laws_toClock.f
  exact Ev.bind (toAlarmS_ev l hn) (Ev.now _)
theorem eqAlarm_self (a b c : Int) : laws_eqAlarm.f a b c a b c = some true := by
  unfold laws_eqAlarm.f
  simp
theorem eqAlarmS_self (l : List Al) (hn : l.length ≤ 9223372036854775807) : Ev (fun k => laws_eqAlarmS.f k l l) true := by
  unfold laws_eqAlarmS.f
  refine Ev.pos rfl ?_
  exact eqLoop (L := laws_eqAlarmS.l0) (z := z62) (cmp := fun k x y => laws_eqAlarm.f x.f0 x.f1 x.f2 y.f0 y.f1 y.f2) (by intro k x0 x3 x4; simp only [laws_eqAlarmS.l0]; rfl) l hn (fun x _ => Ev.const (eqAlarm_self _ _ _))
theorem eqClock_self (n : Int) (l : List Al) (hn : l.length ≤ 9223372036854775807) : Ev (fun k => laws_eqClock.f k n l n l) true := by
  unfold laws_eqClock.f
  exact Ev.pos rfl (Ev.bind (eqAlarmS_self l hn) (Ev.pos rfl (Ev.now _)))
theorem szClock_eq (c : Int) (l : List S79) (hn : l.length ≤ 9223372036854775807) (n : Int) (h0 : 0 ≤ n) (h1 : n ≤ 1048576) : laws_szClock.f c l n = some (szR n l.length) := by
  unfold laws_szClock.f laws_szAlarmS.f szR
  rw [wrap_id (n := n - (l.length : Int)) (by omega) (by omega)]
  by_cases h : n - (l.length : Int) < 0
  · simp [if_pos h]
  · simp [if_neg h]

def nx3 (x : Int) : Int := wrap64 ((wrap64 ((wrap64 (x + 1)) + 1)) + 1)
def mkAl (x : Int) : Al := ⟨x, wrap64 (x + 1), wrap64 ((wrap64 (x + 1)) + 1)⟩
def markAl : Nat → Int → List Al
  | 0, _ => []
  | d + 1, x => mkAl x :: markAl d (nx3 x)
def endAl : Nat → Int → Int
  | 0, x => x
  | d + 1, x => endAl d (nx3 x)
theorem markAlarmS_l : ∀ (rest pre : List Al) (x : Int), (pre ++ rest).length ≤ 9223372036854775807 → Ev (fun k => laws_markAlarmS.l0 k (pre ++ rest) x (pre.length : Int)) (endAl rest.length x, pre ++ markAl rest.length x) := by
  intro rest
  induction rest with
  | nil =>
    intro pre x hn
    refine Ev.step (fun k => by simp only [laws_markAlarmS.l0]; rfl) ?_
    exact Ev.neg (by simp) (Ev.pure (by simp [endAl, markAl]))
  | cons y rest ih =>
    intro pre x hn
    have hlt : pre.length < (pre ++ y :: rest).length := by simp
    refine Ev.step (fun k => by simp only [laws_markAlarmS.l0]; rfl) ?_
    refine Ev.pos (by omega) (Ev.pos (by omega) ?_)
    rw [Int.toNat_natCast, lset_prefix, lsucc_wrap hlt hn]
    refine Ev.bind (Ev.now _) ?_
    rw [lset_prefix]
    refine Ev.bind (Ev.now _) ?_
    rw [lset_prefix]
    have e : ∀ (u : Al), rd_T62 (pre ++ u :: rest) (pre.length : Int) = u := fun u => by unfold rd_T62; rw [Int.toNat_natCast, lgetD_prefix]
    simp only [e]
    have h := ih (pre ++ [mkAl x]) (nx3 x) (by simp at hn ⊢; omega)
    simp only [List.append_assoc, List.cons_append, List.nil_append, List.length_append, List.length_cons, List.length_nil] at h
    exact h
theorem heldAlarmS_l : ∀ (d : Nat) (pre : List Al) (x : Int), pre.length + d ≤ 9223372036854775807 → Ev (fun k => laws_heldAlarmS.l0 k (pre ++ markAl d x) x (pre.length : Int)) (endAl d x) := by
  intro d
  induction d with
  | zero =>
    intro pre x hn
    refine Ev.step (fun k => by simp only [laws_heldAlarmS.l0]; rfl) ?_
    exact Ev.neg (by simp [markAl]) (Ev.pure (by simp [endAl]))
  | succ d ih =>
    intro pre x hn
    refine Ev.step (fun k => by simp only [laws_heldAlarmS.l0]; rfl) ?_
    refine Ev.pos (by simp [markAl]; omega) (Ev.pos (by omega) ?_)
    have e : rd_T62 (pre ++ markAl (d + 1) x) (pre.length : Int) = mkAl x := by unfold rd_T62; rw [Int.toNat_natCast]; exact lgetD_prefix _ _ _ _
    rw [e, wrap_id (n := (pre.length : Int) + 1) (by omega) (by omega)]
    refine Ev.pos rfl (Ev.pos rfl (Ev.pos rfl ?_))
    have h := ih (pre ++ [mkAl x]) (nx3 x) (by simp; omega)
    simp only [List.append_assoc, List.cons_append, List.nil_append, List.length_append, List.length_cons, List.length_nil] at h
    exact h
theorem nx3_eq {x : Int} (h0 : 0 ≤ x) (h1 : x ≤ 4611686018427387904) : nx3 x = x + 3 := by
  unfold nx3
  rw [wrap_id (n := x + 1) (by omega) (by omega), wrap_id (n := x + 1 + 1) (by omega) (by omega), wrap_id (by omega) (by omega)]
  omega
theorem endAl_eq : ∀ (d : Nat) (x : Int), 0 ≤ x → x + 3 * d ≤ 4611686018427387904 → endAl d x = x + 3 * d := by
  intro d
  induction d with
  | zero => intro x _ _; simp [endAl]
  | succ d ih =>
    intro x h0 h1
    show endAl d (nx3 x) = _
    rw [nx3_eq h0 (by omega), ih _ (by omega) (by omega)]
    omega
theorem markAl_length : ∀ (d : Nat) (x : Int), (markAl d x).length = d := by
  intro d
  induction d with
  | zero => intro x; rfl
  | succ d ih => intro x; simp [markAl, ih]
/-- Marked, a clock is held. -/
theorem markClock_held (n : Int) (l : List Al) (x : Int) (hx : 0 ≤ x) (h1 : x + 3 * l.length ≤ 4611686018427387904) : ∃ l' : List Al, Ev (fun k => laws_markClock.f k n l x) (x + 3 * l.length, l') ∧ Ev (fun k => laws_heldClock.f k n l' x) (x + 3 * l.length) ∧ l'.length = l.length := by
  refine ⟨markAl l.length x, ?_, ?_, markAl_length _ _⟩
  · unfold laws_markClock.f
    have h := markAlarmS_l l [] x (by simp; omega)
    rw [endAl_eq _ _ hx h1] at h
    exact Ev.bind h (Ev.now _)
  · unfold laws_heldClock.f
    have h := heldAlarmS_l l.length [] x (by simp; omega)
    rw [endAl_eq _ _ hx h1] at h
    exact Ev.bind h (Ev.neg (by omega) (Ev.now _))
end Go.Proofs.Ytlejcgnfpcngbaa.Q
