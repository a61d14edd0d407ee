/- Locks of records: what the exact laws' own functions answer (copying, comparing, sizing, marking). -/
import Derived.Test.YtgjlbghjjjlhmaaQHeld3
import Derived.Test.YtgjlbghjjjlhmaaPf0
import Derived.Test.YtgjlbghjjjlhmaaPflawseqHeld
import Derived.Test.YtgjlbghjjjlhmaaPflawseqHold
import Derived.Test.YtgjlbghjjjlhmaaPflawseqHoldS
import Derived.Test.YtgjlbghjjjlhmaaPflawsmarkHeld
import Derived.Test.YtgjlbghjjjlhmaaPflawsmarkHoldS
import Derived.Test.YtgjlbghjjjlhmaaPflawsszHeld
import Derived.Test.YtgjlbghjjjlhmaaPflawsszHoldS
import Derived.Test.YtgjlbghjjjlhmaaPflawstoHeld
import Derived.Test.YtgjlbghjjjlhmaaPflawstoHold
import Derived.Test.YtgjlbghjjjlhmaaPflawstoHoldS
namespace Go.Proofs.Ytgjlbghjjjlhmaa.Q
open Go.RowKit Go.Proofs.YtgjlbghjjjlhmaaW.PrintWords Go.Proofs.YtgjlbghjjjlhmaaW.PrintLast Go.Proofs.YtgjlbghjjjlhmaaW.PrintMore Go.Proofs.Ytgjlbghjjjlhmaa.P
set_option linter.unusedVariables false
set_option linter.unusedSimpArgs false

def toHd (x : S36) : Ho := ⟨x.f0, x.f1, x.f2, x.f3⟩
theorem toHoldS_ev (l : List S36) (hn : l.length ≤ 1048576) : Ev (fun k => laws_toHoldS.f k l) (l.map toHd) := by
  unfold laws_toHoldS.f
  refine Ev.pos (by omega) (Ev.pos (by omega) ?_)
  exact mapLoop (L := laws_toHoldS.l0) (z := z36) (conv := fun k x => laws_toHold.f x.f0 x.f1 x.f2 x.f3) (mkb := fun b => (⟨b.1, b.2.1, b.2.2.1, b.2.2.2⟩ : Ho)) (by intro k x0 x3 x4; simp only [laws_toHoldS.l0]; rfl) (fun x => (x.f0, x.f1, x.f2, x.f3)) l (by omega) (fun x _ => Ev.now _) _
theorem toHeld_ev (l m : List S36) (hn : l.length ≤ 1048576) (hm : m.length ≤ 1048576) : Ev (fun k => laws_toHeld.f k l m) (l.map toHd, m.map toHd) := by
  unfold laws_toHeld.f
  exact Ev.bind (toHoldS_ev l hn) (Ev.bind (toHoldS_ev m hm) (Ev.now _))
theorem eqHold_self (x : Ho) : laws_eqHold.f x.f0 x.f1 x.f2 x.f3 x.f0 x.f1 x.f2 x.f3 = some true := by
  unfold laws_eqHold.f
  simp
theorem eqHoldS_self (l : List Ho) (hn : l.length ≤ 9223372036854775807) : Ev (fun k => laws_eqHoldS.f k l l) true := by
  unfold laws_eqHoldS.f
  refine Ev.pos rfl ?_
  exact eqLoop (L := laws_eqHoldS.l0) (z := z40) (cmp := fun k x y => laws_eqHold.f x.f0 x.f1 x.f2 x.f3 y.f0 y.f1 y.f2 y.f3) (by intro k x0 x3 x4; simp only [laws_eqHoldS.l0]; rfl) l (by omega) (fun x _ => Ev.const (eqHold_self x))
theorem eqHeld_self (l m : List Ho) (hn : l.length ≤ 9223372036854775807) (hm : m.length ≤ 9223372036854775807) : Ev (fun k => laws_eqHeld.f k l m l m) true := by
  unfold laws_eqHeld.f
  exact Ev.bind (eqHoldS_self l hn) (Ev.pos rfl (Ev.bind (eqHoldS_self m hm) (Ev.pos rfl (Ev.now _))))
theorem szHeld_eq (l m : List S36) (hl : l.length ≤ 9223372036854775807) (hm : m.length ≤ 9223372036854775807) : ∃ r : Int, laws_szHeld.f l m 1048576 = some r ∧ (¬ r < 0 → l.length ≤ 1048576 ∧ m.length ≤ 1048576) := by
  unfold laws_szHeld.f laws_szHoldS.f
  rw [wrap_id (n := 1048576 - (l.length : Int)) (by omega) (by omega)]
  by_cases h : (1048576 : Int) - (l.length : Int) < 0
  · rw [if_pos h]
    exact ⟨-1, rfl, by omega⟩
  · rw [if_neg h]
    simp only [Option.bind_some]
    rw [if_neg h, wrap_id (n := 1048576 - (l.length : Int) - (m.length : Int)) (by omega) (by omega)]
    by_cases h2 : (1048576 : Int) - (l.length : Int) - (m.length : Int) < 0
    · rw [if_pos h2]
      exact ⟨-1, rfl, by omega⟩
    · rw [if_neg h2]
      simp only [Option.bind_some]
      rw [if_neg h2]
      exact ⟨_, rfl, fun _ => by omega⟩
theorem markHoldS_l : ∀ (d i : Nat) (l : List Ho) (a : Int), l.length = i + d → l.length ≤ 1048576 → 0 ≤ a → a ≤ 1000000000000 + 4 * (i : Int) → ∃ l', Ev (fun k => laws_markHoldS.l0 k l a (i : Int)) (a + 4 * (d : Int), l') ∧ l'.length = l.length := by
  intro d
  induction d with
  | zero =>
    intro i l a hl hn h0 h1
    refine ⟨l, Ev.step (fun k => by simp only [laws_markHoldS.l0]; rfl) (Ev.neg (by omega) (Ev.pure ?_)), rfl⟩
    simp
  | succ d ih =>
    intro i l a hl hn h0 h1
    have w1 : wrap64 (a + 1) = a + 1 := wrap_id (by omega) (by omega)
    have w2 : wrap64 (a + 1 + 1) = a + 1 + 1 := wrap_id (by omega) (by omega)
    have w3 : wrap64 (a + 1 + 1 + 1) = a + 1 + 1 + 1 := wrap_id (by omega) (by omega)
    have w4 : wrap64 (a + 1 + 1 + 1 + 1) = a + 1 + 1 + 1 + 1 := wrap_id (by omega) (by omega)
    have w5 : wrap64 ((i : Int) + 1) = ((i + 1 : Nat) : Int) := lsucc_wrap (n := l.length) (by omega) (by omega)
    have key : ∀ q : List Ho, q.length = l.length → ∃ l', Ev (fun k => laws_markHoldS.l0 k q (a + 1 + 1 + 1 + 1) ((i + 1 : Nat) : Int)) (a + 4 * ((d + 1 : Nat) : Int), l') ∧ l'.length = l.length := fun q hq => by
      obtain ⟨l', e, hl'⟩ := ih (i + 1) q (a + 1 + 1 + 1 + 1) (by omega) (by omega) (by omega) (by omega)
      refine ⟨l', Ev.cast e ?_, by omega⟩
      refine Prod.ext ?_ rfl
      show a + 1 + 1 + 1 + 1 + 4 * (d : Int) = a + 4 * ((d + 1 : Nat) : Int)
      omega
    obtain ⟨l', e, hl'⟩ := key ((((l.set i (⟨a, (rd_T40 l i).f1, (rd_T40 l i).f2, (rd_T40 l i).f3⟩ : Ho)).set i _).set i _).set i _) (by simp)
    refine ⟨l', Ev.step (fun k => by simp only [laws_markHoldS.l0]; rfl) (Ev.pos (by omega) (Ev.pos (by omega) ?_)), hl'⟩
    rw [w1, w2, w3, w4, w5, Int.toNat_natCast]
    exact Ev.bind (Ev.now _) (Ev.bind (Ev.now _) (Ev.bind (Ev.now _) e))
theorem markHeld_ev (l m : List Ho) (hn : l.length ≤ 1048576) (hm : m.length ≤ 1048576) : ∃ (r : Int) (l' m' : List Ho), Ev (fun k => laws_markHeld.f k l m 1) (r, l', m') ∧ 0 ≤ r := by
  obtain ⟨l', e1, _⟩ := markHoldS_l l.length 0 l 1 (by omega) hn (by omega) (by omega)
  obtain ⟨m', e2, _⟩ := markHoldS_l m.length 0 m (1 + 4 * (l.length : Int)) (by omega) hm (by omega) (by omega)
  refine ⟨1 + 4 * (l.length : Int) + 4 * (m.length : Int), l', m', ?_, by omega⟩
  unfold laws_markHeld.f laws_markHoldS.f
  exact Ev.bind e1 (Ev.bind e2 (Ev.now _))
end Go.Proofs.Ytgjlbghjjjlhmaa.Q
