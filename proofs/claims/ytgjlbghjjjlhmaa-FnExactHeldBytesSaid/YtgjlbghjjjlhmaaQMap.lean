/- A set that a call makes (a map of bools): what a look-up answers, what a store makes of it, when it stays. -/
import Derived.Test.YtgjlbghjjjlhmaaV
import Derived.Maps.OwnOps
import Derived.Maps.Views
namespace Go.Proofs.Ytgjlbghjjjlhmaa.Q
open Go Go.Maps
set_option linter.unusedVariables false
set_option linter.unusedSimpArgs false

def SetMap (P : Program) (k e : TypeId) (w : World) (b n : Nat) (s : Lit → Bool) : Prop :=
  ∃ D : DataW Unit, IsMap D ∧ w.ownsMap P k (plainElem P e) b n D ∧ ∀ kl, D.atKey kl (.lit (.bool false)) = .lit (.bool (s kl))
variable {P : Program} {k e : TypeId} {w w' : World} {b n : Nat} {s : Lit → Bool}
theorem SetMap.made (w : World) : SetMap P k e (w.alloc (.map #[] 0)) w.heap.size 0 (fun _ => false) :=
  ⟨.map [], ⟨[], rfl⟩, World.ownsMap_made w P k _, fun kl => rfl⟩
theorem SetMap.keep (h : SetMap P k e w b n s) (hb : w'.heap[b]? = w.heap[b]?) : SetMap P k e w' b n s := by
  obtain ⟨D, hi, ⟨es, clock, h1, F, hs, hD⟩, ha⟩ := h
  exact ⟨D, hi, ⟨es, clock, hb.trans h1, F, hs, hD⟩, ha⟩
theorem SetMap.lt (h : SetMap P k e w b n s) : b < w.heap.size := by
  obtain ⟨D, hi, ho, ha⟩ := h
  exact ho.lt
theorem SetMap.mono (h : SetMap P k e w b n s) {n' : Nat} (hn : n ≤ n') : SetMap P k e w b n' s := by
  obtain ⟨D, hi, ho, ha⟩ := h
  exact ⟨D, hi, ho.mono hn, ha⟩
theorem SetMap.notCells (h : SetMap P k e w b n s) (cs : Array Value) (t : TypeId) (fr : Nat × Nat) : w.heap[b]? ≠ some (.cells cs t fr) := by
  obtain ⟨D, hi, ⟨es, clock, h1, _⟩, ha⟩ := h
  rw [h1]
  intro e
  cases e
theorem plainElem_bool_inv {H : Type} (he : P.underlying e = some .bool) {v : Value} {z : DataW H × List MemPlace} (h : plainElem P e v = some z) : ∃ x, v = .bool x ∧ z = (.lit (.bool x), []) := by
  unfold plainElem at h
  rw [he] at h
  cases v <;> simp at h
  exact ⟨_, rfl, h.symm⟩
theorem SetMap.look {t : TypeId} (h : SetMap P k e w b n s) (K : Keyed P k) (ht : P.underlying t = some (.map k e)) (he : P.underlying e = some .bool) (hz : (zeroValue e).run P w = .ok (.bool false) w) {key : Value} {kl : Lit} (hkey : keyOf P k key = some kl) :
    (Instr.lookup t (.map (some b)) key false).run P w = .ok (.bool (s kl)) w := by
  obtain ⟨D, hi, ho, ha⟩ := h
  obtain ⟨v, ps, hrun, hv⟩ := ho.lookup K ht hz (plainElem_bool he false) hkey
  obtain ⟨x, rfl, hx⟩ := plainElem_bool_inv he hv
  simp only [Prod.mk.injEq] at hx
  have := hx.1
  rw [ha] at this
  injection this with this
  injection this with this
  rw [this]
  exact hrun
theorem SetMap.store {t : TypeId} (h : SetMap P k e w b n s) (K : Keyed P k) (ht : P.underlying t = some (.map k e)) (he : P.underlying e = some .bool) (hn : n < maxLen) {key : Value} {kl : Lit} (hkey : keyOf P k key = some kl) (hk : WideAt.IsKeyLit kl) (x : Bool) (s' : Lit → Bool) (h0 : s' kl = x) (h1 : ∀ j, j ≠ kl → s' j = s j) :
    ∃ w', (Instr.mapUpdate t (.map (some b)) key (.bool x)).run P w = .ok () w' ∧ SetMap P k e w' b (n + 1) s' ∧ w.grownBy w' (some b) := by
  obtain ⟨D, hi, ho, ha⟩ := h
  obtain ⟨w', hrun, g1, g2⟩ := ho.update (t := t) K ht hn hkey (plainElem_bool he x)
  refine ⟨w', hrun, ⟨_, hi.put _ _, g1, fun j => ?_⟩, g2⟩
  by_cases hj : j = kl
  · rw [hj, h0, atKey_put_same hi hk]
  · rw [h1 j hj, atKey_put_other hj, ha]
/-- The store at the operation, for the walk. -/
theorem SetMap.at_store {ops : Array Oper} {rest : List Oper} {o : Oper} {a : Act} {Q : Exit → Act → World → Prop}
    (hg : o.guard = none) (m x v : Operand) (t : TypeId) (hop : o.op = Op.mapUpdate t m x v) (K : Keyed P k) (ht : P.underlying t = some (.map k e)) (he : P.underlying e = some .bool) (h : SetMap P k e w b n s) (hm : a.eval m = .map (some b)) (hn : n < maxLen)
    (key : Value) (y : Bool) (kl : Lit) (hx : a.eval x = key) (hv : a.eval v = .bool y) (hkey : keyOf P k key = some kl) (hk : WideAt.IsKeyLit kl) (s' : Lit → Bool) (h0 : s' kl = y) (h1 : ∀ j, j ≠ kl → s' j = s j)
    (hK : ∀ w', SetMap P k e w' b (n + 1) s' → w.grownBy w' (some b) → wpList P ops Q rest (a.put o.dst undef) w') :
    wpList P ops Q (o :: rest) a w := by
  refine wpList_plain hg fun K' hK' => ?_
  obtain ⟨w', hrun, r1, r2⟩ := h.store (t := t) K ht he hn hkey hk y s' h0 h1
  unfold Oper.wp
  simp [execOp, hop, hm, hx, hv, hrun, Result.andThen]
  exact hK' _ _ (hK w' r1 r2)
end Go.Proofs.Ytgjlbghjjjlhmaa.Q
