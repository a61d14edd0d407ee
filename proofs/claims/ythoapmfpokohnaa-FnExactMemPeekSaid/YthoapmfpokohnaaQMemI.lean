/- Memory's Ok, the program's side, without Go and memory. -/
import Derived.Test.YthoapmfpokohnaaQMem
import Derived.Test.YthoapmfpokohnaaQTell
import Derived.Test.YthoapmfpokohnaaPf0
import Derived.Test.YthoapmfpokohnaaPfM7
import Derived.Test.YthoapmfpokohnaaPfimplMemOk
import Derived.Test.YthoapmfpokohnaaPfM8
namespace Go.Proofs.Ythoapmfpokohnaa.Q
open Go.RowKit Go.Proofs.YthoapmfpokohnaaW.PrintWords Go.Proofs.YthoapmfpokohnaaW.PrintLast Go.Proofs.YthoapmfpokohnaaW.PrintMore Go.Proofs.Ythoapmfpokohnaa.P
set_option linter.unusedVariables false
set_option linter.unusedSimpArgs false
abbrev Te := S94
abbrev Tell := List ((Int × Int) × Te)
def sl (s : Sp) (p : Nat) : Sl := rd_T65 s.f2 (p : Int)
def spA (l : List Sp) (i : Nat) : Sp := rd_T63 l (i : Int)
def atB (s : Sp) (p : Nat) : Int := impl_AreasAt.idx (p : Int) s.f1 0
def shB (s : Sp) (p : Nat) : Bool := if 0 ≤ atB s p then (rd_T108 s.f1 (atB s p)).f3 else false
def neB (t : Sl) : Bool := decide (t.f1 = 0) && (!t.f2 && !t.f3)
def slotB (s : Sp) (p : Nat) : Bool := if (sl s p).f0 = 0 then neB (sl s p) else (decide (0 ≤ atB s p) && ((decide (1 ≤ (sl s p).f0) && decide ((sl s p).f0 ≤ 2)) && (!shB s p || (sl s p).f2)))
def idB (s : Sp) (p : Nat) : Bool := decide ((sl s p).f0 = 0) || (decide (0 ≤ (sl s p).f1) && decide ((sl s p).f1 ≤ 11))
def hasB (r : List Int) (a : Int) : Bool := (decide (0 ≤ a) && decide (a ≤ 11)) && decide (rd r a > 0)
def refB (r1 r2 : List Int) (s : Sp) (p : Nat) : Bool := decide ((sl s p).f0 = 0) || hasB (if (sl s p).f0 = 1 then r1 else r2) (sl s p).f1
def ent (s : Sp) (p : Nat) : Tell := if (sl s p).f0 = 0 then [] else [(((sl s p).f0, (sl s p).f1), ⟨(sl s p).f2, shB s p⟩)]
def ents (s : Sp) : Nat → Nat → Tell
  | 0, _ => []
  | d + 1, p => ent s p ++ ents s d (p + 1)
def entsL (l : List Sp) : Nat → Nat → Tell
  | 0, _ => []
  | d + 1, i => ents (spA l i) (spA l i).f2.length 0 ++ entsL l d (i + 1)
def allP (f : Nat → Bool) : Nat → Nat → Bool
  | 0, _ => true
  | d + 1, p => f p && allP f d (p + 1)
theorem allP_iff (f : Nat → Bool) : ∀ d p, allP f d p = true ↔ ∀ j, p ≤ j → j < p + d → f j = true := by
  intro d
  induction d with
  | zero =>
    intro p
    simp only [allP, true_iff]
    intro j h1 h2
    omega
  | succ d ih =>
    intro p
    simp only [allP, Bool.and_eq_true, ih]
    constructor
    · rintro ⟨h1, h2⟩ j hj hj2
      rcases Nat.lt_or_ge p j with hl | hl
      · exact h2 j (by omega) (by omega)
      · have : j = p := by omega
        rw [this]
        exact h1
    · intro h
      exact ⟨h p (by omega) (by omega), fun j h1 h2 => h j (by omega) (by omega)⟩
theorem allP_and (f g : Nat → Bool) (d p : Nat) : allP (fun j => f j && g j) d p = (allP f d p && allP g d p) := by
  apply Bool.eq_iff_iff.2
  simp only [Bool.and_eq_true, allP_iff]
  exact ⟨fun h => ⟨fun j h1 h2 => (h j h1 h2).1, fun j h1 h2 => (h j h1 h2).2⟩, fun h j h1 h2 => ⟨h.1 j h1 h2, h.2 j h1 h2⟩⟩
theorem idx_range (p : Int) : ∀ (l : List Ar) (b : Int), 0 ≤ b → impl_AreasAt.idx p l b = -1 ∨ (b ≤ impl_AreasAt.idx p l b ∧ impl_AreasAt.idx p l b < b + l.length) := by
  intro l
  induction l with
  | nil => intro b _; exact Or.inl rfl
  | cons a l ih =>
    intro b hb
    show (if impl_AreasAt.hit p a = true then b else impl_AreasAt.idx p l (b + 1)) = -1 ∨ (b ≤ (if impl_AreasAt.hit p a = true then b else impl_AreasAt.idx p l (b + 1)) ∧ (if impl_AreasAt.hit p a = true then b else impl_AreasAt.idx p l (b + 1)) < b + (a :: l).length)
    simp only [List.length_cons]
    split
    · right; omega
    · rcases ih (b + 1) (by omega) with h | h
      · exact Or.inl h
      · right; omega
theorem at_lt {s : Sp} {p : Nat} (h : 0 ≤ atB s p) : atB s p < s.f1.length := by
  rcases idx_range (p : Int) s.f1 0 (by omega) with h1 | h1
  · unfold atB at h; omega
  · unfold atB; omega
theorem areasAt_ok {l : List Ar} (ho : areasOk l = true) (p : Int) : areasAt l p = impl_AreasAt.idx p l 0 := by
  unfold areasAt
  rw [if_pos ho]
theorem has_eq {l0 : List ByteArray} {l1 : List Int} (h : l1.length = 12) (a : Int) : impl_Pages_has.f l0 l1 a = some (hasB l1 a) := by
  unfold impl_Pages_has.f hasB
  rw [in_eq, Option.bind_some, h, show wrap64 (((12 : Nat) : Int) - 1) = 11 by rw [wrap_id (by omega) (by omega)]; rfl]
  cases hb : (decide (0 ≤ a) && decide (a ≤ 11)) with
  | false => rfl
  | true =>
    have h' : 0 ≤ a ∧ a ≤ 11 := by simpa using hb
    rw [if_pos rfl, if_pos h'.1, if_pos (by omega)]
    rfl
theorem ne_eq (t : Sl) : impl_MemOk.ne t = !(decide (t.f0 = 0) && neB t) := by
  unfold impl_MemOk.ne neB
  rw [Bool.beq_eq_decide_eq, Bool.beq_eq_decide_eq]
  cases decide (t.f0 = 0) <;> cases decide (t.f1 = 0) <;> cases t.f2 <;> cases t.f3 <;> rfl
theorem sh_impl {s : Sp} (ho : areasOk s.f1 = true) (hn : s.f1.length ≤ 9223372036854775807) (p : Nat) : Ev (fun k => impl_Space_shared.f k s.f0 s.f1 s.f2 (p : Int)) (shB s p) := by
  unfold impl_Space_shared.f
  have h := implAt s.f1 hn (p : Int)
  rw [areasAt_ok ho] at h
  refine Ev.bind h ?_
  unfold shB
  by_cases c : 0 ≤ atB s p
  · rw [if_pos c]
    exact Ev.pos c (Ev.pos c (Ev.pos (at_lt c) (Ev.now _)))
  · rw [if_neg c]
    exact Ev.neg c (Ev.now _)
theorem slot_ev (d1 : List ByteArray) (r1 : List Int) (d2 : List ByteArray) (r2 : List Int) (s : Sp) (p : Nat) (ho : areasOk s.f1 = true) (hn : s.f1.length ≤ 9223372036854775807) (h1 : r1.length = 12) (h2 : r2.length = 12) :
    Ev (fun k => impl_MemOk.slot k d1 r1 d2 r2 s (p : Int)) (if (slotB s p && refB r1 r2 s p) = true then some (ent s p) else none) := by
  unfold impl_MemOk.slot
  simp only [ne_eq, has_eq h1, has_eq h2, in_eq, Option.bind_some]
  show Ev (fun k => (if (sl s p).f0 = 0 then some true else (impl_AreasAt.f k s.f1 (p : Int)).bind fun a => some (decide (a < 0))).bind fun z => _) _
  have hz : Ev (fun k => if (sl s p).f0 = 0 then some true else (impl_AreasAt.f k s.f1 (p : Int)).bind fun a => some (decide (a < 0))) (decide ((sl s p).f0 = 0) || decide (atB s p < 0)) := by
    by_cases h0 : (sl s p).f0 = 0
    · exact Ev.pos h0 (Ev.pure (by rw [decide_eq_true h0]; rfl))
    · have h := implAt s.f1 hn (p : Int)
      rw [areasAt_ok ho] at h
      exact Ev.neg h0 (Ev.bind h (Ev.pure (by rw [decide_eq_false h0]; rfl)))
  refine Ev.bind hz ?_
  change Ev (fun k => if (decide ((sl s p).f0 = 0) || decide (atB s p < 0)) = true then (if (!(decide ((sl s p).f0 = 0) && neB (sl s p))) = true then some none else some (some [])) else
    (if (sl s p).f0 = 1 then some (!hasB r1 (sl s p).f1) else some false).bind fun b1 => if b1 = true then some none else
    (if (sl s p).f0 = 2 then some (!hasB r2 (sl s p).f1) else some false).bind fun b2 => if b2 = true then some none else
    (if (decide (1 ≤ (sl s p).f0) && decide ((sl s p).f0 ≤ 2)) = true then (impl_Space_shared.f k s.f0 s.f1 s.f2 (p : Int)).bind fun sh => if sh = true then (if (sl s p).f2 = true then some (some [(((sl s p).f0, (sl s p).f1), (⟨(sl s p).f2, true⟩ : Te))]) else some none) else some (some [(((sl s p).f0, (sl s p).f1), (⟨(sl s p).f2, false⟩ : Te))]) else some none)) _
  by_cases h0 : (sl s p).f0 = 0
  · refine Ev.pos (by rw [decide_eq_true h0]; rfl) ?_
    unfold slotB refB ent
    rw [if_pos h0, if_pos h0, decide_eq_true h0]
    simp only [Bool.true_and, Bool.true_or, Bool.and_true]
    cases neB (sl s p)
    · exact Ev.pos rfl (Ev.now _)
    · exact Ev.neg (by decide) (Ev.now _)
  by_cases hat : atB s p < 0
  · refine Ev.pos (by rw [decide_eq_true hat, Bool.or_true]) (Ev.pos (by rw [decide_eq_false h0]; rfl) (Ev.pure ?_))
    unfold slotB
    rw [if_neg h0, decide_eq_false (by omega : ¬ 0 ≤ atB s p)]
    rfl
  refine Ev.neg (by rw [decide_eq_false h0, decide_eq_false hat]; decide) ?_
  have hsl : slotB s p = ((decide (1 ≤ (sl s p).f0) && decide ((sl s p).f0 ≤ 2)) && (!shB s p || (sl s p).f2)) := by
    unfold slotB
    rw [if_neg h0, decide_eq_true (by omega : 0 ≤ atB s p), Bool.true_and]
  have hrf : refB r1 r2 s p = hasB (if (sl s p).f0 = 1 then r1 else r2) (sl s p).f1 := by
    unfold refB
    rw [decide_eq_false h0, Bool.false_or]
  have hen : ent s p = [(((sl s p).f0, (sl s p).f1), (⟨(sl s p).f2, shB s p⟩ : Te))] := by
    unfold ent
    rw [if_neg h0]
  rw [hsl, hrf, hen]
  have tail : ∀ hb : Bool, Ev (fun k => (impl_Space_shared.f k s.f0 s.f1 s.f2 (p : Int)).bind fun sh => if sh = true then (if (sl s p).f2 = true then some (some [(((sl s p).f0, (sl s p).f1), (⟨(sl s p).f2, true⟩ : Te))]) else some none) else some (some [(((sl s p).f0, (sl s p).f1), (⟨(sl s p).f2, false⟩ : Te))])) (if (true && (!shB s p || (sl s p).f2) && true) = true then some [(((sl s p).f0, (sl s p).f1), (⟨(sl s p).f2, shB s p⟩ : Te))] else none) := by
    intro _
    refine Ev.bind (sh_impl ho hn p) ?_
    cases shB s p
    · exact Ev.neg (by decide) (Ev.now _)
    · refine Ev.pos rfl ?_
      by_cases hf : (sl s p).f2 = true
      · exact Ev.pos hf (Ev.pure (by rw [hf]; rfl))
      · exact Ev.neg hf (Ev.pure (by rw [Bool.eq_false_iff.2 hf]; rfl))
  by_cases ha : (sl s p).f0 = 1
  · rw [if_pos ha, if_pos ha]
    refine Ev.bind (Ev.now _) ?_
    cases hb : hasB r1 (sl s p).f1
    · exact Ev.pos rfl (Ev.pure (by rw [Bool.and_false]; rfl))
    · refine Ev.neg (by decide) (Ev.bind (Ev.neg (by omega) (Ev.now _)) (Ev.neg (by decide) ?_))
      have hin : (decide (1 ≤ (sl s p).f0) && decide ((sl s p).f0 ≤ 2)) = true := by rw [ha]; rfl
      rw [hin]
      exact Ev.pos rfl (tail true)
  rw [if_neg ha, if_neg ha]
  refine Ev.bind (Ev.now _) (Ev.neg (by decide) ?_)
  by_cases ha2 : (sl s p).f0 = 2
  · refine Ev.bind (Ev.pos ha2 (Ev.now _)) ?_
    cases hb : hasB r2 (sl s p).f1
    · exact Ev.pos rfl (Ev.pure (by rw [Bool.and_false]; rfl))
    · refine Ev.neg (by decide) ?_
      have hin : (decide (1 ≤ (sl s p).f0) && decide ((sl s p).f0 ≤ 2)) = true := by rw [ha2]; rfl
      rw [hin]
      exact Ev.pos rfl (tail true)
  · refine Ev.bind (Ev.neg ha2 (Ev.now _)) (Ev.neg (by decide) ?_)
    have hin : (decide (1 ≤ (sl s p).f0) && decide ((sl s p).f0 ≤ 2)) = false := by
      cases hq : (decide (1 ≤ (sl s p).f0) && decide ((sl s p).f0 ≤ 2))
      · rfl
      · have : 1 ≤ (sl s p).f0 ∧ (sl s p).f0 ≤ 2 := by simpa using hq
        omega
    rw [hin]
    exact Ev.neg (by decide) (Ev.pure rfl)
theorem slots_ev (d1 : List ByteArray) (r1 : List Int) (d2 : List ByteArray) (r2 : List Int) (s : Sp) (ho : areasOk s.f1 = true) (hn : s.f1.length ≤ 9223372036854775807) (h1 : r1.length = 12) (h2 : r2.length = 12) :
    ∀ (n p : Nat) (T : Tell), Ev (fun k => impl_MemOk.slots k d1 r1 d2 r2 s n (p : Int) T) (if allP (fun j => slotB s j && refB r1 r2 s j) n p = true then some (T ++ ents s n p) else none) := by
  intro n
  induction n with
  | zero =>
    intro p T
    exact Ev.pure (by simp [allP, ents])
  | succ n ih =>
    intro p T
    show Ev (fun k => (impl_MemOk.slot k d1 r1 d2 r2 s (p : Int)).bind fun o => match o with
      | none => some none
      | some l => impl_MemOk.slots k d1 r1 d2 r2 s n (((p + 1 : Nat)) : Int) (T ++ l)) _
    refine Ev.bind (slot_ev d1 r1 d2 r2 s p ho hn h1 h2) ?_
    show Ev _ (if ((slotB s p && refB r1 r2 s p) && allP (fun j => slotB s j && refB r1 r2 s j) n (p + 1)) = true then some (T ++ (ent s p ++ ents s n (p + 1))) else none)
    cases hc : (slotB s p && refB r1 r2 s p)
    · exact Ev.now _
    · have h := ih (p + 1) (T ++ ent s p)
      rw [List.append_assoc] at h
      exact h
def spB (s : Sp) : Bool := if s.f0 = true then (areasOk s.f1 && (decide (s.f2.length = 16) && allP (slotB s) s.f2.length 0)) else (decide (s.f1.length = 0) && decide (s.f2.length = 0))
def refS (r1 r2 : List Int) (s : Sp) : Bool := allP (refB r1 r2 s) s.f2.length 0
def idS (s : Sp) : Bool := allP (idB s) s.f2.length 0
theorem spaces_ev (d1 : List ByteArray) (r1 : List Int) (d2 : List ByteArray) (r2 : List Int) (l : List Sp) (h1 : r1.length = 12) (h2 : r2.length = 12) (hx : ∀ i, i < l.length → (spA l i).f1.length ≤ 9223372036854775807) :
    ∀ (n i : Nat) (T : Tell), i + n = l.length → Ev (fun k => impl_MemOk.spaces k d1 r1 d2 r2 l n (i : Int) T) (if allP (fun j => spB (spA l j) && refS r1 r2 (spA l j)) n i = true then some (T ++ entsL l n i) else none) := by
  intro n
  induction n with
  | zero =>
    intro i T _
    exact Ev.pure (by simp [allP, entsL])
  | succ n ih =>
    intro i T hi
    have hn := hx i (by omega)
    show Ev (fun k => if (spA l i).f0 = true then (impl_AreasOk.f k (spA l i).f1).bind fun ok => if ok = true then (if ((spA l i).f2.length : Int) = 16 then (impl_MemOk.slots k d1 r1 d2 r2 (spA l i) (spA l i).f2.length ((0 : Nat) : Int) T).bind fun o => match o with
        | none => some none
        | some T' => impl_MemOk.spaces k d1 r1 d2 r2 l n ((i + 1 : Nat) : Int) T' else some none) else some none
      else if ((spA l i).f1.length : Int) > 0 then some none else if ((spA l i).f2.length : Int) > 0 then some none else impl_MemOk.spaces k d1 r1 d2 r2 l n ((i + 1 : Nat) : Int) T) (if ((spB (spA l i) && refS r1 r2 (spA l i)) && allP (fun j => spB (spA l j) && refS r1 r2 (spA l j)) n (i + 1)) = true then some (T ++ (ents (spA l i) (spA l i).f2.length 0 ++ entsL l n (i + 1))) else none)
    have go : ∀ T', Ev (fun k => impl_MemOk.spaces k d1 r1 d2 r2 l n ((i + 1 : Nat) : Int) T') (if allP (fun j => spB (spA l j) && refS r1 r2 (spA l j)) n (i + 1) = true then some (T' ++ entsL l n (i + 1)) else none) := fun T' => ih (i + 1) T' (by omega)
    generalize spA l i = s at *
    unfold spB refS
    by_cases hl : s.f0 = true
    · refine Ev.pos hl (Ev.bind (implOk s.f1 hn) ?_)
      rw [if_pos hl]
      cases ho : areasOk s.f1
      · exact Ev.neg (by decide) (Ev.pure rfl)
      refine Ev.pos rfl ?_
      by_cases h16 : (s.f2.length : Int) = 16
      · refine Ev.pos h16 (Ev.bind (slots_ev d1 r1 d2 r2 s ho hn h1 h2 s.f2.length 0 T) ?_)
        rw [decide_eq_true (by omega : s.f2.length = 16), Bool.true_and, Bool.true_and, ← allP_and]
        cases hc : allP (fun j => slotB s j && refB r1 r2 s j) s.f2.length 0
        · exact Ev.now _
        · have h := go (T ++ ents s s.f2.length 0)
          rw [List.append_assoc] at h
          exact h
      · rw [decide_eq_false (by omega : ¬ s.f2.length = 16)]
        exact Ev.neg h16 (Ev.pure rfl)
    · refine Ev.neg hl ?_
      rw [if_neg hl]
      by_cases ha : (s.f1.length : Int) > 0
      · rw [decide_eq_false (by omega : ¬ s.f1.length = 0)]
        exact Ev.pos ha (Ev.pure rfl)
      rw [decide_eq_true (by omega : s.f1.length = 0)]
      refine Ev.neg ha ?_
      by_cases hb : (s.f2.length : Int) > 0
      · rw [decide_eq_false (by omega : ¬ s.f2.length = 0)]
        exact Ev.pos hb (Ev.pure rfl)
      have h0 : s.f2.length = 0 := by omega
      rw [h0]
      exact Ev.neg (by decide) (go T)
end Go.Proofs.Ythoapmfpokohnaa.Q
