/- Meanings of memory: what the exact laws' own functions answer (copying, comparing, sizing), and BytesGet. -/
import Derived.Test.YthoapmfpokohnaaQLoops
import Derived.Test.YthoapmfpokohnaaQAreasL2
import Derived.Test.YthoapmfpokohnaaQAreasEx2
import Derived.Test.YthoapmfpokohnaaPf0
import Derived.Test.YthoapmfpokohnaaPflawseqBytesOf
import Derived.Test.YthoapmfpokohnaaPflawseqBytesOfS
import Derived.Test.YthoapmfpokohnaaPflawseqIntS
import Derived.Test.YthoapmfpokohnaaPflawseqStringS
import Derived.Test.YthoapmfpokohnaaPflawseqViews
import Derived.Test.YthoapmfpokohnaaPflawsszAreaS
import Derived.Test.YthoapmfpokohnaaPflawsszBytesOf
import Derived.Test.YthoapmfpokohnaaPflawsszBytesOfS
import Derived.Test.YthoapmfpokohnaaPflawsszIntS
import Derived.Test.YthoapmfpokohnaaPflawsszStringS
import Derived.Test.YthoapmfpokohnaaPflawsszViews
import Derived.Test.YthoapmfpokohnaaPflawstoBytesOf
import Derived.Test.YthoapmfpokohnaaPflawstoBytesOfS
import Derived.Test.YthoapmfpokohnaaPflawstoIntS
import Derived.Test.YthoapmfpokohnaaPflawstoStringS
import Derived.Test.YthoapmfpokohnaaPflawstoViews
namespace Go.Proofs.Ythoapmfpokohnaa.Q
open Go.RowKit Go.Proofs.YthoapmfpokohnaaW.PrintWords Go.Proofs.YthoapmfpokohnaaW.PrintLast Go.Proofs.YthoapmfpokohnaaW.PrintMore Go.Proofs.Ythoapmfpokohnaa.P
set_option linter.unusedVariables false
set_option linter.unusedSimpArgs false

abbrev By := S75
def toBy (x : S126) : By := ⟨x.f0, x.f1.map toA, x.f2, x.f3⟩
theorem toIntS_ev (l : List Int) (hn : l.length ≤ 1048576) : Ev (fun k => laws_toIntS.f k l) l := by
  unfold laws_toIntS.f
  refine Ev.pos (by omega) (Ev.pos (by omega) ?_)
  have h := mapLoop (L := laws_toIntS.l0) (z := (0 : Int)) (conv := fun _ x => some x) (mkb := fun b => b) (by intro k x0 x3 x4; simp only [laws_toIntS.l0]; rfl) (fun x => x) l (by omega) (fun x _ => Ev.now _) 0
  exact Ev.cast h (by simp)
theorem toStringS_ev (l : List ByteArray) (hn : l.length ≤ 1048576) : Ev (fun k => laws_toStringS.f k l) l := by
  unfold laws_toStringS.f
  refine Ev.pos (by omega) (Ev.pos (by omega) ?_)
  have h := mapLoop (L := laws_toStringS.l0) (z := ByteArray.empty) (conv := fun _ x => some x) (mkb := fun b => b) (by intro k x0 x3 x4; simp only [laws_toStringS.l0]; rfl) (fun x => x) l (by omega) (fun x _ => Ev.now _) (⟨#[]⟩ : ByteArray)
  exact Ev.cast h (by simp)
theorem toBytesOf_ev (x : S126) (h1 : x.f1.length ≤ 1048576) (h2 : x.f2.length ≤ 1048576) (h3 : x.f3.length ≤ 1048576) : Ev (fun k => laws_toBytesOf.f k x.f0 x.f1 x.f2 x.f3) (x.f0, x.f1.map toA, x.f2, x.f3) := by
  unfold laws_toBytesOf.f
  exact Ev.bind (toAreaS_ev x.f1 h1) (Ev.bind (toIntS_ev x.f2 h2) (Ev.bind (toStringS_ev x.f3 h3) (Ev.now _)))
theorem toViews_ev (l : List S126) (hn : l.length ≤ 1048576) (hx : ∀ x ∈ l, x.f1.length ≤ 1048576 ∧ x.f2.length ≤ 1048576 ∧ x.f3.length ≤ 1048576) : Ev (fun k => laws_toViews.f k l) (l.map toBy) := by
  unfold laws_toViews.f laws_toBytesOfS.f
  refine Ev.bind (Ev.pos (by omega) (Ev.pos (by omega) ?_)) (Ev.now _)
  exact mapLoop (L := laws_toBytesOfS.l0) (z := z126) (conv := fun k x => laws_toBytesOf.f k x.f0 x.f1 x.f2 x.f3) (mkb := fun b => (⟨b.1, b.2.1, b.2.2.1, b.2.2.2⟩ : By)) (by intro k x0 x3 x4; simp only [laws_toBytesOfS.l0]; rfl) (fun x => (x.f0, x.f1.map toA, x.f2, x.f3)) l (by omega) (fun x m => toBytesOf_ev x (hx x m).1 (hx x m).2.1 (hx x m).2.2) _
theorem eqIntS_l : ∀ (rest pre : List Int), (pre ++ rest).length ≤ 9223372036854775807 → Ev (fun k => laws_eqIntS.l0 k (pre ++ rest) (pre ++ rest) (pre.length : Int)) true := by
  intro rest
  induction rest with
  | nil =>
    intro pre hn
    exact Ev.step (fun k => by simp only [laws_eqIntS.l0]; rfl) (Ev.neg (by simp) (Ev.pure rfl))
  | cons y rest ih =>
    intro pre hn
    have hlt : pre.length < (pre ++ y :: rest).length := by simp
    refine Ev.step (fun k => by simp only [laws_eqIntS.l0]; rfl) ?_
    refine Ev.pos (by omega) (Ev.pos (by omega) (Ev.pos (by omega) (Ev.pos (by trivial) ?_)))
    rw [lsucc_wrap hlt hn]
    have h := ih (pre ++ [y]) (by simp at hn ⊢; omega)
    simp only [List.append_assoc, List.cons_append, List.nil_append, List.length_append, List.length_cons, List.length_nil] at h
    exact h
theorem eqIntS_self (l : List Int) (hn : l.length ≤ 9223372036854775807) : Ev (fun k => laws_eqIntS.f k l l) true := by
  unfold laws_eqIntS.f
  exact Ev.pos rfl (eqIntS_l l [] hn)
theorem eqStringS_l : ∀ (rest pre : List ByteArray), (pre ++ rest).length ≤ 9223372036854775807 → Ev (fun k => laws_eqStringS.l0 k (pre ++ rest) (pre ++ rest) (pre.length : Int)) true := by
  intro rest
  induction rest with
  | nil =>
    intro pre hn
    exact Ev.step (fun k => by simp only [laws_eqStringS.l0]; rfl) (Ev.neg (by simp) (Ev.pure rfl))
  | cons y rest ih =>
    intro pre hn
    have hlt : pre.length < (pre ++ y :: rest).length := by simp
    refine Ev.step (fun k => by simp only [laws_eqStringS.l0]; rfl) ?_
    refine Ev.pos (by omega) (Ev.pos (by omega) (Ev.pos (by omega) (Ev.pos (by trivial) ?_)))
    rw [lsucc_wrap hlt hn]
    have h := ih (pre ++ [y]) (by simp at hn ⊢; omega)
    simp only [List.append_assoc, List.cons_append, List.nil_append, List.length_append, List.length_cons, List.length_nil] at h
    exact h
theorem eqStringS_self (l : List ByteArray) (hn : l.length ≤ 9223372036854775807) : Ev (fun k => laws_eqStringS.f k l l) true := by
  unfold laws_eqStringS.f
  exact Ev.pos rfl (eqStringS_l l [] hn)
theorem eqBytesOf_self (x : By) (h1 : x.f1.length ≤ 1048576) (h2 : x.f2.length ≤ 1048576) (h3 : x.f3.length ≤ 1048576) : Ev (fun k => laws_eqBytesOf.f k x.f0 x.f1 x.f2 x.f3 x.f0 x.f1 x.f2 x.f3) true := by
  unfold laws_eqBytesOf.f
  exact Ev.neg (by simp) (Ev.bind (eqAreaS_self x.f1 (by omega)) (Ev.pos rfl (Ev.bind (eqIntS_self x.f2 (by omega)) (Ev.pos rfl (Ev.bind (eqStringS_self x.f3 (by omega)) (Ev.pos rfl (Ev.now _)))))))
theorem eqViews_self (l : List By) (hn : l.length ≤ 1048576) (hx : ∀ x ∈ l, x.f1.length ≤ 1048576 ∧ x.f2.length ≤ 1048576 ∧ x.f3.length ≤ 1048576) : Ev (fun k => laws_eqViews.f k l l) true := by
  unfold laws_eqViews.f laws_eqBytesOfS.f
  refine Ev.bind (Ev.pos rfl ?_) (Ev.pos rfl (Ev.now _))
  exact eqLoop (L := laws_eqBytesOfS.l0) (z := z75) (cmp := fun k x y => laws_eqBytesOf.f k x.f0 x.f1 x.f2 x.f3 y.f0 y.f1 y.f2 y.f3) (by intro k x0 x3 x4; simp only [laws_eqBytesOfS.l0]; rfl) l (by omega) (fun x m => eqBytesOf_self x (hx x m).1 (hx x m).2.1 (hx x m).2.2)
-- sizes
theorem szS (n : Int) (w : Nat) (h0 : 0 ≤ n) (h1 : n ≤ 1048576) (hw : w ≤ 9223372036854775807) : wrap64 (n - (w : Int)) = n - w := wrap_id (by omega) (by omega)
theorem szStringS_ev (l : List ByteArray) (hn : l.length ≤ 9223372036854775807) (hs : ∀ x ∈ l, x.size ≤ 140737488351232) (n : Int) (h0 : 0 ≤ n) (h1 : n ≤ 1048576) : Ev (fun k => laws_szStringS.f k l n) (szR n (l.length + sumW ByteArray.size l)) := by
  unfold laws_szStringS.f
  refine szLoop (L := laws_szStringS.l0) (z := ByteArray.empty) (sz := fun _ x n => some (if wrap64 (n - (x.size : Int)) < 0 then -1 else wrap64 (n - (x.size : Int)))) (w := ByteArray.size) ?_ l hn ?_ n h0 h1
  · intro k x0 x1 i
    simp only [laws_szStringS.l0, rdOf, Option.bind_some]
    by_cases h : wrap64 (x1 - ((x0.getD i.toNat ByteArray.empty).size : Int)) < 0 <;> (split <;> try rfl) <;> (split <;> try rfl) <;> simp_all <;> (intro hh; omega)
  · intro x hx n g0 g1
    have := hs x hx
    refine Ev.pure ?_
    rw [szS n x.size g0 g1 (by omega)]
    rfl
def wBy (x : S126) : Nat := x.f1.length + (x.f2.length + (x.f3.length + sumW ByteArray.size x.f3))
theorem szBytesOf_ev (x : S126) (h1 : x.f1.length ≤ 9223372036854775807) (h2 : x.f2.length ≤ 9223372036854775807) (h3 : x.f3.length ≤ 9223372036854775807) (hs : ∀ s ∈ x.f3, s.size ≤ 140737488351232) (n : Int) (h0 : 0 ≤ n) (hn : n ≤ 1048576) :
    Ev (fun k => laws_szBytesOf.f k x.f0 x.f1 x.f2 x.f3 n) (szR n (wBy x)) := by
  unfold laws_szBytesOf.f laws_szIntS.f wBy
  have e : laws_szAreaS.f x.f1 n = some (szR n x.f1.length) := szAreaS_eq x.f1 h1 n h0 hn
  refine Ev.bind (Ev.const e) ?_
  by_cases a : szR n x.f1.length < 0
  · exact Ev.pos a (Ev.pure (szR_neg a).symm)
  refine Ev.neg a ?_
  have a1 : 0 ≤ szR n x.f1.length ∧ szR n x.f1.length ≤ 1048576 := ⟨by omega, by unfold szR; split <;> omega⟩
  rw [← szR_add a]
  generalize szR n x.f1.length = m at a1
  rw [szS m x.f2.length a1.1 a1.2 h2]
  by_cases b : m - (x.f2.length : Int) < 0
  · rw [if_pos b]
    refine Ev.bind (Ev.now _) (Ev.pos (by decide) (Ev.pure ?_))
    exact (szR_neg (by unfold szR; rw [if_pos b]; decide)).symm
  rw [if_neg b]
  refine Ev.bind (Ev.now _) (Ev.neg b ?_)
  have b1 : szR m x.f2.length = m - x.f2.length := by unfold szR; rw [if_neg b]
  rw [← szR_add (by rw [b1]; exact b), b1]
  have h := szStringS_ev x.f3 h3 hs (m - x.f2.length) (by omega) (by omega)
  refine Ev.bind h ?_
  by_cases c : szR (m - (x.f2.length : Int)) (x.f3.length + sumW ByteArray.size x.f3) < 0
  · refine Ev.pos c (Ev.pure ?_)
    unfold szR at c ⊢
    split at c
    · rename_i q; rw [if_pos q]
    · omega
  · exact Ev.neg c (Ev.now _)
theorem szViews_ev (l : List S126) (hn : l.length ≤ 9223372036854775807) (hx : ∀ x ∈ l, x.f1.length ≤ 9223372036854775807 ∧ x.f2.length ≤ 9223372036854775807 ∧ x.f3.length ≤ 9223372036854775807 ∧ ∀ s ∈ x.f3, s.size ≤ 140737488351232) :
    ∃ r, Ev (fun k => laws_szViews.f k l 1048576) r ∧ (¬ r < 0 → l.length ≤ 1048576 ∧ ∀ x ∈ l, x.f1.length ≤ 1048576 ∧ x.f2.length ≤ 1048576 ∧ x.f3.length ≤ 1048576) := by
  have h : Ev (fun k => laws_szBytesOfS.f k l 1048576) (szR 1048576 (l.length + sumW wBy l)) := by
    unfold laws_szBytesOfS.f
    exact szLoop (L := laws_szBytesOfS.l0) (z := z126) (sz := fun k x n => laws_szBytesOf.f k x.f0 x.f1 x.f2 x.f3 n) (w := wBy) (by intro k x0 x1 i; simp only [laws_szBytesOfS.l0]; rfl) l hn (fun x m n g0 g1 => szBytesOf_ev x (hx x m).1 (hx x m).2.1 (hx x m).2.2.1 (hx x m).2.2.2 n g0 g1) 1048576 (by omega) (by omega)
  unfold laws_szViews.f
  by_cases c : szR 1048576 (l.length + sumW wBy l) < 0
  · exact ⟨-1, Ev.bind h (Ev.pos c (Ev.now _)), by omega⟩
  · refine ⟨_, Ev.bind h (Ev.neg c (Ev.now _)), fun _ => ?_⟩
    unfold szR at c
    split at c
    · omega
    · refine ⟨by omega, fun x m => ?_⟩
      have h1 := sumW_le (w := wBy) m
      have h2 : wBy x = x.f1.length + (x.f2.length + (x.f3.length + sumW ByteArray.size x.f3)) := rfl
      omega
end Go.Proofs.Ythoapmfpokohnaa.Q
