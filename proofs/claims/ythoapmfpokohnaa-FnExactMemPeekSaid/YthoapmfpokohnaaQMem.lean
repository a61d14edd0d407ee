/- Memory: what the exact laws' own functions answer: copying, comparing, sizing. -/
import Derived.Test.YthoapmfpokohnaaQLoops
import Derived.Test.YthoapmfpokohnaaQAreasL2
import Derived.Test.YthoapmfpokohnaaQAreasEx2
import Derived.Test.YthoapmfpokohnaaPf0
import Derived.Test.YthoapmfpokohnaaPfM1
import Derived.Test.YthoapmfpokohnaaPfM3
import Derived.Test.YthoapmfpokohnaaPfM2
import Derived.Test.YthoapmfpokohnaaPfM0
namespace Go.Proofs.Ythoapmfpokohnaa.Q
open Go.RowKit Go.Proofs.YthoapmfpokohnaaW.PrintWords Go.Proofs.YthoapmfpokohnaaW.PrintLast Go.Proofs.YthoapmfpokohnaaW.PrintMore Go.Proofs.Ythoapmfpokohnaa.P
set_option linter.unusedVariables false
set_option linter.unusedSimpArgs false
abbrev Sp := S63
abbrev Sl := S65
def toSl (x : S177) : Sl := ⟨x.f0, x.f1, x.f2, x.f3⟩
def toSp (x : S134) : Sp := ⟨x.f0, x.f1.map toA, x.f2.map toSl⟩
theorem m_toIntS (l : List Int) (hn : l.length ≤ 1048576) : Ev (fun k => laws_toIntS.f k l) l := by
  unfold laws_toIntS.f
  refine Ev.pos (by omega) (Ev.pos (by omega) ?_)
  have h := mapLoop (L := laws_toIntS.l0) (z := (0 : Int)) (conv := fun _ x => some x) (mkb := fun b => b) (by intro k x0 x3 x4; simp only [laws_toIntS.l0]; rfl) (fun x => x) l (by omega) (fun x _ => Ev.now _) 0
  exact Ev.cast h (by simp)
theorem m_toStringS (l : List ByteArray) (hn : l.length ≤ 1048576) : Ev (fun k => laws_toStringS.f k l) l := by
  unfold laws_toStringS.f
  refine Ev.pos (by omega) (Ev.pos (by omega) ?_)
  have h := mapLoop (L := laws_toStringS.l0) (z := ByteArray.empty) (conv := fun _ x => some x) (mkb := fun b => b) (by intro k x0 x3 x4; simp only [laws_toStringS.l0]; rfl) (fun x => x) l (by omega) (fun x _ => Ev.now _) (⟨#[]⟩ : ByteArray)
  exact Ev.cast h (by simp)
theorem m_toSlotS (l : List S177) (hn : l.length ≤ 1048576) : Ev (fun k => laws_toSlotS.f k l) (l.map toSl) := by
  unfold laws_toSlotS.f
  refine Ev.pos (by omega) (Ev.pos (by omega) ?_)
  exact mapLoop (L := laws_toSlotS.l0) (z := z177) (conv := fun _ x => laws_toSlot.f x.f0 x.f1 x.f2 x.f3) (mkb := fun b => (⟨b.1, b.2.1, b.2.2.1, b.2.2.2⟩ : Sl)) (by intro k x0 x3 x4; simp only [laws_toSlotS.l0]; rfl) (fun x => (x.f0, x.f1, x.f2, x.f3)) l (by omega) (fun x _ => Ev.const rfl) _
theorem m_toSpace (x : S134) (h1 : x.f1.length ≤ 1048576) (h2 : x.f2.length ≤ 1048576) : Ev (fun k => laws_toSpace.f k x.f0 x.f1 x.f2) (x.f0, x.f1.map toA, x.f2.map toSl) := by
  unfold laws_toSpace.f
  exact Ev.bind (toAreaS_ev x.f1 h1) (Ev.bind (m_toSlotS x.f2 h2) (Ev.now _))
theorem m_toSpaceS (l : List S134) (hn : l.length ≤ 1048576) (hx : ∀ x ∈ l, x.f1.length ≤ 1048576 ∧ x.f2.length ≤ 1048576) : Ev (fun k => laws_toSpaceS.f k l) (l.map toSp) := by
  unfold laws_toSpaceS.f
  refine Ev.pos (by omega) (Ev.pos (by omega) ?_)
  exact mapLoop (L := laws_toSpaceS.l0) (z := z134) (conv := fun k x => laws_toSpace.f k x.f0 x.f1 x.f2) (mkb := fun b => (⟨b.1, b.2.1, b.2.2⟩ : Sp)) (by intro k x0 x3 x4; simp only [laws_toSpaceS.l0]; rfl) (fun x => (x.f0, x.f1.map toA, x.f2.map toSl)) l (by omega) (fun x m => m_toSpace x (hx x m).1 (hx x m).2) _
theorem m_toMem (d1 : List ByteArray) (r1 : List Int) (d2 : List ByteArray) (r2 : List Int) (l : List S134) (c : Int) (a1 : d1.length ≤ 1048576) (a2 : r1.length ≤ 1048576) (a3 : d2.length ≤ 1048576) (a4 : r2.length ≤ 1048576) (hn : l.length ≤ 1048576) (hx : ∀ x ∈ l, x.f1.length ≤ 1048576 ∧ x.f2.length ≤ 1048576) :
    Ev (fun k => laws_toMem.f k d1 r1 d2 r2 l c) (d1, r1, d2, r2, l.map toSp, c) := by
  unfold laws_toMem.f laws_toPages.f
  exact Ev.bind (Ev.bind (m_toStringS d1 a1) (Ev.bind (m_toIntS r1 a2) (Ev.now _))) (Ev.bind (Ev.bind (m_toStringS d2 a3) (Ev.bind (m_toIntS r2 a4) (Ev.now _))) (Ev.bind (m_toSpaceS l hn hx) (Ev.now _)))
theorem m_eqIntS (l : List Int) (hn : l.length ≤ 1048576) : Ev (fun k => laws_eqIntS.f k l l) true := by
  unfold laws_eqIntS.f
  refine Ev.pos rfl ?_
  exact eqLoop (L := laws_eqIntS.l0) (z := (0 : Int)) (cmp := fun _ x y => some (decide (x = y))) (by
    intro k x0 x3 x4
    simp only [laws_eqIntS.l0, Option.bind_some, decide_eq_true_eq]
    rfl) l (by omega) (fun x m => Ev.const (by simp))
theorem m_eqStringS (l : List ByteArray) (hn : l.length ≤ 1048576) : Ev (fun k => laws_eqStringS.f k l l) true := by
  unfold laws_eqStringS.f
  refine Ev.pos rfl ?_
  exact eqLoop (L := laws_eqStringS.l0) (z := ByteArray.empty) (cmp := fun _ x y => some (decide (x.toList = y.toList))) (by
    intro k x0 x3 x4
    simp only [laws_eqStringS.l0, Option.bind_some, decide_eq_true_eq]
    rfl) l (by omega) (fun x m => Ev.const (by simp))
theorem m_eqSlotS (l : List Sl) (hn : l.length ≤ 1048576) : Ev (fun k => laws_eqSlotS.f k l l) true := by
  unfold laws_eqSlotS.f
  refine Ev.pos rfl ?_
  exact eqLoop (L := laws_eqSlotS.l0) (z := z65) (cmp := fun _ x y => laws_eqSlot.f x.f0 x.f1 x.f2 x.f3 y.f0 y.f1 y.f2 y.f3) (by intro k x0 x3 x4; simp only [laws_eqSlotS.l0]; rfl) l (by omega) (fun x m => Ev.const (by unfold laws_eqSlot.f; simp))
theorem m_eqSpace (x : Sp) (h1 : x.f1.length ≤ 1048576) (h2 : x.f2.length ≤ 1048576) : Ev (fun k => laws_eqSpace.f k x.f0 x.f1 x.f2 x.f0 x.f1 x.f2) true := by
  unfold laws_eqSpace.f
  exact Ev.neg (by simp) (Ev.bind (eqAreaS_self x.f1 (by omega)) (Ev.pos rfl (Ev.bind (m_eqSlotS x.f2 h2) (Ev.pos rfl (Ev.now _)))))
theorem m_eqMem (d1 : List ByteArray) (r1 : List Int) (d2 : List ByteArray) (r2 : List Int) (l : List Sp) (c : Int) (a1 : d1.length ≤ 1048576) (a2 : r1.length ≤ 1048576) (a3 : d2.length ≤ 1048576) (a4 : r2.length ≤ 1048576) (hn : l.length ≤ 1048576) (hx : ∀ x ∈ l, x.f1.length ≤ 1048576 ∧ x.f2.length ≤ 1048576) :
    Ev (fun k => laws_eqMem.f k d1 r1 d2 r2 l c d1 r1 d2 r2 l c) true := by
  unfold laws_eqMem.f laws_eqPages.f laws_eqSpaceS.f
  refine Ev.bind (Ev.bind (m_eqStringS d1 a1) (Ev.pos rfl (Ev.bind (m_eqIntS r1 a2) (Ev.pos rfl (Ev.now _))))) (Ev.pos rfl (Ev.bind (Ev.bind (m_eqStringS d2 a3) (Ev.pos rfl (Ev.bind (m_eqIntS r2 a4) (Ev.pos rfl (Ev.now _))))) (Ev.pos rfl (Ev.bind (Ev.pos rfl ?_) (Ev.pos rfl (Ev.pos rfl (Ev.now _)))))))
  exact eqLoop (L := laws_eqSpaceS.l0) (z := z63) (cmp := fun k x y => laws_eqSpace.f k x.f0 x.f1 x.f2 y.f0 y.f1 y.f2) (by intro k x0 x3 x4; simp only [laws_eqSpaceS.l0]; rfl) l (by omega) (fun x m => m_eqSpace x (hx x m).1 (hx x m).2)
theorem m_szS (n : Int) (w : Nat) (h0 : 0 ≤ n) (h1 : n ≤ 1048576) (hw : w ≤ 9223372036854775807) : (if wrap64 (n - (w : Int)) < 0 then some (-1 : Int) else some (wrap64 (n - (w : Int)))) = some (szR n w) := by
  rw [wrap_id (by omega) (by omega)]
  unfold szR
  split <;> rfl
theorem m_szStringS (l : List ByteArray) (hn : l.length ≤ 9223372036854775807) (hs : ∀ x ∈ l, x.size ≤ 140737488351232) (n : Int) (h0 : 0 ≤ n) (h1 : n ≤ 1048576) : Ev (fun k => laws_szStringS.f k l n) (szR n (l.length + sumW ByteArray.size l)) := by
  unfold laws_szStringS.f
  refine szLoop (L := laws_szStringS.l0) (z := ByteArray.empty) (sz := fun _ x n => some (if wrap64 (n - (x.size : Int)) < 0 then -1 else wrap64 (n - (x.size : Int)))) (w := ByteArray.size) ?_ l hn ?_ n h0 h1
  · intro k x0 x1 i
    simp only [laws_szStringS.l0, rdOf, Option.bind_some]
    by_cases h : wrap64 (x1 - ((x0.getD i.toNat ByteArray.empty).size : Int)) < 0 <;> (split <;> try rfl) <;> (split <;> try rfl) <;> simp_all <;> (intro hh; omega)
  · intro x hx n g0 g1
    have := hs x hx
    have h := m_szS n x.size g0 g1 (by omega)
    refine Ev.pure ?_
    split at h <;> rename_i q <;> injection h with h
    · rw [if_pos q]; exact h
    · rw [if_neg q]; exact h
theorem szR_le {n : Int} {w : Nat} (h : ¬ szR n w < 0) : szR n w = n - w ∧ (w : Int) ≤ n := by
  unfold szR at h ⊢
  split at h
  · omega
  · rename_i q; rw [if_neg q]; omega
theorem szR_m1 {m : Int} {w : Nat} (h : szR m w < 0) : szR m w = -1 := by
  unfold szR at h ⊢
  split at h <;> rename_i q
  · rw [if_pos q]
  · omega
theorem m_szPages (d : List ByteArray) (r : List Int) (n : Int) (h0 : 0 ≤ n) (h1 : n ≤ 1048576) (hd : d.length ≤ 9223372036854775807) (hr : r.length ≤ 9223372036854775807) (hs : ∀ x ∈ d, x.size ≤ 140737488351232) :
    ∃ v, Ev (fun k => laws_szPages.f k d r n) v ∧ (¬ v < 0 → 0 ≤ v ∧ v ≤ n ∧ d.length ≤ 1048576 ∧ r.length ≤ 1048576 ∧ ∀ x ∈ d, x.size ≤ 1048576) := by
  unfold laws_szPages.f laws_szIntS.f
  have h := m_szStringS d hd hs n h0 h1
  by_cases c : szR n (d.length + sumW ByteArray.size d) < 0
  · exact ⟨-1, Ev.bind h (Ev.pos c (Ev.now _)), by omega⟩
  have e := szR_le c
  have hw : ∀ x ∈ d, x.size ≤ sumW ByteArray.size d := fun x m => sumW_le (w := ByteArray.size) m
  have e2 := m_szS (szR n (d.length + sumW ByteArray.size d)) r.length (by omega) (by omega) hr
  by_cases c2 : szR (szR n (d.length + sumW ByteArray.size d)) r.length < 0
  · exact ⟨-1, Ev.bind h (Ev.neg c (Ev.bind (Ev.const e2) (Ev.pos c2 (Ev.now _)))), by omega⟩
  · have e3 := szR_le c2
    exact ⟨_, Ev.bind h (Ev.neg c (Ev.bind (Ev.const e2) (Ev.neg c2 (Ev.now _)))), fun _ => ⟨by omega, by omega, by omega, by omega, fun x m => by have := hw x m; omega⟩⟩
def wSp (x : S134) : Nat := x.f1.length + x.f2.length
theorem m_szSpace (x : S134) (h1 : x.f1.length ≤ 9223372036854775807) (h2 : x.f2.length ≤ 9223372036854775807) (n : Int) (h0 : 0 ≤ n) (hn : n ≤ 1048576) : laws_szSpace.f x.f0 x.f1 x.f2 n = some (szR n (wSp x)) := by
  unfold laws_szSpace.f laws_szSlotS.f wSp
  rw [szAreaS_eq x.f1 h1 n h0 hn, Option.bind_some]
  show (if szR n x.f1.length < 0 then _ else _) = _
  by_cases a : szR n x.f1.length < 0
  · rw [if_pos a, szR_neg a]
  rw [if_neg a, ← szR_add a]
  have e := szR_le a
  have e3 : (if n - (x.f1.length : Int) < 0 then (-1 : Int) else n - x.f1.length) = szR n x.f1.length := rfl
  rw [e3]
  rw [m_szS (szR n x.f1.length) x.f2.length (by omega) (by omega) h2, Option.bind_some]
  by_cases b : szR (szR n x.f1.length) x.f2.length < 0
  · rw [if_pos b, szR_m1 b]
  · rw [if_neg b]
theorem m_szMem (d1 : List ByteArray) (r1 : List Int) (d2 : List ByteArray) (r2 : List Int) (l : List S134) (c : Int) (a1 : d1.length ≤ 9223372036854775807) (a2 : r1.length ≤ 9223372036854775807) (a3 : d2.length ≤ 9223372036854775807) (a4 : r2.length ≤ 9223372036854775807) (hs1 : ∀ x ∈ d1, x.size ≤ 140737488351232) (hs2 : ∀ x ∈ d2, x.size ≤ 140737488351232)
    (hn : l.length ≤ 9223372036854775807) (hx : ∀ x ∈ l, x.f1.length ≤ 9223372036854775807 ∧ x.f2.length ≤ 9223372036854775807) :
    ∃ v, Ev (fun k => laws_szMem.f k d1 r1 d2 r2 l c 1048576) v ∧ (¬ v < 0 → d1.length ≤ 1048576 ∧ r1.length ≤ 1048576 ∧ d2.length ≤ 1048576 ∧ r2.length ≤ 1048576 ∧ l.length ≤ 1048576 ∧ (∀ x ∈ l, x.f1.length ≤ 1048576 ∧ x.f2.length ≤ 1048576) ∧ (∀ x ∈ d1, x.size ≤ 1048576) ∧ ∀ x ∈ d2, x.size ≤ 1048576) := by
  unfold laws_szMem.f
  obtain ⟨v1, e1, b1⟩ := m_szPages d1 r1 1048576 (by omega) (by omega) a1 a2 hs1
  by_cases c1 : v1 < 0
  · exact ⟨-1, Ev.bind e1 (Ev.pos c1 (Ev.now _)), by omega⟩
  have b1 := b1 c1
  obtain ⟨v2, e2, b2⟩ := m_szPages d2 r2 v1 b1.1 b1.2.1 a3 a4 hs2
  by_cases c2 : v2 < 0
  · exact ⟨-1, Ev.bind e1 (Ev.neg c1 (Ev.bind e2 (Ev.pos c2 (Ev.now _)))), by omega⟩
  have b2 := b2 c2
  have h : Ev (fun k => laws_szSpaceS.f k l v2) (szR v2 (l.length + sumW wSp l)) := by
    unfold laws_szSpaceS.f
    exact szLoop (L := laws_szSpaceS.l0) (z := z134) (sz := fun _ x n => laws_szSpace.f x.f0 x.f1 x.f2 n) (w := wSp) (by intro k x0 x1 i; simp only [laws_szSpaceS.l0]; rfl) l hn (fun x m n g0 g1 => Ev.const (m_szSpace x (hx x m).1 (hx x m).2 n g0 g1)) v2 (by omega) (by omega)
  by_cases c3 : szR v2 (l.length + sumW wSp l) < 0
  · exact ⟨-1, Ev.bind e1 (Ev.neg c1 (Ev.bind e2 (Ev.neg c2 (Ev.bind h (Ev.pos c3 (Ev.now _)))))), by omega⟩
  · have e := szR_le c3
    refine ⟨_, Ev.bind e1 (Ev.neg c1 (Ev.bind e2 (Ev.neg c2 (Ev.bind h (Ev.neg c3 (Ev.now _)))))), fun _ => ⟨b1.2.2.1, b1.2.2.2.1, b2.2.2.1, b2.2.2.2.1, by omega, fun x m => ?_, b1.2.2.2.2, b2.2.2.2.2⟩⟩
    have h1 := sumW_le (w := wSp) m
    have h2 : wSp x = x.f1.length + x.f2.length := rfl
    omega
end Go.Proofs.Ythoapmfpokohnaa.Q
