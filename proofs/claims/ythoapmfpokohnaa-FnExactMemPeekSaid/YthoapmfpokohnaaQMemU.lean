/- Memory's Ok: both sides agree. -/
import Derived.Test.YthoapmfpokohnaaQMemT
import Derived.Test.YthoapmfpokohnaaPf0
import Derived.Test.YthoapmfpokohnaaPfimplMemOk
namespace Go.Proofs.Ythoapmfpokohnaa.Q
open Go.RowKit Go.Proofs.YthoapmfpokohnaaW.PrintWords Go.Proofs.YthoapmfpokohnaaW.PrintLast Go.Proofs.YthoapmfpokohnaaW.PrintMore Go.Proofs.Ythoapmfpokohnaa.P
set_option linter.unusedVariables false
set_option linter.unusedSimpArgs false
theorem row_all (L : List Te) (i : Nat) : ∀ d j, impl_MemOk.row L i d j = allP (fun q => !(i != q && impl_MemOk.bad (rd_T94 L (i : Int)) (rd_T94 L (q : Int)))) d j
  | 0, _ => rfl
  | d + 1, j => by
    show (_ && impl_MemOk.row L i d (j + 1)) = (_ && allP _ d (j + 1))
    rw [row_all L i d (j + 1)]
theorem pairs_all (L : List Te) : ∀ d i, impl_MemOk.pairs L d i = allP (fun q => impl_MemOk.row L q L.length 0) d i
  | 0, _ => rfl
  | d + 1, i => by
    show (_ && impl_MemOk.pairs L d (i + 1)) = (_ && allP _ d (i + 1))
    rw [pairs_all L d (i + 1)]
theorem places_all (T : Tell) (kind : Int) (r : List Int) : ∀ d a, impl_MemOk.places T kind r d a = allP (fun q => impl_MemOk.place T kind r q) d a
  | 0, _ => rfl
  | d + 1, a => by
    show (_ && impl_MemOk.places T kind r d (a + 1)) = (_ && allP _ d (a + 1))
    rw [places_all T kind r d (a + 1)]
theorem rdT_get (L : List Te) {i : Nat} (h : i < L.length) : rd_T94 L (i : Int) = L[i] := by
  simp [rd_T94, List.getD_eq_getElem?_getD, h]
theorem pairs_al (L : List Te) : impl_MemOk.pairs L L.length 0 = alB L := by
  apply Bool.eq_iff_iff.2
  simp only [pairs_all, row_all, allP_iff, Nat.zero_le, Nat.zero_add, true_implies]
  constructor
  · intro h
    unfold alB al
    by_cases hn : (L.length : Int) < 2
    · rw [if_pos hn]
    rw [if_neg hn]
    cases ho : ow L
    · rfl
    rw [if_pos rfl]
    cases hp : pv L
    · rfl
    exfalso
    obtain ⟨x, hx, hx0⟩ := List.any_eq_true.1 ho
    obtain ⟨y, hy, hy0⟩ := List.any_eq_true.1 hp
    obtain ⟨i, hi, rfl⟩ := List.getElem_of_mem hx
    obtain ⟨j, hj, rfl⟩ := List.getElem_of_mem hy
    have hyf : L[j].f1 = false := by simpa using hy0
    have key : ∀ q, q < L.length → i ≠ q → (L[i].f1 = false ∨ (rd_T94 L (q : Int)).f1 = false) → False := by
      intro q hq hne hor
      have h1 := h i hi q hq
      rw [bne_iff_ne.2 hne, Bool.true_and, rdT_get L hi] at h1
      unfold impl_MemOk.bad at h1
      rw [hx0, Bool.true_and] at h1
      rcases hor with h2 | h2
      · rw [h2] at h1
        simp at h1
      · rw [h2] at h1
        simp at h1
    by_cases hij : i = j
    · subst hij
      by_cases h0 : i = 0
      · exact key 1 (by omega) (by omega) (Or.inl hyf)
      · exact key 0 (by omega) h0 (Or.inl hyf)
    · exact key j hj hij (Or.inr (by rw [rdT_get L hj]; exact hyf))
  · intro h i hi j hj
    by_cases hij : i = j
    · rw [hij]
      simp
    rw [bne_iff_ne.2 hij, Bool.true_and, rdT_get L hi, rdT_get L hj]
    unfold impl_MemOk.bad
    unfold alB al at h
    rw [if_neg (by omega)] at h
    cases ho : ow L
    · have := (List.any_eq_false.1 ho) L[i] (List.getElem_mem hi)
      rw [Bool.eq_false_iff.2 this]
      rfl
    · rw [ho, if_pos rfl] at h
      have hp : pv L = false := by simpa using h
      have a1 := (List.any_eq_false.1 hp) L[i] (List.getElem_mem hi)
      have a2 := (List.any_eq_false.1 hp) L[j] (List.getElem_mem hj)
      have b1 : L[i].f1 = true := by simpa using a1
      have b2 : L[j].f1 = true := by simpa using a2
      rw [b1, b2]
      simp
theorem place_kB (E : Tell) (kind : Int) (r : List Int) (a : Nat) : impl_MemOk.place E kind r a = kB E kind r a := by
  unfold impl_MemOk.place kB
  rw [pairs_al]
section
variable (d1 : List ByteArray) (r1 : List Int) (d2 : List ByteArray) (r2 : List Int) (l : List Sp) (c : Int)
def memI : Bool := preB d1 r1 d2 r2 l c && (allP (fun j => spB (spA l j) && refS r1 r2 (spA l j)) 5 0 && (allP (kB (entsL l l.length 0) 1 r1) 12 0 && allP (kB (entsL l l.length 0) 2 r2) 12 0))
theorem impl_memI (hr1 : r1.length ≤ 1048576) (hr2 : r2.length ≤ 1048576) (hx : ∀ j, j < l.length → (spA l j).f1.length ≤ 9223372036854775807) : Ev (fun k => impl_MemOk.f k d1 r1 d2 r2 l c) (memI d1 r1 d2 r2 l c) := by
  unfold impl_MemOk.f memI preB
  simp only [in_eq, Option.bind_some]
  refine Ev.bind (pages_impl d1 r1 hr1) ?_
  cases pagesB d1 r1
  · exact Ev.neg (by decide) (Ev.pure rfl)
  refine Ev.pos rfl ?_
  by_cases h1 : r1.length = 12
  rotate_left
  · rw [decide_eq_false h1, Bool.false_and, Bool.and_false]
    exact Ev.neg (by omega) (Ev.pure rfl)
  rw [decide_eq_true h1]
  refine Ev.pos (by omega) (Ev.bind (pages_impl d2 r2 hr2) ?_)
  cases pagesB d2 r2
  · exact Ev.neg (by decide) (Ev.pure rfl)
  refine Ev.pos rfl ?_
  by_cases h2 : r2.length = 12
  rotate_left
  · rw [decide_eq_false h2]
    exact Ev.neg (by omega) (Ev.pure rfl)
  rw [decide_eq_true h2]
  refine Ev.pos (by omega) ?_
  by_cases h3 : l.length = 5
  rotate_left
  · rw [decide_eq_false h3]
    exact Ev.neg (by omega) (Ev.pure rfl)
  rw [decide_eq_true h3]
  refine Ev.pos (by omega) ?_
  cases hc : (decide (0 ≤ c) && decide (c ≤ 11))
  · exact Ev.neg (by decide) (Ev.pure rfl)
  refine Ev.pos rfl (Ev.bind (spaces_ev d1 r1 d2 r2 l h1 h2 hx l.length 0 [] (by omega)) (Ev.pure ?_))
  rw [show l.length = 5 from h3]
  cases allP (fun j => spB (spA l j) && refS r1 r2 (spA l j)) 5 0
  · rfl
  · show (impl_MemOk.places ([] ++ entsL l 5 0) 1 r1 r1.length 0 && impl_MemOk.places ([] ++ entsL l 5 0) 2 r2 r2.length 0) = _
    rw [List.nil_append, h1, h2, places_all, places_all]
    simp only [place_kB, Bool.true_and]
theorem ents_mem (s : Sp) {t : (Int × Int) × Te} {p : Nat} (ht : t ∈ ent s p) : ∀ d p0, p0 ≤ p → p < p0 + d → t ∈ ents s d p0 := by
  intro d
  induction d with
  | zero => intro p0 h1 h2; omega
  | succ d ih =>
    intro p0 h1 h2
    show t ∈ ent s p0 ++ ents s d (p0 + 1)
    by_cases e : p0 = p
    · subst e
      exact List.mem_append_left _ ht
    · exact List.mem_append_right _ (ih (p0 + 1) (by omega) (by omega))
theorem entsL_mem {t : (Int × Int) × Te} {p j : Nat} (hp : p < (spA l j).f2.length) (ht : t ∈ ent (spA l j) p) : ∀ d i, i ≤ j → j < i + d → t ∈ entsL l d i := by
  intro d
  induction d with
  | zero => intro i h1 h2; omega
  | succ d ih =>
    intro i h1 h2
    show t ∈ ents (spA l i) (spA l i).f2.length 0 ++ entsL l d (i + 1)
    by_cases e : i = j
    · subst e
      exact List.mem_append_left _ (ents_mem _ ht _ 0 (by omega) (by omega))
    · exact List.mem_append_right _ (ih (i + 1) (by omega) (by omega))
theorem at_pos {E : Tell} {t : (Int × Int) × Te} (h : t ∈ E) : 0 < (at_ E t.1).length := by
  refine List.length_pos_of_mem (a := t.2) ?_
  simp only [at_, List.mem_map, List.mem_filter]
  exact ⟨t, ⟨h, by simp⟩, rfl⟩
theorem ref_id {s : Sp} {p : Nat} (h : refB r1 r2 s p = true) : idB s p = true := by
  unfold refB hasB at h
  unfold idB
  simp only [Bool.or_eq_true, Bool.and_eq_true] at h ⊢
  rcases h with h | h
  · exact Or.inl h
  · exact Or.inr h.1
theorem memI_memB : memI d1 r1 d2 r2 l c = memB d1 r1 d2 r2 l c := by
  unfold memI memB
  cases hp : preB d1 r1 d2 r2 l c
  · rfl
  rw [Bool.true_and, Bool.true_and]
  cases hk : (allP (kB (entsL l l.length 0) 1 r1) 12 0 && allP (kB (entsL l l.length 0) 2 r2) 12 0)
  · rw [Bool.and_false, Bool.and_false]
  rw [Bool.and_true, Bool.and_true]
  have hl : l.length = 5 := by
    unfold preB at hp
    simp only [Bool.and_eq_true, decide_eq_true_eq] at hp
    exact hp.2.2.2.2.1
  rw [Bool.and_eq_true, allP_iff, allP_iff] at hk
  apply Bool.eq_iff_iff.2
  simp only [allP_iff, Bool.and_eq_true, refS, idS]
  refine ⟨fun h j h1 h2 => ⟨(h j h1 h2).1, fun p g1 g2 => ref_id r1 r2 ((h j h1 h2).2 p g1 g2)⟩, fun h j h1 h2 => ⟨(h j h1 h2).1, fun p g1 g2 => ?_⟩⟩
  obtain ⟨hs, hid⟩ := h j h1 h2
  have hid := hid p g1 g2
  by_cases h0 : (sl (spA l j) p).f0 = 0
  · unfold refB
    rw [decide_eq_true h0]
    rfl
  have hsl : slotB (spA l j) p = true := by
    unfold spB at hs
    split at hs
    · simp only [Bool.and_eq_true, allP_iff] at hs
      exact hs.2.2 p g1 g2
    · simp only [Bool.and_eq_true, decide_eq_true_eq] at hs
      omega
  have hb : 0 ≤ (sl (spA l j) p).f1 ∧ (sl (spA l j) p).f1 ≤ 11 := by
    unfold idB at hid
    rw [decide_eq_false h0, Bool.false_or] at hid
    simpa using hid
  have hk12 : 1 ≤ (sl (spA l j) p).f0 ∧ (sl (spA l j) p).f0 ≤ 2 := by
    unfold slotB at hsl
    rw [if_neg h0] at hsl
    simp only [Bool.and_eq_true, decide_eq_true_eq] at hsl
    exact hsl.2.1
  have hm : (((sl (spA l j) p).f0, (sl (spA l j) p).f1), (⟨(sl (spA l j) p).f2, shB (spA l j) p⟩ : Te)) ∈ entsL l l.length 0 := by
    refine entsL_mem l (p := p) (j := j) (by omega) ?_ l.length 0 (by omega) (by omega)
    unfold ent
    rw [if_neg h0]
    simp
  have hpos := at_pos hm
  obtain ⟨a, ha⟩ := Int.eq_ofNat_of_zero_le hb.1
  have fin : ∀ r : List Int, ((at_ (entsL l l.length 0) ((sl (spA l j) p).f0, (sl (spA l j) p).f1)).length : Int) = rd r (a : Int) → hasB r (sl (spA l j) p).f1 = true := by
    intro r hr
    unfold hasB
    rw [decide_eq_true hb.1, decide_eq_true hb.2, ha, ← hr]
    simp only [Bool.true_and, decide_eq_true_eq]
    simp only at hpos
    omega
  unfold refB
  rw [decide_eq_false h0, Bool.false_or]
  by_cases h01 : (sl (spA l j) p).f0 = 1
  · rw [if_pos h01]
    have h3 := hk.1 a (by omega) (by omega)
    unfold kB at h3
    simp only [Bool.and_eq_true, decide_eq_true_eq] at h3
    refine fin r1 ?_
    rw [h01, ha]
    exact h3.1
  · have h02 : (sl (spA l j) p).f0 = 2 := by omega
    rw [if_neg h01]
    have h3 := hk.2 a (by omega) (by omega)
    unfold kB at h3
    simp only [Bool.and_eq_true, decide_eq_true_eq] at h3
    refine fin r2 ?_
    rw [h02, ha]
    exact h3.1
theorem impl_ok (hr1 : r1.length ≤ 1048576) (hr2 : r2.length ≤ 1048576) (hx : ∀ j, j < l.length → (spA l j).f1.length ≤ 9223372036854775807) : Ev (fun k => impl_MemOk.f k d1 r1 d2 r2 l c) (memB d1 r1 d2 r2 l c) :=
  Ev.cast (impl_memI d1 r1 d2 r2 l c hr1 hr2 hx) (memI_memB d1 r1 d2 r2 l c)
end
theorem spA_mem {l : List Sp} {i : Nat} (h : i < l.length) : spA l i ∈ l := by
  unfold spA rd_T63
  rw [Int.toNat_natCast, List.getD_eq_getElem?_getD, List.getElem?_eq_getElem h]
  exact List.getElem_mem h
end Go.Proofs.Ythoapmfpokohnaa.Q
