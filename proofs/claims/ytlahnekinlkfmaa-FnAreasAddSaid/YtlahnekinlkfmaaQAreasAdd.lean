/- One more area by the program: the library's sort of a valid list with one more at its end. -/
import Derived.Test.YtlahnekinlkfmaaQAreasDraw
import Derived.Test.YtlahnekinlkfmaaPf0
import Derived.Test.YtlahnekinlkfmaaPfbitsLen
import Derived.Test.YtlahnekinlkfmaaPfbitsLen64
import Derived.Test.YtlahnekinlkfmaaPfimplAreasAdd
import Derived.Test.YtlahnekinlkfmaaPfimplAreasAdd1
import Derived.Test.YtlahnekinlkfmaaPfslicesCloneArea
import Derived.Test.YtlahnekinlkfmaaPfslicesSortFuncArea
import Derived.Test.YtlahnekinlkfmaaPfslicesinsertionSortCmpFuncArea
import Derived.Test.YtlahnekinlkfmaaPfslicespdqsortCmpFuncArea
namespace Go.Proofs.Ytlahnekinlkfmaa.Q
open Go.RowKit Go.Proofs.YtlahnekinlkfmaaW.PrintWords Go.Proofs.YtlahnekinlkfmaaW.PrintLast Go.Proofs.YtlahnekinlkfmaaW.PrintMore Go.Proofs.Ytlahnekinlkfmaa.P
set_option linter.unusedVariables false
set_option linter.unusedSimpArgs false

/-- a sinks into a list (told from its end on). -/
def dn (a : Ar) : List Ar → List Ar
  | [] => [a]
  | b :: R => if a.f0 < b.f0 then dn a R ++ [b] else R.reverse ++ [b, a]
theorem dn_length (a : Ar) : ∀ R, (dn a R).length = R.length + 1
  | [] => rfl
  | b :: R => by
    simp only [dn]
    split
    · simp [dn_length a R]
    · simp
def inPage (a : Ar) : Prop := 0 ≤ a.f0 ∧ a.f0 ≤ 15
theorem dn_mem {a : Ar} : ∀ {R : List Ar} {x : Ar}, x ∈ dn a R → x = a ∨ x ∈ R := by
  intro R
  induction R with
  | nil => intro x h; simp [dn] at h; exact .inl h
  | cons b R ih =>
    intro x h
    simp only [dn] at h
    split at h
    · rcases List.mem_append.1 h with h | h
      · rcases ih h with h | h
        · exact .inl h
        · exact .inr (by simp [h])
      · simp at h; exact .inr (by simp [h])
    · simp at h
      rcases h with h | h | h
      · exact .inr (by simp [h])
      · exact .inr (by simp [h])
      · exact .inl h
theorem set_swap (P Q : List Ar) (a b : Ar) : ((P ++ b :: a :: Q).set (P.length + 1) b).set P.length a = P ++ a :: b :: Q := by
  induction P with
  | nil => rfl
  | cons c P ih => simp
theorem rd_two (P Q : List Ar) (a b : Ar) : rd_T24 (P ++ b :: a :: Q) ((P.length + 1 : Nat) : Int) = a ∧ rd_T24 (P ++ b :: a :: Q) (P.length : Int) = b := by
  refine ⟨?_, rd_pre P b (a :: Q)⟩
  have := rd_pre (P ++ [b]) a Q
  simpa using this
theorem sink (a : Ar) (ha : inPage a) (n x8 : Int) (r : List Ar) : ∀ (R Q : List Ar), (∀ b ∈ R, inPage b) → ((R.reverse ++ a :: Q).length : Int) = n → n ≤ 1048576 →
    Ev (fun k => slices_insertionSortCmpFunc_Area.l0 k (dn a R ++ Q) 0 n (wrap64 (x8 + 1))) r → Ev (fun k => slices_insertionSortCmpFunc_Area.l1 k (R.reverse ++ a :: Q) 0 n x8 (R.length : Int)) r := by
  intro R
  induction R with
  | nil =>
    intro Q _ _ _ h
    refine Ev.step (fun k => by simp only [slices_insertionSortCmpFunc_Area.l1]; rfl) ?_
    exact Ev.neg (by simp) h
  | cons b R ih =>
    intro Q hR hn hle h
    have hb := hR b (by simp)
    have e : (b :: R).reverse ++ a :: Q = R.reverse ++ b :: a :: Q := by simp
    rw [e] at hn ⊢
    have hl : R.reverse.length = R.length := by simp
    obtain ⟨r1, r2⟩ := rd_two R.reverse Q a b
    rw [hl] at r1 r2
    have hlen : (R.reverse ++ b :: a :: Q).length = R.length + 2 + Q.length := by simp; omega
    refine Ev.step (fun k => by simp only [slices_insertionSortCmpFunc_Area.l1]; rfl) ?_
    have e1 : ((b :: R).length : Int) = ((R.length + 1 : Nat) : Int) := by simp
    rw [e1]
    have e2 : wrap64 (((R.length + 1 : Nat) : Int) - 1) = (R.length : Int) := by rw [wrap_id (by omega) (by omega)]; omega
    rw [e2, r1, r2]
    refine Ev.pos (by omega) (Ev.pos (by omega) (Ev.pos (by omega) (Ev.pos (by omega) (Ev.pos (by omega) ?_))))
    refine Ev.bind (a := a.f0 - b.f0) (Ev.const (by unfold impl_AreasAdd_1.f; rw [wrap_id (by have := ha.1; have := ha.2; have := hb.1; have := hb.2; omega) (by have := ha.1; have := ha.2; have := hb.1; have := hb.2; omega)])) ?_
    by_cases hc : a.f0 - b.f0 < 0
    · refine Ev.pos hc ?_
      have hlt : a.f0 < b.f0 := by omega
      have es : ((R.reverse ++ b :: a :: Q).set (((R.length + 1 : Nat) : Int)).toNat b).set ((R.length : Int)).toNat a = R.reverse ++ a :: b :: Q := by
        rw [Int.toNat_natCast, Int.toNat_natCast]
        have := set_swap R.reverse Q a b
        rw [hl] at this
        exact this
      have ih' := ih (b :: Q) (fun c hc => hR c (by simp [hc])) (by rw [← hn]; simp) hle (by
        simp only [dn] at h
        rw [if_pos hlt] at h
        simpa using h)
      rw [← es] at ih'
      exact ih'
    · refine Ev.neg hc ?_
      have hlt : ¬ a.f0 < b.f0 := by omega
      simp only [dn] at h
      rw [if_neg hlt] at h
      simpa using h
def srt (S : List Ar) (R : List Ar) : List Ar := R.foldl (fun S x => dn x S.reverse) S
theorem sort_l (n : Int) (hle : n ≤ 1048576) : ∀ (R S : List Ar), (∀ b ∈ S ++ R, inPage b) → ((S ++ R).length : Int) = n → Ev (fun k => slices_insertionSortCmpFunc_Area.l0 k (S ++ R) 0 n (S.length : Int)) (srt S R) := by
  intro R
  induction R with
  | nil =>
    intro S _ hn
    refine Ev.step (fun k => by simp only [slices_insertionSortCmpFunc_Area.l0]; rfl) ?_
    exact Ev.neg (by rw [← hn]; simp) (Ev.pure (by simp [srt]))
  | cons a R ih =>
    intro S hS hn
    have hlen : (S ++ a :: R).length = S.length + 1 + R.length := by simp; omega
    refine Ev.step (fun k => by simp only [slices_insertionSortCmpFunc_Area.l0]; rfl) ?_
    refine Ev.pos (by omega) ?_
    have hk := sink a (hS a (by simp)) n (S.length : Int) (srt S (a :: R)) S.reverse R (fun b hb => hS b (by simp at hb; simp [hb])) (by simpa using hn) hle ?_
    · simpa using hk
    · rw [wrap_id (by omega) (by omega)]
      have hl := dn_length a S.reverse
      have := ih (dn a S.reverse) (fun b hb => by
        rcases List.mem_append.1 hb with hb | hb
        · rcases dn_mem hb with rfl | hb
          · exact hS _ (by simp)
          · exact hS b (by simp at hb; simp [hb])
        · exact hS b (by simp [hb])) (by rw [← hn]; simp [hl]; omega)
      have e : ((dn a S.reverse).length : Int) = (S.length : Int) + 1 := by rw [hl]; simp
      rw [e] at this
      exact this
/-- Rising, strictly. -/
def rising : List Ar → Prop
  | [] => True
  | a :: l => (∀ b ∈ l, a.f0 < b.f0) ∧ rising l
theorem rising_vld : ∀ {l : List Ar} {lo : Int}, vldA lo l = true → rising l := by
  intro l
  induction l with
  | nil => intro _ _; trivial
  | cons a l ih =>
    intro lo h
    obtain ⟨h1, h2, h3⟩ := vldA_cons.1 h
    have ho := (areaOk_iff a).1 h1
    refine ⟨fun b hb => ?_, ih h3⟩
    have := (vldA_mem h3 b hb).2
    unfold fin at this
    omega
theorem rising_append : ∀ {l m : List Ar}, rising (l ++ m) ↔ rising l ∧ rising m ∧ ∀ a ∈ l, ∀ b ∈ m, a.f0 < b.f0 := by
  intro l
  induction l with
  | nil => intro m; simp [rising]
  | cons c l ih =>
    intro m
    simp only [List.cons_append, rising, ih]
    constructor
    · rintro ⟨h1, h2, h3, h4⟩
      exact ⟨⟨fun b hb => h1 b (by simp [hb]), h2⟩, h3, fun a ha b hb => by
        rcases List.mem_cons.1 ha with rfl | ha
        · exact h1 b (by simp [hb])
        · exact h4 a ha b hb⟩
    · rintro ⟨⟨h1, h2⟩, h3, h4⟩
      exact ⟨fun b hb => by
        rcases List.mem_append.1 hb with hb | hb
        · exact h1 b hb
        · exact h4 c (by simp) b hb, h2, h3, fun a ha b hb => h4 a (by simp [ha]) b hb⟩
theorem dn_top {a : Ar} {S : List Ar} (h : ∀ b ∈ S, b.f0 < a.f0) : dn a S.reverse = S ++ [a] := by
  rcases List.eq_nil_or_concat S with rfl | ⟨q, b, rfl⟩
  · rfl
  · have := h b (by simp)
    simp only [List.concat_eq_append, List.reverse_append, List.reverse_cons, List.reverse_nil, List.nil_append, List.singleton_append, dn]
    rw [if_neg (by omega)]
    simp
theorem srt_rising : ∀ (R S : List Ar), rising (S ++ R) → srt S R = S ++ R := by
  intro R
  induction R with
  | nil => intro S _; simp [srt]
  | cons a R ih =>
    intro S h
    have h' : rising ((S ++ [a]) ++ R) := by simpa using h
    have hs := (rising_append.1 h).2.2
    show srt (dn a S.reverse) R = _
    rw [dn_top (fun b hb => hs b hb a (by simp)), ih _ h']
    simp
theorem srt_add (l : List Ar) (a : Ar) (h : rising l) : srt [] (l ++ [a]) = dn a l.reverse := by
  unfold srt
  rw [List.foldl_append]
  have := srt_rising l [] (by simpa using h)
  unfold srt at this
  rw [this]
  simp
theorem addL_snoc (a b : Ar) : ∀ q : List Ar, rising (q ++ [b]) → (∀ c ∈ q ++ [b], c.f0 ≠ a.f0) → addL a (q ++ [b]) = if a.f0 < b.f0 then addL a q ++ [b] else q ++ [b, a] := by
  intro q
  induction q with
  | nil =>
    intro _ hne
    have := hne b (by simp)
    simp only [List.nil_append, addL]
    by_cases h : a.f0 < b.f0
    · rw [if_pos h, if_pos (by omega)]; rfl
    · rw [if_neg h, if_neg (by omega)]
  | cons c q ih =>
    intro hr hne
    have hc := hr.1 b (by simp)
    have hca := hne c (by simp)
    simp only [List.cons_append, addL]
    by_cases h1 : c.f0 ≥ a.f0
    · rw [if_pos h1, if_pos h1, if_pos (by omega)]; rfl
    · rw [if_neg h1, if_neg h1, ih hr.2 (fun d hd => hne d (by simp at hd ⊢; exact .inr hd))]
      split <;> simp
theorem rising_init {q : List Ar} {b : Ar} (h : rising (q ++ [b])) : rising q := (rising_append.1 h).1
theorem dn_addL (a : Ar) : ∀ (R : List Ar), rising R.reverse → (∀ c ∈ R, c.f0 ≠ a.f0) → dn a R = addL a R.reverse := by
  intro R
  induction R with
  | nil => intro _ _; rfl
  | cons b R ih =>
    intro hr hne
    rw [List.reverse_cons] at hr ⊢
    rw [addL_snoc a b R.reverse hr (fun c hc => hne c (by simp at hc ⊢; exact hc.symm))]
    simp only [dn]
    rw [ih (rising_init hr) (fun c hc => hne c (by simp [hc]))]
/-- Two that begin alike make a list bad. -/
theorem rising_nodup : ∀ {l : List Ar}, rising l → (l.map (fun a => a.f0)).Nodup := by
  intro l
  induction l with
  | nil => intro _; simp
  | cons a l ih =>
    intro h
    simp only [List.map_cons, List.nodup_cons]
    refine ⟨fun hm => ?_, ih h.2⟩
    obtain ⟨b, hb, e⟩ := List.mem_map.1 hm
    have := h.1 b hb
    omega
theorem addL_perm (a : Ar) : ∀ l, (addL a l).Perm (a :: l) := by
  intro l
  induction l with
  | nil => exact List.Perm.refl _
  | cons b l ih =>
    simp only [addL]
    split
    · exact List.Perm.refl _
    · exact (List.Perm.cons b ih).trans (List.Perm.swap a b l)
theorem dn_perm (a : Ar) : ∀ R, (dn a R).Perm (a :: R) := by
  intro R
  induction R with
  | nil => exact List.Perm.refl _
  | cons b R ih =>
    simp only [dn]
    split
    · have h1 := List.Perm.append_right [b] ih
      refine h1.trans ?_
      have : (a :: R ++ [b]).Perm (b :: (a :: R)) := by
        have := List.perm_append_comm (l₁ := a :: R) (l₂ := [b])
        simpa using this
      exact this.trans (List.Perm.swap a b R)
    · have h1 : (R.reverse ++ [b, a]).Perm ([b, a] ++ R.reverse) := List.perm_append_comm
      have h2 : ([b, a] ++ R.reverse).Perm ([b, a] ++ R) := List.Perm.append_left _ (List.reverse_perm R)
      exact (h1.trans h2).trans (List.Perm.swap a b R)
theorem tie_bad {a : Ar} {l L : List Ar} (hp : L.Perm (a :: l)) {b : Ar} (hb : b ∈ l) (e : b.f0 = a.f0) : areasOk L = false := by
  cases h : areasOk L with
  | false => rfl
  | true =>
    have hn := rising_nodup (rising_vld ((areasOk_iff L).1 h).1)
    have hn' : ((a :: l).map (fun a => a.f0)).Nodup := (hp.map _).nodup_iff.1 hn
    simp only [List.map_cons, List.nodup_cons] at hn'
    exact absurd (List.mem_map.2 ⟨b, hb, e⟩) hn'.1
theorem areasAdd_dn {l : List Ar} (a : Ar) (hl : areasOk l = true) : (if areasOk (dn a l.reverse) = true then (dn a l.reverse, true) else ([], false)) = (if areasOk (addL a l) = true then (addL a l, true) else (([] : List Ar), false)) := by
  by_cases ht : ∃ b ∈ l, b.f0 = a.f0
  · obtain ⟨b, hb, e⟩ := ht
    have h1 : areasOk (dn a l.reverse) = false := tie_bad ((dn_perm a l.reverse).trans (List.Perm.cons a (List.reverse_perm l))) hb e
    have h2 : areasOk (addL a l) = false := tie_bad (addL_perm a l) hb e
    rw [h1, h2]
    rfl
  · have hr := rising_vld ((areasOk_iff l).1 hl).1
    have := dn_addL a l.reverse (by rw [List.reverse_reverse]; exact hr) (fun c hc e => ht ⟨c, by simpa using hc, e⟩)
    rw [List.reverse_reverse] at this
    rw [this]
set_option maxRecDepth 100000 in
theorem len_ev (n : Int) (h0 : 0 ≤ n) (h1 : n ≤ 12) : ∃ v, Ev (fun k => bits_Len.f k n) v := by
  have hm : n % 256 = n := Int.emod_eq_of_lt h0 (by omega)
  have hj : ∃ v, Ev (fun k => bits_Len64.j0 k n 0) v := by
    refine ⟨_, Ev.step (fun k => by simp only [bits_Len64.j0]; rfl) (Ev.neg (by omega) (Ev.neg (by omega) (Ev.pos (by omega) (Ev.pos (by omega) (Ev.now _)))))⟩
  obtain ⟨v, hv⟩ := hj
  refine ⟨v, ?_⟩
  unfold bits_Len.f bits_Len64.f
  exact Ev.bind (Ev.neg (by omega) hv) (Ev.now _)
theorem sort_ev (l : List Ar) (hl : ∀ b ∈ l, inPage b) (hn : l.length ≤ 12) : Ev (fun k => slices_SortFunc_Area.f k l) (srt [] l) := by
  unfold slices_SortFunc_Area.f
  have hu : IntKind.u64.wrap (l.length : Int) = (l.length : Int) := by
    rw [IntKind.wrap_u64]; omega
  rw [hu]
  obtain ⟨v, hv⟩ := len_ev (l.length : Int) (by omega) (by omega)
  refine Ev.bind hv (Ev.bind ?_ (Ev.now _))
  refine Ev.step (fun k => by simp only [slices_pdqsortCmpFunc_Area.f]; rfl) ?_
  refine Ev.step (fun k => by simp only [slices_pdqsortCmpFunc_Area.l0]; rfl) ?_
  rw [wrap_id (n := (l.length : Int) - 0) (by omega) (by omega)]
  refine Ev.pos (by omega) (Ev.bind ?_ (Ev.now _))
  unfold slices_insertionSortCmpFunc_Area.f
  cases l with
  | nil =>
    refine Ev.step (fun k => by simp only [slices_insertionSortCmpFunc_Area.l0]; rfl) ?_
    exact Ev.neg (by rw [wrap_id (by omega) (by omega)]; simp) (Ev.pure rfl)
  | cons a l =>
    rw [wrap_id (n := 0 + 1) (by omega) (by omega)]
    have := sort_l ((a :: l).length : Int) (by omega) l [a] hl (by simp)
    exact this
theorem implAdd (l : List Ar) (a : Ar) (hn : l.length ≤ 1048576) : Ev (fun k => impl_AreasAdd.f k l a.f0 a.f1 a.f2 a.f3) (areasAdd l a) := by
  unfold impl_AreasAdd.f areasAdd
  refine Ev.bind (implOk l (by omega)) ?_
  have out : Ev (fun k => impl_AreasAdd.j0 k l true a.f0 a.f1 a.f2 a.f3) ([], false) := Ev.step (fun k => by simp only [impl_AreasAdd.j0]; rfl) (Ev.pos (by trivial) (Ev.now _))
  cases hl : areasOk l with
  | false => exact Ev.neg (by decide) (Ev.cast out (by simp))
  | true =>
    refine Ev.pos (by trivial) (Ev.bind (Ev.const (AreaOk_eq _ _ _ _)) ?_)
    cases ha : areaOk a with
    | false => exact Ev.cast out (by simp)
    | true =>
      obtain ⟨hv, h6⟩ := (areasOk_iff l).1 hl
      refine Ev.step (fun k => by simp only [impl_AreasAdd.j0]; rfl) (Ev.neg (by simp) ?_)
      refine Ev.bind (a := l) (Ev.const (by unfold slices_Clone_Area.f; exact if_pos (by omega))) (Ev.bind (Ev.now _) (Ev.pos (by simp; omega) ?_))
      have hs := sort_ev (l ++ [a]) (fun b hb => by
        rcases List.mem_append.1 hb with hb | hb
        · have := (areaOk_iff b).1 (vldA_mem hv b hb).1
          exact ⟨this.1, this.2.1⟩
        · simp at hb
          subst hb
          have := (areaOk_iff b).1 ha
          exact ⟨this.1, this.2.1⟩) (by simp; omega)
      rw [srt_add l a (rising_vld hv)] at hs
      refine Ev.bind hs (Ev.bind (implOk _ (by rw [dn_length]; simp; omega)) ?_)
      have he := areasAdd_dn a hl
      simp only [Bool.and_self, if_true]
      refine Ev.cast ?_ he
      cases hd : areasOk (dn a l.reverse) with
      | true => exact Ev.pos (by trivial) (Ev.pure (by simp))
      | false => exact Ev.neg (by decide) (Ev.pure (by simp))
end Go.Proofs.Ytlahnekinlkfmaa.Q
