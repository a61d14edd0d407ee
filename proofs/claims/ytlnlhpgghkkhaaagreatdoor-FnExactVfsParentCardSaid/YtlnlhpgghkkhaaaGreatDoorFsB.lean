/- File systems in plain words: both checks agree. -/
import Derived.Test.YtlnlhpgghkkhaaaGreatDoorFsA
namespace Go.Mach.Fv
set_option linter.unusedVariables false
set_option linter.unusedSimpArgs false
/-- what both checks find -/
structure Fit (f : Fs) : Prop where
  len : f.length = 10
  nod : ∀ (i : Nat), i < 10 → nodS (N f i) = true
  top : (N f 0).kind = 2
  ent : ∀ (i : Nat), i < 10 → ∀ k ∈ ids (N f i), ¬ (N f k).kind = 0
  lks : ∀ (i : Nat), i < 10 → ¬ (N f i).kind = 0 → (N f i).links = lk (edg f 10) i
  one : ∀ (i : Nat), i < 10 → (N f i).kind = 2 → lk (edg f 10) i = if i = 0 then 0 else 1
  file : ∀ (i : Nat), i < 10 → (N f i).kind = 1 → ¬ ((N f i).links = 0 ∧ (N f i).opens = 0)
  up : ∀ (i : Nat), i < 10 → (N f i).kind = 2 → climb (ab (edg f 10)) 11 i = true
theorem nodS_ids {f : Fs} {n : Inode} (h : nodS n = true) : ∀ k ∈ ids n, 1 ≤ k ∧ k ≤ 9 := by
  intro k hk
  obtain ⟨j, hj, rfl⟩ := ids_get hk
  unfold nodS at h
  split at h
  · rw [(nod_plain h).1] at hj; simp at hj
  · simp only [Bool.and_eq_true] at h
    have := all0.1 h.2 j hj
    simp only [entS, Bool.and_eq_true] at this
    exact inR_iff.1 this.1.2
theorem nodS_folder {n : Inode} (h : nodS n = true) {k : Int} (hk : k ∈ ids n) : n.kind = 2 := by
  obtain ⟨j, hj, rfl⟩ := ids_get hk
  unfold nodS at h
  split at h
  · rw [(nod_plain h).1] at hj; simp at hj
  · simp only [Bool.and_eq_true, inR_iff, Bool.not_eq_true', Bool.and_eq_false_iff, decide_eq_false_iff_not] at h
    obtain ⟨⟨⟨⟨⟨⟨⟨⟨⟨⟨h1, _⟩, _⟩, _⟩, _⟩, _⟩, _⟩, _⟩, _⟩, h2⟩, _⟩ := h
    rcases h2 with h2 | h2 <;> omega
theorem kids_in {f : Fs} (h : ∀ (i : Nat), i < 10 → nodS (N f i) = true) : ∀ i, 0 ≤ i → i < 10 → In10 (kids f i) := by
  intro i h0 h1 k hk
  have hk := (List.mem_filter.1 hk).1
  have := nodS_ids (f := f) (h i.toNat (by omega)) k (by rw [Int.toNat_of_nonneg h0]; exact hk)
  omega
theorem start_in : In10 ([] ++ [0]) := by intro i hi; simp at hi; omega
theorem count_kids {f : Fs} {k : Int} (hk : (N f k).kind = 2) (i : Int) : (kids f i).count k = (ids (N f i)).count k := by
  unfold kids
  rw [List.count_filter (by simp [hk])]
theorem okS_fit {f : Fs} (h : okS f = true) : Fit f := by
  simp only [okS, Bool.and_eq_true, decide_eq_true_eq, all0] at h
  obtain ⟨⟨⟨⟨hl, hn⟩, ht⟩, hb⟩, hf⟩ := h
  rcases bfs_end (kids_in hn) 11 [] [0] (J.start f) start_in (by simp) with ⟨_, hJ, hI⟩ | ⟨h2, _⟩
  rotate_left
  · rw [hb] at h2; cases h2
  generalize hms : (bfs f 11 [] [0]).1 = ms at *
  have heq := hJ.eq
  rw [List.append_nil] at heq
  have hfol : ∀ (i : Nat), i < 10 → (N f i).kind = 2 → (i : Int) ∈ ms := by
    intro i hi hk
    have := hf i hi
    simp only [finS, Bool.and_eq_true, Bool.not_eq_true', Bool.and_eq_false_iff, decide_eq_false_iff_not, Bool.not_eq_false', decide_eq_true_eq] at this
    rcases this.1.2 with h | h
    · exact absurd hk h
    · exact h
  have hlk : ∀ (k : Nat), k < 10 → (N f k).kind = 2 → lk (edg f 10) k = if k = 0 then 0 else 1 := by
    intro k hk h2
    have h3 : (ms.flatMap (kids f)).count (k : Int) = lk (edg f 10) k := by
      rw [cnt_flat (kids f) k ms hJ.nd hI, lk_edg]
      refine S10_eq fun i hi => ?_
      split
      · exact count_kids h2 i
      · rename_i hm
        symm
        rw [List.count_eq_zero]
        intro hmem
        exact hm (hfol i hi (nodS_folder (hn i hi) hmem))
    have h4 : ms.count (k : Int) = 1 := by
      have h1 : 0 < ms.count (k : Int) := List.count_pos_iff.2 (hfol k hk h2)
      have h2 : ms.count (k : Int) ≤ 1 := List.nodup_iff_count.1 hJ.nd k
      omega
    rw [heq, List.count_cons, h3] at h4
    by_cases e : k = 0
    · subst e; simp at h4; simp; omega
    · have : ¬ (0 : Int) = (k : Int) := by omega
      simp [this] at h4
      simp [e, h4]
  refine ⟨hl, hn, ht, ?_, ?_, hlk, ?_, ?_⟩
  · intro i hi k hk h0
    have h9 := nodS_ids (f := f) (hn i hi) k hk
    obtain ⟨b, rfl⟩ : ∃ b : Nat, k = (b : Int) := ⟨k.toNat, by omega⟩
    have := hf b (by omega)
    simp only [finS, Bool.and_eq_true, Bool.not_eq_true', Bool.and_eq_false_iff, decide_eq_false_iff_not, Bool.not_eq_false', decide_eq_true_eq] at this
    have h5 : 0 < lk (edg f 10) b := by
      rw [lk_edg]
      exact Nat.lt_of_lt_of_le (List.count_pos_iff.2 hk) (S10_mem (g := fun (i : Nat) => (ids (N f i)).count (b : Int)) hi)
    rcases this.1.1.1 with h | h
    · exact h h5
    · exact h h0
  · intro i hi hk
    have := hf i hi
    simp only [finS, Bool.and_eq_true, Bool.not_eq_true', Bool.and_eq_false_iff, decide_eq_false_iff_not, Bool.not_eq_false', decide_eq_true_eq] at this
    rcases this.1.1.2 with h | h
    · exact absurd h hk
    · exact h
  · rintro i hi hk ⟨h1, h2⟩
    have := hf i hi
    simp only [finS, Bool.and_eq_true, Bool.not_eq_true', Bool.and_eq_false_iff, decide_eq_false_iff_not, Bool.not_eq_false', decide_eq_true_eq] at this
    rcases this.2 with (h | h) | h <;> contradiction
  · intro k hk h2
    have hrank : ∀ (m : Nat) (l : List Int) (k : Int) (r : List Int), l.length ≤ m → ms = l ++ k :: r → climb (ab (edg f 10)) m k = true := by
      intro m
      induction m with
      | zero =>
        intro l k r hlm e
        obtain rfl := List.length_eq_zero_iff.1 (Nat.le_zero.1 hlm)
        rcases hJ.ord _ _ _ e with rfl | ⟨i, hi, _⟩
        · simp [climb]
        · cases hi
      | succ m ih =>
        intro l k r hlm e
        unfold climb
        split
        · rfl
        rename_i hk0
        rcases hJ.ord _ _ _ e with rfl | ⟨i, hi, hik⟩
        · exact absurd rfl hk0
        obtain ⟨hik1, hik2⟩ := List.mem_filter.1 hik
        simp only [decide_eq_true_eq] at hik2
        have hkI := hI k (by rw [e]; simp)
        have hiI := hI i (by rw [e]; simp [hi])
        obtain ⟨b, rfl⟩ : ∃ b : Nat, k = (b : Int) := ⟨k.toNat, by omega⟩
        have h1 : lk (edg f 10) b = 1 := by rw [hlk b (by omega) hik2, if_neg (by omega)]
        have h3 : ((b : Int), i) ∈ edg f 10 := mem_edg.2 ⟨hiI.1, hiI.2, hik1⟩
        have h4 := ab_pos (es := edg f 10) (k := b) (z := 0) (by omega)
        have : ab (edg f 10) b = i := lk_one h1 h4 h3
        rw [this]
        obtain ⟨l1, l2, rfl⟩ := List.append_of_mem hi
        refine ih l1 i (l2 ++ (b : Int) :: r) (by simp at hlm; omega) ?_
        rw [e]; simp
    obtain ⟨l, r, e⟩ := List.append_of_mem (hfol k hk h2)
    refine climb_mono (n := l.length) ?_ (hrank _ l k r (Nat.le_refl _) e)
    have := len_10 ms hJ.nd hI
    rw [e] at this
    simp at this
    omega
theorem fit_okS {f : Fs} (h : Fit f) : okS f = true := by
  have hk := kids_in h.nod
  have hcnt : ∀ ms, ms.Nodup → In10 ms → ∀ (k : Int), (ms.flatMap (kids f)).count k ≤ lk (edg f 10) k := by
    intro ms hn hi k
    rw [cnt_flat _ _ _ hn hi, lk_edg]
    refine S10_le fun i _ => ?_
    split
    · exact count_filter_le _ _ _
    · omega
  have hfold : ∀ ms todo, J f ms todo → In10 ms → ∀ i ∈ ms ++ todo, ∃ b : Nat, i = (b : Int) ∧ b < 10 ∧ (N f b).kind = 2 := by
    intro ms todo hJ hI i hi
    rw [hJ.eq] at hi
    rcases List.mem_cons.1 hi with rfl | hi
    · exact ⟨0, rfl, by omega, h.top⟩
    · obtain ⟨a, ha, hik⟩ := List.mem_flatMap.1 hi
      have h1 := hk a (hI a ha).1 (hI a ha).2 i hik
      have h2 := (List.mem_filter.1 hik).2
      simp only [decide_eq_true_eq] at h2
      refine ⟨i.toNat, by omega, by omega, ?_⟩
      rw [Int.toNat_of_nonneg h1.1]; exact h2
  have hb : (bfs f 11 [] [0]).2 = true ∧ ∀ (i : Nat), i < 10 → (N f i).kind = 2 → (i : Int) ∈ (bfs f 11 [] [0]).1 := by
    rcases bfs_end hk 11 [] [0] (J.start f) start_in (by simp) with ⟨h1, hJ, hI⟩ | ⟨_, ms, i, r, hJ, hi, hI⟩
    · refine ⟨h1, ?_⟩
      generalize (bfs f 11 [] [0]).1 = ms at *
      have heq := hJ.eq
      rw [List.append_nil] at heq
      have : ∀ (n : Nat) (i : Nat), i < 10 → (N f i).kind = 2 → climb (ab (edg f 10)) n i = true → (i : Int) ∈ ms := by
        intro n
        induction n with
        | zero =>
          intro i hi h2 hc
          simp only [climb, decide_eq_true_eq] at hc
          rw [hc, heq]; simp
        | succ n ih =>
          intro i hi h2 hc
          unfold climb at hc
          split at hc
          · rename_i hc0
            rw [hc0, heq]; simp
          · rename_i h0
            have h1 := h.one i hi h2
            rw [if_neg (by omega)] at h1
            have h4 := ab_pos (es := edg f 10) (k := i) (z := 0) (by omega)
            change ((i : Int), ab (edg f 10) i) ∈ _ at h4
            obtain ⟨g0, g1, g2⟩ := mem_edg.1 h4
            obtain ⟨b, hb⟩ : ∃ b : Nat, ab (edg f 10) i = (b : Int) := ⟨(ab (edg f 10) i).toNat, by omega⟩
            rw [hb] at hc g2
            have hkb := nodS_folder (h.nod b (by omega)) g2
            have hmem := ih b (by omega) hkb hc
            rw [heq]
            exact List.mem_cons_of_mem _ (List.mem_flatMap.2 ⟨b, hmem, List.mem_filter.2 ⟨g2, by simp [h2]⟩⟩)
      intro i hi h2
      exact this 11 i hi h2 (h.up i hi h2)
    · exfalso
      obtain ⟨b, rfl, hb, hb2⟩ := hfold ms _ hJ hI i (by simp [hi])
      have h1 := h.one b hb hb2
      have h2 := hcnt ms hJ.nd hI b
      have h3 : 0 < ms.count (b : Int) := List.count_pos_iff.2 hi
      have h4 : (ms ++ (b : Int) :: r).count (b : Int) = (0 :: ms.flatMap (kids f)).count (b : Int) := by rw [hJ.eq]
      rw [List.count_append, List.count_cons_self, List.count_cons] at h4
      by_cases e : b = 0
      · subst e
        simp only [if_true, Int.natCast_zero, beq_self_eq_true] at h1 h2 h3 h4
        omega
      · have : ¬ (0 : Int) = (b : Int) := by omega
        simp [this] at h4
        rw [if_neg e] at h1
        omega
  simp only [okS, Bool.and_eq_true, decide_eq_true_eq, all0]
  refine ⟨⟨⟨⟨h.len, h.nod⟩, h.top⟩, hb.1⟩, fun i hi => ?_⟩
  simp only [finS, Bool.and_eq_true, Bool.not_eq_true', Bool.and_eq_false_iff, decide_eq_false_iff_not, Bool.not_eq_false', decide_eq_true_eq]
  refine ⟨⟨⟨?_, ?_⟩, ?_⟩, ?_⟩
  · by_cases hl : 0 < lk (edg f 10) i
    · right
      have h4 := ab_pos (es := edg f 10) (k := i) (z := 0) hl
      obtain ⟨g0, g1, g2⟩ := mem_edg.1 h4
      generalize List.foldl (fun a p => if p.1 = (i : Int) then p.2 else a) 0 (edg f 10) = a at *
      exact h.ent a.toNat (by omega) i (by rw [Int.toNat_of_nonneg g0]; exact g2)
    · exact .inl hl
  · by_cases h0 : (N f i).kind = 0
    · exact .inl h0
    · exact .inr (h.lks i hi h0)
  · by_cases h2 : (N f i).kind = 2
    · exact .inr (hb.2 i hi h2)
    · exact .inl h2
  · by_cases h1 : (N f i).kind = 1
    · by_cases h2 : (N f i).links = 0
      · exact .inr fun h3 => h.file i hi h1 ⟨h2, h3⟩
      · exact .inl (.inr h2)
    · exact .inl (.inl h1)
theorem okI_fit {f : Fs} (h : okI f = true) : Fit f := by
  simp only [okI, Bool.and_eq_true, decide_eq_true_eq, all0] at h
  obtain ⟨⟨⟨hl, ht⟩, hn⟩, hf⟩ := h
  have hfin : ∀ (i : Nat), i < 10 → ¬ (N f i).kind = 0 → (N f i).links = lk (edg f 10) i ∧ (¬ ((N f i).kind = 1 ∧ (N f i).links = 0 ∧ (N f i).opens = 0)) ∧ ((N f i).kind = 2 → 0 < i → (N f i).links = 1) ∧ (i = 0 → (N f i).links = 0) ∧ ((N f i).kind = 2 → climb (ab (edg f 10)) 11 i = true) := by
    intro i hi h0
    have := hf i hi
    simp only [finI] at this
    rw [if_neg h0] at this
    simp only [Bool.and_eq_true, Bool.not_eq_true', Bool.and_eq_false_iff, decide_eq_false_iff_not, Bool.not_eq_false', decide_eq_true_eq] at this
    obtain ⟨⟨⟨⟨a1, a2⟩, a3⟩, a4⟩, a5⟩ := this
    refine ⟨a1, ?_, ?_, ?_, ?_⟩
    · rintro ⟨b1, b2, b3⟩
      rcases a2 with (a2 | a2) | a2 <;> contradiction
    · intro b1 b2
      rcases a3 with (a3 | a3) | a3
      · contradiction
      · contradiction
      · exact a3
    · intro b1
      rcases a4 with a4 | a4
      · contradiction
      · exact a4
    · intro b1
      rw [if_pos b1] at a5
      exact a5
  have hent : ∀ (i : Nat), i < 10 → ∀ j, j < (N f i).names.length → entI f (N f i) j = true := by
    intro i hi j hj
    have := hn i hi
    unfold nodI at this
    split at this
    · rw [(nod_plain this).1] at hj; simp at hj
    · simp only [Bool.and_eq_true] at this
      exact all0.1 this.2 j hj
  have hids : ∀ (i : Nat), i < 10 → ∀ k ∈ ids (N f i), 0 ≤ k ∧ k ≤ 9 ∧ ¬ (N f k).kind = 0 := by
    intro i hi k hk
    obtain ⟨j, hj, rfl⟩ := ids_get hk
    have := hent i hi j hj
    simp only [entI, Bool.and_eq_true, inR_iff, Bool.not_eq_true', decide_eq_false_iff_not] at this
    exact ⟨this.1.1.2.1, this.1.1.2.2, this.1.2⟩
  have hlen : ∀ (i : Nat), i < 10 → (N f i).names.length ≤ 6 := by
    intro i hi
    have := hn i hi
    unfold nodI at this
    split at this
    · rw [(nod_plain this).1]; simp
    · simp only [Bool.and_eq_true, inR_iff, Bool.not_eq_true', Bool.and_eq_false_iff, Bool.or_eq_false_iff, decide_eq_false_iff_not] at this
      obtain ⟨⟨⟨⟨⟨⟨⟨h1, _⟩, _⟩, _⟩, _⟩, h2⟩, h3⟩, _⟩ := this
      rcases h2 with h2 | h2
      · rcases h3 with h3 | h3
        · omega
        · omega
      · omega
  have h60 : ∀ k, lk (edg f 10) k ≤ 60 := by
    intro k
    rw [lk_edg]
    refine Nat.le_trans (S10_le (h := fun _ => 6) fun i hi => ?_) (by simp [S10])
    refine Nat.le_trans List.count_le_length ?_
    simp only [ids, List.length_map]
    exact hlen i hi
  have hz : lk (edg f 10) 0 = 0 := by
    have h1 := hfin 0 (by omega) (by rw [show ((0 : Nat) : Int) = 0 from rfl, ht]; decide)
    have h2 := h1.1
    have h3 := h1.2.2.2.1 rfl
    rw [show ((0 : Nat) : Int) = 0 from rfl] at h2 h3
    omega
  have hne : ∀ (i : Nat), i < 10 → ∀ k ∈ ids (N f i), 1 ≤ k := by
    intro i hi k hk
    have h1 := hids i hi k hk
    by_cases e : k = 0
    · subst e
      have : 0 < lk (edg f 10) 0 := by
        rw [lk_edg]
        exact Nat.lt_of_lt_of_le (List.count_pos_iff.2 hk) (S10_mem (g := fun (i : Nat) => (ids (N f i)).count 0) hi)
      omega
    · omega
  have hnod : ∀ (i : Nat), i < 10 → nodS (N f i) = true := by
    intro i hi
    have h1 := hn i hi
    have h2 := hent i hi
    unfold nodI at h1
    unfold nodS
    split at h1
    · rename_i h0
      rw [if_pos h0]; exact h1
    · rename_i h0
      rw [if_neg h0]
      simp only [Bool.and_eq_true, inR_iff, Bool.not_eq_true', Bool.and_eq_false_iff, Bool.or_eq_false_iff, decide_eq_false_iff_not, decide_eq_true_eq, Bool.not_eq_false'] at h1 ⊢
      obtain ⟨⟨⟨⟨⟨⟨⟨b1, b2⟩, b3⟩, b4⟩, b5⟩, b6⟩, b7⟩, b8⟩ := h1
      have hlk := (hfin i hi h0).1
      have hl60 := h60 i
      refine ⟨⟨⟨⟨⟨⟨⟨⟨⟨⟨b1, b2⟩, b3⟩, b4⟩, b5⟩, by omega⟩, ?_⟩, hlen i hi⟩, ?_⟩, ?_⟩, ?_⟩
      · rcases b6 with b6 | b6
        · rcases b7 with b7 | b7
          · omega
          · omega
        · omega
      · rcases b7 with b7 | b7
        · exact .inl b7
        · exact .inr ⟨b7.1.1, b7.1.2⟩
      · rcases b6 with b6 | b6
        · exact .inl b6
        · exact .inr b6.2
      · rw [all0]
        intro j hj
        have h3 := h2 j hj
        have h4 := hne i hi _ (show (nE (N f i) j).id ∈ ids (N f i) from List.mem_map.2 ⟨nE (N f i) j, by simp [nE, List.getD_eq_getElem?_getD, hj], rfl⟩)
        simp only [entI, entS, Bool.and_eq_true, inR_iff] at h3 ⊢
        exact ⟨⟨h3.1.1.1, h4, h3.1.1.2.2⟩, h3.2⟩
  refine ⟨hl, hnod, ht, fun i hi k hk => (hids i hi k hk).2.2, fun i hi h0 => (hfin i hi h0).1, ?_, fun i hi h1 h2 => (hfin i hi (by omega)).2.1 ⟨h1, h2.1, h2.2⟩, fun i hi h2 => (hfin i hi (by omega)).2.2.2.2 h2⟩
  intro i hi h2
  by_cases e : i = 0
  · subst e; rw [if_pos rfl]; exact hz
  · rw [if_neg e]
    have h3 := hfin i hi (by omega)
    have h4 := h3.1
    have h5 := h3.2.2.1 h2 (by omega)
    omega
theorem fit_okI {f : Fs} (h : Fit f) : okI f = true := by
  simp only [okI, Bool.and_eq_true, decide_eq_true_eq, all0]
  refine ⟨⟨⟨h.len, h.top⟩, fun i hi => ?_⟩, fun i hi => ?_⟩
  · have h1 := h.nod i hi
    unfold nodS at h1
    unfold nodI
    split at h1
    · rename_i h0; rw [if_pos h0]; exact h1
    · rename_i h0
      rw [if_neg h0]
      simp only [Bool.and_eq_true, inR_iff, Bool.not_eq_true', Bool.and_eq_false_iff, Bool.or_eq_false_iff, decide_eq_false_iff_not, decide_eq_true_eq, Bool.not_eq_false'] at h1 ⊢
      obtain ⟨⟨⟨⟨⟨⟨⟨⟨⟨⟨b1, b2⟩, b3⟩, b4⟩, b5⟩, b6⟩, b7⟩, b8⟩, b9⟩, b10⟩, b11⟩ := h1
      refine ⟨⟨⟨⟨⟨⟨⟨b1, b2⟩, b3⟩, b4⟩, b5⟩, ?_⟩, ?_⟩, ?_⟩
      · rcases b10 with b10 | b10
        · exact .inl b10
        · exact .inr ⟨by omega, b10⟩
      · rcases b9 with b9 | b9
        · exact .inl b9
        · exact .inr ⟨⟨b9.1, b9.2⟩, by omega⟩
      · rw [all0] at b11 ⊢
        intro j hj
        have h3 := b11 j hj
        have h4 := h.ent i hi _ (show (nE (N f i) j).id ∈ ids (N f i) from List.mem_map.2 ⟨nE (N f i) j, by simp [nE, List.getD_eq_getElem?_getD, hj], rfl⟩)
        simp only [entI, entS, Bool.and_eq_true, inR_iff, Bool.not_eq_true', decide_eq_false_iff_not] at h3 ⊢
        exact ⟨⟨⟨h3.1.1, by omega, h3.1.2.2⟩, h4⟩, h3.2⟩
  · simp only [finI]
    split
    · rfl
    rename_i h0
    have hl := h.lks i hi h0
    simp only [Bool.and_eq_true, Bool.not_eq_true', Bool.and_eq_false_iff, decide_eq_false_iff_not, Bool.not_eq_false', decide_eq_true_eq]
    refine ⟨⟨⟨⟨hl, ?_⟩, ?_⟩, ?_⟩, ?_⟩
    · by_cases h1 : (N f i).kind = 1
      · by_cases h2 : (N f i).links = 0
        · exact .inr fun h3 => h.file i hi h1 ⟨h2, h3⟩
        · exact .inl (.inr h2)
      · exact .inl (.inl h1)
    · by_cases h2 : (N f i).kind = 2
      · by_cases e : i = 0
        · exact .inl (.inr (by omega))
        · have := h.one i hi h2
          rw [if_neg e] at this
          exact .inr (by omega)
      · exact .inl (.inl h2)
    · by_cases e : i = 0
      · subst e
        have := h.one 0 (by omega) h.top
        simp at this
        simp only [Int.natCast_zero] at hl this ⊢
        exact .inr (by omega)
      · exact .inl e
    · split
      · rename_i h2; exact h.up i hi h2
      · rfl
theorem ok_eq (f : Fs) : okI f = okS f := by
  rw [Bool.eq_iff_iff]
  exact ⟨fun h => fit_okS (okI_fit h), fun h => fit_okI (okS_fit h)⟩
end Go.Mach.Fv
