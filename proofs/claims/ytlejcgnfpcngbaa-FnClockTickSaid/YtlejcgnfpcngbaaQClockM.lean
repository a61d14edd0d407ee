/- Clocks without Go and memory: setting, dropping, ticking, as a model says it; what the laws over clocks say of it. -/
import Derived.Test.YtlejcgnfpcngbaaQClock
namespace Go.Proofs.Ytlejcgnfpcngbaa.Q
open Go.RowKit Go.Proofs.YtlejcgnfpcngbaaW.PrintWords Go.Proofs.YtlejcgnfpcngbaaW.PrintLast Go.Proofs.YtlejcgnfpcngbaaW.PrintMore Go.Proofs.Ytlejcgnfpcngbaa.P
set_option linter.unusedVariables false
set_option linter.unusedSimpArgs false

-- the order
theorem ahead_iff {a b : Al} : ahead a b = true ↔ a.f1 < b.f1 ∨ (a.f1 = b.f1 ∧ a.f0 < b.f0) := by simp [ahead]
theorem ahead_trans {a b c : Al} (h : ahead a b = true) (k : ahead b c = true) : ahead a c = true := by
  rw [ahead_iff] at *; omega
theorem ahead_irr {a : Al} : ahead a a = false := by
  cases h : ahead a a with
  | false => rfl
  | true => rw [ahead_iff] at h; omega
theorem ahead_asym {a b : Al} (h : ahead a b = true) : ahead b a = false := by
  cases k : ahead b a with
  | false => rfl
  | true => rw [ahead_iff] at *; omega
theorem ahead_tot {a b : Al} (h : a.f0 ≠ b.f0) : ahead a b = true ∨ ahead b a = true := by
  rw [ahead_iff, ahead_iff]; omega
/-- Sorted, each number once, each alarm within its bounds. -/
def srt : List Al → Prop
  | [] => True
  | a :: l => (∀ b ∈ l, ahead a b = true ∧ b.f0 ≠ a.f0) ∧ srt l
def okA (n : Int) (a : Al) : Prop := (0 ≤ a.f0 ∧ a.f0 ≤ 99) ∧ (n < a.f1 ∧ a.f1 ≤ 4095) ∧ (0 ≤ a.f2 ∧ a.f2 ≤ 99)
def okSrt (n : Int) (l : List Al) : Prop := srt l ∧ ∀ a ∈ l, okA n a
theorem good_iff {n : Int} {seen : List Int} {prev : Option Al} {a : Al} : good n seen prev a = true ↔ okA n a ∧ a.f0 ∉ seen ∧ ∀ p, prev = some p → ahead p a = true := by
  unfold good okA
  simp only [Bool.and_eq_true, inR_iff, Bool.not_eq_true', List.contains_eq_mem, decide_eq_false_iff_not]
  have e : (∀ p, prev = some p → ahead p a = true) ↔ (match prev with | none => true | some p => ahead p a) = true := by
    cases prev with
    | none => simp
    | some p => simp
  rw [e]
  constructor
  · rintro ⟨⟨⟨⟨h1, h2⟩, h3⟩, h4⟩, h5⟩
    exact ⟨⟨h1, by omega, h3⟩, h4, h5⟩
  · rintro ⟨⟨h1, h2, h3⟩, h4, h5⟩
    exact ⟨⟨⟨⟨h1, by omega⟩, h3⟩, h4⟩, h5⟩
theorem goodL_iff {n : Int} : ∀ (l : List Al) (seen : List Int) (prev : Option Al), goodL n seen prev l = true ↔ okSrt n l ∧ (∀ a ∈ l, a.f0 ∉ seen) ∧ ∀ p, prev = some p → ∀ a ∈ l, ahead p a = true := by
  intro l
  induction l with
  | nil => intro seen prev; simp [goodL, okSrt, srt]
  | cons a l ih =>
    intro seen prev
    simp only [goodL, Bool.and_eq_true, good_iff, ih, okSrt, srt]
    constructor
    · rintro ⟨⟨h1, h2, h3⟩, ⟨h4, h5⟩, h6, h7⟩
      refine ⟨⟨⟨fun b hb => ⟨h7 a rfl b hb, fun e => h6 b hb (by rw [e]; exact List.mem_cons_self)⟩, h4⟩, fun x hx => ?_⟩, fun x hx => ?_, fun p hp x hx => ?_⟩
      · rcases List.mem_cons.1 hx with rfl | hx
        · exact h1
        · exact h5 x hx
      · rcases List.mem_cons.1 hx with rfl | hx
        · exact h2
        · exact fun h => h6 x hx (List.mem_cons_of_mem _ h)
      · rcases List.mem_cons.1 hx with rfl | hx
        · exact h3 p hp
        · exact ahead_trans (h3 p hp) (h7 a rfl x hx)
    · rintro ⟨⟨⟨h1, h2⟩, h3⟩, h4, h5⟩
      refine ⟨⟨h3 a List.mem_cons_self, h4 a List.mem_cons_self, fun p hp => h5 p hp a List.mem_cons_self⟩, ⟨h2, fun x hx => h3 x (List.mem_cons_of_mem _ hx)⟩, fun x hx => ?_, fun p hp x hx => ?_⟩
      · rw [List.mem_cons]
        rintro (h | h)
        · exact (h1 x hx).2 h
        · exact h4 x (List.mem_cons_of_mem _ hx) h
      · injection hp with hp
        subst hp
        exact (h1 x hx).1
theorem clockOk_iff {n : Int} {l : List Al} : clockOk n l = true ↔ okSrt n l ∧ (0 ≤ n ∧ n ≤ 4095) ∧ l.length ≤ 12 := by
  unfold clockOk
  simp only [Bool.and_eq_true, goodL_iff, inR_iff, decide_eq_true_eq]
  simp
  omega
-- less, and one more
def lessA (l : List Al) (id : Int) : List Al := l.filter (fun x => decide (x.f0 ≠ id))
def addA : List Al → Al → List Al
  | [], a => [a]
  | x :: l, a => if ahead a x = true then a :: x :: l else x :: addA l a
theorem addA_length (l : List Al) (a : Al) : (addA l a).length = l.length + 1 := by
  induction l with
  | nil => rfl
  | cons x l ih => simp only [addA]; split <;> simp [ih]
theorem mem_addA {l : List Al} {a x : Al} : x ∈ addA l a ↔ x = a ∨ x ∈ l := by
  induction l with
  | nil => simp [addA]
  | cons y l ih =>
    simp only [addA]
    split
    · simp
    · simp only [List.mem_cons, ih]
      constructor
      · rintro (h | h | h) <;> simp [h]
      · rintro (h | h | h) <;> simp [h]
theorem srt_addA {l : List Al} {a : Al} (h : srt l) (hn : ∀ x ∈ l, x.f0 ≠ a.f0) : srt (addA l a) := by
  induction l with
  | nil => simp [addA, srt]
  | cons x l ih =>
    simp only [addA]
    split
    · rename_i hax
      refine ⟨fun b hb => ?_, h⟩
      rcases List.mem_cons.1 hb with rfl | hb
      · exact ⟨hax, hn _ List.mem_cons_self⟩
      · exact ⟨ahead_trans hax (h.1 b hb).1, hn _ (List.mem_cons_of_mem _ hb)⟩
    · rename_i hax
      refine ⟨fun b hb => ?_, ih h.2 (fun y hy => hn y (List.mem_cons_of_mem _ hy))⟩
      rcases mem_addA.1 hb with rfl | hb
      · refine ⟨?_, fun e => hn x List.mem_cons_self e.symm⟩
        rcases ahead_tot (a := x) (b := b) (hn x List.mem_cons_self) with h1 | h1
        · exact h1
        · exact absurd h1 hax
      · exact h.1 b hb
theorem srt_filter {l : List Al} (p : Al → Bool) (h : srt l) : srt (l.filter p) := by
  induction l with
  | nil => exact h
  | cons x l ih =>
    rw [List.filter_cons]
    split
    · exact ⟨fun b hb => h.1 b (List.mem_filter.1 hb).1, ih h.2⟩
    · exact ih h.2
theorem okSrt_less {n : Int} {l : List Al} (id : Int) (h : okSrt n l) : okSrt n (lessA l id) := ⟨srt_filter _ h.1, fun a ha => h.2 a (List.mem_filter.1 ha).1⟩
theorem less_ne {l : List Al} {id : Int} {x : Al} (h : x ∈ lessA l id) : x.f0 ≠ id := by
  have := (List.mem_filter.1 h).2
  exact of_decide_eq_true this
theorem okSrt_add {n : Int} {l : List Al} {a : Al} (h : okSrt n l) (ha : okA n a) (hn : ∀ x ∈ l, x.f0 ≠ a.f0) : okSrt n (addA l a) :=
  ⟨srt_addA h.1 hn, fun x hx => (mem_addA.1 hx).elim (fun e => e ▸ ha) (fun hx => h.2 x hx)⟩
/-- A sorted list is told by its members. -/
theorem srt_ext : ∀ {l m : List Al}, srt l → srt m → (∀ x, x ∈ l ↔ x ∈ m) → l = m := by
  intro l
  induction l with
  | nil =>
    intro m _ _ h
    cases m with
    | nil => rfl
    | cons y m => exact absurd ((h y).2 List.mem_cons_self) (by simp)
  | cons x l ih =>
    intro m hl hm h
    cases m with
    | nil => exact absurd ((h x).1 List.mem_cons_self) (by simp)
    | cons y m =>
      have hxy : x = y := by
        rcases List.mem_cons.1 ((h x).1 List.mem_cons_self) with e | e
        · exact e
        · rcases List.mem_cons.1 ((h y).2 List.mem_cons_self) with f | f
          · exact f.symm
          · have h1 := (hm.1 x e).1
            have h2 := (hl.1 y f).1
            rw [ahead_asym h1] at h2
            exact absurd h2 (by simp)
      subst hxy
      congr 1
      refine ih hl.2 hm.2 (fun z => ⟨fun hz => ?_, fun hz => ?_⟩)
      · rcases List.mem_cons.1 ((h z).1 (List.mem_cons_of_mem _ hz)) with e | e
        · exact absurd (by rw [e]) (hl.1 z hz).2
        · exact e
      · rcases List.mem_cons.1 ((h z).2 (List.mem_cons_of_mem _ hz)) with e | e
        · exact absurd (by rw [e]) (hm.1 z hz).2
        · exact e
-- setting
def clockSet (n : Int) (l : List Al) (id ticks every : Int) : Int × List Al × Bool :=
  if clockOk n l = true ∧ (0 ≤ id ∧ id ≤ 99) ∧ (1 ≤ ticks ∧ ticks ≤ 4095 - n) ∧ (0 ≤ every ∧ every ≤ 99) ∧ (lessA l id).length < 12 then (n, addA (lessA l id) ⟨id, n + ticks, every⟩, true) else (0, [], false)
theorem set_ok {n : Int} {l : List Al} {id ticks every : Int} (h : (clockSet n l id ticks every).2.2 = true) :
    clockSet n l id ticks every = (n, addA (lessA l id) ⟨id, n + ticks, every⟩, true) ∧ clockOk n l = true ∧ (0 ≤ id ∧ id ≤ 99) ∧ (1 ≤ ticks ∧ ticks ≤ 4095 - n) ∧ (0 ≤ every ∧ every ≤ 99) ∧ (lessA l id).length < 12 ∧ clockOk n (addA (lessA l id) ⟨id, n + ticks, every⟩) = true := by
  unfold clockSet at h ⊢
  split at h
  · rename_i hc
    rw [if_pos hc]
    refine ⟨rfl, hc.1, hc.2.1, hc.2.2.1, hc.2.2.2.1, hc.2.2.2.2, ?_⟩
    obtain ⟨h1, h2, h3⟩ := clockOk_iff.1 hc.1
    refine clockOk_iff.2 ⟨okSrt_add (okSrt_less id h1) ⟨hc.2.1, ⟨?_, ?_⟩, hc.2.2.2.1⟩ (fun x hx => less_ne hx), h2, ?_⟩
    · have := hc.2.2.1; show n < n + ticks; omega
    · have := hc.2.2.1; show n + ticks ≤ 4095; omega
    · rw [addA_length]; have := hc.2.2.2.2; omega
  · cases h
theorem mem_less {l : List Al} {id : Int} {x : Al} : x ∈ lessA l id ↔ x ∈ l ∧ x.f0 ≠ id := by
  unfold lessA
  rw [List.mem_filter, decide_eq_true_eq]
theorem set_comm {n : Int} {l : List Al} {a b : Al} (h : okSrt n l) (ha : okA n a) (hb : okA n b) (hne : a.f0 ≠ b.f0) :
    addA (lessA (addA (lessA l a.f0) a) b.f0) b = addA (lessA (addA (lessA l b.f0) b) a.f0) a := by
  have step : ∀ {c d : Al}, okA n c → okA n d → c.f0 ≠ d.f0 → okSrt n (addA (lessA (addA (lessA l c.f0) c) d.f0) d) := fun {c d} hc hd hcd =>
    okSrt_add (okSrt_less _ (okSrt_add (okSrt_less _ h) hc (fun x hx => less_ne hx))) hd (fun x hx => less_ne hx)
  refine srt_ext (step ha hb hne).1 (step hb ha hne.symm).1 (fun x => ?_)
  simp only [mem_addA, mem_less]
  constructor
  · rintro (rfl | ⟨rfl | ⟨h1, h2⟩, h3⟩)
    · exact .inr ⟨.inl rfl, hne.symm⟩
    · exact .inl rfl
    · exact .inr ⟨.inr ⟨h1, h3⟩, h2⟩
  · rintro (rfl | ⟨rfl | ⟨h1, h2⟩, h3⟩)
    · exact .inr ⟨.inl rfl, hne⟩
    · exact .inl rfl
    · exact .inr ⟨.inr ⟨h1, h3⟩, h2⟩
-- ticking
def mass (l : List Al) : Nat := (l.map (fun a => (4096 - a.f1).toNat)).sum
theorem mass_addA (l : List Al) (a : Al) : mass (addA l a) = (4096 - a.f1).toNat + mass l := by
  induction l with
  | nil => rfl
  | cons x l ih =>
    simp only [addA]
    split
    · rfl
    · simp only [mass, List.map_cons, List.sum_cons] at ih ⊢
      omega
def again (a : Al) (l : List Al) : List Al := if 0 < a.f2 ∧ a.f1 + a.f2 ≤ 4095 then addA l ⟨a.f0, a.f1 + a.f2, a.f2⟩ else l
theorem mass_again {a : Al} {l : List Al} (h : a.f1 ≤ 4095) : mass (again a l) < mass (a :: l) := by
  unfold again
  split
  · rw [mass_addA]
    simp only [mass, List.map_cons, List.sum_cons]
    omega
  · simp only [mass, List.map_cons, List.sum_cons]
    omega
def ring (t : Int) : List Al → List Al × List Int
  | [] => ([], [])
  | a :: l => if h : a.f1 ≤ t ∧ t ≤ 4095 then ((ring t (again a l)).1, a.f0 :: (ring t (again a l)).2) else (a :: l, [])
termination_by l => mass l
decreasing_by
  all_goals (simp_wf; exact mass_again (by omega))
theorem ring_nil (t : Int) : ring t [] = ([], []) := by rw [ring]
theorem ring_stop {t : Int} {a : Al} {l : List Al} (h : t < a.f1) : ring t (a :: l) = (a :: l, []) := by
  rw [ring, dif_neg (by omega)]
theorem ring_step {t : Int} {a : Al} {l : List Al} (h : a.f1 ≤ t) (ht : t ≤ 4095) : ring t (a :: l) = ((ring t (again a l)).1, a.f0 :: (ring t (again a l)).2) := by
  rw [ring, dif_pos ⟨h, ht⟩]
theorem okA_more {n m : Int} {a : Al} (h : okA n a) (k : m < a.f1) : okA m a := ⟨h.1, ⟨k, h.2.1.2⟩, h.2.2⟩
theorem okSrt_again {n : Int} {a : Al} {l : List Al} (h : okSrt n (a :: l)) : okSrt n (again a l) ∧ (again a l).length ≤ l.length + 1 := by
  have hl : okSrt n l := ⟨h.1.2, fun x hx => h.2 x (List.mem_cons_of_mem _ hx)⟩
  unfold again
  split
  · rename_i hc
    have ha := h.2 a List.mem_cons_self
    refine ⟨okSrt_add hl ⟨ha.1, ⟨?_, hc.2⟩, ha.2.2⟩ (fun x hx => (h.1.1 x hx).2), by rw [addA_length]; exact Nat.le_refl _⟩
    have := ha.2.1; show n < a.f1 + a.f2; omega
  · exact ⟨hl, by omega⟩
/-- An induction along the ringing. -/
theorem ring_ind {t : Int} (ht : t ≤ 4095) {M : List Al → Prop} (h0 : M []) (h1 : ∀ a l, t < a.f1 → M (a :: l)) (h2 : ∀ a l, a.f1 ≤ t → M (again a l) → M (a :: l)) : ∀ l, M l := by
  have : ∀ (d : Nat) (l : List Al), mass l ≤ d → M l := by
    intro d
    induction d with
    | zero =>
      intro l hd
      cases l with
      | nil => exact h0
      | cons a l =>
        by_cases h : t < a.f1
        · exact h1 a l h
        · have := mass_again (a := a) (l := l) (by omega)
          omega
    | succ d ih =>
      intro l hd
      cases l with
      | nil => exact h0
      | cons a l =>
        by_cases h : t < a.f1
        · exact h1 a l h
        · have := mass_again (a := a) (l := l) (by omega)
          exact h2 a l (by omega) (ih _ (by omega))
  exact fun l => this _ l (Nat.le_refl _)
theorem ring_ok {n t : Int} (ht : t ≤ 4095) : ∀ l : List Al, okSrt n l → okSrt t (ring t l).1 ∧ (ring t l).1.length ≤ l.length := by
  refine ring_ind ht ?_ ?_ ?_
  · intro h
    rw [ring_nil]
    exact ⟨⟨trivial, fun a ha => absurd ha (by simp)⟩, Nat.le_refl _⟩
  · intro a l hlt h
    rw [ring_stop hlt]
    refine ⟨⟨h.1, fun x hx => okA_more (h.2 x hx) ?_⟩, Nat.le_refl _⟩
    rcases List.mem_cons.1 hx with rfl | hx
    · exact hlt
    · have := ahead_iff.1 (h.1.1 x hx).1
      omega
  · intro a l hle ih h
    rw [ring_step hle ht]
    obtain ⟨k1, k2⟩ := okSrt_again h
    obtain ⟨h1, h2⟩ := ih k1
    exact ⟨h1, by simp only [List.length_cons]; omega⟩
theorem ring_cut {s t : Int} (hs : s ≤ t) (ht : t ≤ 4095) : ∀ l : List Al, ring t l = ((ring t (ring s l).1).1, (ring s l).2 ++ (ring t (ring s l).1).2) := by
  refine ring_ind (t := s) (by omega) ?_ ?_ ?_
  · simp [ring_nil]
  · intro a l h
    rw [ring_stop h]
    simp
  · intro a l h ih
    rw [ring_step (t := t) (by omega) ht, ring_step (t := s) h (by omega), ih]
    simp
def clockTick (n : Int) (l : List Al) (ticks : Int) : Int × List Al × List Int × Bool :=
  if clockOk n l = true ∧ (0 ≤ ticks ∧ ticks ≤ 500) ∧ n + ticks ≤ 4095 then (n + ticks, (ring (n + ticks) l).1, (ring (n + ticks) l).2, true) else (0, [], [], false)
theorem tick_pos {n : Int} {l : List Al} {ticks : Int} (h : clockOk n l = true) (h1 : 0 ≤ ticks) (h2 : ticks ≤ 500) (h3 : n + ticks ≤ 4095) :
    clockTick n l ticks = (n + ticks, (ring (n + ticks) l).1, (ring (n + ticks) l).2, true) ∧ clockOk (n + ticks) (ring (n + ticks) l).1 = true := by
  refine ⟨by unfold clockTick; rw [if_pos ⟨h, ⟨h1, h2⟩, h3⟩], ?_⟩
  obtain ⟨k1, k2, k3⟩ := clockOk_iff.1 h
  obtain ⟨r1, r2⟩ := ring_ok h3 l k1
  exact clockOk_iff.2 ⟨r1, by omega, by omega⟩
theorem tick_ok {n : Int} {l : List Al} {ticks : Int} (h : (clockTick n l ticks).2.2.2 = true) : clockOk n l = true ∧ (0 ≤ ticks ∧ ticks ≤ 500) ∧ n + ticks ≤ 4095 := by
  unfold clockTick at h
  split at h
  · assumption
  · cases h
/-- Time can be cut anywhere. -/
theorem tick_cut {n : Int} {l : List Al} {t k : Int} (h : (clockTick n l t).2.2.2 = true) (h0 : 0 ≤ k) (h1 : k ≤ t) :
    ∃ y a, clockTick n l k = (n + k, y, a, true) ∧ ∃ z b, clockTick (n + k) y (t - k) = (n + t, z, b, true) ∧ clockTick n l t = (n + t, z, a ++ b, true) ∧ clockOk (n + t) z = true := by
  obtain ⟨c1, c2, c3⟩ := tick_ok h
  obtain ⟨e1, o1⟩ := tick_pos (ticks := k) c1 h0 (by omega) (by omega)
  obtain ⟨e2, o2⟩ := tick_pos (ticks := t - k) o1 (by omega) (by omega) (by omega)
  obtain ⟨e3, o3⟩ := tick_pos c1 c2.1 c2.2 c3
  have e : n + k + (t - k) = n + t := by omega
  rw [e] at e2 o2
  refine ⟨_, _, e1, _, _, e2, ?_, o2⟩
  rw [e3, ring_cut (s := n + k) (t := n + t) (by omega) c3 l]
/-- Nothing rings ahead of its time. -/
theorem ring_not {t : Int} (ht : t ≤ 4095) (x : Al) (hx : t < x.f1) : ∀ l : List Al, srt l → x ∈ l → x.f0 ∉ (ring t l).2 ∧ x ∈ (ring t l).1 := by
  refine ring_ind ht ?_ ?_ ?_
  · intro _ h
    exact absurd h (by simp)
  · intro a l hlt _ h
    rw [ring_stop hlt]
    exact ⟨by simp, h⟩
  · intro a l hle ih hs h
    rw [ring_step hle ht]
    have hxl : x ∈ l := by
      rcases List.mem_cons.1 h with rfl | h
      · omega
      · exact h
    have hne := (hs.1 x hxl).2
    have hag : srt (again a l) ∧ x ∈ again a l := by
      unfold again
      split
      · exact ⟨srt_addA hs.2 (fun y hy => (hs.1 y hy).2), mem_addA.2 (.inr hxl)⟩
      · exact ⟨hs.2, hxl⟩
    obtain ⟨i1, i2⟩ := ih hag.1 hag.2
    refine ⟨?_, i2⟩
    rw [List.mem_cons]
    rintro (e | e)
    · exact hne e
    · exact i1 e
/-- .. and what is to ring rings. -/
theorem ring_does {t : Int} (ht : t ≤ 4095) (x : Al) (hx : x.f1 ≤ t) : ∀ l : List Al, srt l → x ∈ l → x.f0 ∈ (ring t l).2 := by
  refine ring_ind ht ?_ ?_ ?_
  · intro _ h
    exact absurd h (by simp)
  · intro a l hlt hs h
    rcases List.mem_cons.1 h with rfl | h
    · omega
    · have := ahead_iff.1 (hs.1 x h).1
      omega
  · intro a l hle ih hs h
    rw [ring_step hle ht]
    rcases List.mem_cons.1 h with rfl | hxl
    · exact List.mem_cons_self
    · refine List.mem_cons_of_mem _ ?_
      have hag : srt (again a l) ∧ x ∈ again a l := by
        unfold again
        split
        · exact ⟨srt_addA hs.2 (fun y hy => (hs.1 y hy).2), mem_addA.2 (.inr hxl)⟩
        · exact ⟨hs.2, hxl⟩
      exact ih hag.1 hag.2
/-- One alarm that rings again and again. -/
theorem ring_often (e : Int) (he : 1 ≤ e) (id : Int) : ∀ (d : Nat) (s t : Int), t + e ≤ 4095 → s ≤ t + e → (t - s < d * e) → ∃ u r, ring t [⟨id, s, e⟩] = ([⟨id, u, e⟩], r) ∧ (r.length : Int) = if s ≤ t then (t - s) / e + 1 else 0 := by
  intro d
  induction d with
  | zero =>
    intro s t ht hs hd
    have : t < s := by simp at hd; omega
    exact ⟨s, [], by rw [ring_stop this], by rw [if_neg (by omega)]; rfl⟩
  | succ d ih =>
    intro s t ht hs hd
    by_cases h : t < s
    · exact ⟨s, [], by rw [ring_stop h], by rw [if_neg (by omega)]; rfl⟩
    · have hd2 : t - (s + e) < (d : Int) * e := by
        have : ((d + 1 : Nat) : Int) * e = (d : Int) * e + e := by
          rw [Int.natCast_add, Int.add_mul]; simp
        omega
      obtain ⟨u, r, h1, h2⟩ := ih (s + e) t ht (by omega) hd2
      refine ⟨u, id :: r, ?_, ?_⟩
      · rw [ring_step (by show s ≤ t; omega) (by omega)]
        have : again ⟨id, s, e⟩ [] = [⟨id, s + e, e⟩] := by
          unfold again
          rw [if_pos ⟨by show 0 < e; omega, by show s + e ≤ 4095; omega⟩]
          rfl
        rw [this, h1]
      · rw [if_pos (by omega), List.length_cons, Int.natCast_add, h2]
        by_cases h3 : s + e ≤ t
        · rw [if_pos h3]
          have : (t - s) / e = (t - (s + e)) / e + 1 := by
            rw [show t - s = (t - (s + e)) + 1 * e by omega, Int.add_mul_ediv_right _ _ (by omega)]
          rw [this]; rfl
        · rw [if_neg h3]
          have : (t - s) / e = 0 := Int.ediv_eq_zero_of_lt (by omega) (by omega)
          rw [this]; rfl
end Go.Proofs.Ytlejcgnfpcngbaa.Q
