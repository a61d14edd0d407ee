/- Clocks: setting. -/
import Derived.Test.YtlejcgnfpcngbaaQClockP
import Derived.Test.YtlejcgnfpcngbaaPf0
import Derived.Test.YtlejcgnfpcngbaaPfimplClockOk
import Derived.Test.YtlejcgnfpcngbaaPfimplClockSet
import Derived.Test.YtlejcgnfpcngbaaPfimplbyTime
import Derived.Test.YtlejcgnfpcngbaaPfslicesBinarySearchFuncAlarm
namespace Go.Proofs.Ytlejcgnfpcngbaa.Q
open Go.RowKit Go.Proofs.YtlejcgnfpcngbaaW.PrintWords Go.Proofs.YtlejcgnfpcngbaaW.PrintLast Go.Proofs.YtlejcgnfpcngbaaW.PrintMore Go.Proofs.Ytlejcgnfpcngbaa.P
set_option linter.unusedVariables false
set_option linter.unusedSimpArgs false

-- the binary search
theorem byTime_eq (a b : Al) : impl_byTime.f a.f0 a.f1 a.f2 b.f0 b.f1 b.f2 = some (impl_ClockOk.byT a b) := by
  unfold impl_byTime.f impl_ClockOk.byT
  split <;> rfl
def okN (x : Al) : Prop := (0 ≤ x.f0 ∧ x.f0 ≤ 99) ∧ (0 ≤ x.f1 ∧ x.f1 ≤ 4095)
theorem byT_neg {x a : Al} (hx : okN x) (ha : okN a) : (impl_ClockOk.byT x a < 0) ↔ ahead x a = true := by
  have h := byT_ahead hx.1 hx.2 ha.1 ha.2
  rw [Bool.eq_iff_iff] at h
  simp only [decide_eq_true_eq, Bool.not_eq_true'] at h
  cases hq : ahead x a with
  | true => rw [hq] at h; simp at h; simp; omega
  | false => rw [hq] at h; simp at h; simp; omega
def mid (i j : Int) : Int := wrap64 ((IntKind.u64.wrap (wrap64 (i + j))) / 2)
theorem mid_eq {i j : Nat} (h : i < j) (hj : j ≤ 1000000) : ∃ m : Nat, mid (i : Int) (j : Int) = (m : Int) ∧ i ≤ m ∧ m < j := by
  refine ⟨(i + j) / 2, ?_, by omega, by omega⟩
  unfold mid
  rw [wrap_id (n := (i : Int) + j) (by omega) (by omega)]
  have e : IntKind.u64.wrap ((i : Int) + j) = (i : Int) + j := by
    simp only [IntKind.wrap_u64]
    omega
  rw [e, wrap_id (by omega) (by omega)]
  omega
theorem bs_l (l : List Al) (a : Al) (hl : l.length ≤ 1000000) (hN : ∀ x ∈ l, okN x) (ha : okN a) (hmono : ∀ (p q : Nat) (x y : Al), p < q → l[p]? = some x → l[q]? = some y → ahead y a = true → ahead x a = true) :
    ∀ (d i j : Nat), j - i ≤ d → i ≤ j → j ≤ l.length → (∀ p x, p < i → l[p]? = some x → ahead x a = true) → (∀ p x, j ≤ p → l[p]? = some x → ahead x a = false) →
    ∃ (n : Nat) (b : Bool), Ev (fun k => slices_BinarySearchFunc_Alarm.l0 k l (l.length : Int) (i : Int) (j : Int) a.f0 a.f1 a.f2) ((n : Int), b) ∧ n ≤ l.length ∧ (∀ p x, p < n → l[p]? = some x → ahead x a = true) ∧ (∀ p x, n ≤ p → l[p]? = some x → ahead x a = false) := by
  intro d
  induction d with
  | zero =>
    intro i j hd hij hjl h1 h2
    have hji : j = i := by omega
    subst hji
    by_cases hlt : j < l.length
    · refine ⟨j, _, Ev.step (fun k => by simp only [slices_BinarySearchFunc_Alarm.l0]; rfl) (Ev.neg (by omega) (Ev.pos (by omega) (Ev.pos (by omega) (Ev.pos (by omega) (Ev.bind (Ev.const (byTime_eq _ a)) (Ev.pure rfl)))))), by omega, h1, h2⟩
    · exact ⟨j, false, Ev.step (fun k => by simp only [slices_BinarySearchFunc_Alarm.l0]; rfl) (Ev.neg (by omega) (Ev.neg (by omega) (Ev.pure rfl))), by omega, h1, h2⟩
  | succ d ih =>
    intro i j hd hij hjl h1 h2
    by_cases hlt : i < j
    · obtain ⟨m, hm, hm1, hm2⟩ := mid_eq hlt (by omega)
      have hml : m < l.length := by omega
      obtain ⟨y, hy⟩ : ∃ y, l[m]? = some y := ⟨_, List.getElem?_eq_getElem hml⟩
      have hym : y ∈ l := List.mem_of_getElem? hy
      have hx : rd_T62 l (m : Int) = y := by unfold rd_T62; rw [Int.toNat_natCast, List.getD_eq_getElem?_getD, hy]; rfl
      have hm' : wrap64 ((IntKind.u64.wrap (wrap64 ((i : Int) + (j : Int)))) / 2) = (m : Int) := hm
      by_cases ht : ahead y a = true
      · obtain ⟨n, b, e, r1, r2, r3⟩ := ih (m + 1) j (by omega) (by omega) hjl (fun p x hp hpx => by
            rcases Nat.lt_or_ge p m with h | h
            · exact hmono p m x y h hpx hy ht
            · have : p = m := by omega
              subst this
              rw [hy] at hpx
              injection hpx with hpx
              subst hpx
              exact ht) h2
        refine ⟨n, b, Ev.step (fun k => by simp only [slices_BinarySearchFunc_Alarm.l0]; rfl) ?_, r1, r2, r3⟩
        rw [hm', hx]
        refine Ev.pos (by omega) (Ev.pos (by omega) (Ev.pos (by omega) (Ev.bind (Ev.const (byTime_eq y a)) (Ev.pos ((byT_neg (hN _ hym) ha).2 ht) ?_))))
        rw [wrap_id (n := (m : Int) + 1) (by omega) (by omega)]
        exact e
      · have hf : ahead y a = false := by simpa using ht
        obtain ⟨n, b, e, r1, r2, r3⟩ := ih i m (by omega) hm1 (by omega) h1 (fun p x hp hpx => by
            rcases Nat.eq_or_lt_of_le hp with h | h
            · subst h
              rw [hy] at hpx
              injection hpx with hpx
              subst hpx
              exact hf
            · cases hz : ahead x a with
              | false => rfl
              | true => exact absurd (hmono m p y x h hy hpx hz) ht)
        refine ⟨n, b, Ev.step (fun k => by simp only [slices_BinarySearchFunc_Alarm.l0]; rfl) ?_, r1, r2, r3⟩
        rw [hm', hx]
        exact Ev.pos (by omega) (Ev.pos (by omega) (Ev.pos (by omega) (Ev.bind (Ev.const (byTime_eq y a)) (Ev.neg (fun h => ht ((byT_neg (hN _ hym) ha).1 h)) e))))
    · exact ih i j (by omega) hij hjl h1 h2
theorem addA_at (a : Al) : ∀ (l : List Al) (n : Nat), n ≤ l.length → (∀ x ∈ l, x.f0 ≠ a.f0) → (∀ p x, p < n → l[p]? = some x → ahead x a = true) → (∀ p x, n ≤ p → l[p]? = some x → ahead x a = false) → l.take n ++ [a] ++ l.drop n = addA l a := by
  intro l
  induction l with
  | nil => intro n hn _ _ _; simp [addA]
  | cons x l ih =>
    intro n hn hne h1 h2
    cases n with
    | zero =>
      have hx := h2 0 x (Nat.le_refl _) rfl
      have : ahead a x = true := (ahead_tot (hne x List.mem_cons_self).symm).elim id (fun h => by rw [hx] at h; cases h)
      simp [addA, this]
    | succ n =>
      have hx := h1 0 x (by omega) rfl
      have := ih n (by simpa using hn) (fun y hy => hne y (List.mem_cons_of_mem _ hy)) (fun p y hp hy => h1 (p + 1) y (by omega) (by simpa using hy)) (fun p y hp hy => h2 (p + 1) y (by omega) (by simpa using hy))
      simp [addA, ahead_asym hx, ← this]
theorem srt_get : ∀ {l : List Al}, srt l → ∀ (p q : Nat) (x y : Al), p < q → l[p]? = some x → l[q]? = some y → ahead x y = true := by
  intro l
  induction l with
  | nil => intro h p q x y _ hx; simp at hx
  | cons z l ih =>
    intro h p q x y hp hx hy
    cases q with
    | zero => omega
    | succ q =>
      have hy' : l[q]? = some y := by simpa using hy
      cases p with
      | zero =>
        have : z = x := by simpa using hx
        subst this
        exact (h.1 _ (List.mem_of_getElem? hy')).1
      | succ p => exact ih h.2 p q x y (by omega) (by simpa using hx) hy'
/-- The search and the insertion together: the alarm goes to its place. -/
theorem put_ev (l : List Al) (a : Al) (hs : srt l) (hl : l.length ≤ 1000000) (hN : ∀ x ∈ l, okN x) (ha : okN a) (hne : ∀ x ∈ l, x.f0 ≠ a.f0) :
    ∃ (n : Nat) (b : Bool), Ev (fun k => slices_BinarySearchFunc_Alarm.f k l a.f0 a.f1 a.f2) ((n : Int), b) ∧ n ≤ l.length ∧ l.take n ++ [a] ++ l.drop n = addA l a := by
  obtain ⟨n, b, e, h1, h2, h3⟩ := bs_l l a hl hN ha (fun p q x y hp hx hy h => ahead_trans (srt_get hs p q x y hp hx hy) h) l.length 0 l.length (by omega) (Nat.zero_le _) (Nat.le_refl _) (fun p x hp _ => by omega) (fun p x hp hx => by have := (List.getElem?_eq_some_iff.1 hx).1; omega)
  exact ⟨n, b, e, h1, addA_at a l n h1 hne h2 h3⟩

-- setting
theorem implLess (id : Int) (l : List Al) (hs : srt l) : impl_ClockSet.less l id = lessA l id := by
  unfold impl_ClockSet.less
  rcases idx_less id l 0 hs with ⟨h1, h2⟩ | ⟨k, h1, h2, h3⟩
  · rw [h1, if_neg (by decide), h2]
  · rw [h1, h3, if_pos (by omega)]
    simp
theorem lessA_len (l : List Al) (id : Int) : (lessA l id).length ≤ l.length := List.length_filter_le _ _
theorem can_iff {n : Int} {l : List Al} {id ticks every : Int} (ht : -9223372036854775808 ≤ ticks ∧ ticks ≤ 9223372036854775807) :
    impl_ClockSet.can n l id ticks every = true ↔ clockOk n l = true ∧ (0 ≤ id ∧ id ≤ 99) ∧ (1 ≤ ticks ∧ ticks ≤ 4095 - n) ∧ (0 ≤ every ∧ every ≤ 99) := by
  unfold impl_ClockSet.can
  rw [okVal, inB_eq, inB_eq, inB_eq]
  simp only [Bool.and_eq_true, inR_iff, Bool.not_eq_true', decide_eq_false_iff_not]
  constructor
  · rintro ⟨h1, h2, h3, h4, h5⟩
    have hn := (clockOk_iff.1 h1).2.1
    rw [wrap_id (by omega) (by omega)] at h5
    exact ⟨h1, h2, by omega, h4⟩
  · rintro ⟨h1, h2, h3, h4⟩
    have hn := (clockOk_iff.1 h1).2.1
    rw [wrap_id (by omega) (by omega)]
    exact ⟨h1, h2, by omega, h4, by omega⟩
theorem okN_of {n : Int} {l : List Al} (h : okSrt n l) (hn : 0 ≤ n) : ∀ x ∈ l, okN x := fun x hx => by
  have := h.2 x hx
  exact ⟨this.1, by have := this.2.1; omega, this.2.1.2⟩
theorem implSet (n : Int) (l : List Al) (id ticks every : Int) (ht : -9223372036854775808 ≤ ticks ∧ ticks ≤ 9223372036854775807) : Ev (fun k => impl_ClockSet.f k n l id ticks every) (clockSet n l id ticks every) := by
  unfold impl_ClockSet.f clockSet
  by_cases hc : impl_ClockSet.can n l id ticks every = true
  · obtain ⟨h1, h2, h3, h4⟩ := (can_iff ht).1 hc
    obtain ⟨k1, k2, k3⟩ := clockOk_iff.1 h1
    refine Ev.pos hc ?_
    rw [implLess id l k1.1]
    have hlen := lessA_len l id
    by_cases h12 : (lessA l id).length = 12
    · exact Ev.pos (by omega) (Ev.pure (by rw [if_neg (fun h => by have := h.2.2.2.2; omega)]))
    · refine Ev.neg (by omega) ?_
      rw [if_pos ⟨h1, h2, h3, h4, by omega⟩, wrap_id (n := n + ticks) (by omega) (by omega)]
      obtain ⟨m, b, e, r1, r2⟩ := put_ev (lessA l id) ⟨id, n + ticks, every⟩ (okSrt_less id k1).1 (by omega) (okN_of (okSrt_less id k1) k2.1) ⟨h2, by show 0 ≤ n + ticks; omega, by show n + ticks ≤ 4095; omega⟩ (fun x hx => less_ne hx)
      refine Ev.bind e (Ev.pos (by simp only; omega) (Ev.pure ?_))
      rw [← r2]
      simp
  · refine Ev.neg hc (Ev.pure ?_)
    rw [if_neg (fun h => hc ((can_iff ht).2 ⟨h.1, h.2.1, h.2.2.1, h.2.2.2.1⟩))]
end Go.Proofs.Ytlejcgnfpcngbaa.Q
