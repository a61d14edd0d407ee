/- Clocks without Go and memory: which are valid, by the program and by the reference. -/
import Derived.Test.YtlejcgnfpcngbaaQLoops
import Derived.Test.YtlejcgnfpcngbaaPf0
import Derived.Test.YtlejcgnfpcngbaaPfimplClockOk
import Derived.Test.YtlejcgnfpcngbaaPfspecClockOk
import Derived.Test.YtlejcgnfpcngbaaPfspecl19Ahead
import Derived.Test.YtlejcgnfpcngbaaPfspecl19Time
import Derived.Test.YtlejcgnfpcngbaaPfspecl6In
namespace Go.Proofs.Ytlejcgnfpcngbaa.Q
open Go.RowKit Go.Proofs.YtlejcgnfpcngbaaW.PrintWords Go.Proofs.YtlejcgnfpcngbaaW.PrintLast Go.Proofs.YtlejcgnfpcngbaaW.PrintMore Go.Proofs.Ytlejcgnfpcngbaa.P
set_option linter.unusedVariables false
set_option linter.unusedSimpArgs false

abbrev Al := S62
def inR (x lo hi : Int) : Bool := decide (lo ≤ x) && decide (x ≤ hi)
theorem inR_iff {x lo hi : Int} : inR x lo hi = true ↔ lo ≤ x ∧ x ≤ hi := by simp [inR]
theorem inR_not {x lo hi : Int} : inR x lo hi = false ↔ ¬ (lo ≤ x ∧ x ≤ hi) := by
  rw [← inR_iff]; simp
def ahead (a b : Al) : Bool := decide (a.f1 < b.f1) || (decide (a.f1 = b.f1) && decide (a.f0 < b.f0))
def good (n : Int) (seen : List Int) (prev : Option Al) (a : Al) : Bool :=
  inR a.f0 0 99 && inR a.f1 (n + 1) 4095 && inR a.f2 0 99 && !seen.contains a.f0 && (match prev with | none => true | some p => ahead p a)
def goodL (n : Int) : List Int → Option Al → List Al → Bool
  | _, _, [] => true
  | seen, prev, a :: l => good n seen prev a && goodL n (a.f0 :: seen) (some a) l
def clockOk (n : Int) (l : List Al) : Bool := goodL n [] none l && (inR n 0 4095 && decide ((l.length : Int) ≤ 12))

-- the program's
theorem inB_eq (x lo hi : Int) : impl_ClockOk.inB x lo hi = inR x lo hi := by
  unfold impl_ClockOk.inB inR
  by_cases h : x ≥ lo
  · have : lo ≤ x := h
    simp [h, this]
  · have : ¬ lo ≤ x := h
    simp [h, this]
theorem byT_ahead {p a : Al} (hp0 : 0 ≤ p.f0 ∧ p.f0 ≤ 99) (hp1 : 0 ≤ p.f1 ∧ p.f1 ≤ 4095) (ha0 : 0 ≤ a.f0 ∧ a.f0 ≤ 99) (ha1 : 0 ≤ a.f1 ∧ a.f1 ≤ 4095) : decide (impl_ClockOk.byT p a ≥ 0) = !ahead p a := by
  unfold impl_ClockOk.byT ahead
  by_cases h : p.f1 = a.f1
  · rw [if_pos h, wrap_id (by omega) (by omega)]
    have h1 : ¬ p.f1 < a.f1 := by omega
    by_cases h2 : p.f0 < a.f0
    · have : ¬ p.f0 - a.f0 ≥ 0 := by omega
      simp [h, h1, h2, this]
    · have : p.f0 - a.f0 ≥ 0 := by omega
      have h3 : a.f0 ≤ p.f0 := by omega
      simp [h, h1, h2, h3]
  · rw [if_neg h, wrap_id (by omega) (by omega)]
    by_cases h2 : p.f1 < a.f1
    · have : ¬ p.f1 - a.f1 ≥ 0 := by omega
      simp [h, h2, this]
    · have : p.f1 - a.f1 ≥ 0 := by omega
      have h3 : a.f1 ≤ p.f1 := by omega
      simp [h, h2, h3]
theorem bad_good {n : Int} (hn : 0 ≤ n ∧ n ≤ 4095) (seen : List Int) (prev : Option Al) (hp : ∀ p, prev = some p → (0 ≤ p.f0 ∧ p.f0 ≤ 99) ∧ (n + 1 ≤ p.f1 ∧ p.f1 ≤ 4095)) (a : Al) : impl_ClockOk.bad n seen prev a = !good n seen prev a := by
  unfold impl_ClockOk.bad good
  rw [inB_eq, inB_eq, inB_eq, wrap_id (n := n + 1) (by omega) (by omega)]
  cases h0 : inR a.f0 0 99 with
  | false => simp
  | true =>
    cases h1 : inR a.f1 (n + 1) 4095 with
    | false => simp
    | true =>
      cases h2 : inR a.f2 0 99 with
      | false => simp
      | true =>
        cases h3 : seen.contains a.f0 with
        | true => simp
        | false =>
          cases prev with
          | none => simp
          | some p =>
            obtain ⟨p0, p1⟩ := hp p rfl
            have a0 := inR_iff.1 h0
            have a1 := inR_iff.1 h1
            have := byT_ahead p0 (by omega) a0 (a := a) (by omega)
            simp only [this]
            simp
theorem go_good {n : Int} (hn : 0 ≤ n ∧ n ≤ 4095) : ∀ (l : List Al) (seen : List Int) (prev : Option Al), (∀ p, prev = some p → (0 ≤ p.f0 ∧ p.f0 ≤ 99) ∧ (n + 1 ≤ p.f1 ∧ p.f1 ≤ 4095)) → impl_ClockOk.go n seen prev l = goodL n seen prev l := by
  intro l
  induction l with
  | nil => intro seen prev _; rfl
  | cons a l ih =>
    intro seen prev hp
    simp only [impl_ClockOk.go, goodL]
    rw [bad_good hn seen prev hp a]
    cases hg : good n seen prev a with
    | false => simp
    | true =>
      have hq : inR a.f0 0 99 = true ∧ inR a.f1 (n + 1) 4095 = true := by
        unfold good at hg
        simp only [Bool.and_eq_true] at hg
        exact ⟨hg.1.1.1.1, hg.1.1.1.2⟩
      simp only [Bool.not_true, Bool.false_eq_true, if_false, Bool.true_and]
      exact ih _ _ (fun p e => by injection e with e; subst e; exact ⟨inR_iff.1 hq.1, inR_iff.1 hq.2⟩)
theorem implClockOk (n : Int) (l : List Al) : impl_ClockOk.f n l = some (clockOk n l) := by
  unfold impl_ClockOk.f impl_ClockOk.val clockOk
  rw [inB_eq]
  cases h : inR n 0 4095 with
  | false => simp
  | true => rw [go_good (inR_iff.1 h) l [] none (fun p e => by cases e)]

-- the reference's
theorem l6In_eq (x lo hi : Int) : spec_l6In.f x lo hi = some (inR x lo hi) := by
  unfold spec_l6In.f inR
  by_cases h : x ≥ lo
  · have : lo ≤ x := h
    simp [h, this]
  · have : ¬ lo ≤ x := h
    simp [h, this]
theorem l19Time_eq (x : Int) : spec_l19Time.f x = some (inR x 0 4095) := by
  unfold spec_l19Time.f
  rw [l6In_eq]
  rfl
theorem l19Ahead_eq (a b : Al) : spec_l19Ahead.f a.f0 a.f1 a.f2 b.f0 b.f1 b.f2 = some (ahead a b) := by
  unfold spec_l19Ahead.f ahead
  by_cases h : a.f1 < b.f1
  · simp [h]
  · by_cases h2 : a.f1 = b.f1
    · simp [h, h2]
    · simp [h, h2]
def goodS (n : Int) (seen : List Int) (prev : Option Al) (a : Al) : Bool :=
  inR a.f0 0 99 && (inR a.f1 0 4095 && (!decide (a.f1 ≤ n) && (inR a.f2 0 99 && ((match prev with | none => true | some p => ahead p a) && !seen.contains a.f0))))
def goodSL (n : Int) : List Int → Option Al → List Al → Bool
  | _, _, [] => true
  | seen, prev, a :: l => goodS n seen prev a && goodSL n (a.f0 :: seen) (some a) l
theorem goodS_eq {n : Int} (hn : 0 ≤ n) (seen : List Int) (prev : Option Al) (a : Al) : goodS n seen prev a = good n seen prev a := by
  unfold goodS good
  have : (inR a.f1 0 4095 && !decide (a.f1 ≤ n)) = inR a.f1 (n + 1) 4095 := by
    rw [Bool.eq_iff_iff]
    simp only [Bool.and_eq_true, inR_iff, Bool.not_eq_true', decide_eq_false_iff_not]
    omega
  rw [← this]
  cases inR a.f0 0 99 <;> cases inR a.f1 0 4095 <;> cases decide (a.f1 ≤ n) <;> cases inR a.f2 0 99 <;> cases seen.contains a.f0 <;> simp
theorem goodSL_eq {n : Int} (hn : 0 ≤ n) : ∀ (l : List Al) (seen : List Int) (prev : Option Al), goodSL n seen prev l = goodL n seen prev l := by
  intro l
  induction l with
  | nil => intro _ _; rfl
  | cons a l ih => intro seen prev; simp only [goodSL, goodL]; rw [goodS_eq hn, ih]
theorem specOk_in (n : Int) (l pre post : List Al) (a : Al) (hl : l = pre ++ a :: post) (hn : l.length ≤ 9223372036854775807) (r : Bool) (h : if (pre.map (fun x => x.f0)).contains a.f0 = true then r = false else Ev (fun k => spec_ClockOk.l0 k ((pre.length + 1 : Nat) : Int) n l) r) :
    ∀ rest q : List Al, pre = q ++ rest → (q.map (fun x => x.f0)).contains a.f0 = false → Ev (fun k => spec_ClockOk.l1 k (pre.length : Int) (q.length : Int) n l a.f0 a.f1 a.f2) r := by
  have hlt : pre.length < l.length := by rw [hl]; simp
  intro rest
  induction rest with
  | nil =>
    intro q hq hc
    rw [List.append_nil] at hq
    subst hq
    rw [if_neg (by rw [hc]; decide)] at h
    refine Ev.step (fun k => by simp only [spec_ClockOk.l1]; rfl) ?_
    refine Ev.neg (by omega) ?_
    rw [lsucc_wrap hlt hn]
    exact h
  | cons x rest ih =>
    intro q hq hc
    have hql : q.length < pre.length := by rw [hq]; simp
    have hx : rd_T62 l (q.length : Int) = x := by
      unfold rd_T62
      rw [hl, hq, Int.toNat_natCast, List.append_assoc, List.cons_append, lgetD_prefix]
    refine Ev.step (fun k => by simp only [spec_ClockOk.l1]; rfl) ?_
    rw [hx]
    refine Ev.pos (by omega) (Ev.pos (by omega) (Ev.pos (by omega) ?_))
    by_cases he : x.f0 = a.f0
    · rw [if_pos (by rw [hq]; simp [he])] at h
      exact Ev.pos he (Ev.pure h.symm)
    · refine Ev.neg he ?_
      rw [lsucc_wrap (Nat.lt_trans hql hlt) hn]
      have := ih (q ++ [x]) (by rw [hq]; simp) (by
        rw [List.map_append, List.contains_append, hc]
        simp
        exact fun e => he e.symm)
      simpa using this
theorem specOk_l (n : Int) (l : List Al) (hn : l.length ≤ 9223372036854775807) : ∀ rest pre : List Al, l = pre ++ rest →
    Ev (fun k => spec_ClockOk.l0 k (pre.length : Int) n l) (goodSL n (pre.map (fun x => x.f0)).reverse pre.getLast? rest && (inR n 0 4095 && decide ((l.length : Int) ≤ 12))) := by
  intro rest
  induction rest with
  | nil =>
    intro pre hl
    refine Ev.step (fun k => by simp only [spec_ClockOk.l0]; rfl) ?_
    refine Ev.neg (by rw [hl]; simp) (Ev.bind (Ev.const (l19Time_eq n)) ?_)
    cases h : inR n 0 4095 with
    | true => exact Ev.pos (by trivial) (Ev.pure (by simp [goodSL]))
    | false => exact Ev.neg (by decide) (Ev.pure (by simp))
  | cons a rest ih =>
    intro pre hl
    have hlt : pre.length < l.length := by rw [hl]; simp
    have hx : rd_T62 l (pre.length : Int) = a := by unfold rd_T62; rw [hl, Int.toNat_natCast, lgetD_prefix]
    refine Ev.step (fun k => by simp only [spec_ClockOk.l0]; rfl) ?_
    rw [hx]
    refine Ev.pos (by omega) (Ev.pos (by omega) ?_)
    simp only [goodSL, goodS]
    have out : ∀ (r : Bool), r = false → Ev (fun k => spec_ClockOk.j1 k (pre.length : Int) true n l a.f0 a.f1 a.f2) r := fun r hr =>
      Ev.step (fun k => by simp only [spec_ClockOk.j1]; rfl) (Ev.pos (by trivial) (Ev.pure hr.symm))
    refine Ev.bind (Ev.const (l6In_eq _ _ _)) ?_
    cases h0 : inR a.f0 0 99 with
    | false => exact Ev.neg (by decide) (out _ (by simp))
    | true =>
      refine Ev.pos (by trivial) (Ev.bind (Ev.const (l19Time_eq _)) ?_)
      cases h1 : inR a.f1 0 4095 with
      | false => exact Ev.neg (by decide) (out _ (by simp))
      | true =>
        refine Ev.pos (by trivial) ?_
        by_cases h2 : a.f1 ≤ n
        · exact Ev.pos h2 (out _ (by simp [h2]))
        · refine Ev.neg h2 (Ev.bind (Ev.const (l6In_eq _ _ _)) ?_)
          cases h3 : inR a.f2 0 99 with
          | false => exact Ev.neg (by decide) (out _ (by simp))
          | true =>
            refine Ev.pos (by trivial) ?_
            have tail : ∀ r : Bool, (r = (!(pre.map (fun x => x.f0)).contains a.f0 && goodSL n (a.f0 :: (pre.map (fun x => x.f0)).reverse) (some a) rest && (inR n 0 4095 && decide ((l.length : Int) ≤ 12)))) → Ev (fun k => spec_ClockOk.j1 k (pre.length : Int) false n l a.f0 a.f1 a.f2) r := by
              intro r hr
              refine Ev.step (fun k => by simp only [spec_ClockOk.j1]; rfl) (Ev.neg (by decide) ?_)
              refine specOk_in n l pre rest a hl hn r ?_ pre [] rfl rfl
              split
              · rename_i hc
                rw [hr, hc]
                simp
              · rename_i hc
                have hc' : (pre.map (fun x => x.f0)).contains a.f0 = false := by simpa using hc
                have := ih (pre ++ [a]) (by rw [hl]; simp)
                rw [hr, hc']
                simp only [List.length_append, List.length_cons, List.length_nil, Nat.zero_add, List.map_append, List.map_cons, List.map_nil, List.reverse_append, List.reverse_cons, List.reverse_nil, List.nil_append, List.cons_append, List.getLast?_append, List.getLast?_singleton] at this
                simpa using this
            have hrev : (pre.map (fun x => x.f0)).reverse.contains a.f0 = (pre.map (fun x => x.f0)).contains a.f0 := by simp [List.contains_eq_mem]
            rw [hrev]
            rcases List.eq_nil_or_concat pre with hp | ⟨q, p, hp⟩
            · refine Ev.neg (by rw [hp]; simp) (tail _ ?_)
              subst hp
              simp [h2]
            · have hp' : pre = q ++ [p] := by rw [hp]; simp
              have hpl : pre.length = q.length + 1 := by rw [hp']; simp
              have e1 : wrap64 ((pre.length : Int) - 1) = (q.length : Int) := by rw [wrap_id (by omega) (by omega)]; omega
              have hy : rd_T62 l (q.length : Int) = p := by unfold rd_T62; rw [hl, hp', Int.toNat_natCast, List.append_assoc, List.singleton_append, lgetD_prefix]
              rw [e1, hy]
              have hlast : pre.getLast? = some p := by rw [hp']; simp
              rw [hlast]
              refine Ev.pos (by omega) (Ev.pos (by omega) (Ev.pos (by omega) (Ev.bind (Ev.const (l19Ahead_eq p a)) ?_)))
              cases h4 : ahead p a with
              | false => exact out _ (by simp only [h4]; simp)
              | true => exact tail _ (by simp only [h4]; simp [h2])
theorem specClockOk (n : Int) (l : List Al) (hn : l.length ≤ 9223372036854775807) : Ev (fun k => spec_ClockOk.f k n l) (clockOk n l) := by
  unfold spec_ClockOk.f
  refine Ev.cast (specOk_l n l hn l [] rfl) ?_
  unfold clockOk
  cases h : inR n 0 4095 with
  | false => simp
  | true => rw [goodSL_eq (inR_iff.1 h).1]; rfl

end Go.Proofs.Ytlejcgnfpcngbaa.Q
