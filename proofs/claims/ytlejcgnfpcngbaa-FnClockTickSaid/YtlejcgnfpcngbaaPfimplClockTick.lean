-- printed by this session's own driver (wip/qd.py) out of the translation; Lean checks it
import Derived.Test.YtlejcgnfpcngbaaPf0
import Derived.Test.YtlejcgnfpcngbaaPfimplin
import Derived.Test.YtlejcgnfpcngbaaPfimplClockOk
import Derived.Test.YtlejcgnfpcngbaaPfslicesCloneAlarm
import Derived.Test.YtlejcgnfpcngbaaPfslicesBinarySearchFuncAlarm
import Derived.Test.YtlejcgnfpcngbaaPfimplClockput
import Derived.Test.YtlejcgnfpcngbaaQCopy
namespace Go.Proofs.Ytlejcgnfpcngbaa.P
open Go.RowKit Go.Proofs.YtlejcgnfpcngbaaW.PrintWords Go.Proofs.YtlejcgnfpcngbaaW.PrintLast Go.Proofs.YtlejcgnfpcngbaaW.PrintMore
attribute [local go_sem] max2_int min2_int max_two min_two max_three min_three max_four min_four Q.cell_set_map   -- for this text's walks alone
set_option linter.unusedVariables false
set_option linter.unusedSimpArgs false

/-! ### impl_ClockTick: function 32 -/
-- IMPORT Derived.Test.YtlejcgnfpcngbaaQCopy
def impl_ClockTick.can (n : Int) (l : List S62) (a1 : Int) : Bool := impl_ClockOk.val n l && (impl_ClockOk.inB a1 0 500 && !decide (wrap64 (n + a1) > 4095))
def impl_ClockTick.l0 : Nat → Int → List S62 → List Int → Option (List S62 × List Int)
  | 0, _, _, _ => none
  | k + 1, t, l, rg => match l with
    | [] => some ([], rg)
    | a :: l => if a.f1 ≤ t then
        (if rg.length < 1000000000 then
          (if 0 < a.f2 then
            (if wrap64 (a.f1 + a.f2) ≤ 4095 then (slices_BinarySearchFunc_Alarm.f k l a.f0 (wrap64 (a.f1 + a.f2)) a.f2).bind fun q => (if 0 ≤ q.1 ∧ q.1 ≤ l.length then impl_ClockTick.l0 k t (l.take q.1.toNat ++ [⟨a.f0, wrap64 (a.f1 + a.f2), a.f2⟩] ++ l.drop q.1.toNat) (rg ++ [a.f0]) else none)
             else impl_ClockTick.l0 k t l (rg ++ [a.f0]))
           else impl_ClockTick.l0 k t l (rg ++ [a.f0]))
         else none)
      else some (a :: l, rg)
def impl_ClockTick.f (k : Nat) (a0_0 : Int) (l0_1 : List S62) (a1 : Int) : Option (Int × List S62 × List Int × Bool) :=
  if impl_ClockTick.can a0_0 l0_1 a1 = true then (impl_ClockTick.l0 k (wrap64 (a0_0 + a1)) l0_1 []).bind fun q => some (wrap64 (a0_0 + a1), q.1, q.2, true) else some (0, [], [], false)
theorem impl_ClockTick.mono_l : ∀ k t l rg, LeO (impl_ClockTick.l0 k t l rg) (impl_ClockTick.l0 (k + 1) t l rg)
  | 0, t, l, rg => fun r h => by simp [impl_ClockTick.l0] at h
  | k + 1, t, l, rg => by
    cases l with
    | nil => exact LeO.refl _
    | cons a l =>
      unfold impl_ClockTick.l0
      refine LeO.ite (LeO.ite (LeO.ite (LeO.ite (LeO.bind (slices_BinarySearchFunc_Alarm.mono _ _ _ _ _) (fun q => LeO.ite (impl_ClockTick.mono_l k _ _ _) (LeO.none _))) (impl_ClockTick.mono_l k _ _ _)) (impl_ClockTick.mono_l k _ _ _)) (LeO.none _)) (LeO.refl _)
theorem impl_ClockTick.mono : ∀ a0 a1 a2 k, LeO (impl_ClockTick.f k a0 a1 a2) (impl_ClockTick.f (k + 1) a0 a1 a2) := by
  intro a0 a1 a2 k
  unfold impl_ClockTick.f
  exact LeO.ite (LeO.bind (impl_ClockTick.mono_l _ _ _ _) (fun _ => LeO.refl _)) (LeO.refl _)
theorem impl_ClockTick.bel {w w' : World} (h : Drawn0 w w') : Below w.heap.size w w' := by
  obtain ⟨n, rfl⟩ := h
  exact pw_below_drewN (Below.refl _ _) n
theorem impl_ClockTick.len {n : Int} {l : List S62} (h : impl_ClockOk.val n l = true) : l.length ≤ 12 := by
  unfold impl_ClockOk.val at h
  simp only [Bool.and_eq_true, decide_eq_true_eq] at h
  omega
theorem impl_ClockTick.keepRG {w w' : World} {B pb : Nat} {row : Option Nat} {v : Value} {xs : List Int} {cs : Array Value} (h : Kd.R (Kd.int .i64) 3 w B (fun _ => True) v xs) (m : impl_Clock_put.Mv w w' pb row) (hp : w.heap[pb]? = some (.cells cs 26 (0, 0))) (hr : ∀ q, row = some q → ∃ cells, w.heap[q]? = some (.cells cells 62 (0, 0))) : Kd.R (Kd.int .i64) 3 w' B (fun _ => True) v xs :=
  Kd.R_mono (Kd.R_step (Kd.R_bound h) (fun q hq hlt => by
    obtain ⟨_, _, _, e, he, cells, hc⟩ := hq
    have he3 : e = 3 := by
      rcases List.mem_cons.1 he with he | he
      · exact he
      · exact absurd he (by show e ∉ ([] : List Nat); simp)
    subst he3
    refine m.block q hlt (fun e2 => ?_) (fun e2 => ?_)
    · subst e2
      rw [hp] at hc
      injection hc with hc
      injection hc with _ hc
      cases hc
    · obtain ⟨c2, h2⟩ := hr q e2.symm
      rw [h2] at hc
      injection hc with hc
      injection hc with _ hc
      cases hc)) (fun _ _ => trivial)
theorem impl_ClockTick.head {w : World} {B : Nat} {a : S62} {l : List S62} {inner : List Value} {g off c : Nat} (h : QRow w B 62 3 (.slice (some ⟨g, off * 3, none⟩) (l.length + 1) c) (l.length + 1) inner) (hr : ∀ W B okk, Reps (k62.M W B okk) 3 (a :: l) inner) :
    w.cell? ⟨g, off * 3, none⟩ = some (.int .i64 a.f0) ∧ w.cell? ⟨g, off * 3 + 1, none⟩ = some (.int .i64 a.f1) ∧ w.cell? ⟨g, off * 3 + 2, none⟩ = some (.int .i64 a.f2) := by
  have hQ : Kd.Q k62 62 w B (fun _ => True) (.slice (some ⟨g, off * 3, none⟩) (a :: l).length c) (a :: l) := ⟨fun _ _ => trivial, inner, h, hr _ _ _⟩
  obtain ⟨ad, e, h0, h1, h2⟩ := at_T62 (Kd.Q_reads' hQ).2.2 0 (by omega) (by simp only [List.length_cons]; omega)
  injection e with e
  subst e
  have e0 : (⟨g, off * 3, none⟩ : Addr).add (Int.toNat 0 * 3) = ⟨g, off * 3, none⟩ := add_at g (off * 3) 0
  rw [e0] at h0 h1 h2
  exact ⟨h0, h1, h2⟩
set_option maxHeartbeats 8000000 in
set_option maxRecDepth 100000 in
/-- What can't tick. -/
theorem impl_ClockTick.cannot (a0_0 : Int) (A0_1 : Option Addr) (c0_1 : Nat) (l0_1 : List S62) (a1 : Int) (w : World) (hr0_1 : Kd.C k62 w A0_1 l0_1.length l0_1) (hc0_1 : l0_1.length ≤ c0_1) (h : impl_ClockTick.can a0_0 l0_1 a1 = false) :
    Calls Try.prog 32 #[.agg #[.int .i64 a0_0, .slice A0_1 l0_1.length c0_1], .int .i64 a1] w fun e w' => ∃ v1_ v2_ : Value, e = .returned (.tuple #[.agg #[.int .i64 0, v1_], v2_, .bool false]) ∧ Kd.R k62 62 w' w.heap.size (fun _ => True) v1_ [] ∧ Kd.R (Kd.int .i64) 3 w' w.heap.size (fun _ => True) v2_ [] ∧ Below w.heap.size w w' := by
  have HR := Aside0.mk hr0_1
  have HC := Aside0.mk hc0_1
  clear hr0_1 hc0_1
  have HB := below_alloc (below_alloc (Below.refl w.heap.size w) (.cells #[.int .i64 a0_0, .slice A0_1 l0_1.length c0_1] 26)) (.cells #[.int .i64 0, .slice none 0 0] 26)
  have X : ((w.alloc (.cells #[.int .i64 a0_0, .slice A0_1 l0_1.length c0_1] 26)).alloc (.cells #[.int .i64 0, .slice none 0 0] 26)).heap[w.heap.size]? = some (.cells #[.int .i64 a0_0, .slice A0_1 l0_1.length c0_1] 26 (0, 0)) := blk_alloc (blk_new w _) _
  have Z : ((w.alloc (.cells #[.int .i64 a0_0, .slice A0_1 l0_1.length c0_1] 26)).alloc (.cells #[.int .i64 0, .slice none 0 0] 26)).heap[w.heap.size + 1]? = some (.cells #[.int .i64 0, .slice none 0 0] 26 (0, 0)) := by have := blk_new (w.alloc (.cells #[.int .i64 a0_0, .slice A0_1 l0_1.length c0_1] 26)) (.cells #[.int .i64 0, .slice none 0 0] 26); simpa using this
  have hokf : impl_ClockOk.f a0_0 l0_1 = some (impl_ClockOk.val a0_0 l0_1) := rfl
  have g1 := impl_ClockOk.in_eq a1 0 500
  unfold impl_ClockTick.can at h
  generalize impl_ClockOk.val a0_0 l0_1 = vv at h hokf
  generalize impl_ClockOk.inB a1 0 500 = b1 at h g1
  have D := Aside0.mk hokf
  have E1 := Aside0.mk g1
  clear hokf g1
  cases vv with
  | false =>
    clear h
    go_enter Try.func32, Try.ntmps32
    go_wp2_with (first | (go_at_call 21; refine (impl_ClockOk.calls a0_0 A0_1 c0_1 l0_1 _ _ (Kd.C_below HR.out HB) HC.out D.out).mono ?_; rintro e w1 ⟨rfl, hb⟩; replace HB := below_then HB HB.size hb; replace X := (hb.block _ (blk_lt X)).trans X; replace Z := (hb.block _ (blk_lt Z)).trans Z; clear hb; have x0 : w1.cell? ⟨w.heap.size, 0, none⟩ = some (.int .i64 a0_0) := (blk_cell X 0).trans rfl; have x1 : w1.cell? ⟨w.heap.size, 1, none⟩ = some (.slice A0_1 l0_1.length c0_1) := (blk_cell X 1).trans rfl; have z0 : w1.cell? ⟨w.heap.size + 1, 0, none⟩ = some (.int .i64 0) := (blk_cell Z 0).trans rfl; have z1 : w1.cell? ⟨w.heap.size + 1, 1, none⟩ = some (.slice none 0 0) := (blk_cell Z 1).trans rfl; have z2 := blk_frozen Z 0; have z3 := blk_frozen Z 1) | (go_at_call 45; (with_reducible refine (impl_in.calls a1 0 500 _ _ E1.out).mono ?_); rintro e w5 ⟨rfl, hd⟩; have hb := impl_ClockTick.bel hd; replace HB := below_then HB HB.size hb; replace X := (hb.block _ (blk_lt X)).trans X; replace Z := (hb.block _ (blk_lt Z)).trans Z; clear hd hb x0 x1 z0 z1 z2 z3; have x0 : w5.cell? ⟨w.heap.size, 0, none⟩ = some (.int .i64 a0_0) := (blk_cell X 0).trans rfl; have x1 : w5.cell? ⟨w.heap.size, 1, none⟩ = some (.slice A0_1 l0_1.length c0_1) := (blk_cell X 1).trans rfl; have z0 : w5.cell? ⟨w.heap.size + 1, 0, none⟩ = some (.int .i64 0) := (blk_cell Z 0).trans rfl; have z1 : w5.cell? ⟨w.heap.size + 1, 1, none⟩ = some (.slice none 0 0) := (blk_cell Z 1).trans rfl; have z2 := blk_frozen Z 0; have z3 := blk_frozen Z 1))
    refine bodyPost_ret (results_ctt rfl _ _ (w.heap.size + 1) 26 #[.int .i64 0, .slice none 0 0] (0, 0) _ rfl (by refine blk_put (cs := #[.int .i64 0, .slice none 0 0]) ?_ 1 _ rfl; refine blk_put (cs := #[.int .i64 0, .slice none 0 0]) ?_ 0 _ rfl; exact Z) Try.underlying26 rfl zk) rfl ?_
    exact ⟨_, _, rfl, Kd.R_nil _ _ _ _ _, Kd.R_nil _ _ _ _ _, below_set (below_set HB (by omega)) (by omega)⟩
  | true =>
    cases b1 with
    | false =>
      clear h
      go_enter Try.func32, Try.ntmps32
      go_wp2_with (first | (go_at_call 21; refine (impl_ClockOk.calls a0_0 A0_1 c0_1 l0_1 _ _ (Kd.C_below HR.out HB) HC.out D.out).mono ?_; rintro e w1 ⟨rfl, hb⟩; replace HB := below_then HB HB.size hb; replace X := (hb.block _ (blk_lt X)).trans X; replace Z := (hb.block _ (blk_lt Z)).trans Z; clear hb; have x0 : w1.cell? ⟨w.heap.size, 0, none⟩ = some (.int .i64 a0_0) := (blk_cell X 0).trans rfl; have x1 : w1.cell? ⟨w.heap.size, 1, none⟩ = some (.slice A0_1 l0_1.length c0_1) := (blk_cell X 1).trans rfl; have z0 : w1.cell? ⟨w.heap.size + 1, 0, none⟩ = some (.int .i64 0) := (blk_cell Z 0).trans rfl; have z1 : w1.cell? ⟨w.heap.size + 1, 1, none⟩ = some (.slice none 0 0) := (blk_cell Z 1).trans rfl; have z2 := blk_frozen Z 0; have z3 := blk_frozen Z 1) | (go_at_call 45; (with_reducible refine (impl_in.calls a1 0 500 _ _ E1.out).mono ?_); rintro e w5 ⟨rfl, hd⟩; have hb := impl_ClockTick.bel hd; replace HB := below_then HB HB.size hb; replace X := (hb.block _ (blk_lt X)).trans X; replace Z := (hb.block _ (blk_lt Z)).trans Z; clear hd hb x0 x1 z0 z1 z2 z3; have x0 : w5.cell? ⟨w.heap.size, 0, none⟩ = some (.int .i64 a0_0) := (blk_cell X 0).trans rfl; have x1 : w5.cell? ⟨w.heap.size, 1, none⟩ = some (.slice A0_1 l0_1.length c0_1) := (blk_cell X 1).trans rfl; have z0 : w5.cell? ⟨w.heap.size + 1, 0, none⟩ = some (.int .i64 0) := (blk_cell Z 0).trans rfl; have z1 : w5.cell? ⟨w.heap.size + 1, 1, none⟩ = some (.slice none 0 0) := (blk_cell Z 1).trans rfl; have z2 := blk_frozen Z 0; have z3 := blk_frozen Z 1))
      refine bodyPost_ret (results_ctt rfl _ _ (w.heap.size + 1) 26 #[.int .i64 0, .slice none 0 0] (0, 0) _ rfl (by refine blk_put (cs := #[.int .i64 0, .slice none 0 0]) ?_ 1 _ rfl; refine blk_put (cs := #[.int .i64 0, .slice none 0 0]) ?_ 0 _ rfl; exact Z) Try.underlying26 rfl zk) rfl ?_
      exact ⟨_, _, rfl, Kd.R_nil _ _ _ _ _, Kd.R_nil _ _ _ _ _, below_set (below_set HB (by omega)) (by omega)⟩
    | true =>
      have hgt : decide (4095 < wrap64 (a0_0 + a1)) = true := by simpa using h
      clear h
      go_enter Try.func32, Try.ntmps32
      go_wp2_with (first | (go_at_call 21; refine (impl_ClockOk.calls a0_0 A0_1 c0_1 l0_1 _ _ (Kd.C_below HR.out HB) HC.out D.out).mono ?_; rintro e w1 ⟨rfl, hb⟩; replace HB := below_then HB HB.size hb; replace X := (hb.block _ (blk_lt X)).trans X; replace Z := (hb.block _ (blk_lt Z)).trans Z; clear hb; have x0 : w1.cell? ⟨w.heap.size, 0, none⟩ = some (.int .i64 a0_0) := (blk_cell X 0).trans rfl; have x1 : w1.cell? ⟨w.heap.size, 1, none⟩ = some (.slice A0_1 l0_1.length c0_1) := (blk_cell X 1).trans rfl; have z0 : w1.cell? ⟨w.heap.size + 1, 0, none⟩ = some (.int .i64 0) := (blk_cell Z 0).trans rfl; have z1 : w1.cell? ⟨w.heap.size + 1, 1, none⟩ = some (.slice none 0 0) := (blk_cell Z 1).trans rfl; have z2 := blk_frozen Z 0; have z3 := blk_frozen Z 1) | (go_at_call 45; (with_reducible refine (impl_in.calls a1 0 500 _ _ E1.out).mono ?_); rintro e w5 ⟨rfl, hd⟩; have hb := impl_ClockTick.bel hd; replace HB := below_then HB HB.size hb; replace X := (hb.block _ (blk_lt X)).trans X; replace Z := (hb.block _ (blk_lt Z)).trans Z; clear hd hb x0 x1 z0 z1 z2 z3; have x0 : w5.cell? ⟨w.heap.size, 0, none⟩ = some (.int .i64 a0_0) := (blk_cell X 0).trans rfl; have x1 : w5.cell? ⟨w.heap.size, 1, none⟩ = some (.slice A0_1 l0_1.length c0_1) := (blk_cell X 1).trans rfl; have z0 : w5.cell? ⟨w.heap.size + 1, 0, none⟩ = some (.int .i64 0) := (blk_cell Z 0).trans rfl; have z1 : w5.cell? ⟨w.heap.size + 1, 1, none⟩ = some (.slice none 0 0) := (blk_cell Z 1).trans rfl; have z2 := blk_frozen Z 0; have z3 := blk_frozen Z 1))
      refine bodyPost_ret (results_ctt rfl _ _ (w.heap.size + 1) 26 #[.int .i64 0, .slice none 0 0] (0, 0) _ rfl (by refine blk_put (cs := #[.int .i64 0, .slice none 0 0]) ?_ 1 _ rfl; refine blk_put (cs := #[.int .i64 0, .slice none 0 0]) ?_ 0 _ rfl; exact Z) Try.underlying26 rfl zk) rfl ?_
      exact ⟨_, _, rfl, Kd.R_nil _ _ _ _ _, Kd.R_nil _ _ _ _ _, below_set (below_set HB (by omega)) (by omega)⟩
set_option maxHeartbeats 8000000 in
set_option maxRecDepth 100000 in
theorem impl_ClockTick.calls (k : Nat) (a0_0 : Int) (A0_1 : Option Addr) (c0_1 : Nat) (l0_1 : List S62) (a1 : Int) (r1 : Int) (r2 : List S62) (r3 : List Int) (r4 : Bool) (w : World) (hr0_1 : Kd.C k62 w A0_1 l0_1.length l0_1) (hc0_1 : l0_1.length ≤ c0_1) (h : impl_ClockTick.f k a0_0 l0_1 a1 = some (r1, r2, r3, r4)) :
    Calls Try.prog 32 #[.agg #[.int .i64 a0_0, .slice A0_1 l0_1.length c0_1], .int .i64 a1] w fun e w' => ∃ v1_ v2_ : Value, e = .returned (.tuple #[.agg #[.int .i64 r1, v1_], v2_, .bool r4]) ∧ Kd.R k62 62 w' w.heap.size (fun _ => True) v1_ r2 ∧ Kd.R (Kd.int .i64) 3 w' w.heap.size (fun _ => True) v2_ r3 ∧ Below w.heap.size w w' := by
  unfold impl_ClockTick.f at h
  cases hcan : impl_ClockTick.can a0_0 l0_1 a1 with
  | false =>
    rw [hcan, if_neg nf_] at h
    simp only [Option.some.injEq, Prod.mk.injEq] at h
    obtain ⟨rfl, rfl, rfl, rfl⟩ := h
    exact impl_ClockTick.cannot a0_0 A0_1 c0_1 l0_1 a1 w hr0_1 hc0_1 hcan
  | true =>
  rw [hcan, if_pos rfl] at h
  obtain ⟨⟨rl, rr⟩, hloop, h⟩ := Option.bind_eq_some_iff.1 h
  simp only [Option.some.injEq, Prod.mk.injEq] at h
  obtain ⟨rfl, rfl, rfl, rfl⟩ := h
  have HR := Aside0.mk hr0_1
  have HC := Aside0.mk hc0_1
  clear hr0_1 hc0_1
  have HB := below_alloc (below_alloc (Below.refl w.heap.size w) (.cells #[.int .i64 a0_0, .slice A0_1 l0_1.length c0_1] 26)) (.cells #[.int .i64 0, .slice none 0 0] 26)
  have X : ((w.alloc (.cells #[.int .i64 a0_0, .slice A0_1 l0_1.length c0_1] 26)).alloc (.cells #[.int .i64 0, .slice none 0 0] 26)).heap[w.heap.size]? = some (.cells #[.int .i64 a0_0, .slice A0_1 l0_1.length c0_1] 26 (0, 0)) := blk_alloc (blk_new w _) _
  have Z : ((w.alloc (.cells #[.int .i64 a0_0, .slice A0_1 l0_1.length c0_1] 26)).alloc (.cells #[.int .i64 0, .slice none 0 0] 26)).heap[w.heap.size + 1]? = some (.cells #[.int .i64 0, .slice none 0 0] 26 (0, 0)) := by have := blk_new (w.alloc (.cells #[.int .i64 a0_0, .slice A0_1 l0_1.length c0_1] 26)) (.cells #[.int .i64 0, .slice none 0 0] 26); simpa using this
  unfold impl_ClockTick.can at hcan
  simp only [Bool.and_eq_true, Bool.not_eq_true', decide_eq_false_iff_not] at hcan
  obtain ⟨hv, hb1, hgt⟩ := hcan
  have hl12 := impl_ClockTick.len hv
  have hokf : impl_ClockOk.f a0_0 l0_1 = some true := by rw [← hv]; rfl
  have g1 := impl_ClockOk.in_eq a1 0 500
  rw [hb1] at g1
  have D := Aside0.mk hokf
  have E1 := Aside0.mk g1
  have hcl : slices_Clone_Alarm.f l0_1 = some l0_1 := by unfold slices_Clone_Alarm.f; exact if_pos (by omega)
  have hgtd : decide (4095 < wrap64 (a0_0 + a1)) = false := decide_eq_false (by omega)
  have mixed : Try.prog.follows .mixedOrders = true := by kernel_rfl
  have HL := Aside0.mk hloop
  clear hokf g1 hv hb1 hloop
  go_enter Try.func32, Try.ntmps32
  go_wp2_with (first | (go_at_call 21; refine (impl_ClockOk.calls a0_0 A0_1 c0_1 l0_1 _ _ (Kd.C_below HR.out HB) HC.out D.out).mono ?_; rintro e w1 ⟨rfl, hb⟩; replace HB := below_then HB HB.size hb; replace X := (hb.block _ (blk_lt X)).trans X; replace Z := (hb.block _ (blk_lt Z)).trans Z; clear hb; have x0 : w1.cell? ⟨w.heap.size, 0, none⟩ = some (.int .i64 a0_0) := (blk_cell X 0).trans rfl; have x1 : w1.cell? ⟨w.heap.size, 1, none⟩ = some (.slice A0_1 l0_1.length c0_1) := (blk_cell X 1).trans rfl; have z0 : w1.cell? ⟨w.heap.size + 1, 0, none⟩ = some (.int .i64 0) := (blk_cell Z 0).trans rfl; have z1 : w1.cell? ⟨w.heap.size + 1, 1, none⟩ = some (.slice none 0 0) := (blk_cell Z 1).trans rfl; have z2 := blk_frozen Z 0; have z3 := blk_frozen Z 1) | (go_at_call 45; (with_reducible refine (impl_in.calls a1 0 500 _ _ E1.out).mono ?_); rintro e w5 ⟨rfl, hd⟩; have hb := impl_ClockTick.bel hd; replace HB := below_then HB HB.size hb; replace X := (hb.block _ (blk_lt X)).trans X; replace Z := (hb.block _ (blk_lt Z)).trans Z; clear hd hb x0 x1 z0 z1 z2 z3; have x0 : w5.cell? ⟨w.heap.size, 0, none⟩ = some (.int .i64 a0_0) := (blk_cell X 0).trans rfl; have x1 : w5.cell? ⟨w.heap.size, 1, none⟩ = some (.slice A0_1 l0_1.length c0_1) := (blk_cell X 1).trans rfl; have z0 : w5.cell? ⟨w.heap.size + 1, 0, none⟩ = some (.int .i64 0) := (blk_cell Z 0).trans rfl; have z1 : w5.cell? ⟨w.heap.size + 1, 1, none⟩ = some (.slice none 0 0) := (blk_cell Z 1).trans rfl; have z2 := blk_frozen Z 0; have z3 := blk_frozen Z 1))
  have HB7 := HB
  have Z7 := Z
  have HBd := below_drew HB
  refine start_ (n := 10) (S := fun w' => w'.cell? ⟨w.heap.size, 0, none⟩ = some (.int .i64 a0_0) ∧ w'.cell? ⟨w.heap.size, 1, none⟩ = some (.slice A0_1 l0_1.length c0_1)) (ds := [9]) (lb 10 0) (by kernel_rfl) rfl rfl ⟨x0, x1⟩ (fun hHeld => ?_)
  refine pure_ (i := 0) (N := some 26) (v := ?_) (a' := ?_) (lb 10 1) rfl rfl (by kernel_rfl) (fun _ _ _ h => h) (Or.inl ⟨by rfl, ?_⟩) ?_ ?_; rotate_left; (intro w'; go_simp; with_reducible rfl); rotate_left; (simp only [Act.put, List.setIfInBounds_toArray, List.set_cons_zero, List.set_cons_succ, i64_w, i32_w]; rfl)
  refine pure_ (i := 2) (N := some 28) (v := ?_) (a' := ?_) (lb 10 5) rfl rfl (by kernel_rfl) (fun _ _ _ h => h) (Or.inl ⟨by rfl, ?_⟩) ?_ ?_; rotate_left; (intro w'; go_simp; with_reducible rfl); rotate_left; (simp only [Act.put, List.setIfInBounds_toArray, List.set_cons_zero, List.set_cons_succ, i64_w, i32_w]; rfl)
  refine pure_ (i := 4) (N := some 30) (v := ?_) (a' := ?_) (lb 10 21) rfl rfl (by kernel_rfl) (fun _ _ _ h => h) (Or.inl ⟨by rfl, ?_⟩) ?_ ?_; rotate_left; (intro w'; go_simp; with_reducible rfl); rotate_left; (simp only [Act.put, List.setIfInBounds_toArray, List.set_cons_zero, List.set_cons_succ, i64_w, i32_w]; rfl)
  refine take_ (i := 1) (N := some 27) (v := ?_) (a' := ?_) (lb 10 23) rfl rfl (by kernel_rfl) (fun _ _ _ h => h) (Or.inl ⟨by rfl, ?_⟩) hHeld ?_ ?_; rotate_left; (rintro w' ⟨s0, s1⟩; go_simp; with_reducible rfl); rotate_left; (simp only [Act.put, List.setIfInBounds_toArray, List.set_cons_zero, List.set_cons_succ, i64_w, i32_w]; rfl)
  refine pure_ (i := 3) (N := some 29) (v := ?_) (a' := ?_) (lb 10 31) rfl rfl (by kernel_rfl) (fun _ _ _ h => h) (Or.inl ⟨by rfl, ?_⟩) ?_ ?_; rotate_left; (intro w'; go_simp; with_reducible rfl); rotate_left; (simp only [Act.put, List.setIfInBounds_toArray, List.set_cons_zero, List.set_cons_succ, i64_w, i32_w]; rfl)
  refine take_ (i := 5) (N := some 31) (v := ?_) (a' := ?_) (lb 10 63) rfl rfl (by kernel_rfl) (fun _ _ _ h => h) (Or.inl ⟨by rfl, ?_⟩) hHeld ?_ ?_; rotate_left; (rintro w' ⟨s0, s1⟩; go_simp; with_reducible rfl); rotate_left; (simp only [Act.put, List.setIfInBounds_toArray, List.set_cons_zero, List.set_cons_succ, i64_w, i32_w]; rfl)
  refine join_ (σ := Option Addr × Nat × Nat) 1 (lb 10 511) (fun s => [(32, Value.slice s.1 l0_1.length s.2.1), (33, Value.agg #[.int .i64 (wrap64 (a0_0 + a1)), .slice s.1 l0_1.length s.2.1]), (7, Value.pointer (some ⟨s.2.2, 0, none⟩))]) (fun s w' => w'.cell? ⟨w.heap.size, 0, none⟩ = some (.int .i64 a0_0) ∧ w'.cell? ⟨w.heap.size, 1, none⟩ = some (.slice A0_1 l0_1.length c0_1) ∧ Kd.R k62 62 w' w5.drew.heap.size (fun _ => True) (.slice s.1 l0_1.length s.2.1) l0_1 ∧ w'.heap[s.2.2]? = some (.cells #[.int .i64 0, .slice none 0 0] 26 (0, 0)) ∧ Below w5.drew.heap.size w5.drew w' ∧ w5.drew.heap.size ≤ s.2.2) ?_ ?_
  rotate_left
  · intro hCont
    refine two_ (i := 6) (j := 8) (Ni := some 32) (Nj := some 7) (lb 10 127) (lb 10 319) rfl rfl rfl rfl (by kernel_rfl) (by decide) (by decide) (fun K hK => ?_) (fun K hK => ?_)
    · skip
      refine goes_ Try.func58 (by kernel_rfl) rfl #[.slice A0_1 l0_1.length c0_1] (by rfl) rfl rfl zm ?_
      refine (slices_Clone_Alarm.calls A0_1 c0_1 l0_1 l0_1 _ (Kd.C_below HR.out (HBd)) HC.out hcl).mono ?_
      rintro e w3 ⟨v3, rfl, R3, hb3⟩
      obtain ⟨A3, c3, rfl⟩ := Kd.R_slice R3
      refine ⟨_, rfl, ?_⟩
      refine hK.out _ _ ⟨pw_cell_below hb3 hHeld.1, pw_cell_below hb3 hHeld.2⟩ (fun hHeld => ?_)
      clear hK K
      refine norm_ (a' := ?_) ?_ ?_
      rotate_left
      · show Act.put _ (some 32) _ = _
        simp only [Act.put, List.setIfInBounds_toArray, List.set_cons_zero, List.set_cons_succ, i64_w, i32_w]
        rfl
      refine pure_ (i := 7) (N := some 33) (v := ?_) (a' := ?_) (lb 10 255) rfl rfl (by kernel_rfl) (fun _ _ _ h => h) (Or.inl ⟨by rfl, ?_⟩) ?_ ?_; rotate_left; (intro w'; go_simp; with_reducible rfl); rotate_left; (simp only [Act.put, List.setIfInBounds_toArray, List.set_cons_zero, List.set_cons_succ, i64_w, i32_w]; rfl)
      refine one_ (i := 8) (N := some 7) (lb 10 511) rfl rfl (by kernel_rfl) (by decide) (fun K hK => ?_)
      refine value_ (w1 := ?_) (v := ?_) (by rfl) rfl ?_ ?_
      rotate_left 2
      · go_simp
        constructor
        · rfl
        · rfl
      refine hK.out _ _ ⟨pw_cell_below (below_alloc (Below.refl _ _) _) hHeld.1, pw_cell_below (below_alloc (Below.refl _ _) _) hHeld.2⟩ (fun hHeld => ?_)
      clear hK K
      refine norm_ (a' := ?_) ?_ ?_
      rotate_left
      · show Act.put _ (some 7) _ = _
        simp only [Act.put, List.setIfInBounds_toArray, List.set_cons_zero, List.set_cons_succ, i64_w, i32_w]
        rfl
      exact norm_ (by simp only [putAll, Act.put, List.setIfInBounds_toArray, List.set_cons_zero, List.set_cons_succ]) (hCont (A3, c3, w3.heap.size) _ ⟨hHeld.1, hHeld.2, Kd.R_alloc R3 _, blk_new w3 _, below_alloc hb3 _, hb3.size⟩)
    · skip
      refine value_ (w1 := ?_) (v := ?_) (by rfl) rfl ?_ ?_
      rotate_left 2
      · go_simp
        constructor
        · rfl
        · rfl
      refine hK.out _ _ ⟨pw_cell_below (below_alloc (Below.refl _ _) _) hHeld.1, pw_cell_below (below_alloc (Below.refl _ _) _) hHeld.2⟩ (fun hHeld => ?_)
      clear hK K
      refine norm_ (a' := ?_) ?_ ?_
      rotate_left
      · show Act.put _ (some 7) _ = _
        simp only [Act.put, List.setIfInBounds_toArray, List.set_cons_zero, List.set_cons_succ, i64_w, i32_w]
        rfl
      refine one_ (i := 6) (N := some 32) (lb 10 383) rfl rfl (by kernel_rfl) (by decide) (fun K hK => ?_)
      refine goes_ Try.func58 (by kernel_rfl) rfl #[.slice A0_1 l0_1.length c0_1] (by rfl) rfl rfl zm ?_
      refine (slices_Clone_Alarm.calls A0_1 c0_1 l0_1 l0_1 _ (Kd.C_below HR.out (below_alloc HBd _)) HC.out hcl).mono ?_
      rintro e w3 ⟨v3, rfl, R3, hb3⟩
      obtain ⟨A3, c3, rfl⟩ := Kd.R_slice R3
      refine ⟨_, rfl, ?_⟩
      refine hK.out _ _ ⟨pw_cell_below hb3 hHeld.1, pw_cell_below hb3 hHeld.2⟩ (fun hHeld => ?_)
      clear hK K
      refine norm_ (a' := ?_) ?_ ?_
      rotate_left
      · show Act.put _ (some 32) _ = _
        simp only [Act.put, List.setIfInBounds_toArray, List.set_cons_zero, List.set_cons_succ, i64_w, i32_w]
        rfl
      refine pure_ (i := 7) (N := some 33) (v := ?_) (a' := ?_) (lb 10 511) rfl rfl (by kernel_rfl) (fun _ _ _ h => h) (Or.inl ⟨by rfl, ?_⟩) ?_ ?_; rotate_left; (intro w'; go_simp; with_reducible rfl); rotate_left; (simp only [Act.put, List.setIfInBounds_toArray, List.set_cons_zero, List.set_cons_succ, i64_w, i32_w]; rfl)
      exact norm_ (by simp only [putAll, Act.put, List.setIfInBounds_toArray, List.set_cons_zero, List.set_cons_succ]) (hCont (A3, c3, w5.heap.size) _ ⟨hHeld.1, hHeld.2, Kd.R_lower R3 (by simp), (hb3.block _ (by simp)).trans (blk_new w5.drew _), below_then (below_alloc (Below.refl _ _) _) (by simp) hb3, Nat.le_refl _⟩)
  rintro ⟨A3, c3, db⟩ w3 ⟨kc0, kc1, R3, Y3, hb3, hdb⟩
  simp only at R3 Y3 hdb
  have hHeld : w3.cell? ⟨w.heap.size, 0, none⟩ = some (.int .i64 a0_0) ∧ w3.cell? ⟨w.heap.size, 1, none⟩ = some (.slice A0_1 l0_1.length c0_1) := ⟨kc0, kc1⟩
  refine norm_ (a' := ?_) ?_ ?_
  rotate_left
  · simp only [putAll, Act.put, List.setIfInBounds_toArray, List.set_cons_zero, List.set_cons_succ]
    rfl
  refine last_ (i := 9) (N := none) (lb 10 1023) rfl rfl (by kernel_rfl) (by decide) (fun K hK => ?_)
  have y30 : w3.cell? ⟨db, 0, none⟩ = some (.int .i64 0) := (blk_cell Y3 0).trans rfl
  have y31 : w3.cell? ⟨db, 1, none⟩ = some (.slice none 0 0) := (blk_cell Y3 1).trans rfl
  have y32 := blk_frozen Y3 0
  have y33 := blk_frozen Y3 1
  refine skip_ (w1 := ?_) (by rfl) rfl ?_ ?_
  rotate_left
  · go_simp
    rfl
  refine hK.out _ _ ?_
  clear hK K
  refine done_ (by kernel_rfl) ?_
  generalize ht : wrap64 (a0_0 + a1) = t at *
  have Y4 : ((w3.setCell ⟨db, 0, none⟩ (.int .i64 t)).setCell ⟨db, 1, none⟩ (.slice A3 l0_1.length c3)).heap[db]? = some (.cells #[.int .i64 t, .slice A3 l0_1.length c3] 26 (0, 0)) := by
    refine blk_put (cs := #[.int .i64 t, .slice none 0 0]) ?_ 1 _ rfl
    refine blk_put (cs := #[.int .i64 0, .slice none 0 0]) ?_ 0 _ rfl
    exact Y3
  have hwd : w5.drew.heap.size = w5.heap.size := rfl
  have hX7 := blk_lt X
  have hZ7 := blk_lt Z
  have hne2 : w.heap.size + 1 ≠ db := by omega
  have hf : ∀ q, q ≠ db → ((w3.setCell ⟨db, 0, none⟩ (.int .i64 t)).setCell ⟨db, 1, none⟩ (.slice A3 l0_1.length c3)).heap[q]? = w3.heap[q]? := fun q hq => (Below.heap_setCell _ ⟨db, 1, none⟩ _ q hq).trans (Below.heap_setCell _ ⟨db, 0, none⟩ _ q hq)
  have Z4 := (hf _ hne2).trans ((hb3.block _ hZ7).trans Z)
  have HB4 : Below w.heap.size w ((w3.setCell ⟨db, 0, none⟩ (.int .i64 t)).setCell ⟨db, 1, none⟩ (.slice A3 l0_1.length c3)) := below_set (below_set (below_then HBd HBd.size hb3) (by have := HB.size; omega)) (by have := HB.size; omega)
  have R4 : Kd.R k62 62 ((w3.setCell ⟨db, 0, none⟩ (.int .i64 t)).setCell ⟨db, 1, none⟩ (.slice A3 l0_1.length c3)) w5.drew.heap.size (fun _ => True) (.slice A3 l0_1.length c3) l0_1 :=
    Kd.R_mono (Kd.R_far (p := ⟨db, 1, none⟩) (Kd.R_far (p := ⟨db, 0, none⟩) (Kd.R_types R3 Y3 (by decide)) (fun _ hk => hk.2) _) (fun _ hk => hk.2) _) (fun _ _ => trivial)
  have hge4 : w5.drew.heap.size ≤ ((w3.setCell ⟨db, 0, none⟩ (.int .i64 t)).setCell ⟨db, 1, none⟩ (.slice A3 l0_1.length c3)).heap.size := by have := hb3.size; simp only [World.setCell, Array.size_modify]; exact this
  generalize (w3.setCell ⟨db, 0, none⟩ (.int .i64 t)).setCell ⟨db, 1, none⟩ (.slice A3 l0_1.length c3) = w4 at Y4 Z4 HB4 R4 hge4 ⊢
  clear X Z HB HBd x0 x1 z0 z1 z2 z3 R3 Y3 hb3 hHeld kc0 kc1 hf y30 y31 y32 y33 HR HC
  go_wp2_with ((with_reducible refine gate_dst (N := 34) rfl ?_); refine Kd.R_lit (Kd.int .i64) _ 3 ?hg (N := 34) ?hd (xs := ([] : List Int)) (inner := []) (ok := fun _ => True) (okp := fun _ => True) ?hr ?hp (fun _ hk => hk) trivial (Below.refl _ _) (Nat.le_refl _) (by simp) ?_; (case hd => rfl); (case hg => rfl); (case hr => first | (go_simp; done) | (go_simp; rfl)); (case hp => exact (Reps.none _ _)); intro v8 w6 ho6 hb6 hg_ hnew_; clear hg_ hnew_)
  have Y6 := (hb6.block _ (blk_lt Y4)).trans Y4
  have Z6 := (hb6.block _ (blk_lt Z4)).trans Z4
  have HB6 := below_then HB4 HB4.size hb6
  have R6 := Kd.R_below R4 hb6
  have hge6 := Nat.le_trans hge4 hb6.size
  have RG6 := Kd.R_lower ho6 HB4.size
  obtain ⟨_, inner6, ho6', hr6⟩ := R6
  rw [show k62.sz = 3 from rfl] at ho6' hr6
  have QQ6 := q_of_own ho6'
  clear Y4 Z4 HB4 R4 hge4 ho6 ho6' hb6
  go_loopg [8] k (fun kq v8 w' => ∃ (A : Option Addr) (c : Nat) (l : List S62) (rg : List Int) (inner : List Value), Aside0 (impl_ClockTick.l0 kq t l rg = some (rl, rr)) ∧ Aside0 (kq ≤ k) ∧ Aside0 (l.length ≤ 12) ∧ Aside0 (w'.heap[db]? = some (.cells #[.int .i64 t, .slice A l.length c] 26 (0, 0))) ∧ Aside0 (QRow w' w5.heap.size 62 3 (.slice A l.length c) l.length inner) ∧ Aside0 (∀ W B okk, Reps (k62.M W B okk) 3 l inner) ∧ Aside0 (Kd.R (Kd.int .i64) 3 w' w.heap.size (fun _ => True) v8 rg) ∧ Aside0 (w'.heap[w.heap.size + 1]? = some (.cells #[.int .i64 0, .slice none 0 0] 26 (0, 0))) ∧ Aside0 (Below w.heap.size w w') ∧ Aside0 (w5.heap.size ≤ w'.heap.size))
  case atStart => exact ⟨A3, c3, l0_1, [], inner6, HL, ⟨Nat.le_refl _⟩, ⟨hl12⟩, ⟨Y6⟩, ⟨QQ6⟩, ⟨fun W B okk => impl_Clock_put.kM hr6⟩, ⟨RG6⟩, ⟨Z6⟩, ⟨HB6⟩, ⟨hge6⟩⟩
  case round =>
    clear HL Y6 Z6 HB6 hge6 RG6 QQ6 hr6
    obtain ⟨A, c, l, rg, inner, HA, HK, HL12, Y, QQ, HRp, RG, Z, HB, hge⟩ := hrel
    have H := HA.out
    clear HA
    cases gk with
    | zero => exact absurd H (by simp [impl_ClockTick.l0])
    | succ kr =>
    obtain ⟨A8, c8, rfl⟩ := Kd.R_slice RG.out
    have y0 : wr.cell? ⟨db, 0, none⟩ = some (.int .i64 t) := (blk_cell Y.out 0).trans rfl
    have y1 : wr.cell? ⟨db, 1, none⟩ = some (.slice A l.length c) := (blk_cell Y.out 1).trans rfl
    have hcc := (q_slice QQ.out)
    have hlc : l.length ≤ c := by obtain ⟨_, _, e, h⟩ := hcc; injection e with _ _ e; omega
    clear hcc
    cases l with
    | nil =>
      simp only [impl_ClockTick.l0, Option.some.injEq, Prod.mk.injEq] at H
      obtain ⟨rfl, rfl⟩ := H
      simp only [List.length_nil] at y1 QQ Y hlc
      go_wp2_with fail
      go_quiet (fail)
      have hbq := pw_below_drewN (Below.refl wr.heap.size wr) nq
      have hcl2 : slices_Clone_Alarm.f ([] : List S62) = some ([] : List S62) := by unfold slices_Clone_Alarm.f; exact if_pos (by have := HL12.out; omega)
      have hC2 : Kd.C k62 (wr.drewN nq) A ([] : List S62).length ([] : List S62) := Kd.C_below (Kd.Q_reads' (show Kd.Q k62 62 wr w5.heap.size (fun _ => True) (.slice A ([] : List S62).length c) ([] : List S62) from ⟨fun _ _ => trivial, inner, QQ.out, HRp.out _ _ _⟩)).2.2 hbq
      go_upto_region 13 with (go_at_call 58; refine (slices_Clone_Alarm.calls A c ([] : List S62) ([] : List S62) _ hC2 hlc hcl2).mono ?_; rintro e w8 ⟨v9, rfl, R9, hb9⟩; obtain ⟨A9, c9, e9⟩ := Kd.R_slice R9; generalize hln9 : ([] : List S62).length = ln9 at e9; subst e9; have hb8 := below_then hbq hbq.size hb9; have Y9 := (hb8.block _ (blk_lt Y.out)).trans Y.out; have y91 := (blk_cell Y9 1).trans rfl; have y92 := blk_frozen Y9 1)
      have HB8 := below_then HB.out HB.out.size hb8
      have hzd : w.heap.size + 1 ≠ db := hne2
      have R8 : Kd.R k62 62 (w8.setCell ⟨db, 1, none⟩ (.slice A9 ln9 c9)) w.heap.size (fun _ => True) (.slice A9 ln9 c9) ([] : List S62) := Kd.R_mono (Kd.R_far (p := ⟨db, 1, none⟩) (Kd.R_types (Kd.R_lower R9 (by have := HB.out.size; exact this)) Y9 (by decide)) (fun _ hk => hk.2) _) (fun _ _ => trivial)
      have RG8 : Kd.R (Kd.int .i64) 3 (w8.setCell ⟨db, 1, none⟩ (.slice A9 ln9 c9)) w.heap.size (fun _ => True) (.slice A8 rg.length c8) rg := Kd.R_mono (Kd.R_far (p := ⟨db, 1, none⟩) (Kd.R_types (Kd.R_below RG.out hb8) Y9 (by decide)) (fun _ hk => hk.2) _) (fun _ _ => trivial)
      have Y8 : (w8.setCell ⟨db, 1, none⟩ (.slice A9 ln9 c9)).heap[db]? = some (.cells #[.int .i64 t, .slice A9 ln9 c9] 26 (0, 0)) := blk_put Y9 1 _ rfl
      have Z8 := (Below.heap_setCell w8 ⟨db, 1, none⟩ (.slice A9 ln9 c9) _ hzd).trans ((hb8.block _ (blk_lt Z.out)).trans Z.out)
      have HBf := below_set (j := 1) (v := .slice A9 ln9 c9) HB8 (show w.heap.size ≤ db by have := HB7.size; omega)
      generalize w8.setCell ⟨db, 1, none⟩ (.slice A9 ln9 c9) = w9 at R8 RG8 Y8 Z8 HBf ⊢
      clear R9 Y9 y91 y92 hb9 hb8 HB8 y0 y1
      have y80 : w9.cell? ⟨db, 0, none⟩ = some (.int .i64 t) := (blk_cell Y8 0).trans rfl
      have y81 : w9.cell? ⟨db, 1, none⟩ = some (.slice A9 ln9 c9) := (blk_cell Y8 1).trans rfl
      have z80 : w9.cell? ⟨w.heap.size + 1, 0, none⟩ = some (.int .i64 0) := (blk_cell Z8 0).trans rfl
      have z81 : w9.cell? ⟨w.heap.size + 1, 1, none⟩ = some (.slice none 0 0) := (blk_cell Z8 1).trans rfl
      have z82 := blk_frozen Z8 0
      have z83 := blk_frozen Z8 1
      go_wp2
      refine bodyPost_ret (results_ctt rfl _ _ (w.heap.size + 1) 26 #[.int .i64 t, .slice A9 ln9 c9] (0, 0) _ rfl (by refine blk_put (cs := #[.int .i64 t, .slice none 0 0]) ?_ 1 _ rfl; refine blk_put (cs := #[.int .i64 0, .slice none 0 0]) ?_ 0 _ rfl; exact Z8) Try.underlying26 rfl zk) rfl ?_
      refine ⟨.slice A9 ln9 c9, .slice A8 rg.length c8, by first | rfl | (simp; exact ht.symm), ?_, ?_, below_set (below_set HBf (by omega)) (by omega)⟩
      · exact Kd.R_mono (Kd.R_far (p := ⟨w.heap.size + 1, 1, none⟩) (Kd.R_far (p := ⟨w.heap.size + 1, 0, none⟩) (Kd.R_types R8 Z8 (by decide)) (fun _ hk => hk.2) _) (fun _ hk => hk.2) _) (fun _ _ => trivial)
      · exact Kd.R_mono (Kd.R_far (p := ⟨w.heap.size + 1, 1, none⟩) (Kd.R_far (p := ⟨w.heap.size + 1, 0, none⟩) (Kd.R_types RG8 Z8 (by decide)) (fun _ hk => hk.2) _) (fun _ hk => hk.2) _) (fun _ _ => trivial)
    | cons a l =>
      simp only [impl_ClockTick.l0] at H
      simp only [List.length_cons] at y1 QQ Y hlc
      rcases QQ.out.2 with ⟨h0, _⟩ | ⟨g, off, cap, cur, e, hbg, hg, hnc, hcm, hsz, hcur⟩
      · omega
      injection e with e _ e2
      subst e
      subst e2
      obtain ⟨u0, u1, u2⟩ := impl_ClockTick.head QQ.out HRp.out
      have hpos : decide (0 < (l.length : Int) + 1) = true := decide_eq_true (by omega)
      by_cases hf : a.f1 ≤ t
      · rw [if_pos hf] at H
        have hfb : decide (a.f1 ≤ t) = true := decide_eq_true hf
        go_wp2_with fail
        go_quiet (fail)
        have hbq := pw_below_drewN (Below.refl wr.heap.size wr) nq
        go_upto_region 7 with ((with_reducible refine gate_dst (N := 9) rfl ?_); refine box_event ?hg (N := 9) ?hd (cs := #[.int .i64 0, .int .i64 0, .int .i64 0]) (t := 62) ?hr ?_; (case hd => rfl); (case hg => rfl); (case hr => first | (go_simp; done) | (go_simp; rfl)); intro ab hab0 w10 hba hb10; have hab := Aside0.mk (show ab = wr.heap.size from hab0); clear hab0; have b0 : w10.cell? ⟨ab, 0, none⟩ = some (.int .i64 0) := (blk_cell hba 0).trans rfl; have b1 : w10.cell? ⟨ab, 1, none⟩ = some (.int .i64 0) := (blk_cell hba 1).trans rfl; have b2 : w10.cell? ⟨ab, 2, none⟩ = some (.int .i64 0) := (blk_cell hba 2).trans rfl; have b3 := blk_frozen hba 0; have b4 := blk_frozen hba 1; have b5 := blk_frozen hba 2)
        have hab' : ab = wr.heap.size := hab.out
        have hb11 : Below wr.heap.size wr (((w10.setCell ⟨ab, 0, none⟩ (.int .i64 a.f0)).setCell ⟨ab, 1, none⟩ (.int .i64 a.f1)).setCell ⟨ab, 2, none⟩ (.int .i64 a.f2)) := below_set (below_set (below_set (below_then hbq hbq.size hb10) (by omega)) (by omega)) (by omega)
        have AB : (((w10.setCell ⟨ab, 0, none⟩ (.int .i64 a.f0)).setCell ⟨ab, 1, none⟩ (.int .i64 a.f1)).setCell ⟨ab, 2, none⟩ (.int .i64 a.f2)).heap[ab]? = some (.cells #[.int .i64 a.f0, .int .i64 a.f1, .int .i64 a.f2] 62 (0, 0)) := by
          refine blk_put (cs := #[.int .i64 a.f0, .int .i64 a.f1, .int .i64 0]) ?_ 2 _ rfl
          refine blk_put (cs := #[.int .i64 a.f0, .int .i64 0, .int .i64 0]) ?_ 1 _ rfl
          refine blk_put (cs := #[.int .i64 0, .int .i64 0, .int .i64 0]) ?_ 0 _ rfl
          exact hba
        generalize ((w10.setCell ⟨ab, 0, none⟩ (.int .i64 a.f0)).setCell ⟨ab, 1, none⟩ (.int .i64 a.f1)).setCell ⟨ab, 2, none⟩ (.int .i64 a.f2) = w11 at hb11 AB ⊢
        clear b0 b1 b2 b3 b4 b5 hba hb10 hab'
        have Y11 := (hb11.block _ (blk_lt Y.out)).trans Y.out
        have Z11 := (hb11.block _ (blk_lt Z.out)).trans Z.out
        have HB11 := below_then HB.out HB.out.size hb11
        have QQ11 := q_move QQ.out (fun j hj => hb11.block j (q_lt QQ.out j hj))
        have RG11 := Kd.R_below RG.out hb11
        have y110 : w11.cell? ⟨db, 0, none⟩ = some (.int .i64 t) := (blk_cell Y11 0).trans rfl
        have y111 : w11.cell? ⟨db, 1, none⟩ = some (.slice (some ⟨g, off * 3, none⟩) (l.length + 1) c) := (blk_cell Y11 1).trans rfl
        have y112 := blk_frozen Y11 1
        have hc1 : 1 ≤ c := by omega
        go_upto_region 8 with fail
        have hdr := q_drop QQ11 (k := 1) (by omega)
        have hAe : (if c = 1 then some ⟨g, off * 3, none⟩ else (some ⟨g, off * 3, none⟩ : Option Addr).map (·.add (1 * 3))) = (if c = 1 then some ⟨g, off * 3, none⟩ else some (⟨g, off * 3 + 3, none⟩ : Addr)) := by
          split
          · rfl
          · show some ((⟨g, off * 3, none⟩ : Addr).add (1 * 3)) = _
            rw [add_at]
        rw [hAe, Nat.add_sub_cancel] at hdr
        have hown1 : (Value.slice (if c = 1 then some ⟨g, off * 3, none⟩ else some (⟨g, off * 3 + 3, none⟩ : Addr)) l.length (c - 1)).ownBlock = some g := by split <;> rfl
        generalize (if c = 1 then some ⟨g, off * 3, none⟩ else some (⟨g, off * 3 + 3, none⟩ : Addr)) = A1 at hdr hown1 ⊢
        have hgd : g ≠ db := fun e => by
          have h1 := hb11.block g (blk_lt hg)
          rw [hg] at h1
          rw [e, Y11] at h1
          injection h1 with h1
          injection h1 with _ h1
          cases h1
        have hzd : w.heap.size + 1 ≠ db := hne2
        have had : ab ≠ db := fun e => by
          rw [e, Y11] at AB
          injection AB with h1
          injection h1 with _ h1
          cases h1
        have Y12 : (w11.setCell ⟨db, 1, none⟩ (.slice A1 l.length (c - 1))).heap[db]? = some (.cells #[.int .i64 t, .slice A1 l.length (c - 1)] 26 (0, 0)) := blk_put Y11 1 _ rfl
        have AB12 := (Below.heap_setCell w11 ⟨db, 1, none⟩ (.slice A1 l.length (c - 1)) _ had).trans AB
        have Z12 := (Below.heap_setCell w11 ⟨db, 1, none⟩ (.slice A1 l.length (c - 1)) _ hzd).trans Z11
        have HB12 := below_set (j := 1) (v := .slice A1 l.length (c - 1)) HB11 (show w.heap.size ≤ db by have := HB7.size; omega)
        have QQ12 := q_move (w1 := w11.setCell ⟨db, 1, none⟩ (.slice A1 l.length (c - 1))) hdr (fun j hj => Below.heap_setCell w11 ⟨db, 1, none⟩ _ j (fun e => by rw [hown1] at hj; injection hj with hj; exact hgd (hj.trans e)))
        have RG12 : Kd.R (Kd.int .i64) 3 (w11.setCell ⟨db, 1, none⟩ (.slice A1 l.length (c - 1))) w.heap.size (fun _ => True) (.slice A8 rg.length c8) rg := Kd.R_mono (Kd.R_far (p := ⟨db, 1, none⟩) (Kd.R_types RG11 Y11 (by decide)) (fun _ hk => hk.2) (.slice A1 l.length (c - 1))) (fun _ _ => trivial)
        have hsz12 : wr.heap.size ≤ (w11.setCell ⟨db, 1, none⟩ (.slice A1 l.length (c - 1))).heap.size := by simp only [World.setCell, Array.size_modify]; exact hb11.size
        generalize w11.setCell ⟨db, 1, none⟩ (.slice A1 l.length (c - 1)) = w12 at Y12 AB12 Z12 HB12 QQ12 RG12 hsz12 ⊢
        clear Y11 AB Z11 HB11 QQ11 RG11 y110 y111 y112 hdr hb11 hAe
        have HR12 : ∀ W B okk, Reps (k62.M W B okk) 3 l (inner.drop (1 * 3)) := fun W B okk => Kd.reps_drop (m := 1) (HRp.out W B okk)
        have a0 : w12.cell? ⟨ab, 0, none⟩ = some (.int .i64 a.f0) := (blk_cell AB12 0).trans rfl
        have a1c : w12.cell? ⟨ab, 1, none⟩ = some (.int .i64 a.f1) := (blk_cell AB12 1).trans rfl
        have a2c : w12.cell? ⟨ab, 2, none⟩ = some (.int .i64 a.f2) := (blk_cell AB12 2).trans rfl
        by_cases hrg : rg.length < 1000000000
        · rw [if_pos hrg] at H
          go_upto_region 9 with ((with_reducible refine gate_builtin (b := .append) (xs := #[.tmp 57, .tmp 60]) rfl ?_); at_builtin; refine Kd.R_append (Kd.int .i64) (w0 := w) w.heap.size rfl (.tmp 57) (.tmp 60) 45 3 (.int .i64 0) 8 rfl Try.underlying45 info3 rfl (by decide) (by omega) (.slice A8 rg.length c8) rg a.f0 [.int .i64 a.f0] (fun _ => True) (fun _ => False) rfl rfl ?aP (fun _ hk => hk.elim) (fun _ _ => trivial) ?aO ?aB ?aS ?aL ?_; (case aP => rfl); (case aB => exact HB12); (case aO => exact RG12); (case aS => exact HB12.size); (case aL => omega); intro v13 w13 ho13 hb13 hg13 hat13)
          have Y13 := (hg13.block _ (blk_lt Y12) (Kd.R_ne RG12 Y12 (by decide))).trans Y12
          have AB13 := (hg13.block _ (blk_lt AB12) (Kd.R_ne RG12 AB12 (by decide))).trans AB12
          have Z13 := (hg13.block _ (blk_lt Z12) (Kd.R_ne RG12 Z12 (by decide))).trans Z12
          have QQ13 := q_move QQ12 (fun j hj => hg13.block j (q_lt QQ12 j hj) (by obtain ⟨_, cells, hcj⟩ := q_typed QQ12 j hj; exact Kd.R_ne RG12 hcj (by decide)))
          have hge13 : w5.heap.size ≤ w13.heap.size := Nat.le_trans hge.out (Nat.le_trans hsz12 hg13.size)
          have hLl : l.length ≤ 12 := by have := HL12.out; simp only [List.length_cons] at this; omega
          clear Y12 AB12 Z12 QQ12 RG12 hg13 hat13 a0 a1c a2c
          have a0 : w13.cell? ⟨ab, 0, none⟩ = some (.int .i64 a.f0) := (blk_cell AB13 0).trans rfl
          have a1c : w13.cell? ⟨ab, 1, none⟩ = some (.int .i64 a.f1) := (blk_cell AB13 1).trans rfl
          have a2c : w13.cell? ⟨ab, 2, none⟩ = some (.int .i64 a.f2) := (blk_cell AB13 2).trans rfl
          have a3c := blk_frozen AB13 1
          by_cases hev : 0 < a.f2
          · rw [if_pos hev] at H
            have hevb : decide (0 < a.f2) = true := decide_eq_true hev
            go_upto_region 11 with fail
            have AB14 : (w13.setCell ⟨ab, 1, none⟩ (.int .i64 (wrap64 (a.f1 + a.f2)))).heap[ab]? = some (.cells #[.int .i64 a.f0, .int .i64 (wrap64 (a.f1 + a.f2)), .int .i64 a.f2] 62 (0, 0)) := blk_put AB13 1 _ rfl
            have hab2 : wr.heap.size ≤ ab := by have := hab.out; omega
            have hf14 : ∀ q, q ≠ ab → (w13.setCell ⟨ab, 1, none⟩ (.int .i64 (wrap64 (a.f1 + a.f2)))).heap[q]? = w13.heap[q]? := fun q hq => Below.heap_setCell w13 ⟨ab, 1, none⟩ _ q hq
            have Y14 := (hf14 _ (fun e => had e.symm)).trans Y13
            have Z14 := (hf14 _ (by have := blk_lt Z.out; omega)).trans Z13
            have HB14 := below_set (j := 1) (v := .int .i64 (wrap64 (a.f1 + a.f2))) hb13 (show w.heap.size ≤ ab by have := HB.out.size; omega)
            have QQ14 := q_move (w1 := w13.setCell ⟨ab, 1, none⟩ (.int .i64 (wrap64 (a.f1 + a.f2)))) QQ13 (fun j hj => hf14 j (fun e => by rw [hown1] at hj; injection hj with hj; have := blk_lt hg; omega))
            have RG14 : Kd.R (Kd.int .i64) 3 (w13.setCell ⟨ab, 1, none⟩ (.int .i64 (wrap64 (a.f1 + a.f2)))) w.heap.size (fun _ => True) v13 (rg ++ [a.f0]) := Kd.R_mono (Kd.R_far (p := ⟨ab, 1, none⟩) (Kd.R_types ho13 AB13 (by decide)) (fun _ hk => hk.2) (.int .i64 (wrap64 (a.f1 + a.f2)))) (fun _ _ => trivial)
            have hge14 : w5.heap.size ≤ (w13.setCell ⟨ab, 1, none⟩ (.int .i64 (wrap64 (a.f1 + a.f2)))).heap.size := by simp only [World.setCell, Array.size_modify]; exact hge13
            generalize w13.setCell ⟨ab, 1, none⟩ (.int .i64 (wrap64 (a.f1 + a.f2))) = w14 at AB14 Y14 Z14 HB14 QQ14 RG14 hge14 ⊢
            clear AB13 Y13 Z13 QQ13 ho13 hb13 hf14 a0 a1c a2c a3c
            have a0 : w14.cell? ⟨ab, 0, none⟩ = some (.int .i64 a.f0) := (blk_cell AB14 0).trans rfl
            have a1c : w14.cell? ⟨ab, 1, none⟩ = some (.int .i64 (wrap64 (a.f1 + a.f2))) := (blk_cell AB14 1).trans rfl
            have a2c : w14.cell? ⟨ab, 2, none⟩ = some (.int .i64 a.f2) := (blk_cell AB14 2).trans rfl
            by_cases hat : wrap64 (a.f1 + a.f2) ≤ 4095
            · rw [if_pos hat] at H
              obtain ⟨⟨i, b⟩, hs, H⟩ := Option.bind_eq_some_iff.1 H
              simp only at H
              by_cases hi : 0 ≤ i ∧ i ≤ l.length
              · rw [if_pos hi] at H
                obtain ⟨j, rfl⟩ : ∃ j : Nat, i = (j : Int) := ⟨i.toNat, by omega⟩
                have hjl : j ≤ l.length := by omega
                have HS := Aside0.mk hs
                have HH := Aside0.mk H
                clear hs H hi
                go_wp2_with (go_at_call 59; refine (impl_Clock_put.calls kr db w5.heap.size t A1 (c - 1) l (inner.drop (1 * 3)) a.f0 (wrap64 (a.f1 + a.f2)) a.f2 j b _ Y14 QQ14 HR12 hge14 hat HS.out hjl (by omega)).mono ?_; rintro e w15 ⟨rfl, v15, inner15, Y15, q15, r15, m15, o15, own15⟩; obtain ⟨A15, c15, rfl, _⟩ := q_slice q15)
                have hrow : ∀ q, (Value.slice A1 l.length (c - 1)).ownBlock = some q → w5.heap.size ≤ q ∧ ∃ cells, w14.heap[q]? = some (.cells cells 62 (0, 0)) := fun q hq => q_typed QQ14 q hq
                have Z15 := (m15.block _ (blk_lt Z14) hzd (fun e => by have := (hrow _ e.symm).1; have := blk_lt Z7; omega)).trans Z14
                have HB15 := m15.below HB14 HB14.size (by have := HB7.size; omega) (fun q hq => by have := (hrow q hq).1; have := HB7.size; omega)
                have RG15 := impl_ClockTick.keepRG RG14 m15 Y14 (fun q hq => (hrow q hq).2)
                have hln : (l.take j ++ [(⟨a.f0, wrap64 (a.f1 + a.f2), a.f2⟩ : S62)] ++ l.drop j).length = l.length + 1 := by simp; omega
                go_roundg kr
                case measure => omega
                case rel => exact ⟨A15, c15, l.take j ++ [⟨a.f0, wrap64 (a.f1 + a.f2), a.f2⟩] ++ l.drop j, rg ++ [a.f0], inner15, HH, ⟨by have := HK.out; omega⟩, ⟨by rw [hln]; have := HL12.out; simp only [List.length_cons] at this; omega⟩, ⟨by rw [hln]; exact Y15⟩, ⟨by rw [hln]; exact q15⟩, ⟨r15⟩, ⟨RG15⟩, ⟨Z15⟩, ⟨HB15⟩, ⟨Nat.le_trans hge14 m15.size⟩⟩
              · rw [if_neg hi] at H
                cases H
            · rw [if_neg hat] at H
              have HH := Aside0.mk H
              clear H
              go_wp2_with (go_at_call 59; refine (impl_Clock_put.skip db a.f0 (wrap64 (a.f1 + a.f2)) a.f2 _ hat).mono ?_; rintro e w15 ⟨rfl, hb15⟩)
              go_roundg kr
              case measure => omega
              case rel => exact ⟨A1, c - 1, l, rg ++ [a.f0], inner.drop (1 * 3), HH, ⟨by have := HK.out; omega⟩, ⟨hLl⟩, ⟨(hb15.block _ (blk_lt Y14)).trans Y14⟩, ⟨q_move QQ14 (fun j hj => hb15.block j (q_lt QQ14 j hj))⟩, ⟨HR12⟩, ⟨Kd.R_below RG14 hb15⟩, ⟨(hb15.block _ (blk_lt Z14)).trans Z14⟩, ⟨below_then HB14 HB14.size hb15⟩, ⟨Nat.le_trans hge14 hb15.size⟩⟩
          · rw [if_neg hev] at H
            have hevb : decide (0 < a.f2) = false := decide_eq_false hev
            have HH := Aside0.mk H
            clear H
            go_wp2_with fail
            go_roundg kr
            case measure => omega
            case rel => exact ⟨A1, c - 1, l, rg ++ [a.f0], inner.drop (1 * 3), HH, ⟨by have := HK.out; omega⟩, ⟨hLl⟩, ⟨Y13⟩, ⟨QQ13⟩, ⟨HR12⟩, ⟨ho13⟩, ⟨Z13⟩, ⟨hb13⟩, ⟨hge13⟩⟩
        · rw [if_neg hrg] at H
          cases H
      · rw [if_neg hf] at H
        have hfb : decide (a.f1 ≤ t) = false := decide_eq_false hf
        simp only [Option.some.injEq, Prod.mk.injEq] at H
        obtain ⟨rfl, rfl⟩ := H
        go_wp2_with fail
        go_quiet (fail)
        have hbq := pw_below_drewN (Below.refl wr.heap.size wr) nq
        have hcl2 : slices_Clone_Alarm.f (a :: l) = some (a :: l) := by unfold slices_Clone_Alarm.f; exact if_pos (by have := HL12.out; omega)
        have hC2 : Kd.C k62 (wr.drewN nq) (some ⟨g, off * 3, none⟩) (a :: l).length (a :: l) := Kd.C_below (Kd.Q_reads' (show Kd.Q k62 62 wr w5.heap.size (fun _ => True) (.slice (some ⟨g, off * 3, none⟩) (a :: l).length c) (a :: l) from ⟨fun _ _ => trivial, inner, QQ.out, HRp.out _ _ _⟩)).2.2 hbq
        go_upto_region 13 with (go_at_call 58; refine (slices_Clone_Alarm.calls (some ⟨g, off * 3, none⟩) c (a :: l) (a :: l) _ hC2 hlc hcl2).mono ?_; rintro e w8 ⟨v9, rfl, R9, hb9⟩; obtain ⟨A9, c9, e9⟩ := Kd.R_slice R9; generalize hln9 : (a :: l).length = ln9 at e9; subst e9; have hb8 := below_then hbq hbq.size hb9; have Y9 := (hb8.block _ (blk_lt Y.out)).trans Y.out; have y91 := (blk_cell Y9 1).trans rfl; have y92 := blk_frozen Y9 1)
        have HB8 := below_then HB.out HB.out.size hb8
        have hzd : w.heap.size + 1 ≠ db := hne2
        have R8 : Kd.R k62 62 (w8.setCell ⟨db, 1, none⟩ (.slice A9 ln9 c9)) w.heap.size (fun _ => True) (.slice A9 ln9 c9) (a :: l) := Kd.R_mono (Kd.R_far (p := ⟨db, 1, none⟩) (Kd.R_types (Kd.R_lower R9 (by have := HB.out.size; exact this)) Y9 (by decide)) (fun _ hk => hk.2) _) (fun _ _ => trivial)
        have RG8 : Kd.R (Kd.int .i64) 3 (w8.setCell ⟨db, 1, none⟩ (.slice A9 ln9 c9)) w.heap.size (fun _ => True) (.slice A8 rg.length c8) rg := Kd.R_mono (Kd.R_far (p := ⟨db, 1, none⟩) (Kd.R_types (Kd.R_below RG.out hb8) Y9 (by decide)) (fun _ hk => hk.2) _) (fun _ _ => trivial)
        have Y8 : (w8.setCell ⟨db, 1, none⟩ (.slice A9 ln9 c9)).heap[db]? = some (.cells #[.int .i64 t, .slice A9 ln9 c9] 26 (0, 0)) := blk_put Y9 1 _ rfl
        have Z8 := (Below.heap_setCell w8 ⟨db, 1, none⟩ (.slice A9 ln9 c9) _ hzd).trans ((hb8.block _ (blk_lt Z.out)).trans Z.out)
        have HBf := below_set (j := 1) (v := .slice A9 ln9 c9) HB8 (show w.heap.size ≤ db by have := HB7.size; omega)
        generalize w8.setCell ⟨db, 1, none⟩ (.slice A9 ln9 c9) = w9 at R8 RG8 Y8 Z8 HBf ⊢
        clear R9 Y9 y91 y92 hb9 hb8 HB8 y0 y1
        have y80 : w9.cell? ⟨db, 0, none⟩ = some (.int .i64 t) := (blk_cell Y8 0).trans rfl
        have y81 : w9.cell? ⟨db, 1, none⟩ = some (.slice A9 ln9 c9) := (blk_cell Y8 1).trans rfl
        have z80 : w9.cell? ⟨w.heap.size + 1, 0, none⟩ = some (.int .i64 0) := (blk_cell Z8 0).trans rfl
        have z81 : w9.cell? ⟨w.heap.size + 1, 1, none⟩ = some (.slice none 0 0) := (blk_cell Z8 1).trans rfl
        have z82 := blk_frozen Z8 0
        have z83 := blk_frozen Z8 1
        go_wp2
        refine bodyPost_ret (results_ctt rfl _ _ (w.heap.size + 1) 26 #[.int .i64 t, .slice A9 ln9 c9] (0, 0) _ rfl (by refine blk_put (cs := #[.int .i64 t, .slice none 0 0]) ?_ 1 _ rfl; refine blk_put (cs := #[.int .i64 0, .slice none 0 0]) ?_ 0 _ rfl; exact Z8) Try.underlying26 rfl zk) rfl ?_
        refine ⟨.slice A9 ln9 c9, .slice A8 rg.length c8, by first | rfl | (simp; exact ht.symm), ?_, ?_, below_set (below_set HBf (by omega)) (by omega)⟩
        · exact Kd.R_mono (Kd.R_far (p := ⟨w.heap.size + 1, 1, none⟩) (Kd.R_far (p := ⟨w.heap.size + 1, 0, none⟩) (Kd.R_types R8 Z8 (by decide)) (fun _ hk => hk.2) _) (fun _ hk => hk.2) _) (fun _ _ => trivial)
        · exact Kd.R_mono (Kd.R_far (p := ⟨w.heap.size + 1, 1, none⟩) (Kd.R_far (p := ⟨w.heap.size + 1, 0, none⟩) (Kd.R_types RG8 Z8 (by decide)) (fun _ hk => hk.2) _) (fun _ hk => hk.2) _) (fun _ _ => trivial)


end Go.Proofs.Ytlejcgnfpcngbaa.P
