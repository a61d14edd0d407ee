-- printed by this session's own driver (wip/qd.py) out of the translation; Lean checks it
import Derived.Test.YtlejcgnfpcngbaaPf0
import Derived.Test.YtlejcgnfpcngbaaPfspecl6In
import Derived.Test.YtlejcgnfpcngbaaPfspecl19Time
import Derived.Test.YtlejcgnfpcngbaaPfspecClockOk
import Derived.Test.YtlejcgnfpcngbaaPfspecl19Add
import Derived.Test.YtlejcgnfpcngbaaQCopy
namespace Go.Proofs.Ytlejcgnfpcngbaa.P
open Go.RowKit Go.Proofs.YtlejcgnfpcngbaaW.PrintWords Go.Proofs.YtlejcgnfpcngbaaW.PrintLast Go.Proofs.YtlejcgnfpcngbaaW.PrintMore
attribute [local go_sem] max2_int min2_int max_two min_two max_three min_three max_four min_four Q.cell_set_map   -- for this text's walks alone
set_option linter.unusedVariables false
set_option linter.unusedSimpArgs false

/-! ### spec_ClockTick: function 36 -/
-- IMPORT Derived.Test.YtlejcgnfpcngbaaQCopy
def spec_ClockTick.l0 : Nat → Int → List S62 → List Int → Option (List S62 × List Int)
  | 0, _, _, _ => none
  | k + 1, t, l, rg => match l with
    | [] => some ([], rg)
    | a :: l => if a.f1 ≤ t then
        (if rg.length < 1000000000 then (if l.length < 1000000000 then
          (if 0 < a.f2 then (spec_l19Time.f (wrap64 (a.f1 + a.f2))).bind fun q => (if q = true then (spec_l19Add.f k l a.f0 (wrap64 (a.f1 + a.f2)) a.f2).bind fun l2 => spec_ClockTick.l0 k t l2 (rg ++ [a.f0]) else spec_ClockTick.l0 k t l (rg ++ [a.f0]))
           else spec_ClockTick.l0 k t l (rg ++ [a.f0]))
         else none) else none)
      else some (a :: l, rg)
def spec_ClockTick.f (k : Nat) (a0_0 : Int) (l0_1 : List S62) (a1 : Int) : Option (Int × List S62 × List Int × Bool) :=
  (spec_ClockOk.f k a0_0 l0_1).bind fun t => (if t = true then (spec_l6In.f a1 0 500).bind fun u => (if u = true then (spec_l19Time.f (wrap64 (a0_0 + a1))).bind fun v => (if v = true then (if l0_1.length < 1000000000 then (spec_ClockTick.l0 k (wrap64 (a0_0 + a1)) l0_1 []).bind fun q => some (wrap64 (a0_0 + a1), q.1, q.2, true) else none) else some (0, [], [], false)) else some (0, [], [], false)) else some (0, [], [], false))
theorem spec_ClockTick.mono_l : ∀ k t l rg, LeO (spec_ClockTick.l0 k t l rg) (spec_ClockTick.l0 (k + 1) t l rg)
  | 0, t, l, rg => fun r h => by simp [spec_ClockTick.l0] at h
  | k + 1, t, l, rg => by
    cases l with
    | nil => exact LeO.refl _
    | cons a l =>
      unfold spec_ClockTick.l0
      refine LeO.ite (LeO.ite (LeO.ite (LeO.ite (LeO.bind (LeO.refl _) (fun q => LeO.ite (LeO.bind (spec_l19Add.mono _ _ _ _ _) (fun l2 => spec_ClockTick.mono_l k _ _ _)) (spec_ClockTick.mono_l k _ _ _))) (spec_ClockTick.mono_l k _ _ _)) (LeO.none _)) (LeO.none _)) (LeO.refl _)
theorem spec_ClockTick.mono : ∀ a0 a1 a2 k, LeO (spec_ClockTick.f k a0 a1 a2) (spec_ClockTick.f (k + 1) a0 a1 a2) := by
  intro a0 a1 a2 k
  unfold spec_ClockTick.f
  exact LeO.bind (spec_ClockOk.mono _ _ _) (fun _ => LeO.ite (LeO.bind (LeO.refl _) (fun _ => LeO.ite (LeO.bind (LeO.refl _) (fun _ => LeO.ite (LeO.ite (LeO.bind (spec_ClockTick.mono_l _ _ _ _) (fun _ => LeO.refl _)) (LeO.none _)) (LeO.refl _))) (LeO.refl _))) (LeO.refl _))
theorem spec_ClockTick.bel {w w' : World} (h : Drawn0 w w') : Below w.heap.size w w' := by
  obtain ⟨n, rfl⟩ := h
  exact pw_below_drewN (Below.refl _ _) n
theorem spec_ClockTick.head {w : World} {B : Nat} {a : S62} {l : List S62} {g c : Nat} (h : Kd.R k62 62 w B (fun _ => True) (.slice (some ⟨g, 0, none⟩) (l.length + 1) c) (a :: l)) :
    w.cell? ⟨g, 0, none⟩ = some (.int .i64 a.f0) ∧ w.cell? ⟨g, 1, none⟩ = some (.int .i64 a.f1) ∧ w.cell? ⟨g, 2, none⟩ = some (.int .i64 a.f2) := by
  obtain ⟨ad, e, h0, h1, h2⟩ := at_T62 (Kd.R_reads' h).2.2 0 (by omega) (by simp only [List.length_cons]; omega)
  injection e with e
  subst e
  have e0 : (⟨g, 0, none⟩ : Addr).add (Int.toNat 0 * 3) = ⟨g, 0, none⟩ := add_at g 0 0
  rw [e0] at h0 h1 h2
  exact ⟨h0, h1, h2⟩
set_option maxHeartbeats 8000000 in
set_option maxRecDepth 100000 in
theorem spec_ClockTick.calls (k : Nat) (a0_0 : Int) (A0_1 : Option Addr) (c0_1 : Nat) (l0_1 : List S62) (a1 : Int) (r1 : Int) (r2 : List S62) (r3 : List Int) (r4 : Bool) (w : World) (hr0_1 : Kd.C k62 w A0_1 l0_1.length l0_1) (hc0_1 : l0_1.length ≤ c0_1) (h : spec_ClockTick.f k a0_0 l0_1 a1 = some (r1, r2, r3, r4)) :
    Calls Try.prog 36 #[.agg #[.int .i64 a0_0, .slice A0_1 l0_1.length c0_1], .int .i64 a1] w fun e w' => ∃ v1_ v2_ : Value, e = .returned (.tuple #[.agg #[.int .i64 r1, v1_], v2_, .bool r4]) ∧ Kd.R k62 62 w' w.heap.size (fun _ => True) v1_ r2 ∧ Kd.R (Kd.int .i64) 3 w' w.heap.size (fun _ => True) v2_ r3 ∧ Below w.heap.size w w' := by
  have HR := Aside0.mk hr0_1
  have HC := Aside0.mk hc0_1
  clear hr0_1 hc0_1
  have HB := below_alloc (below_alloc (Below.refl w.heap.size w) (.cells #[.int .i64 a0_0, .slice A0_1 l0_1.length c0_1] 26)) (.cells #[.int .i64 0, .slice none 0 0] 26)
  have X : ((w.alloc (.cells #[.int .i64 a0_0, .slice A0_1 l0_1.length c0_1] 26)).alloc (.cells #[.int .i64 0, .slice none 0 0] 26)).heap[w.heap.size]? = some (.cells #[.int .i64 a0_0, .slice A0_1 l0_1.length c0_1] 26 (0, 0)) := blk_alloc (blk_new w _) _
  have Z : ((w.alloc (.cells #[.int .i64 a0_0, .slice A0_1 l0_1.length c0_1] 26)).alloc (.cells #[.int .i64 0, .slice none 0 0] 26)).heap[w.heap.size + 1]? = some (.cells #[.int .i64 0, .slice none 0 0] 26 (0, 0)) := by have := blk_new (w.alloc (.cells #[.int .i64 a0_0, .slice A0_1 l0_1.length c0_1] 26)) (.cells #[.int .i64 0, .slice none 0 0] 26); simpa using this
  unfold spec_ClockTick.f at h
  obtain ⟨t, ht, h⟩ := Option.bind_eq_some_iff.1 h
  have D := Aside0.mk ht
  clear ht
  cases t with
  | false =>
    rw [if_neg nf_] at h
    simp only [Option.some.injEq, Prod.mk.injEq] at h
    obtain ⟨rfl, rfl, rfl, rfl⟩ := h
    go_enter Try.func36, Try.ntmps36
    go_upto_region 2 with ((with_reducible refine gate_dst (N := 10) rfl ?_); refine Kd.R_lit (Kd.int .i64) _ 3 ?hg (N := 10) ?hd (xs := ([] : List Int)) (inner := []) (ok := fun _ => True) (okp := fun _ => True) ?hr ?hp (fun _ hk => hk) trivial (Below.refl _ _) (Nat.le_refl _) (by simp) ?_; (case hd => rfl); (case hg => rfl); (case hr => first | (go_simp; done) | (go_simp; rfl)); (case hp => exact (Reps.none _ _)); intro v7 w1 ho7 hb7 hg_ hnew_; clear hg_ hnew_)
    have RG := Kd.R_lower ho7 HB.size
    replace HB := below_then HB HB.size hb7
    replace X := (hb7.block _ (blk_lt X)).trans X
    replace Z := (hb7.block _ (blk_lt Z)).trans Z
    clear ho7 hb7
    have x0 : w1.cell? ⟨w.heap.size, 0, none⟩ = some (.int .i64 a0_0) := (blk_cell X 0).trans rfl
    have x1 : w1.cell? ⟨w.heap.size, 1, none⟩ = some (.slice A0_1 l0_1.length c0_1) := (blk_cell X 1).trans rfl
    have z0 : w1.cell? ⟨w.heap.size + 1, 0, none⟩ = some (.int .i64 0) := (blk_cell Z 0).trans rfl
    have z1 : w1.cell? ⟨w.heap.size + 1, 1, none⟩ = some (.slice none 0 0) := (blk_cell Z 1).trans rfl
    have z2 := blk_frozen Z 0
    have z3 := blk_frozen Z 1
    go_wp2_with (first | (go_at_call 26; refine (spec_ClockOk.calls k a0_0 A0_1 c0_1 l0_1 _ _ (Kd.C_below HR.out HB) HC.out D.out).mono ?_; rintro e w2 ⟨rfl, hb⟩; replace RG := Kd.R_below RG hb; replace HB := below_then HB HB.size hb; replace X := (hb.block _ (blk_lt X)).trans X; replace Z := (hb.block _ (blk_lt Z)).trans Z; clear hb x0 x1 z0 z1 z2 z3; have x0 : w2.cell? ⟨w.heap.size, 0, none⟩ = some (.int .i64 a0_0) := (blk_cell X 0).trans rfl; have x1 : w2.cell? ⟨w.heap.size, 1, none⟩ = some (.slice A0_1 l0_1.length c0_1) := (blk_cell X 1).trans rfl; have z0 : w2.cell? ⟨w.heap.size + 1, 0, none⟩ = some (.int .i64 0) := (blk_cell Z 0).trans rfl; have z1 : w2.cell? ⟨w.heap.size + 1, 1, none⟩ = some (.slice none 0 0) := (blk_cell Z 1).trans rfl; have z2 := blk_frozen Z 0; have z3 := blk_frozen Z 1) | (go_at_call 52; (with_reducible refine (spec_l6In.calls _ _ _ _ _ E1.out).mono ?_); rintro e w3 ⟨rfl, hd⟩; have hb := spec_ClockTick.bel hd; clear hd; replace RG := Kd.R_below RG hb; replace HB := below_then HB HB.size hb; replace X := (hb.block _ (blk_lt X)).trans X; replace Z := (hb.block _ (blk_lt Z)).trans Z; clear hb x0 x1 z0 z1 z2 z3; have x0 : w3.cell? ⟨w.heap.size, 0, none⟩ = some (.int .i64 a0_0) := (blk_cell X 0).trans rfl; have x1 : w3.cell? ⟨w.heap.size, 1, none⟩ = some (.slice A0_1 l0_1.length c0_1) := (blk_cell X 1).trans rfl; have z0 : w3.cell? ⟨w.heap.size + 1, 0, none⟩ = some (.int .i64 0) := (blk_cell Z 0).trans rfl; have z1 : w3.cell? ⟨w.heap.size + 1, 1, none⟩ = some (.slice none 0 0) := (blk_cell Z 1).trans rfl; have z2 := blk_frozen Z 0; have z3 := blk_frozen Z 1) | (go_at_call 46; (with_reducible refine (spec_l19Time.calls _ _ _ E2.out).mono ?_); rintro e w5 ⟨rfl, hd⟩; have hb := spec_ClockTick.bel hd; clear hd; replace RG := Kd.R_below RG hb; replace HB := below_then HB HB.size hb; replace X := (hb.block _ (blk_lt X)).trans X; replace Z := (hb.block _ (blk_lt Z)).trans Z; clear hb x0 x1 z0 z1 z2 z3; have x0 : w5.cell? ⟨w.heap.size, 0, none⟩ = some (.int .i64 a0_0) := (blk_cell X 0).trans rfl; have x1 : w5.cell? ⟨w.heap.size, 1, none⟩ = some (.slice A0_1 l0_1.length c0_1) := (blk_cell X 1).trans rfl; have z0 : w5.cell? ⟨w.heap.size + 1, 0, none⟩ = some (.int .i64 0) := (blk_cell Z 0).trans rfl; have z1 : w5.cell? ⟨w.heap.size + 1, 1, none⟩ = some (.slice none 0 0) := (blk_cell Z 1).trans rfl; have z2 := blk_frozen Z 0; have z3 := blk_frozen Z 1))
    refine bodyPost_ret (results_ctt rfl _ _ (w.heap.size + 1) 26 #[.int .i64 0, .slice none 0 0] (0, 0) _ rfl (by refine blk_put (cs := #[.int .i64 0, .slice none 0 0]) ?_ 1 _ rfl; refine blk_put (cs := #[.int .i64 0, .slice none 0 0]) ?_ 0 _ rfl; exact Z) Try.underlying26 rfl zk) rfl ?_
    exact ⟨_, _, rfl, Kd.R_nil _ _ _ _ _, Kd.R_mono (Kd.R_far (p := ⟨w.heap.size + 1, 1, none⟩) (Kd.R_far (p := ⟨w.heap.size + 1, 0, none⟩) (Kd.R_types RG Z (by decide)) (fun _ hk => hk.2) _) (fun _ hk => hk.2) _) (fun _ _ => trivial), below_set (below_set HB (by omega)) (by omega)⟩
  | true =>
  rw [if_pos rfl] at h
  obtain ⟨u, hu, h⟩ := Option.bind_eq_some_iff.1 h
  have E1 := Aside0.mk hu
  clear hu
  cases u with
  | false =>
    rw [if_neg nf_] at h
    simp only [Option.some.injEq, Prod.mk.injEq] at h
    obtain ⟨rfl, rfl, rfl, rfl⟩ := h
    go_enter Try.func36, Try.ntmps36
    go_upto_region 2 with ((with_reducible refine gate_dst (N := 10) rfl ?_); refine Kd.R_lit (Kd.int .i64) _ 3 ?hg (N := 10) ?hd (xs := ([] : List Int)) (inner := []) (ok := fun _ => True) (okp := fun _ => True) ?hr ?hp (fun _ hk => hk) trivial (Below.refl _ _) (Nat.le_refl _) (by simp) ?_; (case hd => rfl); (case hg => rfl); (case hr => first | (go_simp; done) | (go_simp; rfl)); (case hp => exact (Reps.none _ _)); intro v7 w1 ho7 hb7 hg_ hnew_; clear hg_ hnew_)
    have RG := Kd.R_lower ho7 HB.size
    replace HB := below_then HB HB.size hb7
    replace X := (hb7.block _ (blk_lt X)).trans X
    replace Z := (hb7.block _ (blk_lt Z)).trans Z
    clear ho7 hb7
    have x0 : w1.cell? ⟨w.heap.size, 0, none⟩ = some (.int .i64 a0_0) := (blk_cell X 0).trans rfl
    have x1 : w1.cell? ⟨w.heap.size, 1, none⟩ = some (.slice A0_1 l0_1.length c0_1) := (blk_cell X 1).trans rfl
    have z0 : w1.cell? ⟨w.heap.size + 1, 0, none⟩ = some (.int .i64 0) := (blk_cell Z 0).trans rfl
    have z1 : w1.cell? ⟨w.heap.size + 1, 1, none⟩ = some (.slice none 0 0) := (blk_cell Z 1).trans rfl
    have z2 := blk_frozen Z 0
    have z3 := blk_frozen Z 1
    go_wp2_with (first | (go_at_call 26; refine (spec_ClockOk.calls k a0_0 A0_1 c0_1 l0_1 _ _ (Kd.C_below HR.out HB) HC.out D.out).mono ?_; rintro e w2 ⟨rfl, hb⟩; replace RG := Kd.R_below RG hb; replace HB := below_then HB HB.size hb; replace X := (hb.block _ (blk_lt X)).trans X; replace Z := (hb.block _ (blk_lt Z)).trans Z; clear hb x0 x1 z0 z1 z2 z3; have x0 : w2.cell? ⟨w.heap.size, 0, none⟩ = some (.int .i64 a0_0) := (blk_cell X 0).trans rfl; have x1 : w2.cell? ⟨w.heap.size, 1, none⟩ = some (.slice A0_1 l0_1.length c0_1) := (blk_cell X 1).trans rfl; have z0 : w2.cell? ⟨w.heap.size + 1, 0, none⟩ = some (.int .i64 0) := (blk_cell Z 0).trans rfl; have z1 : w2.cell? ⟨w.heap.size + 1, 1, none⟩ = some (.slice none 0 0) := (blk_cell Z 1).trans rfl; have z2 := blk_frozen Z 0; have z3 := blk_frozen Z 1) | (go_at_call 52; (with_reducible refine (spec_l6In.calls _ _ _ _ _ E1.out).mono ?_); rintro e w3 ⟨rfl, hd⟩; have hb := spec_ClockTick.bel hd; clear hd; replace RG := Kd.R_below RG hb; replace HB := below_then HB HB.size hb; replace X := (hb.block _ (blk_lt X)).trans X; replace Z := (hb.block _ (blk_lt Z)).trans Z; clear hb x0 x1 z0 z1 z2 z3; have x0 : w3.cell? ⟨w.heap.size, 0, none⟩ = some (.int .i64 a0_0) := (blk_cell X 0).trans rfl; have x1 : w3.cell? ⟨w.heap.size, 1, none⟩ = some (.slice A0_1 l0_1.length c0_1) := (blk_cell X 1).trans rfl; have z0 : w3.cell? ⟨w.heap.size + 1, 0, none⟩ = some (.int .i64 0) := (blk_cell Z 0).trans rfl; have z1 : w3.cell? ⟨w.heap.size + 1, 1, none⟩ = some (.slice none 0 0) := (blk_cell Z 1).trans rfl; have z2 := blk_frozen Z 0; have z3 := blk_frozen Z 1) | (go_at_call 46; (with_reducible refine (spec_l19Time.calls _ _ _ E2.out).mono ?_); rintro e w5 ⟨rfl, hd⟩; have hb := spec_ClockTick.bel hd; clear hd; replace RG := Kd.R_below RG hb; replace HB := below_then HB HB.size hb; replace X := (hb.block _ (blk_lt X)).trans X; replace Z := (hb.block _ (blk_lt Z)).trans Z; clear hb x0 x1 z0 z1 z2 z3; have x0 : w5.cell? ⟨w.heap.size, 0, none⟩ = some (.int .i64 a0_0) := (blk_cell X 0).trans rfl; have x1 : w5.cell? ⟨w.heap.size, 1, none⟩ = some (.slice A0_1 l0_1.length c0_1) := (blk_cell X 1).trans rfl; have z0 : w5.cell? ⟨w.heap.size + 1, 0, none⟩ = some (.int .i64 0) := (blk_cell Z 0).trans rfl; have z1 : w5.cell? ⟨w.heap.size + 1, 1, none⟩ = some (.slice none 0 0) := (blk_cell Z 1).trans rfl; have z2 := blk_frozen Z 0; have z3 := blk_frozen Z 1))
    refine bodyPost_ret (results_ctt rfl _ _ (w.heap.size + 1) 26 #[.int .i64 0, .slice none 0 0] (0, 0) _ rfl (by refine blk_put (cs := #[.int .i64 0, .slice none 0 0]) ?_ 1 _ rfl; refine blk_put (cs := #[.int .i64 0, .slice none 0 0]) ?_ 0 _ rfl; exact Z) Try.underlying26 rfl zk) rfl ?_
    exact ⟨_, _, rfl, Kd.R_nil _ _ _ _ _, Kd.R_mono (Kd.R_far (p := ⟨w.heap.size + 1, 1, none⟩) (Kd.R_far (p := ⟨w.heap.size + 1, 0, none⟩) (Kd.R_types RG Z (by decide)) (fun _ hk => hk.2) _) (fun _ hk => hk.2) _) (fun _ _ => trivial), below_set (below_set HB (by omega)) (by omega)⟩
  | true =>
  rw [if_pos rfl] at h
  obtain ⟨x, hx, h⟩ := Option.bind_eq_some_iff.1 h
  have E2 := Aside0.mk hx
  clear hx
  cases x with
  | false =>
    rw [if_neg nf_] at h
    simp only [Option.some.injEq, Prod.mk.injEq] at h
    obtain ⟨rfl, rfl, rfl, rfl⟩ := h
    go_enter Try.func36, Try.ntmps36
    go_upto_region 2 with ((with_reducible refine gate_dst (N := 10) rfl ?_); refine Kd.R_lit (Kd.int .i64) _ 3 ?hg (N := 10) ?hd (xs := ([] : List Int)) (inner := []) (ok := fun _ => True) (okp := fun _ => True) ?hr ?hp (fun _ hk => hk) trivial (Below.refl _ _) (Nat.le_refl _) (by simp) ?_; (case hd => rfl); (case hg => rfl); (case hr => first | (go_simp; done) | (go_simp; rfl)); (case hp => exact (Reps.none _ _)); intro v7 w1 ho7 hb7 hg_ hnew_; clear hg_ hnew_)
    have RG := Kd.R_lower ho7 HB.size
    replace HB := below_then HB HB.size hb7
    replace X := (hb7.block _ (blk_lt X)).trans X
    replace Z := (hb7.block _ (blk_lt Z)).trans Z
    clear ho7 hb7
    have x0 : w1.cell? ⟨w.heap.size, 0, none⟩ = some (.int .i64 a0_0) := (blk_cell X 0).trans rfl
    have x1 : w1.cell? ⟨w.heap.size, 1, none⟩ = some (.slice A0_1 l0_1.length c0_1) := (blk_cell X 1).trans rfl
    have z0 : w1.cell? ⟨w.heap.size + 1, 0, none⟩ = some (.int .i64 0) := (blk_cell Z 0).trans rfl
    have z1 : w1.cell? ⟨w.heap.size + 1, 1, none⟩ = some (.slice none 0 0) := (blk_cell Z 1).trans rfl
    have z2 := blk_frozen Z 0
    have z3 := blk_frozen Z 1
    go_wp2_with (first | (go_at_call 26; refine (spec_ClockOk.calls k a0_0 A0_1 c0_1 l0_1 _ _ (Kd.C_below HR.out HB) HC.out D.out).mono ?_; rintro e w2 ⟨rfl, hb⟩; replace RG := Kd.R_below RG hb; replace HB := below_then HB HB.size hb; replace X := (hb.block _ (blk_lt X)).trans X; replace Z := (hb.block _ (blk_lt Z)).trans Z; clear hb x0 x1 z0 z1 z2 z3; have x0 : w2.cell? ⟨w.heap.size, 0, none⟩ = some (.int .i64 a0_0) := (blk_cell X 0).trans rfl; have x1 : w2.cell? ⟨w.heap.size, 1, none⟩ = some (.slice A0_1 l0_1.length c0_1) := (blk_cell X 1).trans rfl; have z0 : w2.cell? ⟨w.heap.size + 1, 0, none⟩ = some (.int .i64 0) := (blk_cell Z 0).trans rfl; have z1 : w2.cell? ⟨w.heap.size + 1, 1, none⟩ = some (.slice none 0 0) := (blk_cell Z 1).trans rfl; have z2 := blk_frozen Z 0; have z3 := blk_frozen Z 1) | (go_at_call 52; (with_reducible refine (spec_l6In.calls _ _ _ _ _ E1.out).mono ?_); rintro e w3 ⟨rfl, hd⟩; have hb := spec_ClockTick.bel hd; clear hd; replace RG := Kd.R_below RG hb; replace HB := below_then HB HB.size hb; replace X := (hb.block _ (blk_lt X)).trans X; replace Z := (hb.block _ (blk_lt Z)).trans Z; clear hb x0 x1 z0 z1 z2 z3; have x0 : w3.cell? ⟨w.heap.size, 0, none⟩ = some (.int .i64 a0_0) := (blk_cell X 0).trans rfl; have x1 : w3.cell? ⟨w.heap.size, 1, none⟩ = some (.slice A0_1 l0_1.length c0_1) := (blk_cell X 1).trans rfl; have z0 : w3.cell? ⟨w.heap.size + 1, 0, none⟩ = some (.int .i64 0) := (blk_cell Z 0).trans rfl; have z1 : w3.cell? ⟨w.heap.size + 1, 1, none⟩ = some (.slice none 0 0) := (blk_cell Z 1).trans rfl; have z2 := blk_frozen Z 0; have z3 := blk_frozen Z 1) | (go_at_call 46; (with_reducible refine (spec_l19Time.calls _ _ _ E2.out).mono ?_); rintro e w5 ⟨rfl, hd⟩; have hb := spec_ClockTick.bel hd; clear hd; replace RG := Kd.R_below RG hb; replace HB := below_then HB HB.size hb; replace X := (hb.block _ (blk_lt X)).trans X; replace Z := (hb.block _ (blk_lt Z)).trans Z; clear hb x0 x1 z0 z1 z2 z3; have x0 : w5.cell? ⟨w.heap.size, 0, none⟩ = some (.int .i64 a0_0) := (blk_cell X 0).trans rfl; have x1 : w5.cell? ⟨w.heap.size, 1, none⟩ = some (.slice A0_1 l0_1.length c0_1) := (blk_cell X 1).trans rfl; have z0 : w5.cell? ⟨w.heap.size + 1, 0, none⟩ = some (.int .i64 0) := (blk_cell Z 0).trans rfl; have z1 : w5.cell? ⟨w.heap.size + 1, 1, none⟩ = some (.slice none 0 0) := (blk_cell Z 1).trans rfl; have z2 := blk_frozen Z 0; have z3 := blk_frozen Z 1))
    refine bodyPost_ret (results_ctt rfl _ _ (w.heap.size + 1) 26 #[.int .i64 0, .slice none 0 0] (0, 0) _ rfl (by refine blk_put (cs := #[.int .i64 0, .slice none 0 0]) ?_ 1 _ rfl; refine blk_put (cs := #[.int .i64 0, .slice none 0 0]) ?_ 0 _ rfl; exact Z) Try.underlying26 rfl zk) rfl ?_
    exact ⟨_, _, rfl, Kd.R_nil _ _ _ _ _, Kd.R_mono (Kd.R_far (p := ⟨w.heap.size + 1, 1, none⟩) (Kd.R_far (p := ⟨w.heap.size + 1, 0, none⟩) (Kd.R_types RG Z (by decide)) (fun _ hk => hk.2) _) (fun _ hk => hk.2) _) (fun _ _ => trivial), below_set (below_set HB (by omega)) (by omega)⟩
  | true =>
  rw [if_pos rfl] at h
  by_cases hln : l0_1.length < 1000000000
  rotate_left
  · rw [if_neg hln] at h
    cases h
  rw [if_pos hln] at h
  obtain ⟨⟨rl, rr⟩, hloop, h⟩ := Option.bind_eq_some_iff.1 h
  simp only [Option.some.injEq, Prod.mk.injEq] at h
  obtain ⟨rfl, rfl, rfl, rfl⟩ := h
  have HL := Aside0.mk hloop
  clear hloop
  have mixed : Try.prog.follows .mixedOrders = true := by kernel_rfl
  go_enter Try.func36, Try.ntmps36
  go_upto_region 2 with ((with_reducible refine gate_dst (N := 10) rfl ?_); refine Kd.R_lit (Kd.int .i64) _ 3 ?hg (N := 10) ?hd (xs := ([] : List Int)) (inner := []) (ok := fun _ => True) (okp := fun _ => True) ?hr ?hp (fun _ hk => hk) trivial (Below.refl _ _) (Nat.le_refl _) (by simp) ?_; (case hd => rfl); (case hg => rfl); (case hr => first | (go_simp; done) | (go_simp; rfl)); (case hp => exact (Reps.none _ _)); intro v7 w1 ho7 hb7 hg_ hnew_; clear hg_ hnew_)
  have RG := Kd.R_lower ho7 HB.size
  replace HB := below_then HB HB.size hb7
  replace X := (hb7.block _ (blk_lt X)).trans X
  replace Z := (hb7.block _ (blk_lt Z)).trans Z
  clear ho7 hb7
  have x0 : w1.cell? ⟨w.heap.size, 0, none⟩ = some (.int .i64 a0_0) := (blk_cell X 0).trans rfl
  have x1 : w1.cell? ⟨w.heap.size, 1, none⟩ = some (.slice A0_1 l0_1.length c0_1) := (blk_cell X 1).trans rfl
  have z0 : w1.cell? ⟨w.heap.size + 1, 0, none⟩ = some (.int .i64 0) := (blk_cell Z 0).trans rfl
  have z1 : w1.cell? ⟨w.heap.size + 1, 1, none⟩ = some (.slice none 0 0) := (blk_cell Z 1).trans rfl
  have z2 := blk_frozen Z 0
  have z3 := blk_frozen Z 1
  go_upto_region 4 with (first | (go_at_call 26; refine (spec_ClockOk.calls k a0_0 A0_1 c0_1 l0_1 _ _ (Kd.C_below HR.out HB) HC.out D.out).mono ?_; rintro e w2 ⟨rfl, hb⟩; replace RG := Kd.R_below RG hb; replace HB := below_then HB HB.size hb; replace X := (hb.block _ (blk_lt X)).trans X; replace Z := (hb.block _ (blk_lt Z)).trans Z; clear hb x0 x1 z0 z1 z2 z3; have x0 : w2.cell? ⟨w.heap.size, 0, none⟩ = some (.int .i64 a0_0) := (blk_cell X 0).trans rfl; have x1 : w2.cell? ⟨w.heap.size, 1, none⟩ = some (.slice A0_1 l0_1.length c0_1) := (blk_cell X 1).trans rfl; have z0 : w2.cell? ⟨w.heap.size + 1, 0, none⟩ = some (.int .i64 0) := (blk_cell Z 0).trans rfl; have z1 : w2.cell? ⟨w.heap.size + 1, 1, none⟩ = some (.slice none 0 0) := (blk_cell Z 1).trans rfl; have z2 := blk_frozen Z 0; have z3 := blk_frozen Z 1) | (go_at_call 52; (with_reducible refine (spec_l6In.calls _ _ _ _ _ E1.out).mono ?_); rintro e w3 ⟨rfl, hd⟩; have hb := spec_ClockTick.bel hd; clear hd; replace RG := Kd.R_below RG hb; replace HB := below_then HB HB.size hb; replace X := (hb.block _ (blk_lt X)).trans X; replace Z := (hb.block _ (blk_lt Z)).trans Z; clear hb x0 x1 z0 z1 z2 z3; have x0 : w3.cell? ⟨w.heap.size, 0, none⟩ = some (.int .i64 a0_0) := (blk_cell X 0).trans rfl; have x1 : w3.cell? ⟨w.heap.size, 1, none⟩ = some (.slice A0_1 l0_1.length c0_1) := (blk_cell X 1).trans rfl; have z0 : w3.cell? ⟨w.heap.size + 1, 0, none⟩ = some (.int .i64 0) := (blk_cell Z 0).trans rfl; have z1 : w3.cell? ⟨w.heap.size + 1, 1, none⟩ = some (.slice none 0 0) := (blk_cell Z 1).trans rfl; have z2 := blk_frozen Z 0; have z3 := blk_frozen Z 1) | (go_at_call 46; (with_reducible refine (spec_l19Time.calls _ _ _ E2.out).mono ?_); rintro e w5 ⟨rfl, hd⟩; have hb := spec_ClockTick.bel hd; clear hd; replace RG := Kd.R_below RG hb; replace HB := below_then HB HB.size hb; replace X := (hb.block _ (blk_lt X)).trans X; replace Z := (hb.block _ (blk_lt Z)).trans Z; clear hb x0 x1 z0 z1 z2 z3; have x0 : w5.cell? ⟨w.heap.size, 0, none⟩ = some (.int .i64 a0_0) := (blk_cell X 0).trans rfl; have x1 : w5.cell? ⟨w.heap.size, 1, none⟩ = some (.slice A0_1 l0_1.length c0_1) := (blk_cell X 1).trans rfl; have z0 : w5.cell? ⟨w.heap.size + 1, 0, none⟩ = some (.int .i64 0) := (blk_cell Z 0).trans rfl; have z1 : w5.cell? ⟨w.heap.size + 1, 1, none⟩ = some (.slice none 0 0) := (blk_cell Z 1).trans rfl; have z2 := blk_frozen Z 0; have z3 := blk_frozen Z 1))
  go_wp2_with (first | ((with_reducible refine gate_dst (N := 29) rfl ?_); refine Kd.R_lit k62 _ 62 ?hg (N := 29) ?hd (xs := ([] : List S62)) (inner := []) (ok := fun _ => True) (okp := fun _ => True) ?hr ?hp (fun _ hk => hk) trivial (Below.refl _ _) (Nat.le_refl _) (by simp) ?_; (case hd => rfl); (case hg => rfl); (case hr => first | (go_simp; done) | (go_simp; rfl)); (case hp => exact (Reps.none _ _)); intro v29 w20 ho29 hb hg_ hnew_; clear hg_ hnew_; replace ho29 := Kd.R_lower (base' := w.heap.size) ho29 HB.size; replace RG := Kd.R_below RG hb; replace HB := below_then HB HB.size hb; replace X := (hb.block _ (blk_lt X)).trans X; replace Z := (hb.block _ (blk_lt Z)).trans Z; clear hb x0 x1 z0 z1 z2 z3; have x0 : w20.cell? ⟨w.heap.size, 0, none⟩ = some (.int .i64 a0_0) := (blk_cell X 0).trans rfl; have x1 : w20.cell? ⟨w.heap.size, 1, none⟩ = some (.slice A0_1 l0_1.length c0_1) := (blk_cell X 1).trans rfl; have z0 : w20.cell? ⟨w.heap.size + 1, 0, none⟩ = some (.int .i64 0) := (blk_cell Z 0).trans rfl; have z1 : w20.cell? ⟨w.heap.size + 1, 1, none⟩ = some (.slice none 0 0) := (blk_cell Z 1).trans rfl; have z2 := blk_frozen Z 0; have z3 := blk_frozen Z 1) | ((with_reducible refine gate_builtin (b := .append) (xs := #[.tmp 29, .tmp 31]) rfl ?_); at_builtin; refine Kd.R_append_rows k62 (w0 := w) w.heap.size rfl (.tmp 29) (.tmp 31) 24 62 (.agg #[(.int .i64 0), (.int .i64 0), (.int .i64 0)]) 24 rfl Try.underlying24 info62 rfl (by decide) (by omega) v29 ([] : List S62) l0_1 _ _ _ (fun _ => True) (fun _ => False) rfl rfl ?aO ?aR (fun _ _ h => h) (fun _ h => h.elim) (fun _ _ => trivial) ?aB ?aS ?aL ?_; (case aR => exact Kd.C_below HR.out HB); (case aB => exact HB); (case aO => exact ho29); (case aS => exact (HB).size); (case aL => simp only [List.length_nil]; omega); intro v8 w21 ho8 hb21 hg21 hat21))
  have X21 := (hg21.block _ (blk_lt X) (Kd.R_ne ho29 X (by decide))).trans X
  have Z21 := (hg21.block _ (blk_lt Z) (Kd.R_ne ho29 Z (by decide))).trans Z
  have RG21 := Kd.R_over' RG (Kd.R_typed ho29) (by decide) hg21
  have ho8' : Kd.R k62 62 w21 w.heap.size (fun _ => True) v8 l0_1 := ho8
  clear ho8 X Z RG HB ho29 hg21 hat21 x0 x1 z0 z1 z2 z3
  go_loopg [7, 8] k (fun kq v7 v8 w' => ∃ (l : List S62) (rg : List Int), Aside0 (spec_ClockTick.l0 kq (wrap64 (a0_0 + a1)) l rg = some (rl, rr)) ∧ Aside0 (kq ≤ k) ∧ Aside0 (Kd.R k62 62 w' w.heap.size (fun _ => True) v8 l) ∧ Aside0 (Kd.R (Kd.int .i64) 3 w' w.heap.size (fun _ => True) v7 rg) ∧ Aside0 (w'.heap[w.heap.size]? = some (.cells #[.int .i64 a0_0, .slice A0_1 l0_1.length c0_1] 26 (0, 0))) ∧ Aside0 (w'.heap[w.heap.size + 1]? = some (.cells #[.int .i64 0, .slice none 0 0] 26 (0, 0))) ∧ Aside0 (Below w.heap.size w w'))
  case atStart => exact ⟨l0_1, [], HL, ⟨Nat.le_refl _⟩, ⟨ho8'⟩, ⟨RG21⟩, ⟨X21⟩, ⟨Z21⟩, ⟨hb21⟩⟩
  case round =>
    clear HL X21 Z21 RG21 ho8' hb21
    obtain ⟨l, rg, HA, HK, RL, RG, X, Z, HB⟩ := hrel
    have H := HA.out
    clear HA
    cases gk with
    | zero => exact absurd H (by simp [spec_ClockTick.l0])
    | succ kr =>
    have x0 : wr.cell? ⟨w.heap.size, 0, none⟩ = some (.int .i64 a0_0) := (blk_cell X.out 0).trans rfl
    have z0 : wr.cell? ⟨w.heap.size + 1, 0, none⟩ = some (.int .i64 0) := (blk_cell Z.out 0).trans rfl
    have z1 : wr.cell? ⟨w.heap.size + 1, 1, none⟩ = some (.slice none 0 0) := (blk_cell Z.out 1).trans rfl
    have z2 := blk_frozen Z.out 0
    have z3 := blk_frozen Z.out 1
    cases l with
    | nil =>
      simp only [spec_ClockTick.l0, Option.some.injEq, Prod.mk.injEq] at H
      obtain ⟨rfl, rfl⟩ := H
      obtain ⟨A8, c8, e8⟩ := Kd.R_slice RL.out
      simp only [List.length_nil] at e8
      subst e8
      go_wp2_with fail
      go_quiet (fail)
      go_wp2
      refine bodyPost_ret (results_ctt rfl _ _ (w.heap.size + 1) 26 #[.int .i64 (wrap64 (a0_0 + a1)), .slice A8 0 c8] (0, 0) _ rfl (by refine blk_put (cs := #[.int .i64 (wrap64 (a0_0 + a1)), .slice none 0 0]) ?_ 1 _ rfl; refine blk_put (cs := #[.int .i64 0, .slice none 0 0]) ?_ 0 _ rfl; exact Z.out) Try.underlying26 rfl zk) rfl ?_
      have Z9 : (wr.drewN nq).heap[w.heap.size + 1]? = some (.cells #[.int .i64 0, .slice none 0 0] 26 (0, 0)) := Z.out
      refine ⟨.slice A8 0 c8, u7, by first | rfl | (simp; done), ?_, ?_, below_set (below_set (pw_below_drewN HB.out nq) (by omega)) (by omega)⟩
      · exact Kd.R_mono (Kd.R_far (p := ⟨w.heap.size + 1, 1, none⟩) (Kd.R_far (p := ⟨w.heap.size + 1, 0, none⟩) (Kd.R_types (Kd.R_drewN RL.out nq) Z9 (by decide)) (fun _ hk => hk.2) _) (fun _ hk => hk.2) _) (fun _ _ => trivial)
      · exact Kd.R_mono (Kd.R_far (p := ⟨w.heap.size + 1, 1, none⟩) (Kd.R_far (p := ⟨w.heap.size + 1, 0, none⟩) (Kd.R_types (Kd.R_drewN RG.out nq) Z9 (by decide)) (fun _ hk => hk.2) _) (fun _ hk => hk.2) _) (fun _ _ => trivial)
    | cons a l =>
      simp only [spec_ClockTick.l0] at H
      obtain ⟨g, cap, e8, hbg, hglt, hgc⟩ := Kd.R_form RL.out (by simp)
      simp only [List.length_cons] at e8
      subst e8
      obtain ⟨u0, u1, u2⟩ := spec_ClockTick.head RL.out
      have hpos : decide (0 < (l.length : Int) + 1) = true := decide_eq_true (by omega)
      by_cases hf : a.f1 ≤ wrap64 (a0_0 + a1)
      rotate_left
      · rw [if_neg hf] at H
        have hfb : decide (a.f1 ≤ wrap64 (a0_0 + a1)) = false := decide_eq_false hf
        simp only [Option.some.injEq, Prod.mk.injEq] at H
        obtain ⟨rfl, rfl⟩ := H
        go_wp2_with fail
        go_quiet (fail)
        go_wp2
        refine bodyPost_ret (results_ctt rfl _ _ (w.heap.size + 1) 26 #[.int .i64 (wrap64 (a0_0 + a1)), .slice (some ⟨g, 0, none⟩) (l.length + 1) cap] (0, 0) _ rfl (by refine blk_put (cs := #[.int .i64 (wrap64 (a0_0 + a1)), .slice none 0 0]) ?_ 1 _ rfl; refine blk_put (cs := #[.int .i64 0, .slice none 0 0]) ?_ 0 _ rfl; exact Z.out) Try.underlying26 rfl zk) rfl ?_
        have Z9 : (wr.drewN nq).heap[w.heap.size + 1]? = some (.cells #[.int .i64 0, .slice none 0 0] 26 (0, 0)) := Z.out
        refine ⟨.slice (some ⟨g, 0, none⟩) (l.length + 1) cap, u7, by first | rfl | (simp; done), ?_, ?_, below_set (below_set (pw_below_drewN HB.out nq) (by omega)) (by omega)⟩
        · exact Kd.R_mono (Kd.R_far (p := ⟨w.heap.size + 1, 1, none⟩) (Kd.R_far (p := ⟨w.heap.size + 1, 0, none⟩) (Kd.R_types (Kd.R_drewN RL.out nq) Z9 (by decide)) (fun _ hk => hk.2) _) (fun _ hk => hk.2) _) (fun _ _ => trivial)
        · exact Kd.R_mono (Kd.R_far (p := ⟨w.heap.size + 1, 1, none⟩) (Kd.R_far (p := ⟨w.heap.size + 1, 0, none⟩) (Kd.R_types (Kd.R_drewN RG.out nq) Z9 (by decide)) (fun _ hk => hk.2) _) (fun _ hk => hk.2) _) (fun _ _ => trivial)
      rw [if_pos hf] at H
      have hfb : decide (a.f1 ≤ wrap64 (a0_0 + a1)) = true := decide_eq_true hf
      by_cases hrg : rg.length < 1000000000
      rotate_left
      · rw [if_neg hrg] at H
        cases H
      rw [if_pos hrg] at H
      by_cases hll : l.length < 1000000000
      rotate_left
      · rw [if_neg hll] at H
        cases H
      rw [if_pos hll] at H
      have HH := Aside0.mk H
      clear H z0 z1 z2 z3
      go_wp2_with fail
      go_quiet (fail)
      have hbq := pw_below_drewN (Below.refl wr.heap.size wr) nq
      go_upto_region 7 with ((with_reducible refine gate_dst (N := 9) rfl ?_); refine box_event ?hg (N := 9) ?hd (cs := #[.int .i64 0, .int .i64 0, .int .i64 0]) (t := 62) ?hr ?_; (case hd => rfl); (case hg => rfl); (case hr => first | (go_simp; done) | (go_simp; rfl)); intro ab hab0 w10 hba hb10; have hab := Aside0.mk (show ab = wr.heap.size from hab0); clear hab0; have b0 : w10.cell? ⟨ab, 0, none⟩ = some (.int .i64 0) := (blk_cell hba 0).trans rfl; have b1 : w10.cell? ⟨ab, 1, none⟩ = some (.int .i64 0) := (blk_cell hba 1).trans rfl; have b2 : w10.cell? ⟨ab, 2, none⟩ = some (.int .i64 0) := (blk_cell hba 2).trans rfl; have b3 := blk_frozen hba 0; have b4 := blk_frozen hba 1; have b5 := blk_frozen hba 2)
      have hab' : ab = wr.heap.size := hab.out
      have hb11 : Below wr.heap.size wr (((w10.setCell ⟨ab, 0, none⟩ (.int .i64 a.f0)).setCell ⟨ab, 1, none⟩ (.int .i64 a.f1)).setCell ⟨ab, 2, none⟩ (.int .i64 a.f2)) := below_set (below_set (below_set (below_then hbq hbq.size hb10) (by omega)) (by omega)) (by omega)
      have AB : (((w10.setCell ⟨ab, 0, none⟩ (.int .i64 a.f0)).setCell ⟨ab, 1, none⟩ (.int .i64 a.f1)).setCell ⟨ab, 2, none⟩ (.int .i64 a.f2)).heap[ab]? = some (.cells #[.int .i64 a.f0, .int .i64 a.f1, .int .i64 a.f2] 62 (0, 0)) := by
        refine blk_put (cs := #[.int .i64 a.f0, .int .i64 a.f1, .int .i64 0]) ?_ 2 _ rfl
        refine blk_put (cs := #[.int .i64 a.f0, .int .i64 0, .int .i64 0]) ?_ 1 _ rfl
        refine blk_put (cs := #[.int .i64 0, .int .i64 0, .int .i64 0]) ?_ 0 _ rfl
        exact hba
      generalize ((w10.setCell ⟨ab, 0, none⟩ (.int .i64 a.f0)).setCell ⟨ab, 1, none⟩ (.int .i64 a.f1)).setCell ⟨ab, 2, none⟩ (.int .i64 a.f2) = w11 at hb11 AB ⊢
      clear b0 b1 b2 b3 b4 b5 hba hb10 hab' x0 u0 u1 u2
      have X11 := (hb11.block _ (blk_lt X.out)).trans X.out
      have Z11 := (hb11.block _ (blk_lt Z.out)).trans Z.out
      have HB11 := below_then HB.out HB.out.size hb11
      have RL11 := Kd.R_below RL.out hb11
      have RG11 := Kd.R_below RG.out hb11
      have hcap : (a :: l).length ≤ cap := by have := (Kd.R_reads' RL11).2.1; simp only [List.length_cons]; omega
      have hAe : (if cap = 1 then (some ⟨g, 0, none⟩ : Option Addr) else (some ⟨g, 0, none⟩ : Option Addr).map (·.add (1 * k62.sz))) = (if cap = 1 then some ⟨g, 0, none⟩ else some (⟨g, 3, none⟩ : Addr)) := by
        split
        · rfl
        · show some ((⟨g, 0, none⟩ : Addr).add (1 * 3)) = _
          rw [add_at]
      have hc1 : 1 ≤ cap := by simp only [List.length_cons] at hcap; omega
      go_upto_region 8 with (first | ((with_reducible refine gate_dst (N := 50) rfl ?_); refine Kd.R_lit k62 _ 62 ?hg (N := 50) ?hd (xs := ([] : List S62)) (inner := []) (ok := fun _ => True) (okp := fun _ => True) ?hr ?hp (fun _ hk => hk) trivial (Below.refl _ _) (Nat.le_refl _) (by simp) ?_; (case hd => rfl); (case hg => rfl); (case hr => first | (go_simp; done) | (go_simp; rfl)); (case hp => exact (Reps.none _ _)); intro v50 w12 ho50 hb12 hg_ hnew_; clear hg_ hnew_; have AB12 := (hb12.block _ (blk_lt AB)).trans AB; have X12 := (hb12.block _ (blk_lt X11)).trans X11; have Z12 := (hb12.block _ (blk_lt Z11)).trans Z11; have RG12 := Kd.R_below RG11 hb12; have hC12 : Kd.C k62 w12 (if cap = 1 then some ⟨g, 0, none⟩ else some (⟨g, 3, none⟩ : Addr)) l.length l := by have h := Kd.C_drop (m := 1) (Kd.R_reads' (Kd.R_below RL11 hb12)).2.2 (by simp) hcap; rw [hAe] at h; exact h) | ((with_reducible refine gate_builtin (b := .append) (xs := #[.tmp 50, .tmp 52]) rfl ?_); at_builtin; refine Kd.R_append_rows k62 (w0 := w11) w11.heap.size rfl (.tmp 50) (.tmp 52) 24 62 (.agg #[(.int .i64 0), (.int .i64 0), (.int .i64 0)]) 24 rfl Try.underlying24 info62 rfl (by decide) (by omega) v50 ([] : List S62) l _ _ _ (fun _ => True) (fun _ => False) rfl rfl ?aO ?aR (fun _ _ h => h) (fun _ h => h.elim) (fun _ _ => trivial) ?aB ?aS ?aL ?_; (case aR => exact hC12); (case aB => exact hb12); (case aO => exact ho50); (case aS => exact (hb12).size); (case aL => simp only [List.length_nil]; omega); intro v8 w13 ho13 hb13 hg13 hat13))
      have ho13' : Kd.R k62 62 w13 w11.heap.size (fun _ => True) v8 l := ho13
      have hrow : ∀ q, (v50 : Value).ownBlock = some q → w11.heap.size ≤ q := fun q hq => Kd.R_base ho50 q hq
      have habl := blk_lt AB
      have AB13 := (hg13.block _ (Nat.lt_of_lt_of_le habl hb12.size) (fun e => by have := hrow _ e.symm; omega)).trans AB12
      have X13 := (hg13.block _ (blk_lt X12) (Kd.R_ne ho50 X12 (by decide))).trans X12
      have Z13 := (hg13.block _ (blk_lt Z12) (Kd.R_ne ho50 Z12 (by decide))).trans Z12
      have RG13 := Kd.R_over' RG12 (Kd.R_typed ho50) (by decide) hg13
      have HB13 := below_then HB11 HB11.size hb13
      have hRL : ∀ q, w11.heap.size ≤ q → q ≠ ab := fun q hq => by omega
      obtain ⟨A8, c8, rfl⟩ := Kd.R_slice ho13'
      clear ho13 hg13 hat13 ho50 AB AB12 X11 X12 Z11 Z12 RG11 RG12 RL11 hb12 hAe hC12
      generalize (if cap = 1 then (some ⟨g, 0, none⟩ : Option Addr) else some (⟨g, 3, none⟩ : Addr)) = AQ
      have a0 : w13.cell? ⟨ab, 0, none⟩ = some (.int .i64 a.f0) := (blk_cell AB13 0).trans rfl
      obtain ⟨A7, c7, e7⟩ := Kd.R_slice RG13
      subst e7
      go_upto_region 9 with ((with_reducible refine gate_builtin (b := .append) (xs := #[.tmp 54, .tmp 57]) rfl ?_); at_builtin; refine Kd.R_append (Kd.int .i64) (w0 := w) w.heap.size rfl (.tmp 54) (.tmp 57) 45 3 (.int .i64 0) 8 rfl Try.underlying45 info3 rfl (by decide) (by omega) (.slice A7 rg.length c7) rg a.f0 [.int .i64 a.f0] (fun _ => True) (fun _ => False) rfl rfl ?aP (fun _ hk => hk.elim) (fun _ _ => trivial) ?aO ?aB ?aS ?aL ?_; (case aP => rfl); (case aB => exact HB13); (case aO => exact RG13); (case aS => exact HB13.size); (case aL => omega); intro v14 w14 ho14 hb14 hg14 hat14)
      have AB14 := (hg14.block _ (blk_lt AB13) (Kd.R_ne RG13 AB13 (by decide))).trans AB13
      have X14 := (hg14.block _ (blk_lt X13) (Kd.R_ne RG13 X13 (by decide))).trans X13
      have Z14 := (hg14.block _ (blk_lt Z13) (Kd.R_ne RG13 Z13 (by decide))).trans Z13
      have RL14 := Kd.R_over' ho13' (Kd.R_typed RG13) (by decide) hg14
      clear AB13 X13 Z13 RG13 HB13 ho13' hg14 hat14 hb13 a0
      have a1c : w14.cell? ⟨ab, 1, none⟩ = some (.int .i64 a.f1) := (blk_cell AB14 1).trans rfl
      have a2c : w14.cell? ⟨ab, 2, none⟩ = some (.int .i64 a.f2) := (blk_cell AB14 2).trans rfl
      have a3c := blk_frozen AB14 1
      go_upto_region 10 with fail
      have hwab : w.heap.size + 1 ≠ ab := by have h1 := blk_lt Z.out; have h2 := hab.out; omega
      have hwab0 : w.heap.size ≠ ab := by have h1 := blk_lt Z.out; have h2 := hab.out; omega
      have hle : w.heap.size ≤ ab := by have h1 := blk_lt Z.out; have h2 := hab.out; omega
      have hf15 : ∀ q, q ≠ ab → (w14.setCell ⟨ab, 1, none⟩ (.int .i64 (wrap64 (a.f1 + a.f2)))).heap[q]? = w14.heap[q]? := fun q hq => Below.heap_setCell w14 ⟨ab, 1, none⟩ _ q hq
      have AB15 : (w14.setCell ⟨ab, 1, none⟩ (.int .i64 (wrap64 (a.f1 + a.f2)))).heap[ab]? = some (.cells #[.int .i64 a.f0, .int .i64 (wrap64 (a.f1 + a.f2)), .int .i64 a.f2] 62 (0, 0)) := blk_put AB14 1 _ rfl
      have X15 := (hf15 _ hwab0).trans X14
      have Z15 := (hf15 _ hwab).trans Z14
      have HB15 := below_set (j := 1) (v := .int .i64 (wrap64 (a.f1 + a.f2))) hb14 hle
      have RL15 : Kd.R k62 62 (w14.setCell ⟨ab, 1, none⟩ (.int .i64 (wrap64 (a.f1 + a.f2)))) w.heap.size (fun _ => True) (.slice A8 l.length c8) l := Kd.R_lower (Kd.R_mono (Kd.R_far (p := ⟨ab, 1, none⟩) (Kd.R_bound RL14) (fun q hq => hRL q hq.2.1) (.int .i64 (wrap64 (a.f1 + a.f2)))) (fun _ _ => trivial)) HB11.size
      have RG15 : Kd.R (Kd.int .i64) 3 (w14.setCell ⟨ab, 1, none⟩ (.int .i64 (wrap64 (a.f1 + a.f2)))) w.heap.size (fun _ => True) v14 (rg ++ [a.f0]) := Kd.R_mono (Kd.R_far (p := ⟨ab, 1, none⟩) (Kd.R_types ho14 AB14 (by decide)) (fun _ hk => hk.2) (.int .i64 (wrap64 (a.f1 + a.f2)))) (fun _ _ => trivial)
      generalize w14.setCell ⟨ab, 1, none⟩ (.int .i64 (wrap64 (a.f1 + a.f2))) = w15 at AB15 X15 Z15 HB15 RL15 RG15 ⊢
      clear AB14 X14 Z14 RL14 ho14 hb14 hf15 a1c a2c a3c
      have H := HH.out
      clear HH
      have a0 : w15.cell? ⟨ab, 0, none⟩ = some (.int .i64 a.f0) := (blk_cell AB15 0).trans rfl
      have a1c : w15.cell? ⟨ab, 1, none⟩ = some (.int .i64 (wrap64 (a.f1 + a.f2))) := (blk_cell AB15 1).trans rfl
      have a2c : w15.cell? ⟨ab, 2, none⟩ = some (.int .i64 a.f2) := (blk_cell AB15 2).trans rfl
      by_cases hev : 0 < a.f2
      rotate_left
      · rw [if_neg hev] at H
        have hevb : decide (0 < a.f2) = false := decide_eq_false hev
        have HH := Aside0.mk H
        clear H
        go_wp2_with fail
        go_roundg kr
        case measure => omega
        case rel => exact ⟨l, rg ++ [a.f0], HH, ⟨by have := HK.out; omega⟩, ⟨RL15⟩, ⟨RG15⟩, ⟨X15⟩, ⟨Z15⟩, ⟨HB15⟩⟩
      rw [if_pos hev] at H
      have hevb : decide (0 < a.f2) = true := decide_eq_true hev
      obtain ⟨q, hq, H⟩ := Option.bind_eq_some_iff.1 H
      have HQ := Aside0.mk hq
      clear hq
      cases q with
      | false =>
        rw [if_neg nf_] at H
        have HH := Aside0.mk H
        clear H
        go_wp2_with (go_at_call 46; refine (spec_l19Time.calls _ _ _ HQ.out).mono ?_; rintro e w16 ⟨rfl, hd⟩; have hb := spec_ClockTick.bel hd; clear hd; have AB16 := (hb.block _ (blk_lt AB15)).trans AB15; have X16 := (hb.block _ (blk_lt X15)).trans X15; have Z16 := (hb.block _ (blk_lt Z15)).trans Z15; have RL16 := Kd.R_below RL15 hb; have RG16 := Kd.R_below RG15 hb; have HB16 := below_then HB15 HB15.size hb; have a016 : w16.cell? ⟨ab, 0, none⟩ = some (.int .i64 a.f0) := (blk_cell AB16 0).trans rfl; have a116 : w16.cell? ⟨ab, 1, none⟩ = some (.int .i64 (wrap64 (a.f1 + a.f2))) := (blk_cell AB16 1).trans rfl; have a216 : w16.cell? ⟨ab, 2, none⟩ = some (.int .i64 a.f2) := (blk_cell AB16 2).trans rfl)
        go_roundg kr
        case measure => omega
        case rel => exact ⟨l, rg ++ [a.f0], HH, ⟨by have := HK.out; omega⟩, ⟨RL16⟩, ⟨RG16⟩, ⟨X16⟩, ⟨Z16⟩, ⟨HB16⟩⟩
      | true =>
        rw [if_pos rfl] at H
        obtain ⟨l2, hl2, H⟩ := Option.bind_eq_some_iff.1 H
        have HA2 := Aside0.mk hl2
        have HH := Aside0.mk H
        clear hl2 H
        go_wp2_with (first | (go_at_call 46; refine (spec_l19Time.calls _ _ _ HQ.out).mono ?_; rintro e w16 ⟨rfl, hd⟩; have hb := spec_ClockTick.bel hd; clear hd; have AB16 := (hb.block _ (blk_lt AB15)).trans AB15; have X16 := (hb.block _ (blk_lt X15)).trans X15; have Z16 := (hb.block _ (blk_lt Z15)).trans Z15; have RL16 := Kd.R_below RL15 hb; have RG16 := Kd.R_below RG15 hb; have HB16 := below_then HB15 HB15.size hb; have a016 : w16.cell? ⟨ab, 0, none⟩ = some (.int .i64 a.f0) := (blk_cell AB16 0).trans rfl; have a116 : w16.cell? ⟨ab, 1, none⟩ = some (.int .i64 (wrap64 (a.f1 + a.f2))) := (blk_cell AB16 1).trans rfl; have a216 : w16.cell? ⟨ab, 2, none⟩ = some (.int .i64 a.f2) := (blk_cell AB16 2).trans rfl) | (go_at_call 61; refine (spec_l19Add.calls kr A8 c8 l a.f0 (wrap64 (a.f1 + a.f2)) a.f2 l2 _ (Kd.R_reads' RL16).2.2 (Kd.R_reads' RL16).2.1 HA2.out).mono ?_; rintro e w17 ⟨v17, rfl, ho17, hb17⟩))
        go_roundg kr
        case measure => omega
        case rel => exact ⟨l2, rg ++ [a.f0], HH, ⟨by have := HK.out; omega⟩, ⟨Kd.R_lower ho17 HB16.size⟩, ⟨Kd.R_below RG16 hb17⟩, ⟨(hb17.block _ (blk_lt X16)).trans X16⟩, ⟨(hb17.block _ (blk_lt Z16)).trans Z16⟩, ⟨below_then HB16 HB16.size hb17⟩⟩


end Go.Proofs.Ytlejcgnfpcngbaa.P
