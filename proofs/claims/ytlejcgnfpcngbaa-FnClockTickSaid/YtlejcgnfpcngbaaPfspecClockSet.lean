-- printed by this session's own driver (wip/qd.py) out of the translation; Lean checks it
import Derived.Test.YtlejcgnfpcngbaaPf0
import Derived.Test.YtlejcgnfpcngbaaPfspecl6In
import Derived.Test.YtlejcgnfpcngbaaPfspecClockOk
import Derived.Test.YtlejcgnfpcngbaaPfspecl19Less
import Derived.Test.YtlejcgnfpcngbaaPfspecl19Add
namespace Go.Proofs.Ytlejcgnfpcngbaa.P
open Go.RowKit Go.Proofs.YtlejcgnfpcngbaaW.PrintWords Go.Proofs.YtlejcgnfpcngbaaW.PrintLast Go.Proofs.YtlejcgnfpcngbaaW.PrintMore
attribute [local go_sem] max2_int min2_int max_two min_two max_three min_three max_four min_four Q.cell_set_map   -- for this text's walks alone
set_option linter.unusedVariables false
set_option linter.unusedSimpArgs false

/-! ### spec_ClockSet: function 39 -/
def spec_ClockSet.j0 : Nat → Int → Int → Int → Bool → Int → List (S62) → Option (Int × (List (S62)) × Bool)
 | 0, _, _, _, _, _, _ => none
 | k + 1, x1, x2, x3, x31, x102000, x102001 => if x31 = true then (some (0, ([] : List (S62)), false)) else ((spec_l19Less.f k x102001 x1).bind fun t107 => ((spec_l19Add.f k t107 x1 (wrap64 (x102000 + x2)) x3).bind fun t110 => (if (t110.length : Int) > 12 then (some (0, ([] : List (S62)), false)) else (some (x102000, t110, true)))))
def spec_ClockSet.f (k : Nat) (a0_0 : Int) (l0_1 : List (S62)) (a1 : Int) (a2 : Int) (a3 : Int) : Option (Int × (List (S62)) × Bool) := (spec_ClockOk.f k a0_0 l0_1).bind fun t103 => (if t103 = true then ((spec_l6In.f a1 0 99).bind fun t104 => (if t104 = true then ((spec_l6In.f a2 1 (wrap64 (4095 - a0_0))).bind fun t105 => (if t105 = true then ((spec_l6In.f a3 0 99).bind fun t106 => (spec_ClockSet.j0 k a1 a2 a3 (!t106) a0_0 l0_1)) else (spec_ClockSet.j0 k a1 a2 a3 true a0_0 l0_1))) else (spec_ClockSet.j0 k a1 a2 a3 true a0_0 l0_1))) else (spec_ClockSet.j0 k a1 a2 a3 true a0_0 l0_1))
theorem spec_ClockSet.mono_l : ∀ k, (∀ y0 y1 y2 y3 y4 y5, LeO (spec_ClockSet.j0 k y0 y1 y2 y3 y4 y5) (spec_ClockSet.j0 (k + 1) y0 y1 y2 y3 y4 y5))
 | 0 => fun _ _ _ _ _ _ r h => by simp [spec_ClockSet.j0] at h
 | k + 1 => by
  have ih0 := spec_ClockSet.mono_l k
  ·
   intro y0 y1 y2 y3 y4 y5
   unfold spec_ClockSet.j0
   repeat' first
   | (with_reducible exact ih0 _ _ _ _ _ _)
   | (with_reducible exact spec_ClockOk.mono _ _ _)
   | (with_reducible exact spec_l19Add.mono _ _ _ _ _)
   | (with_reducible exact spec_l19Less.mono _ _ _)
   | (with_reducible exact LeO.refl _)
   | (with_reducible exact LeO.none _)
   | (with_reducible refine LeO.ite ?_ ?_)
   | (with_reducible refine LeO.bind ?_ (fun _ => ?_))
   | exact ih0 _ _ _ _ _ _
   | exact spec_ClockOk.mono _ _ _
   | exact spec_l19Add.mono _ _ _ _ _
   | exact spec_l19Less.mono _ _ _
   | exact LeO.none _
   | refine LeO.ite ?_ ?_
   | refine LeO.bind ?_ (fun _ => ?_)
theorem spec_ClockSet.mono : ∀ a0 a1 a2 a3 a4 k, LeO (spec_ClockSet.f k a0 a1 a2 a3 a4) (spec_ClockSet.f (k + 1) a0 a1 a2 a3 a4) := by
 intro a0 a1 a2 a3 a4 k
 have ih0 := spec_ClockSet.mono_l k
 unfold spec_ClockSet.f
 repeat' first
   | (with_reducible exact ih0 _ _ _ _ _ _)
   | (with_reducible exact spec_ClockOk.mono _ _ _)
   | (with_reducible exact spec_l19Add.mono _ _ _ _ _)
   | (with_reducible exact spec_l19Less.mono _ _ _)
   | (with_reducible exact LeO.refl _)
   | (with_reducible exact LeO.none _)
   | (with_reducible refine LeO.ite ?_ ?_)
   | (with_reducible refine LeO.bind ?_ (fun _ => ?_))
   | exact ih0 _ _ _ _ _ _
   | exact spec_ClockOk.mono _ _ _
   | exact spec_l19Add.mono _ _ _ _ _
   | exact spec_l19Less.mono _ _ _
   | exact LeO.none _
   | refine LeO.ite ?_ ?_
   | refine LeO.bind ?_ (fun _ => ?_)
def spec_ClockSet.T3 : Bool × List (List Nat × List Nat) := (true, [([], []), ([0], [0]), ([], []), ([1, 2], [1, 2]), ([], []), ([], []), ([5], [5]), ([], []), ([6, 7], [6, 7]), ([], []), ([4, 8, 9], [4, 8, 9]), ([3, 10, 3], [3, 10]), ([11, 11, 0, 1, 2, 3, 4, 5, 6, 7, 8, 9, 10, 11], [11])])
def spec_ClockSet.B3 : List Nat := [0, 1, 0, 7, 0, 0, 32, 0, 224, 0, 1008, 2047, 4095]
theorem spec_ClockSet.tab3 : rtab .any (opsOf Try.f39 3) = spec_ClockSet.T3 := by kernel_rfl
theorem spec_ClockSet.bits3 : waitsOk spec_ClockSet.T3.2 spec_ClockSet.B3 = true := by kernel_rfl
set_option maxHeartbeats 8000000 in
set_option maxRecDepth 100000 in
theorem spec_ClockSet.calls (k : Nat) (a0_0 : Int) (A0_1 : Option Addr) (c0_1 : Nat) (l0_1 : List (S62)) (a1 : Int) (a2 : Int) (a3 : Int) (r1 : Int) (r2 : List (S62)) (r3 : Bool) (w : World) (hr0_1 : Kd.C k62 w A0_1 l0_1.length l0_1) (hc0_1 : l0_1.length ≤ c0_1) (h : spec_ClockSet.f k a0_0 l0_1 a1 a2 a3 = some (r1, r2, r3)) :
  Calls Try.prog 39 #[.agg #[.int .i64 a0_0, .slice A0_1 l0_1.length c0_1], .int .i64 a1, .int .i64 a2, .int .i64 a3] w fun e w' => ∃ v1_ : Value, e = .returned (.tuple #[.agg #[.int .i64 r1, v1_], .bool r3]) ∧ Kd.R k62 62 w' w.heap.size (fun _ => True) v1_ r2 ∧ Below w.heap.size w w' := by
 have hu26 := Try.underlying26; have hu62 := Try.underlying62; have HR0_1 := Aside0.mk hr0_1; have HC0_1 := Aside0.mk hc0_1; clear hr0_1 hc0_1; have HB := Aside0.mk (Below.refl w.heap.size w); have H : ((spec_ClockOk.f k a0_0 l0_1).bind fun t103 => (if t103 = true then ((spec_l6In.f a1 0 99).bind fun t104 => (if t104 = true then ((spec_l6In.f a2 1 (wrap64 (4095 - a0_0))).bind fun t105 => (if t105 = true then ((spec_l6In.f a3 0 99).bind fun t106 => (spec_ClockSet.j0 k a1 a2 a3 (!t106) a0_0 l0_1)) else (spec_ClockSet.j0 k a1 a2 a3 true a0_0 l0_1))) else (spec_ClockSet.j0 k a1 a2 a3 true a0_0 l0_1))) else (spec_ClockSet.j0 k a1 a2 a3 true a0_0 l0_1))) = some (r1, r2, r3) := h; clear h; have HC5 := Aside0.mk H; clear H
 go_enter Try.func39, Try.ntmps39
 go_upto_region 1 with (first | ((with_reducible refine gate_dst (N := 4) rfl ?_); refine box_event ?hg (N := 4) ?hd (cs := #[.int .i64 a0_0, .slice A0_1 l0_1.length c0_1]) (t := 26) ?hr ?_; (case hd => rfl); (case hg => rfl); (case hr => first | (go_simp; done) | (go_simp; rfl)); intro gb101 hg w6 hbox hb; have BK101 := Aside0.mk (hbox); have GW101 := Aside0.mk ((by rw [hg]; exact (below_size (bz HB.out)) : w.heap.size ≤ gb101)); have GE101 := Aside0.mk ((by rw [hg]; exact (below_size (bz HB.out)) : w.heap.size ≤ gb101)); replace HB := Aside0.mk (below_step (bz HB.out) hb); clear hb hbox hg) | ((with_reducible refine gate_dst (N := 8) rfl ?_); refine box_event ?hg (N := 8) ?hd (cs := #[.int .i64 0, .slice none 0 0]) (t := 26) ?hr ?_; (case hd => rfl); (case hg => rfl); (case hr => first | (go_simp; done) | (go_simp; rfl)); intro gb102 hg w7 hbox hb; have BK102 := Aside0.mk (hbox); have GW102 := Aside0.mk ((by rw [hg]; exact (below_size (bs HB.out GE101.out)) : w.heap.size ≤ gb102)); have GE102 := Aside0.mk ((by rw [hg]; exact (below_size (bs HB.out GE101.out)) : w.heap.size ≤ gb102)); replace HB := Aside0.mk (below_step (bs HB.out GE101.out) hb); have NB101_102 := Aside0.mk ((by rw [hg]; exact Nat.ne_of_lt (blk_lt (kz BK101.out)) : gb101 ≠ gb102)); have NB102_101 := Aside0.mk ((by rw [hg]; exact Nat.ne_of_gt (blk_lt (kz BK101.out)) : gb102 ≠ gb101)); replace BK101 := Aside0.mk (blk_below (kz BK101.out) hb); clear hb hbox hg))
 (try simp only [Act.put, List.setIfInBounds_toArray, List.set_cons_zero, List.set_cons_succ])
 go_cut [31] (fun v31 wc => ∃ (kq : Nat) (x31_4 : Bool), v31 = .bool x31_4 ∧ Aside0 (spec_ClockSet.j0 kq a1 a2 a3 x31_4 a0_0 l0_1 = some (r1, r2, r3)) ∧ Aside0 (kq ≤ k) ∧ Aside0 (wc.heap[gb101]? = some (.cells #[.int .i64 a0_0, (.slice A0_1 l0_1.length c0_1)] 26 (0, 0))) ∧ Aside0 (wc.heap[gb102]? = some (.cells #[.int .i64 0, (.slice none 0 0)] 26 (0, 0))) ∧ Aside0 (Below w.heap.size w wc))
 case first =>
  have H := HC5.out; clear HC5; replace H := Option.bind_eq_some_iff.mp H; obtain ⟨t103, A80, H⟩ := H; have A8 := Aside0.mk A80; clear A80
  by_cases c9 : t103 = true
  ·
   subst c9; rw [if_pos rfl] at H; replace H := Option.bind_eq_some_iff.mp H; obtain ⟨t104, A100, H⟩ := H; have A10 := Aside0.mk A100; clear A100
   by_cases c11 : t104 = true
   ·
    subst c11; rw [if_pos rfl] at H; replace H := Option.bind_eq_some_iff.mp H; obtain ⟨t105, A120, H⟩ := H; have A12 := Aside0.mk A120; clear A120
    by_cases c13 : t105 = true
    ·
     subst c13; rw [if_pos rfl] at H; replace H := Option.bind_eq_some_iff.mp H; obtain ⟨t106, A140, H⟩ := H; have A14 := Aside0.mk A140; clear A140; have H' := Aside0.mk H; clear H; have hnb15 := NB101_102.out; have hnc15 := NB102_101.out; have hcz16_0 : w7.cell? ⟨gb101, 0, none⟩ = some (.int .i64 a0_0) := (blk_cell BK101.out 0).trans rfl; have hcz16_1 : w7.cell? ⟨gb101, 1, none⟩ = some (.slice A0_1 l0_1.length c0_1) := (blk_cell BK101.out 1).trans rfl; have hfz16_0 := blk_frozen BK101.out 0; have hfz16_1 := blk_frozen BK101.out 1
     go_wp2_with (first | ((with_reducible refine gate_callee (f := 26) rfl ?_); refine goesL_ (some 12) rfl rfl Try.func26 zk rfl #[.agg #[.int .i64 a0_0, .slice A0_1 l0_1.length c0_1]] rfl zm ?_; (with_reducible refine (spec_ClockOk.calls k a0_0 _ _ l0_1 true _ ?side1 ?side2 A8.out).mono ?_); (case side1 => exact cz (Kd.C_below HR0_1.out HB.out)); (case side2 => exact HC0_1.out); rintro e w17 ⟨rfl, hb⟩; refine ⟨_, rfl, ?_⟩; replace BK101 := Aside0.mk (blk_below (kz BK101.out) hb); replace BK102 := Aside0.mk (blk_below (kz BK102.out) hb); replace HB := Aside0.mk (below_step (bs2 HB.out GE101.out GE102.out) hb); (try clear hb)) | (go_at_call 52; (with_reducible refine (spec_l6In.calls a1 0 99 true _ A10.out).mono ?_); rintro e w' ⟨rfl, ⟨nd, rfl⟩⟩; have hcz18_0 : w17.cell? ⟨gb101, 0, none⟩ = some (.int .i64 a0_0) := (blk_cell BK101.out 0).trans rfl; have hcz18_1 : w17.cell? ⟨gb101, 1, none⟩ = some (.slice A0_1 l0_1.length c0_1) := (blk_cell BK101.out 1).trans rfl; have hfz18_0 := blk_frozen BK101.out 0; have hfz18_1 := blk_frozen BK101.out 1) | (go_at_call 52; (with_reducible refine (spec_l6In.calls a2 1 (wrap64 (4095 - a0_0)) true _ A12.out).mono ?_); rintro e w' ⟨rfl, ⟨nd, rfl⟩⟩) | (go_at_call 52; (with_reducible refine (spec_l6In.calls a3 0 99 t106 _ A14.out).mono ?_); rintro e w' ⟨rfl, ⟨nd, rfl⟩⟩))
     go_meet
     case rel => exact ⟨_, (!t106), zr, H', ⟨by first | omega | exact Nat.le_refl _⟩, ⟨kz (BK101.out)⟩, ⟨kz (BK102.out)⟩, ⟨bs2 HB.out GE101.out GE102.out⟩⟩
    ·
     replace c13 := Bool.eq_false_iff.mpr c13; subst c13; rw [if_neg nf_] at H; have H' := Aside0.mk H; clear H; have hnb19 := NB101_102.out; have hnc19 := NB102_101.out; have hcz20_0 : w7.cell? ⟨gb101, 0, none⟩ = some (.int .i64 a0_0) := (blk_cell BK101.out 0).trans rfl; have hcz20_1 : w7.cell? ⟨gb101, 1, none⟩ = some (.slice A0_1 l0_1.length c0_1) := (blk_cell BK101.out 1).trans rfl; have hfz20_0 := blk_frozen BK101.out 0; have hfz20_1 := blk_frozen BK101.out 1
     go_wp2_with (first | ((with_reducible refine gate_callee (f := 26) rfl ?_); refine goesL_ (some 12) rfl rfl Try.func26 zk rfl #[.agg #[.int .i64 a0_0, .slice A0_1 l0_1.length c0_1]] rfl zm ?_; (with_reducible refine (spec_ClockOk.calls k a0_0 _ _ l0_1 true _ ?side1 ?side2 A8.out).mono ?_); (case side1 => exact cz (Kd.C_below HR0_1.out HB.out)); (case side2 => exact HC0_1.out); rintro e w21 ⟨rfl, hb⟩; refine ⟨_, rfl, ?_⟩; replace BK101 := Aside0.mk (blk_below (kz BK101.out) hb); replace BK102 := Aside0.mk (blk_below (kz BK102.out) hb); replace HB := Aside0.mk (below_step (bs2 HB.out GE101.out GE102.out) hb); (try clear hb)) | (go_at_call 52; (with_reducible refine (spec_l6In.calls a1 0 99 true _ A10.out).mono ?_); rintro e w' ⟨rfl, ⟨nd, rfl⟩⟩; have hcz22_0 : w21.cell? ⟨gb101, 0, none⟩ = some (.int .i64 a0_0) := (blk_cell BK101.out 0).trans rfl; have hcz22_1 : w21.cell? ⟨gb101, 1, none⟩ = some (.slice A0_1 l0_1.length c0_1) := (blk_cell BK101.out 1).trans rfl; have hfz22_0 := blk_frozen BK101.out 0; have hfz22_1 := blk_frozen BK101.out 1) | (go_at_call 52; (with_reducible refine (spec_l6In.calls a2 1 (wrap64 (4095 - a0_0)) false _ A12.out).mono ?_); rintro e w' ⟨rfl, ⟨nd, rfl⟩⟩))
     go_meet
     case rel => exact ⟨_, (true), zr, H', ⟨by first | omega | exact Nat.le_refl _⟩, ⟨kz (BK101.out)⟩, ⟨kz (BK102.out)⟩, ⟨bs2 HB.out GE101.out GE102.out⟩⟩
   ·
    replace c11 := Bool.eq_false_iff.mpr c11; subst c11; rw [if_neg nf_] at H; have H' := Aside0.mk H; clear H; have hnb23 := NB101_102.out; have hnc23 := NB102_101.out; have hcz24_0 : w7.cell? ⟨gb101, 0, none⟩ = some (.int .i64 a0_0) := (blk_cell BK101.out 0).trans rfl; have hcz24_1 : w7.cell? ⟨gb101, 1, none⟩ = some (.slice A0_1 l0_1.length c0_1) := (blk_cell BK101.out 1).trans rfl; have hfz24_0 := blk_frozen BK101.out 0; have hfz24_1 := blk_frozen BK101.out 1
    go_wp2_with (first | ((with_reducible refine gate_callee (f := 26) rfl ?_); refine goesL_ (some 12) rfl rfl Try.func26 zk rfl #[.agg #[.int .i64 a0_0, .slice A0_1 l0_1.length c0_1]] rfl zm ?_; (with_reducible refine (spec_ClockOk.calls k a0_0 _ _ l0_1 true _ ?side1 ?side2 A8.out).mono ?_); (case side1 => exact cz (Kd.C_below HR0_1.out HB.out)); (case side2 => exact HC0_1.out); rintro e w25 ⟨rfl, hb⟩; refine ⟨_, rfl, ?_⟩; replace BK101 := Aside0.mk (blk_below (kz BK101.out) hb); replace BK102 := Aside0.mk (blk_below (kz BK102.out) hb); replace HB := Aside0.mk (below_step (bs2 HB.out GE101.out GE102.out) hb); (try clear hb)) | (go_at_call 52; (with_reducible refine (spec_l6In.calls a1 0 99 false _ A10.out).mono ?_); rintro e w' ⟨rfl, ⟨nd, rfl⟩⟩))
    go_meet
    case rel => exact ⟨_, (true), zr, H', ⟨by first | omega | exact Nat.le_refl _⟩, ⟨kz (BK101.out)⟩, ⟨kz (BK102.out)⟩, ⟨bs2 HB.out GE101.out GE102.out⟩⟩
  ·
   replace c9 := Bool.eq_false_iff.mpr c9; subst c9; rw [if_neg nf_] at H; have H' := Aside0.mk H; clear H; have hnb26 := NB101_102.out; have hnc26 := NB102_101.out; have hcz27_0 : w7.cell? ⟨gb101, 0, none⟩ = some (.int .i64 a0_0) := (blk_cell BK101.out 0).trans rfl; have hcz27_1 : w7.cell? ⟨gb101, 1, none⟩ = some (.slice A0_1 l0_1.length c0_1) := (blk_cell BK101.out 1).trans rfl; have hfz27_0 := blk_frozen BK101.out 0; have hfz27_1 := blk_frozen BK101.out 1
   go_wp2_with (first | ((with_reducible refine gate_callee (f := 26) rfl ?_); refine goesL_ (some 12) rfl rfl Try.func26 zk rfl #[.agg #[.int .i64 a0_0, .slice A0_1 l0_1.length c0_1]] rfl zm ?_; (with_reducible refine (spec_ClockOk.calls k a0_0 _ _ l0_1 false _ ?side1 ?side2 A8.out).mono ?_); (case side1 => exact cz (Kd.C_below HR0_1.out HB.out)); (case side2 => exact HC0_1.out); rintro e w28 ⟨rfl, hb⟩; refine ⟨_, rfl, ?_⟩; replace BK101 := Aside0.mk (blk_below (kz BK101.out) hb); replace BK102 := Aside0.mk (blk_below (kz BK102.out) hb); replace HB := Aside0.mk (below_step (bs2 HB.out GE101.out GE102.out) hb); (try clear hb)))
   go_meet
   case rel => exact ⟨_, (true), zr, H', ⟨by first | omega | exact Nat.le_refl _⟩, ⟨kz (BK101.out)⟩, ⟨kz (BK102.out)⟩, ⟨bs2 HB.out GE101.out GE102.out⟩⟩
 case rest =>
  clear HC5
  try clear c1
  try clear c2
  try clear p2
  try clear c3
  try clear p6
  try clear c9
  try clear c11
  try clear c13
  try clear c15
  try clear c19
  try clear c23
  try clear c26
  try clear hcz16_0
  try clear hcz16_1
  try clear hcz18_0
  try clear hcz18_1
  try clear hcz20_0
  try clear hcz20_1
  try clear hcz22_0
  try clear hcz22_1
  try clear hcz24_0
  try clear hcz24_1
  try clear hcz27_0
  try clear hcz27_1
  try clear hfz16_0
  try clear hfz16_1
  try clear hfz18_0
  try clear hfz18_1
  try clear hfz20_0
  try clear hfz20_1
  try clear hfz22_0
  try clear hfz22_1
  try clear hfz24_0
  try clear hfz24_1
  try clear hfz27_0
  try clear hfz27_1
  obtain ⟨kq, x31_4, rfl, HA, HJ4, BK101, BK102, HB⟩ := hcut
  cases kq with
  | zero => exact absurd HA.out (by simp [spec_ClockSet.j0])
  | succ kj4 =>
   have H := HA.out; clear HA; simp only [spec_ClockSet.j0] at H
   by_cases c29 : x31_4 = true
   ·
    subst c29; rw [if_pos rfl] at H; simp only [Option.some.injEq, Prod.mk.injEq] at H; obtain ⟨rfl, rfl, rfl⟩ := H; have hnb30 := NB102_101.out; have hnc30 := NB101_102.out; have hcz31_0 : wc.cell? ⟨gb102, 0, none⟩ = some (.int .i64 0) := (blk_cell BK102.out 0).trans rfl; have hcz31_1 : wc.cell? ⟨gb102, 1, none⟩ = some (.slice none 0 0) := (blk_cell BK102.out 1).trans rfl; have hfz31_0 := blk_frozen BK102.out 0; have hfz31_1 := blk_frozen BK102.out 1
    go_wp2
    refine bodyPost_ret (results_ct rfl _ _ gb102 26 #[.int .i64 0, .slice none 0 0] (0, 0) _ rfl (by (with_reducible repeat (first | refine blk_drewN ?_ _ | refine blk_drew ?_ | refine blk_alloc ?_ _)); refine blk_put (cs := #[.int .i64 0, .slice none 0 0]) ?_ 1 _ rfl; (with_reducible repeat (first | refine blk_drewN ?_ _ | refine blk_drew ?_ | refine blk_alloc ?_ _)); refine blk_put (cs := #[.int .i64 0, .slice none 0 0]) ?_ 0 _ rfl; (with_reducible repeat (first | refine blk_drewN ?_ _ | refine blk_drew ?_ | refine blk_alloc ?_ _)); exact BK102.out) Try.underlying26 rfl zk) rfl ?_
    exact ⟨_, ze, by first | exact Kd.R_nil _ _ _ _ _ | exact Kd.N_nil _ _ _ _ _ | exact Kd.V_nil _ _ _ _ _ | exact Kd.Q_nil _ _ _ _ _ | exact Kd.S_nil _ _ _ _ _, bs2 HB.out GE101.out GE102.out⟩
   ·
    replace c29 := Bool.eq_false_iff.mpr c29; subst c29; rw [if_neg nf_] at H; replace H := Option.bind_eq_some_iff.mp H; obtain ⟨t107, A320, H⟩ := H; have A32 := Aside0.mk A320; clear A320; replace H := Option.bind_eq_some_iff.mp H; obtain ⟨t110, A330, H⟩ := H; have A33 := Aside0.mk A330; clear A330
    by_cases c34 : (t110.length : Int) > 12
    ·
     rw [if_pos c34] at H; have c34b0 : decide (12 < (t110.length : Int)) = true := decide_eq_true c34; have c34b1 : decide (12 < t110.length) = true := decide_eq_true (by omega); clear c34; simp only [Option.some.injEq, Prod.mk.injEq] at H; obtain ⟨rfl, rfl, rfl⟩ := H
     try go_wp2
     replace BK101 := Aside0.mk (blk_drew BK101.out); replace BK102 := Aside0.mk (blk_drew BK102.out); replace HB := Aside0.mk (below_drew1 HB.out); refine start_ (n := 13) (S := fun w' => w'.cell? ⟨gb101, 0, none⟩ = some (.int .i64 a0_0) ∧ w'.cell? ⟨gb101, 1, none⟩ = some (.slice A0_1 l0_1.length c0_1)) (ds := []) (lb 13 0) zk rfl rfl ⟨(blk_cell BK101.out 0).trans rfl, (blk_cell BK101.out 1).trans rfl⟩ (fun hHeld => ?_); refine with_tabW spec_ClockSet.tab3 spec_ClockSet.bits3 (fun HT_ HW_ => ?_)
     generalize wc.drew = w35 at BK101 BK102 HB hHeld ⊢
     refine pz 0 (some 33) (lb 13 1) rfl rfl HT_.out ?_; refine pz 2 (some 35) (lb 13 5) rfl rfl HT_.out ?_; refine pz 4 (some 37) (lb 13 21) rfl rfl HT_.out ?_; refine pz 5 (some 38) (lb 13 53) rfl rfl HT_.out ?_; refine pz 7 (some 40) (lb 13 181) rfl rfl HT_.out ?_; refine pz 9 (some 42) (lb 13 693) rfl rfl HT_.out ?_; refine tz 1 (some 34) (lb 13 695) rfl rfl HT_.out HW_.out hHeld ?_; refine tz 6 (some 39) (lb 13 759) rfl rfl HT_.out HW_.out hHeld ?_; refine pz 8 (some 41) (lb 13 1015) rfl rfl HT_.out ?_; refine pz 10 (some 43) (lb 13 2039) rfl rfl HT_.out ?_; refine one_ (i := 3) (N := some 36) (lb 13 2047) rfl rfl (one_of HT_.out zk) (by decide) (fun K hK => ?_); refine goes_ Try.func55 zk rfl #[.slice A0_1 l0_1.length c0_1, .int .i64 a1] (by rfl) rfl rfl zm ?_; (with_reducible refine (spec_l19Less.calls kj4 _ _ l0_1 a1 t107 _ ?side1 ?side2 A32.out).mono ?_); (case side1 => exact cz (Kd.C_below HR0_1.out HB.out)); (case side2 => exact HC0_1.out); rintro e w36 ⟨v108, rfl, ho0, hb⟩; refine ⟨_, rfl, ?_⟩; have HO109 := Aside0.mk (Kd.R_lower ho0 (below_size (bs2 HB.out GE101.out GE102.out))); replace BK101 := Aside0.mk (blk_below (kz BK101.out) hb); replace BK102 := Aside0.mk (blk_below (kz BK102.out) hb); replace HB := Aside0.mk (below_step (bs2 HB.out GE101.out GE102.out) hb); (try clear hb); (try clear ho0); obtain ⟨Ao37, co37, eo37⟩ := Kd.R_slice HO109.out
     (first | subst eo37 | (injection eo37 with f1_ f2_ f3_; have f4_ := f1_.symm; have f5_ := f3_.symm; clear f1_ f2_ f3_; subst f4_; subst f5_))
     refine hK.out _ _ ⟨(blk_cell BK101.out 0).trans rfl, (blk_cell BK101.out 1).trans rfl⟩ (fun hHeld => ?_); clear hK K; refine norm_ (a' := ?_) ?_ ?_; rotate_left
     ·
      show Act.put _ (some 36) _ = _
      simp only [Act.put, List.setIfInBounds_toArray, List.set_cons_zero, List.set_cons_succ, i64_w, i32_w]
      rfl
     refine one_ (i := 11) (N := some 44) (lb 13 4095) rfl rfl (one_of HT_.out zk) (by decide) (fun K hK => ?_); refine goes_ Try.func61 zk rfl #[.slice Ao37 t107.length co37, .agg #[.int .i64 a1, .int .i64 (wrap64 (a0_0 + a2)), .int .i64 a3]] (by rfl) rfl rfl zm ?_; (with_reducible refine (spec_l19Add.calls kj4 _ _ t107 a1 (wrap64 (a0_0 + a2)) a3 t110 _ ?side1 ?side2 A33.out).mono ?_); (case side1 => exact cz ((Kd.R_reads' HO109.out).2.2)); (case side2 => exact (Kd.R_reads' HO109.out).2.1); rintro e w38 ⟨v111, rfl, ho0, hb⟩; refine ⟨_, rfl, ?_⟩; have HO112 := Aside0.mk (Kd.R_lower (Kd.R_new' ho0 (Kd.R_lt (rz HO109.out))) (below_size (bs2 HB.out GE101.out GE102.out))); replace HO109 := Aside0.mk (Kd.R_elder' (rz HO109.out) (Kd.R_base ho0) hb); replace BK101 := Aside0.mk (blk_below (kz BK101.out) hb); replace BK102 := Aside0.mk (blk_below (kz BK102.out) hb); replace HB := Aside0.mk (below_step (bs2 HB.out GE101.out GE102.out) hb); (try clear hb); (try clear ho0); refine hK.out _ _ ⟨(blk_cell BK101.out 0).trans rfl, (blk_cell BK101.out 1).trans rfl⟩ (fun hHeld => ?_); clear hK K; refine norm_ (a' := ?_) ?_ ?_; rotate_left
     ·
      show Act.put _ (some 44) _ = _
      simp only [Act.put, List.setIfInBounds_toArray, List.set_cons_zero, List.set_cons_succ, i64_w, i32_w]
      rfl
     refine pz 12 (some 10) (lb 13 8191) rfl rfl HT_.out ?_; refine done_ (done_of HT_.out zk) ?_; obtain ⟨Ao39, co39, eo39⟩ := Kd.R_slice HO112.out; subst eo39; have hnb40 := NB102_101.out; have hnc40 := NB101_102.out; have hcz41_0 : w38.cell? ⟨gb102, 0, none⟩ = some (.int .i64 0) := (blk_cell BK102.out 0).trans rfl; have hcz41_1 : w38.cell? ⟨gb102, 1, none⟩ = some (.slice none 0 0) := (blk_cell BK102.out 1).trans rfl; have hfz41_0 := blk_frozen BK102.out 0; have hfz41_1 := blk_frozen BK102.out 1
     try go_wp2
     refine bodyPost_ret (results_ct rfl _ _ gb102 26 #[.int .i64 0, .slice none 0 0] (0, 0) _ rfl (by (with_reducible repeat (first | refine blk_drewN ?_ _ | refine blk_drew ?_ | refine blk_alloc ?_ _)); refine blk_put (cs := #[.int .i64 0, .slice none 0 0]) ?_ 1 _ rfl; (with_reducible repeat (first | refine blk_drewN ?_ _ | refine blk_drew ?_ | refine blk_alloc ?_ _)); refine blk_put (cs := #[.int .i64 0, .slice none 0 0]) ?_ 0 _ rfl; (with_reducible repeat (first | refine blk_drewN ?_ _ | refine blk_drew ?_ | refine blk_alloc ?_ _)); exact BK102.out) Try.underlying26 rfl zk) rfl ?_
     exact ⟨_, ze, by first | exact Kd.R_nil _ _ _ _ _ | exact Kd.N_nil _ _ _ _ _ | exact Kd.V_nil _ _ _ _ _ | exact Kd.Q_nil _ _ _ _ _ | exact Kd.S_nil _ _ _ _ _, bs2 HB.out GE101.out GE102.out⟩
    ·
     rw [if_neg c34] at H; have c34b0 : decide (12 < (t110.length : Int)) = false := decide_eq_false c34; have c34b1 : decide (12 < t110.length) = false := decide_eq_false (by omega); clear c34; simp only [Option.some.injEq, Prod.mk.injEq] at H; obtain ⟨rfl, rfl, rfl⟩ := H
     try go_wp2
     replace BK101 := Aside0.mk (blk_drew BK101.out); replace BK102 := Aside0.mk (blk_drew BK102.out); replace HB := Aside0.mk (below_drew1 HB.out); refine start_ (n := 13) (S := fun w' => w'.cell? ⟨gb101, 0, none⟩ = some (.int .i64 a0_0) ∧ w'.cell? ⟨gb101, 1, none⟩ = some (.slice A0_1 l0_1.length c0_1)) (ds := []) (lb 13 0) zk rfl rfl ⟨(blk_cell BK101.out 0).trans rfl, (blk_cell BK101.out 1).trans rfl⟩ (fun hHeld => ?_); refine with_tabW spec_ClockSet.tab3 spec_ClockSet.bits3 (fun HT_ HW_ => ?_)
     generalize wc.drew = w42 at BK101 BK102 HB hHeld ⊢
     refine pz 0 (some 33) (lb 13 1) rfl rfl HT_.out ?_; refine pz 2 (some 35) (lb 13 5) rfl rfl HT_.out ?_; refine pz 4 (some 37) (lb 13 21) rfl rfl HT_.out ?_; refine pz 5 (some 38) (lb 13 53) rfl rfl HT_.out ?_; refine pz 7 (some 40) (lb 13 181) rfl rfl HT_.out ?_; refine pz 9 (some 42) (lb 13 693) rfl rfl HT_.out ?_; refine tz 1 (some 34) (lb 13 695) rfl rfl HT_.out HW_.out hHeld ?_; refine tz 6 (some 39) (lb 13 759) rfl rfl HT_.out HW_.out hHeld ?_; refine pz 8 (some 41) (lb 13 1015) rfl rfl HT_.out ?_; refine pz 10 (some 43) (lb 13 2039) rfl rfl HT_.out ?_; refine one_ (i := 3) (N := some 36) (lb 13 2047) rfl rfl (one_of HT_.out zk) (by decide) (fun K hK => ?_); refine goes_ Try.func55 zk rfl #[.slice A0_1 l0_1.length c0_1, .int .i64 a1] (by rfl) rfl rfl zm ?_; (with_reducible refine (spec_l19Less.calls kj4 _ _ l0_1 a1 t107 _ ?side1 ?side2 A32.out).mono ?_); (case side1 => exact cz (Kd.C_below HR0_1.out HB.out)); (case side2 => exact HC0_1.out); rintro e w43 ⟨v108, rfl, ho0, hb⟩; refine ⟨_, rfl, ?_⟩; have HO109 := Aside0.mk (Kd.R_lower ho0 (below_size (bs2 HB.out GE101.out GE102.out))); replace BK101 := Aside0.mk (blk_below (kz BK101.out) hb); replace BK102 := Aside0.mk (blk_below (kz BK102.out) hb); replace HB := Aside0.mk (below_step (bs2 HB.out GE101.out GE102.out) hb); (try clear hb); (try clear ho0); obtain ⟨Ao44, co44, eo44⟩ := Kd.R_slice HO109.out
     (first | subst eo44 | (injection eo44 with f1_ f2_ f3_; have f4_ := f1_.symm; have f5_ := f3_.symm; clear f1_ f2_ f3_; subst f4_; subst f5_))
     refine hK.out _ _ ⟨(blk_cell BK101.out 0).trans rfl, (blk_cell BK101.out 1).trans rfl⟩ (fun hHeld => ?_); clear hK K; refine norm_ (a' := ?_) ?_ ?_; rotate_left
     ·
      show Act.put _ (some 36) _ = _
      simp only [Act.put, List.setIfInBounds_toArray, List.set_cons_zero, List.set_cons_succ, i64_w, i32_w]
      rfl
     refine one_ (i := 11) (N := some 44) (lb 13 4095) rfl rfl (one_of HT_.out zk) (by decide) (fun K hK => ?_); refine goes_ Try.func61 zk rfl #[.slice Ao44 t107.length co44, .agg #[.int .i64 a1, .int .i64 (wrap64 (a0_0 + a2)), .int .i64 a3]] (by rfl) rfl rfl zm ?_; (with_reducible refine (spec_l19Add.calls kj4 _ _ t107 a1 (wrap64 (a0_0 + a2)) a3 t110 _ ?side1 ?side2 A33.out).mono ?_); (case side1 => exact cz ((Kd.R_reads' HO109.out).2.2)); (case side2 => exact (Kd.R_reads' HO109.out).2.1); rintro e w45 ⟨v111, rfl, ho0, hb⟩; refine ⟨_, rfl, ?_⟩; have HO112 := Aside0.mk (Kd.R_lower (Kd.R_new' ho0 (Kd.R_lt (rz HO109.out))) (below_size (bs2 HB.out GE101.out GE102.out))); replace HO109 := Aside0.mk (Kd.R_elder' (rz HO109.out) (Kd.R_base ho0) hb); replace BK101 := Aside0.mk (blk_below (kz BK101.out) hb); replace BK102 := Aside0.mk (blk_below (kz BK102.out) hb); replace HB := Aside0.mk (below_step (bs2 HB.out GE101.out GE102.out) hb); (try clear hb); (try clear ho0); refine hK.out _ _ ⟨(blk_cell BK101.out 0).trans rfl, (blk_cell BK101.out 1).trans rfl⟩ (fun hHeld => ?_); clear hK K; refine norm_ (a' := ?_) ?_ ?_; rotate_left
     ·
      show Act.put _ (some 44) _ = _
      simp only [Act.put, List.setIfInBounds_toArray, List.set_cons_zero, List.set_cons_succ, i64_w, i32_w]
      rfl
     refine pz 12 (some 10) (lb 13 8191) rfl rfl HT_.out ?_; refine done_ (done_of HT_.out zk) ?_; obtain ⟨Ao46, co46, eo46⟩ := Kd.R_slice HO112.out; subst eo46; have hnb47 := NB101_102.out; have hnc47 := NB102_101.out; have hcz48_0 : w45.cell? ⟨gb101, 0, none⟩ = some (.int .i64 a0_0) := (blk_cell BK101.out 0).trans rfl; have hcz48_1 : w45.cell? ⟨gb101, 1, none⟩ = some (.slice A0_1 l0_1.length c0_1) := (blk_cell BK101.out 1).trans rfl; have hfz48_0 := blk_frozen BK101.out 0; have hfz48_1 := blk_frozen BK101.out 1; have hcz49_0 : w45.cell? ⟨gb102, 0, none⟩ = some (.int .i64 0) := (blk_cell BK102.out 0).trans rfl; have hcz49_1 : w45.cell? ⟨gb102, 1, none⟩ = some (.slice none 0 0) := (blk_cell BK102.out 1).trans rfl; have hfz49_0 := blk_frozen BK102.out 0; have hfz49_1 := blk_frozen BK102.out 1
     try go_wp2
     refine bodyPost_ret (results_ct rfl _ _ gb102 26 #[.int .i64 a0_0, .slice Ao46 t110.length co46] (0, 0) _ rfl (by (with_reducible repeat (first | refine blk_drewN ?_ _ | refine blk_drew ?_ | refine blk_alloc ?_ _)); refine blk_put (cs := #[.int .i64 a0_0, .slice none 0 0]) ?_ 1 _ rfl; (with_reducible repeat (first | refine blk_drewN ?_ _ | refine blk_drew ?_ | refine blk_alloc ?_ _)); refine blk_put (cs := #[.int .i64 0, .slice none 0 0]) ?_ 0 _ rfl; (with_reducible repeat (first | refine blk_drewN ?_ _ | refine blk_drew ?_ | refine blk_alloc ?_ _)); exact BK102.out) Try.underlying26 rfl zk) rfl ?_
     exact ⟨_, ze, by (with_reducible repeat (first | apply Kd.R_alloc | apply Kd.R_drewN | apply Kd.R_drew)); exact Kd.R_mono (Kd.R_far (p := ⟨gb102, 1, none⟩) (Kd.R_far (p := ⟨gb102, 0, none⟩) (Kd.R_types HO112.out BK102.out (by decide)) (fun _ hk => hk.2) (.int .i64 a0_0)) (fun _ hk => hk.2) (.slice Ao46 t110.length co46)) (fun _ hk => trivial), bs2 HB.out GE101.out GE102.out⟩

end Go.Proofs.Ytlejcgnfpcngbaa.P
