-- printed by this session's own driver (wip/qd.py) out of the translation; Lean checks it
import Derived.Test.YtlejcgnfpcngbaaPf0
import Derived.Test.YtlejcgnfpcngbaaPfimplClockNext
import Derived.Test.YtlejcgnfpcngbaaPfspecClockNext
import Derived.Test.YtlejcgnfpcngbaaPfimplClockTick
import Derived.Test.YtlejcgnfpcngbaaPfspecDrawClockNext
namespace Go.Proofs.Ytlejcgnfpcngbaa.P
open Go.RowKit Go.Proofs.YtlejcgnfpcngbaaW.PrintWords Go.Proofs.YtlejcgnfpcngbaaW.PrintLast Go.Proofs.YtlejcgnfpcngbaaW.PrintMore
attribute [local go_sem] max2_int min2_int max_two min_two max_three min_three max_four min_four Q.cell_set_map   -- for this text's walks alone
set_option linter.unusedVariables false
set_option linter.unusedSimpArgs false

/-! ### laws_FnClockNext: function 10 -/
mutual
def laws_FnClockNext.j0 : Nat → Int → Int → Bool → Bool → Int → List (S62) → Option (Bool)
 | 0, _, _, _, _, _, _ => none
 | k + 1, x4, x5, x6, x10, x106000, x106001 => if x10 = true then (if x6 = true then (laws_FnClockNext.j1 k x4 x5 true (!(decide (x4 ≤ 500))) x106000 x106001) else (laws_FnClockNext.j1 k x4 x5 true (!false) x106000 x106001)) else (laws_FnClockNext.j1 k x4 x5 false true x106000 x106001)
def laws_FnClockNext.j1 : Nat → Int → Int → Bool → Bool → Int → List (S62) → Option (Bool)
 | 0, _, _, _, _, _, _ => none
 | k + 1, x4, x5, x10, x56, x106000, x106001 => if x56 = true then (some x10) else ((impl_ClockTick.f k x106000 x106001 (wrap64 (x4 - 1))).bind fun bt112 => ((impl_ClockTick.f k x106000 x106001 x4).bind fun bt121 => (if bt112.2.2.2 = true then (if bt121.2.2.2 = true then (if (bt112.2.2.1.length : Int) = 0 then (if (bt121.2.2.1.length : Int) > 0 then (if 0 < (bt121.2.2.1.length : Int) then (some ((rd bt121.2.2.1 0) == x5)) else (none)) else (some false)) else (some false)) else (some false)) else (some false))))
end
def laws_FnClockNext.f (k : Nat) (l0 : List Int) : Option (Bool) := if (l0.length : Int) > 1048576 then (some true) else ((spec_DrawClockNext.f k l0).bind fun bt101 => ((impl_ClockNext.f bt101.1 bt101.2).bind fun bt106 => ((spec_ClockNext.f k bt101.1 bt101.2).bind fun bt109 => (if bt106.1 = bt109.1 then (if bt106.2.1 = bt109.2.1 then (laws_FnClockNext.j0 k bt106.1 bt106.2.1 bt106.2.2 (bt106.2.2 == bt109.2.2) bt101.1 bt101.2) else (laws_FnClockNext.j0 k bt106.1 bt106.2.1 bt106.2.2 false bt101.1 bt101.2)) else (laws_FnClockNext.j0 k bt106.1 bt106.2.1 bt106.2.2 false bt101.1 bt101.2)))))
theorem laws_FnClockNext.mono_l : ∀ k, (∀ y0 y1 y2 y3 y4 y5, LeO (laws_FnClockNext.j0 k y0 y1 y2 y3 y4 y5) (laws_FnClockNext.j0 (k + 1) y0 y1 y2 y3 y4 y5)) ∧ (∀ y0 y1 y2 y3 y4 y5, LeO (laws_FnClockNext.j1 k y0 y1 y2 y3 y4 y5) (laws_FnClockNext.j1 (k + 1) y0 y1 y2 y3 y4 y5))
 | 0 => ⟨fun _ _ _ _ _ _ r h => by simp [laws_FnClockNext.j0] at h, fun _ _ _ _ _ _ r h => by simp [laws_FnClockNext.j1] at h⟩
 | k + 1 => by
  obtain ⟨ih0, ih1⟩ := laws_FnClockNext.mono_l k
  refine ⟨?_, ?_⟩
  ·
   intro y0 y1 y2 y3 y4 y5
   unfold laws_FnClockNext.j0
   repeat' first
   | (with_reducible exact ih0 _ _ _ _ _ _)
   | (with_reducible exact ih1 _ _ _ _ _ _)
   | (with_reducible exact impl_ClockTick.mono _ _ _ _)
   | (with_reducible exact spec_ClockNext.mono _ _ _)
   | (with_reducible exact spec_DrawClockNext.mono _ _)
   | (with_reducible exact LeO.refl _)
   | (with_reducible exact LeO.none _)
   | (with_reducible refine LeO.ite ?_ ?_)
   | (with_reducible refine LeO.bind ?_ (fun _ => ?_))
   | exact ih0 _ _ _ _ _ _
   | exact ih1 _ _ _ _ _ _
   | exact impl_ClockTick.mono _ _ _ _
   | exact spec_ClockNext.mono _ _ _
   | exact spec_DrawClockNext.mono _ _
   | exact LeO.none _
   | refine LeO.ite ?_ ?_
   | refine LeO.bind ?_ (fun _ => ?_)
  ·
   intro y0 y1 y2 y3 y4 y5
   unfold laws_FnClockNext.j1
   repeat' first
   | (with_reducible exact ih0 _ _ _ _ _ _)
   | (with_reducible exact ih1 _ _ _ _ _ _)
   | (with_reducible exact impl_ClockTick.mono _ _ _ _)
   | (with_reducible exact spec_ClockNext.mono _ _ _)
   | (with_reducible exact spec_DrawClockNext.mono _ _)
   | (with_reducible exact LeO.refl _)
   | (with_reducible exact LeO.none _)
   | (with_reducible refine LeO.ite ?_ ?_)
   | (with_reducible refine LeO.bind ?_ (fun _ => ?_))
   | exact ih0 _ _ _ _ _ _
   | exact ih1 _ _ _ _ _ _
   | exact impl_ClockTick.mono _ _ _ _
   | exact spec_ClockNext.mono _ _ _
   | exact spec_DrawClockNext.mono _ _
   | exact LeO.none _
   | refine LeO.ite ?_ ?_
   | refine LeO.bind ?_ (fun _ => ?_)
theorem laws_FnClockNext.mono : ∀ a0 k, LeO (laws_FnClockNext.f k a0) (laws_FnClockNext.f (k + 1) a0) := by
 intro a0 k
 obtain ⟨ih0, ih1⟩ := laws_FnClockNext.mono_l k
 unfold laws_FnClockNext.f
 repeat' first
   | (with_reducible exact ih0 _ _ _ _ _ _)
   | (with_reducible exact ih1 _ _ _ _ _ _)
   | (with_reducible exact impl_ClockTick.mono _ _ _ _)
   | (with_reducible exact spec_ClockNext.mono _ _ _)
   | (with_reducible exact spec_DrawClockNext.mono _ _)
   | (with_reducible exact LeO.refl _)
   | (with_reducible exact LeO.none _)
   | (with_reducible refine LeO.ite ?_ ?_)
   | (with_reducible refine LeO.bind ?_ (fun _ => ?_))
   | exact ih0 _ _ _ _ _ _
   | exact ih1 _ _ _ _ _ _
   | exact impl_ClockTick.mono _ _ _ _
   | exact spec_ClockNext.mono _ _ _
   | exact spec_DrawClockNext.mono _ _
   | exact LeO.none _
   | refine LeO.ite ?_ ?_
   | refine LeO.bind ?_ (fun _ => ?_)
set_option maxHeartbeats 8000000 in
set_option maxRecDepth 100000 in
theorem laws_FnClockNext.calls (k : Nat) (A0 : Option Addr) (c0 : Nat) (l0 : List Int) (r : Bool) (w : World) (hr0 : Kd.C (Kd.int .u8) w A0 l0.length l0) (hc0 : l0.length ≤ c0) (h : laws_FnClockNext.f k l0 = some r) :
  Calls Try.prog 10 #[.slice A0 l0.length c0] w fun e w' => e = .returned (.bool r) ∧ Below w.heap.size w w' := by
 have hu26 := Try.underlying26
 have HR0 := Aside0.mk hr0
 have HC0 := Aside0.mk hc0
 clear hr0 hc0
 have HB := Aside0.mk (Below.refl w.heap.size w)
 have H : (if (l0.length : Int) > 1048576 then (some true) else ((spec_DrawClockNext.f k l0).bind fun bt101 => ((impl_ClockNext.f bt101.1 bt101.2).bind fun bt106 => ((spec_ClockNext.f k bt101.1 bt101.2).bind fun bt109 => (if bt106.1 = bt109.1 then (if bt106.2.1 = bt109.2.1 then (laws_FnClockNext.j0 k bt106.1 bt106.2.1 bt106.2.2 (bt106.2.2 == bt109.2.2) bt101.1 bt101.2) else (laws_FnClockNext.j0 k bt106.1 bt106.2.1 bt106.2.2 false bt101.1 bt101.2)) else (laws_FnClockNext.j0 k bt106.1 bt106.2.1 bt106.2.2 false bt101.1 bt101.2)))))) = some r := h
 clear h
 by_cases c2 : (l0.length : Int) > 1048576
 ·
  rw [if_pos c2] at H
  have c2b0 : decide (1048576 < (l0.length : Int)) = true := decide_eq_true c2
  have c2b1 : decide (1048576 < l0.length) = true := decide_eq_true (by omega)
  clear c2
  obtain rfl := Option.some.inj H
  go_enter Try.func10, Try.ntmps10
  go_wp2
  go_ret
  exact ⟨ze, bz HB.out⟩
 ·
  rw [if_neg c2] at H
  have c2b0 : decide (1048576 < (l0.length : Int)) = false := decide_eq_false c2
  have c2b1 : decide (1048576 < l0.length) = false := decide_eq_false (by omega)
  clear c2
  replace H := Option.bind_eq_some_iff.mp H
  obtain ⟨⟨t101, t102⟩, A30, H⟩ := H
  replace H : ((impl_ClockNext.f t101 t102).bind fun bt106 => ((spec_ClockNext.f k t101 t102).bind fun bt109 => (if bt106.1 = bt109.1 then (if bt106.2.1 = bt109.2.1 then (laws_FnClockNext.j0 k bt106.1 bt106.2.1 bt106.2.2 (bt106.2.2 == bt109.2.2) t101 t102) else (laws_FnClockNext.j0 k bt106.1 bt106.2.1 bt106.2.2 false t101 t102)) else (laws_FnClockNext.j0 k bt106.1 bt106.2.1 bt106.2.2 false t101 t102)))) = some r := H
  have A3 := Aside0.mk A30
  clear A30
  replace H := Option.bind_eq_some_iff.mp H
  obtain ⟨⟨t106, t107, t108⟩, A40, H⟩ := H
  replace H : ((spec_ClockNext.f k t101 t102).bind fun bt109 => (if t106 = bt109.1 then (if t107 = bt109.2.1 then (laws_FnClockNext.j0 k t106 t107 t108 (t108 == bt109.2.2) t101 t102) else (laws_FnClockNext.j0 k t106 t107 t108 false t101 t102)) else (laws_FnClockNext.j0 k t106 t107 t108 false t101 t102))) = some r := H
  have A4 := Aside0.mk A40
  clear A40
  replace H := Option.bind_eq_some_iff.mp H
  obtain ⟨⟨t109, t110, t111⟩, A50, H⟩ := H
  replace H : (if t106 = t109 then (if t107 = t110 then (laws_FnClockNext.j0 k t106 t107 t108 (t108 == t111) t101 t102) else (laws_FnClockNext.j0 k t106 t107 t108 false t101 t102)) else (laws_FnClockNext.j0 k t106 t107 t108 false t101 t102)) = some r := H
  have A5 := Aside0.mk A50
  clear A50
  have HC6 := Aside0.mk H
  clear H
  go_enter Try.func10, Try.ntmps10
  go_upto_region 6 with (first | ((with_reducible refine gate_callee (f := 34) rfl ?_); refine goesL_ (some 21) rfl rfl Try.func34 zk rfl #[.slice A0 l0.length c0] rfl zm ?_; (with_reducible refine (spec_DrawClockNext.calls k _ _ l0 t101 t102 _ ?side1 ?side2 A3.out).mono ?_); (case side1 => exact cz HR0.out); (case side2 => exact HC0.out); rintro e w7 ⟨v103, rfl, ho0, hb⟩; refine ⟨_, rfl, ?_⟩; have HO104 := Aside0.mk (Kd.R_lower ho0 (below_size (bz HB.out))); replace HB := Aside0.mk (below_step (bz HB.out) hb); (try clear hb); (try clear ho0)) | ((with_reducible refine gate_dst (N := 3) rfl ?_); (try (refine gate_guard (by rfl) ?_; dsimp only)); refine box_event ?hg (N := 3) ?hd (cs := #[.int .i64 0, .slice none 0 0]) (t := 26) ?hr ?_; (case hd => rfl); (case hg => rfl); (case hr => first | (go_simp; done) | (go_simp; rfl)); intro gb105 hg w8 hbox hb; replace HO104 := Aside0.mk (Kd.R_below (rz HO104.out) hb); have BK105 := Aside0.mk (hbox); have GW105 := Aside0.mk ((by rw [hg]; exact (below_size (bz HB.out)) : w.heap.size ≤ gb105)); have GE105 := Aside0.mk ((by rw [hg]; exact (below_size (bz HB.out)) : w.heap.size ≤ gb105)); replace HB := Aside0.mk (below_step (bz HB.out) hb); clear hb hbox hg; have hcz9_0 : w8.cell? ⟨gb105, 0, none⟩ = some (.int .i64 0) := (blk_cell BK105.out 0).trans rfl; have hcz9_1 : w8.cell? ⟨gb105, 1, none⟩ = some (.slice none 0 0) := (blk_cell BK105.out 1).trans rfl; have hfz9_0 := blk_frozen BK105.out 0; have hfz9_1 := blk_frozen BK105.out 1; obtain ⟨Ao10, co10, eo10⟩ := Kd.R_slice HO104.out; subst eo10) | ((with_reducible refine gate_callee (f := 20) rfl ?_); refine goesL_ (some 24) rfl rfl Try.func20 zk rfl #[.agg #[.int .i64 t101, .slice Ao10 t102.length co10]] rfl zm ?_; (with_reducible refine (impl_ClockNext.calls t101 _ _ t102 t106 t107 t108 _ ?side1 ?side2 A4.out).mono ?_); (case side1 => refine (Kd.R_reads' (e := 62) (base := w.heap.size) (ok := fun k_ => True) (n := t102.length) (c := co10) ?_).2.2; exact (by (with_reducible repeat (first | apply Kd.R_alloc | apply Kd.R_drewN | apply Kd.R_drew)); exact (Kd.R_mono (Kd.R_far (p := ⟨gb105, 1, none⟩) (Kd.R_far (p := ⟨gb105, 0, none⟩) (Kd.R_types HO104.out BK105.out (by decide)) (fun _ hk => hk.2) (.int .i64 t101)) (fun _ hk => hk.2) (.slice Ao10 t102.length co10)) (fun _ h_ => h_.1)))); (case side2 => exact (Kd.R_reads' HO104.out).2.1); rintro e w11 ⟨rfl, hb⟩; refine ⟨_, rfl, ?_⟩; replace HO104 := Aside0.mk (Kd.R_below (by (with_reducible repeat (first | apply Kd.R_alloc | apply Kd.R_drewN | apply Kd.R_drew)); exact (Kd.R_mono (Kd.R_far (p := ⟨gb105, 1, none⟩) (Kd.R_far (p := ⟨gb105, 0, none⟩) (Kd.R_types HO104.out BK105.out (by decide)) (fun _ hk => hk.2) (.int .i64 t101)) (fun _ hk => hk.2) (.slice Ao10 t102.length co10)) (fun _ h_ => h_.1))) hb); replace BK105 := Aside0.mk (blk_below (g := gb105) (o := .cells #[.int .i64 t101, .slice Ao10 t102.length co10] 26 (0, 0)) (by (with_reducible repeat (first | refine blk_drewN ?_ _ | refine blk_drew ?_ | refine blk_alloc ?_ _)); refine blk_put (cs := #[.int .i64 t101, .slice none 0 0]) ?_ 1 _ rfl; (with_reducible repeat (first | refine blk_drewN ?_ _ | refine blk_drew ?_ | refine blk_alloc ?_ _)); refine blk_put (cs := #[.int .i64 0, .slice none 0 0]) ?_ 0 _ rfl; (with_reducible repeat (first | refine blk_drewN ?_ _ | refine blk_drew ?_ | refine blk_alloc ?_ _)); exact BK105.out) hb); replace HB := Aside0.mk (below_step (bs HB.out GE105.out) hb); (try clear hb); have hcz12_0 : w11.cell? ⟨gb105, 0, none⟩ = some (.int .i64 t101) := (blk_cell BK105.out 0).trans rfl; have hcz12_1 : w11.cell? ⟨gb105, 1, none⟩ = some (.slice Ao10 t102.length co10) := (blk_cell BK105.out 1).trans rfl; have hfz12_0 := blk_frozen BK105.out 0; have hfz12_1 := blk_frozen BK105.out 1) | ((with_reducible refine gate_callee (f := 28) rfl ?_); refine goesL_ (some 30) rfl rfl Try.func28 zk rfl #[.agg #[.int .i64 t101, .slice Ao10 t102.length co10]] rfl zm ?_; (with_reducible refine (spec_ClockNext.calls k t101 _ _ t102 t109 t110 t111 _ ?side1 ?side2 A5.out).mono ?_); (case side1 => exact cz ((Kd.R_reads' HO104.out).2.2)); (case side2 => exact (Kd.R_reads' HO104.out).2.1); rintro e w13 ⟨rfl, hb⟩; refine ⟨_, rfl, ?_⟩; replace HO104 := Aside0.mk (Kd.R_below (rz HO104.out) hb); replace BK105 := Aside0.mk (blk_below (g := gb105) (o := .cells #[.int .i64 t101, .slice Ao10 t102.length co10] 26 (0, 0)) (kz BK105.out) hb); replace HB := Aside0.mk (below_step (bs HB.out GE105.out) hb); (try clear hb)))
  (try simp only [Act.put, List.setIfInBounds_toArray, List.set_cons_zero, List.set_cons_succ])
  go_cut [10] (fun v10 wc => ∃ (kq : Nat) (x10_5 : Bool), v10 = .bool x10_5 ∧ Aside0 (laws_FnClockNext.j0 kq t106 t107 t108 x10_5 t101 t102 = some r) ∧ Aside0 (kq ≤ k) ∧ Aside0 (Kd.R k62 62 wc w.heap.size (fun _ => True) (.slice Ao10 t102.length co10) t102) ∧ Aside0 (wc.heap[gb105]? = some (.cells #[.int .i64 t101, (.slice Ao10 t102.length co10)] 26 (0, 0))) ∧ Aside0 (Below w.heap.size w wc))
  case first =>
   have H := HC6.out
   clear HC6
   by_cases c14 : t106 = t109
   ·
    rw [if_pos c14] at H
    have c14b0 : (t106 == t109) = true := beq_iff_eq.mpr c14
    have c14b1 : (t106 != t109) = false := bne_eq_false_iff_eq.mpr c14
    clear c14
    (first | rw [c14b0] | (simp only [i64_w, i32_w]; rw [c14b0]) | skip)
    by_cases c15 : t107 = t110
    ·
     rw [if_pos c15] at H
     have c15b0 : (t107 == t110) = true := beq_iff_eq.mpr c15
     have c15b1 : (t107 != t110) = false := bne_eq_false_iff_eq.mpr c15
     clear c15
     have H' := Aside0.mk H
     clear H
     go_wp2
     go_meet
     case rel => exact ⟨_, ((t108 == t111)), zr, H', ⟨by first | omega | exact Nat.le_refl _⟩, ⟨by (with_reducible repeat (first | apply Kd.R_alloc | apply Kd.R_drewN | apply Kd.R_drew)); exact HO104.out⟩, ⟨by (with_reducible repeat (first | refine blk_drewN ?_ _ | refine blk_drew ?_ | refine blk_alloc ?_ _)); exact BK105.out⟩, ⟨bs HB.out GE105.out⟩⟩
    ·
     rw [if_neg c15] at H
     have c15b0 : (t107 == t110) = false := beq_eq_false_iff_ne.mpr c15
     have c15b1 : (t107 != t110) = true := bne_iff_ne.mpr c15
     have H' := Aside0.mk H
     clear H
     go_wp2
     go_meet
     case rel => exact ⟨_, (false), zr, H', ⟨by first | omega | exact Nat.le_refl _⟩, ⟨by (with_reducible repeat (first | apply Kd.R_alloc | apply Kd.R_drewN | apply Kd.R_drew)); exact HO104.out⟩, ⟨by (with_reducible repeat (first | refine blk_drewN ?_ _ | refine blk_drew ?_ | refine blk_alloc ?_ _)); exact BK105.out⟩, ⟨bs HB.out GE105.out⟩⟩
   ·
    rw [if_neg c14] at H
    have c14b0 : (t106 == t109) = false := beq_eq_false_iff_ne.mpr c14
    have c14b1 : (t106 != t109) = true := bne_iff_ne.mpr c14
    (first | rw [c14b0] | (simp only [i64_w, i32_w]; rw [c14b0]) | skip)
    have H' := Aside0.mk H
    clear H
    go_wp2
    go_meet
    case rel => exact ⟨_, (false), zr, H', ⟨by first | omega | exact Nat.le_refl _⟩, ⟨by (with_reducible repeat (first | apply Kd.R_alloc | apply Kd.R_drewN | apply Kd.R_drew)); exact HO104.out⟩, ⟨by (with_reducible repeat (first | refine blk_drewN ?_ _ | refine blk_drew ?_ | refine blk_alloc ?_ _)); exact BK105.out⟩, ⟨bs HB.out GE105.out⟩⟩
  case rest =>
   clear HC6
   try clear c1
   try clear c2
   try clear c2b0
   try clear c2b1
   try clear p2
   try clear c3
   try clear c10
   try clear c14
   try clear c14b0
   try clear c14b1
   try clear c15
   try clear c15b0
   try clear c15b1
   try clear hcz12_0
   try clear hcz12_1
   try clear hcz9_0
   try clear hcz9_1
   try clear hfz12_0
   try clear hfz12_1
   try clear hfz9_0
   try clear hfz9_1
   obtain ⟨kq, x10_5, rfl, HA, HJ5, HO_106001, BK105, HB⟩ := hcut
   cases kq with
   | zero => exact absurd HA.out (by simp [laws_FnClockNext.j0])
   | succ kj5 =>
    have H := HA.out
    clear HA
    simp only [laws_FnClockNext.j0] at H
    have HC16 := Aside0.mk H
    clear H
    go_upto_region 7 with (fail)
    go_cut [56] (fun v56 wc => ∃ (kq : Nat) (x56_15 : Bool), v56 = .bool x56_15 ∧ Aside0 (laws_FnClockNext.j1 kq t106 t107 x10_5 x56_15 t101 t102 = some r) ∧ Aside0 (kq ≤ kj5) ∧ Aside0 (Kd.R k62 62 wc w.heap.size (fun _ => True) (.slice Ao10 t102.length co10) t102) ∧ Aside0 (wc.heap[gb105]? = some (.cells #[.int .i64 t101, (.slice Ao10 t102.length co10)] 26 (0, 0))) ∧ Aside0 (Below w.heap.size w wc))
    case first =>
     have H := HC16.out
     clear HC16
     by_cases c17 : x10_5 = true
     ·
      subst c17
      rw [if_pos rfl] at H
      by_cases c18 : t108 = true
      ·
       subst c18
       rw [if_pos rfl] at H
       have H' := Aside0.mk H
       clear H
       go_wp2
       go_meet
       case rel => exact ⟨_, (!(decide (t106 ≤ 500))), zr, H', ⟨by have := HJ5.out; first | omega | exact Nat.le_refl _⟩, ⟨by (with_reducible repeat (first | apply Kd.R_alloc | apply Kd.R_drewN | apply Kd.R_drew)); exact HO_106001.out⟩, ⟨by (with_reducible repeat (first | refine blk_drewN ?_ _ | refine blk_drew ?_ | refine blk_alloc ?_ _)); exact BK105.out⟩, ⟨bs HB.out GE105.out⟩⟩
      ·
       replace c18 := Bool.eq_false_iff.mpr c18
       subst c18
       rw [if_neg nf_] at H
       have H' := Aside0.mk H
       clear H
       go_wp2
       go_meet
       case rel => exact ⟨_, (!false), zr, H', ⟨by have := HJ5.out; first | omega | exact Nat.le_refl _⟩, ⟨by (with_reducible repeat (first | apply Kd.R_alloc | apply Kd.R_drewN | apply Kd.R_drew)); exact HO_106001.out⟩, ⟨by (with_reducible repeat (first | refine blk_drewN ?_ _ | refine blk_drew ?_ | refine blk_alloc ?_ _)); exact BK105.out⟩, ⟨bs HB.out GE105.out⟩⟩
     ·
      replace c17 := Bool.eq_false_iff.mpr c17
      subst c17
      rw [if_neg nf_] at H
      have H' := Aside0.mk H
      clear H
      go_wp2
      go_meet
      case rel => exact ⟨_, (true), zr, H', ⟨by have := HJ5.out; first | omega | exact Nat.le_refl _⟩, ⟨by (with_reducible repeat (first | apply Kd.R_alloc | apply Kd.R_drewN | apply Kd.R_drew)); exact HO_106001.out⟩, ⟨by (with_reducible repeat (first | refine blk_drewN ?_ _ | refine blk_drew ?_ | refine blk_alloc ?_ _)); exact BK105.out⟩, ⟨bs HB.out GE105.out⟩⟩
    case rest =>
     clear HC16
     try clear c1
     try clear c2
     try clear c2b0
     try clear c2b1
     try clear p2
     try clear c3
     try clear c10
     try clear c14
     try clear c14b0
     try clear c14b1
     try clear c15
     try clear c15b0
     try clear c15b1
     try clear c17
     try clear c18
     try clear hcz12_0
     try clear hcz12_1
     try clear hcz9_0
     try clear hcz9_1
     try clear hfz12_0
     try clear hfz12_1
     try clear hfz9_0
     try clear hfz9_1
     try clear p2
     obtain ⟨kq, x56_15, rfl, HA, HJ15, HO_106001, BK105, HB⟩ := hcut
     cases kq with
     | zero => exact absurd HA.out (by simp [laws_FnClockNext.j1])
     | succ kj15 =>
      have H := HA.out
      clear HA
      simp only [laws_FnClockNext.j1] at H
      by_cases c19 : x56_15 = true
      ·
       subst c19
       rw [if_pos rfl] at H
       obtain rfl := Option.some.inj H
       go_wp2
       go_ret
       exact ⟨ze, bs HB.out GE105.out⟩
      ·
       replace c19 := Bool.eq_false_iff.mpr c19
       subst c19
       rw [if_neg nf_] at H
       replace H := Option.bind_eq_some_iff.mp H
       obtain ⟨⟨t112, t113, t116, t119⟩, A200, H⟩ := H
       replace H : ((impl_ClockTick.f kj15 t101 t102 t106).bind fun bt121 => (if t119 = true then (if bt121.2.2.2 = true then (if (t116.length : Int) = 0 then (if (bt121.2.2.1.length : Int) > 0 then (if 0 < (bt121.2.2.1.length : Int) then (some ((rd bt121.2.2.1 0) == t107)) else (none)) else (some false)) else (some false)) else (some false)) else (some false))) = some r := H
       have A20 := Aside0.mk A200
       clear A200
       replace H := Option.bind_eq_some_iff.mp H
       obtain ⟨⟨t121, t122, t125, t128⟩, A210, H⟩ := H
       replace H : (if t119 = true then (if t128 = true then (if (t116.length : Int) = 0 then (if (t125.length : Int) > 0 then (if 0 < (t125.length : Int) then (some ((rd t125 0) == t107)) else (none)) else (some false)) else (some false)) else (some false)) else (some false)) = some r := H
       have A21 := Aside0.mk A210
       clear A210
       by_cases c22 : t119 = true
       ·
        subst c22
        rw [if_pos rfl] at H
        by_cases c23 : t128 = true
        ·
         subst c23
         rw [if_pos rfl] at H
         by_cases c24 : (t116.length : Int) = 0
         ·
          rw [if_pos c24] at H
          have c24b0 : ((t116.length : Int) == 0) = true := beq_iff_eq.mpr c24
          have c24b1 : ((t116.length : Int) != 0) = false := bne_eq_false_iff_eq.mpr c24
          clear c24
          by_cases c25 : (t125.length : Int) > 0
          ·
           rw [if_pos c25] at H
           have c25b0 : decide (0 < (t125.length : Int)) = true := decide_eq_true c25
           have c25b1 : decide (0 < t125.length) = true := decide_eq_true (by omega)
           clear c25
           by_cases c26 : 0 < (t125.length : Int)
           ·
            rw [if_pos c26] at H
            have c26b0 : decide (0 < (t125.length : Int)) = true := decide_eq_true c26
            have c26b1 : decide (0 < t125.length) = true := decide_eq_true (by omega)
            clear c26
            obtain rfl := Option.some.inj H
            have hcz27_0 : wc.cell? ⟨gb105, 0, none⟩ = some (.int .i64 t101) := (blk_cell BK105.out 0).trans rfl
            have hcz27_1 : wc.cell? ⟨gb105, 1, none⟩ = some (.slice Ao10 t102.length co10) := (blk_cell BK105.out 1).trans rfl
            have hfz27_0 := blk_frozen BK105.out 0
            have hfz27_1 := blk_frozen BK105.out 1
            go_wp2_with (first | ((with_reducible refine gate_callee (f := 32) rfl ?_); refine goesL_ (some 62) rfl rfl Try.func32 zk rfl #[.agg #[.int .i64 t101, .slice Ao10 t102.length co10], .int .i64 (wrap64 (t106 - 1))] rfl zm ?_; (with_reducible refine (impl_ClockTick.calls kj15 t101 _ _ t102 (wrap64 (t106 - 1)) t112 t113 t116 true _ ?side1 ?side2 A20.out).mono ?_); (case side1 => exact cz ((Kd.R_reads' HO_106001.out).2.2)); (case side2 => exact (Kd.R_reads' HO_106001.out).2.1); rintro e w28 ⟨v114, v117, rfl, ho0, ho1, hb⟩; refine ⟨_, rfl, ?_⟩; have HO115 := Aside0.mk (Kd.R_lower (Kd.R_new' ho0 (Kd.R_lt (rz HO_106001.out))) (below_size (bs HB.out GE105.out))); replace HO_106001 := Aside0.mk (Kd.R_elder' (rz HO_106001.out) (Kd.R_base ho0) hb); have HO118 := Aside0.mk (Kd.R_lower ho1 (below_size (bs HB.out GE105.out))); replace BK105 := Aside0.mk (blk_below (g := gb105) (o := .cells #[.int .i64 t101, .slice Ao10 t102.length co10] 26 (0, 0)) (kz BK105.out) hb); replace HB := Aside0.mk (below_step (bs HB.out GE105.out) hb); (try clear hb); (try clear ho0); (try clear ho1)) | ((with_reducible refine gate_dst (N := 11) rfl ?_); (try (refine gate_guard (by rfl) ?_; dsimp only)); refine box_event ?hg (N := 11) ?hd (cs := #[.int .i64 0, .slice none 0 0]) (t := 26) ?hr ?_; (case hd => rfl); (case hg => rfl); (case hr => first | (go_simp; done) | (go_simp; rfl)); intro gb120 hg w29 hbox hb; replace HO_106001 := Aside0.mk (Kd.R_below (rz HO_106001.out) hb); replace HO115 := Aside0.mk (Kd.R_below (rz HO115.out) hb); replace HO118 := Aside0.mk (Kd.R_below (rz HO118.out) hb); have BK120 := Aside0.mk (hbox); have GW120 := Aside0.mk ((by rw [hg]; exact (below_size (bs HB.out GE105.out)) : w.heap.size ≤ gb120)); have GE120 := Aside0.mk ((by rw [hg]; exact (below_size (bs HB.out GE105.out)) : w.heap.size ≤ gb120)); replace HB := Aside0.mk (below_step (bs HB.out GE105.out) hb); have NB105_120 := Aside0.mk ((by rw [hg]; exact Nat.ne_of_lt (blk_lt (g := gb105) (o := .cells #[.int .i64 t101, .slice Ao10 t102.length co10] 26 (0, 0)) (kz BK105.out)) : gb105 ≠ gb120)); have NB120_105 := Aside0.mk ((by rw [hg]; exact Nat.ne_of_gt (blk_lt (g := gb105) (o := .cells #[.int .i64 t101, .slice Ao10 t102.length co10] 26 (0, 0)) (kz BK105.out)) : gb120 ≠ gb105)); replace BK105 := Aside0.mk (blk_below (g := gb105) (o := .cells #[.int .i64 t101, .slice Ao10 t102.length co10] 26 (0, 0)) (kz BK105.out) hb); clear hb hbox hg; have hnb30 := NB120_105.out; have hnc30 := NB105_120.out; have hcz31_0 : w29.cell? ⟨gb120, 0, none⟩ = some (.int .i64 0) := (blk_cell BK120.out 0).trans rfl; have hcz31_1 : w29.cell? ⟨gb120, 1, none⟩ = some (.slice none 0 0) := (blk_cell BK120.out 1).trans rfl; have hfz31_0 := blk_frozen BK120.out 0; have hfz31_1 := blk_frozen BK120.out 1; obtain ⟨Ao32, co32, eo32⟩ := Kd.R_slice HO115.out; subst eo32; have hcz33_0 : w29.cell? ⟨gb105, 0, none⟩ = some (.int .i64 t101) := (blk_cell BK105.out 0).trans rfl; have hcz33_1 : w29.cell? ⟨gb105, 1, none⟩ = some (.slice Ao10 t102.length co10) := (blk_cell BK105.out 1).trans rfl; have hfz33_0 := blk_frozen BK105.out 0; have hfz33_1 := blk_frozen BK105.out 1) | ((with_reducible refine gate_callee (f := 32) rfl ?_); refine goesL_ (some 69) rfl rfl Try.func32 zk rfl #[.agg #[.int .i64 t101, .slice Ao10 t102.length co10], .int .i64 t106] rfl zm ?_; (with_reducible refine (impl_ClockTick.calls kj15 t101 _ _ t102 t106 t121 t122 t125 true _ ?side1 ?side2 A21.out).mono ?_); (case side1 => refine (Kd.R_reads' (e := 62) (base := w.heap.size) (ok := fun k_ => (True ∧ some k_ ≠ (.slice Ao32 t113.length co32 : Value).ownBlock)) (n := t102.length) (c := co10) ?_).2.2; exact (by (with_reducible repeat (first | apply Kd.R_alloc | apply Kd.R_drewN | apply Kd.R_drew)); exact (Kd.R_mono (Kd.R_far (p := ⟨gb120, 1, none⟩) (Kd.R_far (p := ⟨gb120, 0, none⟩) (Kd.R_types HO_106001.out BK120.out (by decide)) (fun _ hk => hk.2) (.int .i64 t112)) (fun _ hk => hk.2) (.slice Ao32 t113.length co32)) (fun _ h_ => h_.1)))); (case side2 => exact (Kd.R_reads' HO_106001.out).2.1); rintro e w34 ⟨v123, v126, rfl, ho0, ho1, hb⟩; refine ⟨_, rfl, ?_⟩; have HO124 := Aside0.mk (Kd.R_lower (Kd.R_new' (Kd.R_new' ho0 (Kd.R_lt (by (with_reducible repeat (first | apply Kd.R_alloc | apply Kd.R_drewN | apply Kd.R_drew)); exact (Kd.R_mono (Kd.R_far (p := ⟨gb120, 1, none⟩) (Kd.R_far (p := ⟨gb120, 0, none⟩) (Kd.R_types HO_106001.out BK120.out (by decide)) (fun _ hk => hk.2) (.int .i64 t112)) (fun _ hk => hk.2) (.slice Ao32 t113.length co32)) (fun _ h_ => h_.1))))) (Kd.R_lt (by (with_reducible repeat (first | apply Kd.R_alloc | apply Kd.R_drewN | apply Kd.R_drew)); exact (Kd.R_mono (Kd.R_far (p := ⟨gb120, 1, none⟩) (Kd.R_far (p := ⟨gb120, 0, none⟩) (Kd.R_types HO115.out BK120.out (by decide)) (fun _ hk => hk.2) (.int .i64 t112)) (fun _ hk => hk.2) (.slice Ao32 t113.length co32)) (fun _ h_ => h_.1))))) (below_size (bs2 HB.out GE105.out GE120.out))); replace HO_106001 := Aside0.mk (Kd.R_elder' (by (with_reducible repeat (first | apply Kd.R_alloc | apply Kd.R_drewN | apply Kd.R_drew)); exact (Kd.R_mono (Kd.R_far (p := ⟨gb120, 1, none⟩) (Kd.R_far (p := ⟨gb120, 0, none⟩) (Kd.R_types HO_106001.out BK120.out (by decide)) (fun _ hk => hk.2) (.int .i64 t112)) (fun _ hk => hk.2) (.slice Ao32 t113.length co32)) (fun _ h_ => h_.1))) (Kd.R_base ho0) hb); replace HO115 := Aside0.mk (Kd.R_elder' (by (with_reducible repeat (first | apply Kd.R_alloc | apply Kd.R_drewN | apply Kd.R_drew)); exact (Kd.R_mono (Kd.R_far (p := ⟨gb120, 1, none⟩) (Kd.R_far (p := ⟨gb120, 0, none⟩) (Kd.R_types HO115.out BK120.out (by decide)) (fun _ hk => hk.2) (.int .i64 t112)) (fun _ hk => hk.2) (.slice Ao32 t113.length co32)) (fun _ h_ => h_.1))) (Kd.R_base ho0) hb); have HO127 := Aside0.mk (Kd.R_lower (Kd.R_new' ho1 (Kd.R_lt (by (with_reducible repeat (first | apply Kd.R_alloc | apply Kd.R_drewN | apply Kd.R_drew)); exact (Kd.R_mono (Kd.R_far (p := ⟨gb120, 1, none⟩) (Kd.R_far (p := ⟨gb120, 0, none⟩) (Kd.R_types HO118.out BK120.out (by decide)) (fun _ hk => hk.2) (.int .i64 t112)) (fun _ hk => hk.2) (.slice Ao32 t113.length co32)) (fun _ h_ => h_.1))))) (below_size (bs2 HB.out GE105.out GE120.out))); replace HO118 := Aside0.mk (Kd.R_elder' (by (with_reducible repeat (first | apply Kd.R_alloc | apply Kd.R_drewN | apply Kd.R_drew)); exact (Kd.R_mono (Kd.R_far (p := ⟨gb120, 1, none⟩) (Kd.R_far (p := ⟨gb120, 0, none⟩) (Kd.R_types HO118.out BK120.out (by decide)) (fun _ hk => hk.2) (.int .i64 t112)) (fun _ hk => hk.2) (.slice Ao32 t113.length co32)) (fun _ h_ => h_.1))) (Kd.R_base ho1) hb); replace BK105 := Aside0.mk (blk_below (g := gb105) (o := .cells #[.int .i64 t101, .slice Ao10 t102.length co10] 26 (0, 0)) (by (with_reducible repeat (first | refine blk_drewN ?_ _ | refine blk_drew ?_ | refine blk_alloc ?_ _)); refine blk_far ?_ NB105_120.out _; (with_reducible repeat (first | refine blk_drewN ?_ _ | refine blk_drew ?_ | refine blk_alloc ?_ _)); refine blk_far ?_ NB105_120.out _; (with_reducible repeat (first | refine blk_drewN ?_ _ | refine blk_drew ?_ | refine blk_alloc ?_ _)); exact BK105.out) hb); replace BK120 := Aside0.mk (blk_below (g := gb120) (o := .cells #[.int .i64 t112, .slice Ao32 t113.length co32] 26 (0, 0)) (by (with_reducible repeat (first | refine blk_drewN ?_ _ | refine blk_drew ?_ | refine blk_alloc ?_ _)); refine blk_put (cs := #[.int .i64 t112, .slice none 0 0]) ?_ 1 _ rfl; (with_reducible repeat (first | refine blk_drewN ?_ _ | refine blk_drew ?_ | refine blk_alloc ?_ _)); refine blk_put (cs := #[.int .i64 0, .slice none 0 0]) ?_ 0 _ rfl; (with_reducible repeat (first | refine blk_drewN ?_ _ | refine blk_drew ?_ | refine blk_alloc ?_ _)); exact BK120.out) hb); replace HB := Aside0.mk (below_step (bs2 HB.out GE105.out GE120.out) hb); (try clear hb); (try clear ho0); (try clear ho1)) | ((with_reducible refine gate_dst (N := 14) rfl ?_); (try (refine gate_guard (by rfl) ?_; dsimp only)); refine box_event ?hg (N := 14) ?hd (cs := #[.int .i64 0, .slice none 0 0]) (t := 26) ?hr ?_; (case hd => rfl); (case hg => rfl); (case hr => first | (go_simp; done) | (go_simp; rfl)); intro gb129 hg w35 hbox hb; replace HO_106001 := Aside0.mk (Kd.R_below (rz HO_106001.out) hb); replace HO115 := Aside0.mk (Kd.R_below (rz HO115.out) hb); replace HO118 := Aside0.mk (Kd.R_below (rz HO118.out) hb); replace HO124 := Aside0.mk (Kd.R_below (rz HO124.out) hb); replace HO127 := Aside0.mk (Kd.R_below (rz HO127.out) hb); have BK129 := Aside0.mk (hbox); have GW129 := Aside0.mk ((by rw [hg]; exact (below_size (bs2 HB.out GE105.out GE120.out)) : w.heap.size ≤ gb129)); have GE129 := Aside0.mk ((by rw [hg]; exact (below_size (bs2 HB.out GE105.out GE120.out)) : w.heap.size ≤ gb129)); replace HB := Aside0.mk (below_step (bs2 HB.out GE105.out GE120.out) hb); have NB105_129 := Aside0.mk ((by rw [hg]; exact Nat.ne_of_lt (blk_lt (g := gb105) (o := .cells #[.int .i64 t101, .slice Ao10 t102.length co10] 26 (0, 0)) (kz BK105.out)) : gb105 ≠ gb129)); have NB129_105 := Aside0.mk ((by rw [hg]; exact Nat.ne_of_gt (blk_lt (g := gb105) (o := .cells #[.int .i64 t101, .slice Ao10 t102.length co10] 26 (0, 0)) (kz BK105.out)) : gb129 ≠ gb105)); replace BK105 := Aside0.mk (blk_below (g := gb105) (o := .cells #[.int .i64 t101, .slice Ao10 t102.length co10] 26 (0, 0)) (kz BK105.out) hb); have NB120_129 := Aside0.mk ((by rw [hg]; exact Nat.ne_of_lt (blk_lt (g := gb120) (o := .cells #[.int .i64 t112, .slice Ao32 t113.length co32] 26 (0, 0)) (kz BK120.out)) : gb120 ≠ gb129)); have NB129_120 := Aside0.mk ((by rw [hg]; exact Nat.ne_of_gt (blk_lt (g := gb120) (o := .cells #[.int .i64 t112, .slice Ao32 t113.length co32] 26 (0, 0)) (kz BK120.out)) : gb129 ≠ gb120)); replace BK120 := Aside0.mk (blk_below (g := gb120) (o := .cells #[.int .i64 t112, .slice Ao32 t113.length co32] 26 (0, 0)) (kz BK120.out) hb); clear hb hbox hg; have hnb36 := NB129_105.out; have hnc36 := NB105_129.out; have hnb37 := NB129_120.out; have hnc37 := NB120_129.out; have hcz38_0 : w35.cell? ⟨gb129, 0, none⟩ = some (.int .i64 0) := (blk_cell BK129.out 0).trans rfl; have hcz38_1 : w35.cell? ⟨gb129, 1, none⟩ = some (.slice none 0 0) := (blk_cell BK129.out 1).trans rfl; have hfz38_0 := blk_frozen BK129.out 0; have hfz38_1 := blk_frozen BK129.out 1; obtain ⟨Ao39, co39, eo39⟩ := Kd.R_slice HO124.out; subst eo39; obtain ⟨Ao40, co40, eo40⟩ := Kd.R_slice HO118.out; subst eo40; obtain ⟨Ao41, co41, eo41⟩ := Kd.R_slice HO127.out; subst eo41; have p130 : 0 ≤ (0 : Int) := (by omega); have q130 : 0 < (t125.length : Int) := of_decide_eq_true zs; obtain ⟨ad130, e130, hx130_0⟩ := Kd.at_int (Kd.R_reads' HO127.out).2.2 0 p130 q130; cases e130; have qi130 : (0 < t125.length) = True := eq_true (by omega); (try rw [show ((0 : Int)).toNat = 0 from rfl] at hx130_0); (try rw [Addr.add_zero'] at hx130_0); have hn130_0 : ad130.block ≠ gb129 := Kd.own_blk (Kd.R_ne HO127.out BK129.out (by decide)); have hn130_1 : ad130.block ≠ gb129 := Kd.own_blk (Kd.R_ne HO127.out BK129.out (by decide)); replace hx130_0 := (cell_far (p := ⟨gb129, 0, none⟩) (by first | (rw [add_block]; exact hn130_0) | (show (Addr.add _ _).block ≠ _; rw [add_block]; exact hn130_0) | exact hn130_0) (.int .i64 t121)).trans hx130_0; replace hx130_0 := (cell_far (p := ⟨gb129, 1, none⟩) (by first | (rw [add_block]; exact hn130_1) | (show (Addr.add _ _).block ≠ _; rw [add_block]; exact hn130_1) | exact hn130_1) (.slice Ao39 t122.length co39)).trans hx130_0; clear hn130_0; clear hn130_1; replace p130 := eq_true p130; replace q130 := eq_true q130))
            go_ret
            exact ⟨ze, by repeat (first | (with_reducible first | exact HB.out | apply below_alloc | apply pw_below_drewN | apply below_drew1 | refine below_set ?_ GE105.out | refine below_set ?_ GE120.out | refine below_set ?_ GE129.out) | exact HB.out)⟩
           ·
            rw [if_neg c26] at H
            exact absurd H (by simp)
          ·
           rw [if_neg c25] at H
           have c25b0 : decide (0 < (t125.length : Int)) = false := decide_eq_false c25
           have c25b1 : decide (0 < t125.length) = false := decide_eq_false (by omega)
           clear c25
           obtain rfl := Option.some.inj H
           have hcz42_0 : wc.cell? ⟨gb105, 0, none⟩ = some (.int .i64 t101) := (blk_cell BK105.out 0).trans rfl
           have hcz42_1 : wc.cell? ⟨gb105, 1, none⟩ = some (.slice Ao10 t102.length co10) := (blk_cell BK105.out 1).trans rfl
           have hfz42_0 := blk_frozen BK105.out 0
           have hfz42_1 := blk_frozen BK105.out 1
           go_wp2_with (first | ((with_reducible refine gate_callee (f := 32) rfl ?_); refine goesL_ (some 62) rfl rfl Try.func32 zk rfl #[.agg #[.int .i64 t101, .slice Ao10 t102.length co10], .int .i64 (wrap64 (t106 - 1))] rfl zm ?_; (with_reducible refine (impl_ClockTick.calls kj15 t101 _ _ t102 (wrap64 (t106 - 1)) t112 t113 t116 true _ ?side1 ?side2 A20.out).mono ?_); (case side1 => exact cz ((Kd.R_reads' HO_106001.out).2.2)); (case side2 => exact (Kd.R_reads' HO_106001.out).2.1); rintro e w43 ⟨v114, v117, rfl, ho0, ho1, hb⟩; refine ⟨_, rfl, ?_⟩; have HO115 := Aside0.mk (Kd.R_lower (Kd.R_new' ho0 (Kd.R_lt (rz HO_106001.out))) (below_size (bs HB.out GE105.out))); replace HO_106001 := Aside0.mk (Kd.R_elder' (rz HO_106001.out) (Kd.R_base ho0) hb); have HO118 := Aside0.mk (Kd.R_lower ho1 (below_size (bs HB.out GE105.out))); replace BK105 := Aside0.mk (blk_below (g := gb105) (o := .cells #[.int .i64 t101, .slice Ao10 t102.length co10] 26 (0, 0)) (kz BK105.out) hb); replace HB := Aside0.mk (below_step (bs HB.out GE105.out) hb); (try clear hb); (try clear ho0); (try clear ho1)) | ((with_reducible refine gate_dst (N := 11) rfl ?_); (try (refine gate_guard (by rfl) ?_; dsimp only)); refine box_event ?hg (N := 11) ?hd (cs := #[.int .i64 0, .slice none 0 0]) (t := 26) ?hr ?_; (case hd => rfl); (case hg => rfl); (case hr => first | (go_simp; done) | (go_simp; rfl)); intro gb120 hg w44 hbox hb; replace HO_106001 := Aside0.mk (Kd.R_below (rz HO_106001.out) hb); replace HO115 := Aside0.mk (Kd.R_below (rz HO115.out) hb); replace HO118 := Aside0.mk (Kd.R_below (rz HO118.out) hb); have BK120 := Aside0.mk (hbox); have GW120 := Aside0.mk ((by rw [hg]; exact (below_size (bs HB.out GE105.out)) : w.heap.size ≤ gb120)); have GE120 := Aside0.mk ((by rw [hg]; exact (below_size (bs HB.out GE105.out)) : w.heap.size ≤ gb120)); replace HB := Aside0.mk (below_step (bs HB.out GE105.out) hb); have NB105_120 := Aside0.mk ((by rw [hg]; exact Nat.ne_of_lt (blk_lt (g := gb105) (o := .cells #[.int .i64 t101, .slice Ao10 t102.length co10] 26 (0, 0)) (kz BK105.out)) : gb105 ≠ gb120)); have NB120_105 := Aside0.mk ((by rw [hg]; exact Nat.ne_of_gt (blk_lt (g := gb105) (o := .cells #[.int .i64 t101, .slice Ao10 t102.length co10] 26 (0, 0)) (kz BK105.out)) : gb120 ≠ gb105)); replace BK105 := Aside0.mk (blk_below (g := gb105) (o := .cells #[.int .i64 t101, .slice Ao10 t102.length co10] 26 (0, 0)) (kz BK105.out) hb); clear hb hbox hg; have hnb45 := NB120_105.out; have hnc45 := NB105_120.out; have hcz46_0 : w44.cell? ⟨gb120, 0, none⟩ = some (.int .i64 0) := (blk_cell BK120.out 0).trans rfl; have hcz46_1 : w44.cell? ⟨gb120, 1, none⟩ = some (.slice none 0 0) := (blk_cell BK120.out 1).trans rfl; have hfz46_0 := blk_frozen BK120.out 0; have hfz46_1 := blk_frozen BK120.out 1; obtain ⟨Ao47, co47, eo47⟩ := Kd.R_slice HO115.out; subst eo47; have hcz48_0 : w44.cell? ⟨gb105, 0, none⟩ = some (.int .i64 t101) := (blk_cell BK105.out 0).trans rfl; have hcz48_1 : w44.cell? ⟨gb105, 1, none⟩ = some (.slice Ao10 t102.length co10) := (blk_cell BK105.out 1).trans rfl; have hfz48_0 := blk_frozen BK105.out 0; have hfz48_1 := blk_frozen BK105.out 1) | ((with_reducible refine gate_callee (f := 32) rfl ?_); refine goesL_ (some 69) rfl rfl Try.func32 zk rfl #[.agg #[.int .i64 t101, .slice Ao10 t102.length co10], .int .i64 t106] rfl zm ?_; (with_reducible refine (impl_ClockTick.calls kj15 t101 _ _ t102 t106 t121 t122 t125 true _ ?side1 ?side2 A21.out).mono ?_); (case side1 => refine (Kd.R_reads' (e := 62) (base := w.heap.size) (ok := fun k_ => (True ∧ some k_ ≠ (.slice Ao47 t113.length co47 : Value).ownBlock)) (n := t102.length) (c := co10) ?_).2.2; exact (by (with_reducible repeat (first | apply Kd.R_alloc | apply Kd.R_drewN | apply Kd.R_drew)); exact (Kd.R_mono (Kd.R_far (p := ⟨gb120, 1, none⟩) (Kd.R_far (p := ⟨gb120, 0, none⟩) (Kd.R_types HO_106001.out BK120.out (by decide)) (fun _ hk => hk.2) (.int .i64 t112)) (fun _ hk => hk.2) (.slice Ao47 t113.length co47)) (fun _ h_ => h_.1)))); (case side2 => exact (Kd.R_reads' HO_106001.out).2.1); rintro e w49 ⟨v123, v126, rfl, ho0, ho1, hb⟩; refine ⟨_, rfl, ?_⟩; have HO124 := Aside0.mk (Kd.R_lower (Kd.R_new' (Kd.R_new' ho0 (Kd.R_lt (by (with_reducible repeat (first | apply Kd.R_alloc | apply Kd.R_drewN | apply Kd.R_drew)); exact (Kd.R_mono (Kd.R_far (p := ⟨gb120, 1, none⟩) (Kd.R_far (p := ⟨gb120, 0, none⟩) (Kd.R_types HO_106001.out BK120.out (by decide)) (fun _ hk => hk.2) (.int .i64 t112)) (fun _ hk => hk.2) (.slice Ao47 t113.length co47)) (fun _ h_ => h_.1))))) (Kd.R_lt (by (with_reducible repeat (first | apply Kd.R_alloc | apply Kd.R_drewN | apply Kd.R_drew)); exact (Kd.R_mono (Kd.R_far (p := ⟨gb120, 1, none⟩) (Kd.R_far (p := ⟨gb120, 0, none⟩) (Kd.R_types HO115.out BK120.out (by decide)) (fun _ hk => hk.2) (.int .i64 t112)) (fun _ hk => hk.2) (.slice Ao47 t113.length co47)) (fun _ h_ => h_.1))))) (below_size (bs2 HB.out GE105.out GE120.out))); replace HO_106001 := Aside0.mk (Kd.R_elder' (by (with_reducible repeat (first | apply Kd.R_alloc | apply Kd.R_drewN | apply Kd.R_drew)); exact (Kd.R_mono (Kd.R_far (p := ⟨gb120, 1, none⟩) (Kd.R_far (p := ⟨gb120, 0, none⟩) (Kd.R_types HO_106001.out BK120.out (by decide)) (fun _ hk => hk.2) (.int .i64 t112)) (fun _ hk => hk.2) (.slice Ao47 t113.length co47)) (fun _ h_ => h_.1))) (Kd.R_base ho0) hb); replace HO115 := Aside0.mk (Kd.R_elder' (by (with_reducible repeat (first | apply Kd.R_alloc | apply Kd.R_drewN | apply Kd.R_drew)); exact (Kd.R_mono (Kd.R_far (p := ⟨gb120, 1, none⟩) (Kd.R_far (p := ⟨gb120, 0, none⟩) (Kd.R_types HO115.out BK120.out (by decide)) (fun _ hk => hk.2) (.int .i64 t112)) (fun _ hk => hk.2) (.slice Ao47 t113.length co47)) (fun _ h_ => h_.1))) (Kd.R_base ho0) hb); have HO127 := Aside0.mk (Kd.R_lower (Kd.R_new' ho1 (Kd.R_lt (by (with_reducible repeat (first | apply Kd.R_alloc | apply Kd.R_drewN | apply Kd.R_drew)); exact (Kd.R_mono (Kd.R_far (p := ⟨gb120, 1, none⟩) (Kd.R_far (p := ⟨gb120, 0, none⟩) (Kd.R_types HO118.out BK120.out (by decide)) (fun _ hk => hk.2) (.int .i64 t112)) (fun _ hk => hk.2) (.slice Ao47 t113.length co47)) (fun _ h_ => h_.1))))) (below_size (bs2 HB.out GE105.out GE120.out))); replace HO118 := Aside0.mk (Kd.R_elder' (by (with_reducible repeat (first | apply Kd.R_alloc | apply Kd.R_drewN | apply Kd.R_drew)); exact (Kd.R_mono (Kd.R_far (p := ⟨gb120, 1, none⟩) (Kd.R_far (p := ⟨gb120, 0, none⟩) (Kd.R_types HO118.out BK120.out (by decide)) (fun _ hk => hk.2) (.int .i64 t112)) (fun _ hk => hk.2) (.slice Ao47 t113.length co47)) (fun _ h_ => h_.1))) (Kd.R_base ho1) hb); replace BK105 := Aside0.mk (blk_below (g := gb105) (o := .cells #[.int .i64 t101, .slice Ao10 t102.length co10] 26 (0, 0)) (by (with_reducible repeat (first | refine blk_drewN ?_ _ | refine blk_drew ?_ | refine blk_alloc ?_ _)); refine blk_far ?_ NB105_120.out _; (with_reducible repeat (first | refine blk_drewN ?_ _ | refine blk_drew ?_ | refine blk_alloc ?_ _)); refine blk_far ?_ NB105_120.out _; (with_reducible repeat (first | refine blk_drewN ?_ _ | refine blk_drew ?_ | refine blk_alloc ?_ _)); exact BK105.out) hb); replace BK120 := Aside0.mk (blk_below (g := gb120) (o := .cells #[.int .i64 t112, .slice Ao47 t113.length co47] 26 (0, 0)) (by (with_reducible repeat (first | refine blk_drewN ?_ _ | refine blk_drew ?_ | refine blk_alloc ?_ _)); refine blk_put (cs := #[.int .i64 t112, .slice none 0 0]) ?_ 1 _ rfl; (with_reducible repeat (first | refine blk_drewN ?_ _ | refine blk_drew ?_ | refine blk_alloc ?_ _)); refine blk_put (cs := #[.int .i64 0, .slice none 0 0]) ?_ 0 _ rfl; (with_reducible repeat (first | refine blk_drewN ?_ _ | refine blk_drew ?_ | refine blk_alloc ?_ _)); exact BK120.out) hb); replace HB := Aside0.mk (below_step (bs2 HB.out GE105.out GE120.out) hb); (try clear hb); (try clear ho0); (try clear ho1)) | ((with_reducible refine gate_dst (N := 14) rfl ?_); (try (refine gate_guard (by rfl) ?_; dsimp only)); refine box_event ?hg (N := 14) ?hd (cs := #[.int .i64 0, .slice none 0 0]) (t := 26) ?hr ?_; (case hd => rfl); (case hg => rfl); (case hr => first | (go_simp; done) | (go_simp; rfl)); intro gb129 hg w50 hbox hb; replace HO_106001 := Aside0.mk (Kd.R_below (rz HO_106001.out) hb); replace HO115 := Aside0.mk (Kd.R_below (rz HO115.out) hb); replace HO118 := Aside0.mk (Kd.R_below (rz HO118.out) hb); replace HO124 := Aside0.mk (Kd.R_below (rz HO124.out) hb); replace HO127 := Aside0.mk (Kd.R_below (rz HO127.out) hb); have BK129 := Aside0.mk (hbox); have GW129 := Aside0.mk ((by rw [hg]; exact (below_size (bs2 HB.out GE105.out GE120.out)) : w.heap.size ≤ gb129)); have GE129 := Aside0.mk ((by rw [hg]; exact (below_size (bs2 HB.out GE105.out GE120.out)) : w.heap.size ≤ gb129)); replace HB := Aside0.mk (below_step (bs2 HB.out GE105.out GE120.out) hb); have NB105_129 := Aside0.mk ((by rw [hg]; exact Nat.ne_of_lt (blk_lt (g := gb105) (o := .cells #[.int .i64 t101, .slice Ao10 t102.length co10] 26 (0, 0)) (kz BK105.out)) : gb105 ≠ gb129)); have NB129_105 := Aside0.mk ((by rw [hg]; exact Nat.ne_of_gt (blk_lt (g := gb105) (o := .cells #[.int .i64 t101, .slice Ao10 t102.length co10] 26 (0, 0)) (kz BK105.out)) : gb129 ≠ gb105)); replace BK105 := Aside0.mk (blk_below (g := gb105) (o := .cells #[.int .i64 t101, .slice Ao10 t102.length co10] 26 (0, 0)) (kz BK105.out) hb); have NB120_129 := Aside0.mk ((by rw [hg]; exact Nat.ne_of_lt (blk_lt (g := gb120) (o := .cells #[.int .i64 t112, .slice Ao47 t113.length co47] 26 (0, 0)) (kz BK120.out)) : gb120 ≠ gb129)); have NB129_120 := Aside0.mk ((by rw [hg]; exact Nat.ne_of_gt (blk_lt (g := gb120) (o := .cells #[.int .i64 t112, .slice Ao47 t113.length co47] 26 (0, 0)) (kz BK120.out)) : gb129 ≠ gb120)); replace BK120 := Aside0.mk (blk_below (g := gb120) (o := .cells #[.int .i64 t112, .slice Ao47 t113.length co47] 26 (0, 0)) (kz BK120.out) hb); clear hb hbox hg; have hnb51 := NB129_105.out; have hnc51 := NB105_129.out; have hnb52 := NB129_120.out; have hnc52 := NB120_129.out; have hcz53_0 : w50.cell? ⟨gb129, 0, none⟩ = some (.int .i64 0) := (blk_cell BK129.out 0).trans rfl; have hcz53_1 : w50.cell? ⟨gb129, 1, none⟩ = some (.slice none 0 0) := (blk_cell BK129.out 1).trans rfl; have hfz53_0 := blk_frozen BK129.out 0; have hfz53_1 := blk_frozen BK129.out 1; obtain ⟨Ao54, co54, eo54⟩ := Kd.R_slice HO124.out; subst eo54; obtain ⟨Ao55, co55, eo55⟩ := Kd.R_slice HO118.out; subst eo55; obtain ⟨Ao56, co56, eo56⟩ := Kd.R_slice HO127.out; subst eo56))
           go_ret
           exact ⟨ze, by repeat (first | (with_reducible first | exact HB.out | apply below_alloc | apply pw_below_drewN | apply below_drew1 | refine below_set ?_ GE105.out | refine below_set ?_ GE120.out | refine below_set ?_ GE129.out) | exact HB.out)⟩
         ·
          rw [if_neg c24] at H
          have c24b0 : ((t116.length : Int) == 0) = false := beq_eq_false_iff_ne.mpr c24
          have c24b1 : ((t116.length : Int) != 0) = true := bne_iff_ne.mpr c24
          have c24b2 : ¬ (t116 = []) := fun h_ => c24 (by rw [h_]; rfl)
          obtain rfl := Option.some.inj H
          have hcz57_0 : wc.cell? ⟨gb105, 0, none⟩ = some (.int .i64 t101) := (blk_cell BK105.out 0).trans rfl
          have hcz57_1 : wc.cell? ⟨gb105, 1, none⟩ = some (.slice Ao10 t102.length co10) := (blk_cell BK105.out 1).trans rfl
          have hfz57_0 := blk_frozen BK105.out 0
          have hfz57_1 := blk_frozen BK105.out 1
          go_wp2_with (first | ((with_reducible refine gate_callee (f := 32) rfl ?_); refine goesL_ (some 62) rfl rfl Try.func32 zk rfl #[.agg #[.int .i64 t101, .slice Ao10 t102.length co10], .int .i64 (wrap64 (t106 - 1))] rfl zm ?_; (with_reducible refine (impl_ClockTick.calls kj15 t101 _ _ t102 (wrap64 (t106 - 1)) t112 t113 t116 true _ ?side1 ?side2 A20.out).mono ?_); (case side1 => exact cz ((Kd.R_reads' HO_106001.out).2.2)); (case side2 => exact (Kd.R_reads' HO_106001.out).2.1); rintro e w58 ⟨v114, v117, rfl, ho0, ho1, hb⟩; refine ⟨_, rfl, ?_⟩; have HO115 := Aside0.mk (Kd.R_lower (Kd.R_new' ho0 (Kd.R_lt (rz HO_106001.out))) (below_size (bs HB.out GE105.out))); replace HO_106001 := Aside0.mk (Kd.R_elder' (rz HO_106001.out) (Kd.R_base ho0) hb); have HO118 := Aside0.mk (Kd.R_lower ho1 (below_size (bs HB.out GE105.out))); replace BK105 := Aside0.mk (blk_below (g := gb105) (o := .cells #[.int .i64 t101, .slice Ao10 t102.length co10] 26 (0, 0)) (kz BK105.out) hb); replace HB := Aside0.mk (below_step (bs HB.out GE105.out) hb); (try clear hb); (try clear ho0); (try clear ho1)) | ((with_reducible refine gate_dst (N := 11) rfl ?_); (try (refine gate_guard (by rfl) ?_; dsimp only)); refine box_event ?hg (N := 11) ?hd (cs := #[.int .i64 0, .slice none 0 0]) (t := 26) ?hr ?_; (case hd => rfl); (case hg => rfl); (case hr => first | (go_simp; done) | (go_simp; rfl)); intro gb120 hg w59 hbox hb; replace HO_106001 := Aside0.mk (Kd.R_below (rz HO_106001.out) hb); replace HO115 := Aside0.mk (Kd.R_below (rz HO115.out) hb); replace HO118 := Aside0.mk (Kd.R_below (rz HO118.out) hb); have BK120 := Aside0.mk (hbox); have GW120 := Aside0.mk ((by rw [hg]; exact (below_size (bs HB.out GE105.out)) : w.heap.size ≤ gb120)); have GE120 := Aside0.mk ((by rw [hg]; exact (below_size (bs HB.out GE105.out)) : w.heap.size ≤ gb120)); replace HB := Aside0.mk (below_step (bs HB.out GE105.out) hb); have NB105_120 := Aside0.mk ((by rw [hg]; exact Nat.ne_of_lt (blk_lt (g := gb105) (o := .cells #[.int .i64 t101, .slice Ao10 t102.length co10] 26 (0, 0)) (kz BK105.out)) : gb105 ≠ gb120)); have NB120_105 := Aside0.mk ((by rw [hg]; exact Nat.ne_of_gt (blk_lt (g := gb105) (o := .cells #[.int .i64 t101, .slice Ao10 t102.length co10] 26 (0, 0)) (kz BK105.out)) : gb120 ≠ gb105)); replace BK105 := Aside0.mk (blk_below (g := gb105) (o := .cells #[.int .i64 t101, .slice Ao10 t102.length co10] 26 (0, 0)) (kz BK105.out) hb); clear hb hbox hg; have hnb60 := NB120_105.out; have hnc60 := NB105_120.out; have hcz61_0 : w59.cell? ⟨gb120, 0, none⟩ = some (.int .i64 0) := (blk_cell BK120.out 0).trans rfl; have hcz61_1 : w59.cell? ⟨gb120, 1, none⟩ = some (.slice none 0 0) := (blk_cell BK120.out 1).trans rfl; have hfz61_0 := blk_frozen BK120.out 0; have hfz61_1 := blk_frozen BK120.out 1; obtain ⟨Ao62, co62, eo62⟩ := Kd.R_slice HO115.out; subst eo62; have hcz63_0 : w59.cell? ⟨gb105, 0, none⟩ = some (.int .i64 t101) := (blk_cell BK105.out 0).trans rfl; have hcz63_1 : w59.cell? ⟨gb105, 1, none⟩ = some (.slice Ao10 t102.length co10) := (blk_cell BK105.out 1).trans rfl; have hfz63_0 := blk_frozen BK105.out 0; have hfz63_1 := blk_frozen BK105.out 1) | ((with_reducible refine gate_callee (f := 32) rfl ?_); refine goesL_ (some 69) rfl rfl Try.func32 zk rfl #[.agg #[.int .i64 t101, .slice Ao10 t102.length co10], .int .i64 t106] rfl zm ?_; (with_reducible refine (impl_ClockTick.calls kj15 t101 _ _ t102 t106 t121 t122 t125 true _ ?side1 ?side2 A21.out).mono ?_); (case side1 => refine (Kd.R_reads' (e := 62) (base := w.heap.size) (ok := fun k_ => (True ∧ some k_ ≠ (.slice Ao62 t113.length co62 : Value).ownBlock)) (n := t102.length) (c := co10) ?_).2.2; exact (by (with_reducible repeat (first | apply Kd.R_alloc | apply Kd.R_drewN | apply Kd.R_drew)); exact (Kd.R_mono (Kd.R_far (p := ⟨gb120, 1, none⟩) (Kd.R_far (p := ⟨gb120, 0, none⟩) (Kd.R_types HO_106001.out BK120.out (by decide)) (fun _ hk => hk.2) (.int .i64 t112)) (fun _ hk => hk.2) (.slice Ao62 t113.length co62)) (fun _ h_ => h_.1)))); (case side2 => exact (Kd.R_reads' HO_106001.out).2.1); rintro e w64 ⟨v123, v126, rfl, ho0, ho1, hb⟩; refine ⟨_, rfl, ?_⟩; have HO124 := Aside0.mk (Kd.R_lower (Kd.R_new' (Kd.R_new' ho0 (Kd.R_lt (by (with_reducible repeat (first | apply Kd.R_alloc | apply Kd.R_drewN | apply Kd.R_drew)); exact (Kd.R_mono (Kd.R_far (p := ⟨gb120, 1, none⟩) (Kd.R_far (p := ⟨gb120, 0, none⟩) (Kd.R_types HO_106001.out BK120.out (by decide)) (fun _ hk => hk.2) (.int .i64 t112)) (fun _ hk => hk.2) (.slice Ao62 t113.length co62)) (fun _ h_ => h_.1))))) (Kd.R_lt (by (with_reducible repeat (first | apply Kd.R_alloc | apply Kd.R_drewN | apply Kd.R_drew)); exact (Kd.R_mono (Kd.R_far (p := ⟨gb120, 1, none⟩) (Kd.R_far (p := ⟨gb120, 0, none⟩) (Kd.R_types HO115.out BK120.out (by decide)) (fun _ hk => hk.2) (.int .i64 t112)) (fun _ hk => hk.2) (.slice Ao62 t113.length co62)) (fun _ h_ => h_.1))))) (below_size (bs2 HB.out GE105.out GE120.out))); replace HO_106001 := Aside0.mk (Kd.R_elder' (by (with_reducible repeat (first | apply Kd.R_alloc | apply Kd.R_drewN | apply Kd.R_drew)); exact (Kd.R_mono (Kd.R_far (p := ⟨gb120, 1, none⟩) (Kd.R_far (p := ⟨gb120, 0, none⟩) (Kd.R_types HO_106001.out BK120.out (by decide)) (fun _ hk => hk.2) (.int .i64 t112)) (fun _ hk => hk.2) (.slice Ao62 t113.length co62)) (fun _ h_ => h_.1))) (Kd.R_base ho0) hb); replace HO115 := Aside0.mk (Kd.R_elder' (by (with_reducible repeat (first | apply Kd.R_alloc | apply Kd.R_drewN | apply Kd.R_drew)); exact (Kd.R_mono (Kd.R_far (p := ⟨gb120, 1, none⟩) (Kd.R_far (p := ⟨gb120, 0, none⟩) (Kd.R_types HO115.out BK120.out (by decide)) (fun _ hk => hk.2) (.int .i64 t112)) (fun _ hk => hk.2) (.slice Ao62 t113.length co62)) (fun _ h_ => h_.1))) (Kd.R_base ho0) hb); have HO127 := Aside0.mk (Kd.R_lower (Kd.R_new' ho1 (Kd.R_lt (by (with_reducible repeat (first | apply Kd.R_alloc | apply Kd.R_drewN | apply Kd.R_drew)); exact (Kd.R_mono (Kd.R_far (p := ⟨gb120, 1, none⟩) (Kd.R_far (p := ⟨gb120, 0, none⟩) (Kd.R_types HO118.out BK120.out (by decide)) (fun _ hk => hk.2) (.int .i64 t112)) (fun _ hk => hk.2) (.slice Ao62 t113.length co62)) (fun _ h_ => h_.1))))) (below_size (bs2 HB.out GE105.out GE120.out))); replace HO118 := Aside0.mk (Kd.R_elder' (by (with_reducible repeat (first | apply Kd.R_alloc | apply Kd.R_drewN | apply Kd.R_drew)); exact (Kd.R_mono (Kd.R_far (p := ⟨gb120, 1, none⟩) (Kd.R_far (p := ⟨gb120, 0, none⟩) (Kd.R_types HO118.out BK120.out (by decide)) (fun _ hk => hk.2) (.int .i64 t112)) (fun _ hk => hk.2) (.slice Ao62 t113.length co62)) (fun _ h_ => h_.1))) (Kd.R_base ho1) hb); replace BK105 := Aside0.mk (blk_below (g := gb105) (o := .cells #[.int .i64 t101, .slice Ao10 t102.length co10] 26 (0, 0)) (by (with_reducible repeat (first | refine blk_drewN ?_ _ | refine blk_drew ?_ | refine blk_alloc ?_ _)); refine blk_far ?_ NB105_120.out _; (with_reducible repeat (first | refine blk_drewN ?_ _ | refine blk_drew ?_ | refine blk_alloc ?_ _)); refine blk_far ?_ NB105_120.out _; (with_reducible repeat (first | refine blk_drewN ?_ _ | refine blk_drew ?_ | refine blk_alloc ?_ _)); exact BK105.out) hb); replace BK120 := Aside0.mk (blk_below (g := gb120) (o := .cells #[.int .i64 t112, .slice Ao62 t113.length co62] 26 (0, 0)) (by (with_reducible repeat (first | refine blk_drewN ?_ _ | refine blk_drew ?_ | refine blk_alloc ?_ _)); refine blk_put (cs := #[.int .i64 t112, .slice none 0 0]) ?_ 1 _ rfl; (with_reducible repeat (first | refine blk_drewN ?_ _ | refine blk_drew ?_ | refine blk_alloc ?_ _)); refine blk_put (cs := #[.int .i64 0, .slice none 0 0]) ?_ 0 _ rfl; (with_reducible repeat (first | refine blk_drewN ?_ _ | refine blk_drew ?_ | refine blk_alloc ?_ _)); exact BK120.out) hb); replace HB := Aside0.mk (below_step (bs2 HB.out GE105.out GE120.out) hb); (try clear hb); (try clear ho0); (try clear ho1)) | ((with_reducible refine gate_dst (N := 14) rfl ?_); (try (refine gate_guard (by rfl) ?_; dsimp only)); refine box_event ?hg (N := 14) ?hd (cs := #[.int .i64 0, .slice none 0 0]) (t := 26) ?hr ?_; (case hd => rfl); (case hg => rfl); (case hr => first | (go_simp; done) | (go_simp; rfl)); intro gb129 hg w65 hbox hb; replace HO_106001 := Aside0.mk (Kd.R_below (rz HO_106001.out) hb); replace HO115 := Aside0.mk (Kd.R_below (rz HO115.out) hb); replace HO118 := Aside0.mk (Kd.R_below (rz HO118.out) hb); replace HO124 := Aside0.mk (Kd.R_below (rz HO124.out) hb); replace HO127 := Aside0.mk (Kd.R_below (rz HO127.out) hb); have BK129 := Aside0.mk (hbox); have GW129 := Aside0.mk ((by rw [hg]; exact (below_size (bs2 HB.out GE105.out GE120.out)) : w.heap.size ≤ gb129)); have GE129 := Aside0.mk ((by rw [hg]; exact (below_size (bs2 HB.out GE105.out GE120.out)) : w.heap.size ≤ gb129)); replace HB := Aside0.mk (below_step (bs2 HB.out GE105.out GE120.out) hb); have NB105_129 := Aside0.mk ((by rw [hg]; exact Nat.ne_of_lt (blk_lt (g := gb105) (o := .cells #[.int .i64 t101, .slice Ao10 t102.length co10] 26 (0, 0)) (kz BK105.out)) : gb105 ≠ gb129)); have NB129_105 := Aside0.mk ((by rw [hg]; exact Nat.ne_of_gt (blk_lt (g := gb105) (o := .cells #[.int .i64 t101, .slice Ao10 t102.length co10] 26 (0, 0)) (kz BK105.out)) : gb129 ≠ gb105)); replace BK105 := Aside0.mk (blk_below (g := gb105) (o := .cells #[.int .i64 t101, .slice Ao10 t102.length co10] 26 (0, 0)) (kz BK105.out) hb); have NB120_129 := Aside0.mk ((by rw [hg]; exact Nat.ne_of_lt (blk_lt (g := gb120) (o := .cells #[.int .i64 t112, .slice Ao62 t113.length co62] 26 (0, 0)) (kz BK120.out)) : gb120 ≠ gb129)); have NB129_120 := Aside0.mk ((by rw [hg]; exact Nat.ne_of_gt (blk_lt (g := gb120) (o := .cells #[.int .i64 t112, .slice Ao62 t113.length co62] 26 (0, 0)) (kz BK120.out)) : gb129 ≠ gb120)); replace BK120 := Aside0.mk (blk_below (g := gb120) (o := .cells #[.int .i64 t112, .slice Ao62 t113.length co62] 26 (0, 0)) (kz BK120.out) hb); clear hb hbox hg; have hnb66 := NB129_105.out; have hnc66 := NB105_129.out; have hnb67 := NB129_120.out; have hnc67 := NB120_129.out; have hcz68_0 : w65.cell? ⟨gb129, 0, none⟩ = some (.int .i64 0) := (blk_cell BK129.out 0).trans rfl; have hcz68_1 : w65.cell? ⟨gb129, 1, none⟩ = some (.slice none 0 0) := (blk_cell BK129.out 1).trans rfl; have hfz68_0 := blk_frozen BK129.out 0; have hfz68_1 := blk_frozen BK129.out 1; obtain ⟨Ao69, co69, eo69⟩ := Kd.R_slice HO124.out; subst eo69; obtain ⟨Ao70, co70, eo70⟩ := Kd.R_slice HO118.out; subst eo70))
          go_ret
          exact ⟨ze, by repeat (first | (with_reducible first | exact HB.out | apply below_alloc | apply pw_below_drewN | apply below_drew1 | refine below_set ?_ GE105.out | refine below_set ?_ GE120.out | refine below_set ?_ GE129.out) | exact HB.out)⟩
        ·
         replace c23 := Bool.eq_false_iff.mpr c23
         subst c23
         rw [if_neg nf_] at H
         obtain rfl := Option.some.inj H
         have hcz71_0 : wc.cell? ⟨gb105, 0, none⟩ = some (.int .i64 t101) := (blk_cell BK105.out 0).trans rfl
         have hcz71_1 : wc.cell? ⟨gb105, 1, none⟩ = some (.slice Ao10 t102.length co10) := (blk_cell BK105.out 1).trans rfl
         have hfz71_0 := blk_frozen BK105.out 0
         have hfz71_1 := blk_frozen BK105.out 1
         go_wp2_with (first | ((with_reducible refine gate_callee (f := 32) rfl ?_); refine goesL_ (some 62) rfl rfl Try.func32 zk rfl #[.agg #[.int .i64 t101, .slice Ao10 t102.length co10], .int .i64 (wrap64 (t106 - 1))] rfl zm ?_; (with_reducible refine (impl_ClockTick.calls kj15 t101 _ _ t102 (wrap64 (t106 - 1)) t112 t113 t116 true _ ?side1 ?side2 A20.out).mono ?_); (case side1 => exact cz ((Kd.R_reads' HO_106001.out).2.2)); (case side2 => exact (Kd.R_reads' HO_106001.out).2.1); rintro e w72 ⟨v114, v117, rfl, ho0, ho1, hb⟩; refine ⟨_, rfl, ?_⟩; have HO115 := Aside0.mk (Kd.R_lower (Kd.R_new' ho0 (Kd.R_lt (rz HO_106001.out))) (below_size (bs HB.out GE105.out))); replace HO_106001 := Aside0.mk (Kd.R_elder' (rz HO_106001.out) (Kd.R_base ho0) hb); have HO118 := Aside0.mk (Kd.R_lower ho1 (below_size (bs HB.out GE105.out))); replace BK105 := Aside0.mk (blk_below (g := gb105) (o := .cells #[.int .i64 t101, .slice Ao10 t102.length co10] 26 (0, 0)) (kz BK105.out) hb); replace HB := Aside0.mk (below_step (bs HB.out GE105.out) hb); (try clear hb); (try clear ho0); (try clear ho1)) | ((with_reducible refine gate_dst (N := 11) rfl ?_); (try (refine gate_guard (by rfl) ?_; dsimp only)); refine box_event ?hg (N := 11) ?hd (cs := #[.int .i64 0, .slice none 0 0]) (t := 26) ?hr ?_; (case hd => rfl); (case hg => rfl); (case hr => first | (go_simp; done) | (go_simp; rfl)); intro gb120 hg w73 hbox hb; replace HO_106001 := Aside0.mk (Kd.R_below (rz HO_106001.out) hb); replace HO115 := Aside0.mk (Kd.R_below (rz HO115.out) hb); replace HO118 := Aside0.mk (Kd.R_below (rz HO118.out) hb); have BK120 := Aside0.mk (hbox); have GW120 := Aside0.mk ((by rw [hg]; exact (below_size (bs HB.out GE105.out)) : w.heap.size ≤ gb120)); have GE120 := Aside0.mk ((by rw [hg]; exact (below_size (bs HB.out GE105.out)) : w.heap.size ≤ gb120)); replace HB := Aside0.mk (below_step (bs HB.out GE105.out) hb); have NB105_120 := Aside0.mk ((by rw [hg]; exact Nat.ne_of_lt (blk_lt (g := gb105) (o := .cells #[.int .i64 t101, .slice Ao10 t102.length co10] 26 (0, 0)) (kz BK105.out)) : gb105 ≠ gb120)); have NB120_105 := Aside0.mk ((by rw [hg]; exact Nat.ne_of_gt (blk_lt (g := gb105) (o := .cells #[.int .i64 t101, .slice Ao10 t102.length co10] 26 (0, 0)) (kz BK105.out)) : gb120 ≠ gb105)); replace BK105 := Aside0.mk (blk_below (g := gb105) (o := .cells #[.int .i64 t101, .slice Ao10 t102.length co10] 26 (0, 0)) (kz BK105.out) hb); clear hb hbox hg; have hnb74 := NB120_105.out; have hnc74 := NB105_120.out; have hcz75_0 : w73.cell? ⟨gb120, 0, none⟩ = some (.int .i64 0) := (blk_cell BK120.out 0).trans rfl; have hcz75_1 : w73.cell? ⟨gb120, 1, none⟩ = some (.slice none 0 0) := (blk_cell BK120.out 1).trans rfl; have hfz75_0 := blk_frozen BK120.out 0; have hfz75_1 := blk_frozen BK120.out 1; obtain ⟨Ao76, co76, eo76⟩ := Kd.R_slice HO115.out; subst eo76; have hcz77_0 : w73.cell? ⟨gb105, 0, none⟩ = some (.int .i64 t101) := (blk_cell BK105.out 0).trans rfl; have hcz77_1 : w73.cell? ⟨gb105, 1, none⟩ = some (.slice Ao10 t102.length co10) := (blk_cell BK105.out 1).trans rfl; have hfz77_0 := blk_frozen BK105.out 0; have hfz77_1 := blk_frozen BK105.out 1) | ((with_reducible refine gate_callee (f := 32) rfl ?_); refine goesL_ (some 69) rfl rfl Try.func32 zk rfl #[.agg #[.int .i64 t101, .slice Ao10 t102.length co10], .int .i64 t106] rfl zm ?_; (with_reducible refine (impl_ClockTick.calls kj15 t101 _ _ t102 t106 t121 t122 t125 false _ ?side1 ?side2 A21.out).mono ?_); (case side1 => refine (Kd.R_reads' (e := 62) (base := w.heap.size) (ok := fun k_ => (True ∧ some k_ ≠ (.slice Ao76 t113.length co76 : Value).ownBlock)) (n := t102.length) (c := co10) ?_).2.2; exact (by (with_reducible repeat (first | apply Kd.R_alloc | apply Kd.R_drewN | apply Kd.R_drew)); exact (Kd.R_mono (Kd.R_far (p := ⟨gb120, 1, none⟩) (Kd.R_far (p := ⟨gb120, 0, none⟩) (Kd.R_types HO_106001.out BK120.out (by decide)) (fun _ hk => hk.2) (.int .i64 t112)) (fun _ hk => hk.2) (.slice Ao76 t113.length co76)) (fun _ h_ => h_.1)))); (case side2 => exact (Kd.R_reads' HO_106001.out).2.1); rintro e w78 ⟨v123, v126, rfl, ho0, ho1, hb⟩; refine ⟨_, rfl, ?_⟩; have HO124 := Aside0.mk (Kd.R_lower (Kd.R_new' (Kd.R_new' ho0 (Kd.R_lt (by (with_reducible repeat (first | apply Kd.R_alloc | apply Kd.R_drewN | apply Kd.R_drew)); exact (Kd.R_mono (Kd.R_far (p := ⟨gb120, 1, none⟩) (Kd.R_far (p := ⟨gb120, 0, none⟩) (Kd.R_types HO_106001.out BK120.out (by decide)) (fun _ hk => hk.2) (.int .i64 t112)) (fun _ hk => hk.2) (.slice Ao76 t113.length co76)) (fun _ h_ => h_.1))))) (Kd.R_lt (by (with_reducible repeat (first | apply Kd.R_alloc | apply Kd.R_drewN | apply Kd.R_drew)); exact (Kd.R_mono (Kd.R_far (p := ⟨gb120, 1, none⟩) (Kd.R_far (p := ⟨gb120, 0, none⟩) (Kd.R_types HO115.out BK120.out (by decide)) (fun _ hk => hk.2) (.int .i64 t112)) (fun _ hk => hk.2) (.slice Ao76 t113.length co76)) (fun _ h_ => h_.1))))) (below_size (bs2 HB.out GE105.out GE120.out))); replace HO_106001 := Aside0.mk (Kd.R_elder' (by (with_reducible repeat (first | apply Kd.R_alloc | apply Kd.R_drewN | apply Kd.R_drew)); exact (Kd.R_mono (Kd.R_far (p := ⟨gb120, 1, none⟩) (Kd.R_far (p := ⟨gb120, 0, none⟩) (Kd.R_types HO_106001.out BK120.out (by decide)) (fun _ hk => hk.2) (.int .i64 t112)) (fun _ hk => hk.2) (.slice Ao76 t113.length co76)) (fun _ h_ => h_.1))) (Kd.R_base ho0) hb); replace HO115 := Aside0.mk (Kd.R_elder' (by (with_reducible repeat (first | apply Kd.R_alloc | apply Kd.R_drewN | apply Kd.R_drew)); exact (Kd.R_mono (Kd.R_far (p := ⟨gb120, 1, none⟩) (Kd.R_far (p := ⟨gb120, 0, none⟩) (Kd.R_types HO115.out BK120.out (by decide)) (fun _ hk => hk.2) (.int .i64 t112)) (fun _ hk => hk.2) (.slice Ao76 t113.length co76)) (fun _ h_ => h_.1))) (Kd.R_base ho0) hb); have HO127 := Aside0.mk (Kd.R_lower (Kd.R_new' ho1 (Kd.R_lt (by (with_reducible repeat (first | apply Kd.R_alloc | apply Kd.R_drewN | apply Kd.R_drew)); exact (Kd.R_mono (Kd.R_far (p := ⟨gb120, 1, none⟩) (Kd.R_far (p := ⟨gb120, 0, none⟩) (Kd.R_types HO118.out BK120.out (by decide)) (fun _ hk => hk.2) (.int .i64 t112)) (fun _ hk => hk.2) (.slice Ao76 t113.length co76)) (fun _ h_ => h_.1))))) (below_size (bs2 HB.out GE105.out GE120.out))); replace HO118 := Aside0.mk (Kd.R_elder' (by (with_reducible repeat (first | apply Kd.R_alloc | apply Kd.R_drewN | apply Kd.R_drew)); exact (Kd.R_mono (Kd.R_far (p := ⟨gb120, 1, none⟩) (Kd.R_far (p := ⟨gb120, 0, none⟩) (Kd.R_types HO118.out BK120.out (by decide)) (fun _ hk => hk.2) (.int .i64 t112)) (fun _ hk => hk.2) (.slice Ao76 t113.length co76)) (fun _ h_ => h_.1))) (Kd.R_base ho1) hb); replace BK105 := Aside0.mk (blk_below (g := gb105) (o := .cells #[.int .i64 t101, .slice Ao10 t102.length co10] 26 (0, 0)) (by (with_reducible repeat (first | refine blk_drewN ?_ _ | refine blk_drew ?_ | refine blk_alloc ?_ _)); refine blk_far ?_ NB105_120.out _; (with_reducible repeat (first | refine blk_drewN ?_ _ | refine blk_drew ?_ | refine blk_alloc ?_ _)); refine blk_far ?_ NB105_120.out _; (with_reducible repeat (first | refine blk_drewN ?_ _ | refine blk_drew ?_ | refine blk_alloc ?_ _)); exact BK105.out) hb); replace BK120 := Aside0.mk (blk_below (g := gb120) (o := .cells #[.int .i64 t112, .slice Ao76 t113.length co76] 26 (0, 0)) (by (with_reducible repeat (first | refine blk_drewN ?_ _ | refine blk_drew ?_ | refine blk_alloc ?_ _)); refine blk_put (cs := #[.int .i64 t112, .slice none 0 0]) ?_ 1 _ rfl; (with_reducible repeat (first | refine blk_drewN ?_ _ | refine blk_drew ?_ | refine blk_alloc ?_ _)); refine blk_put (cs := #[.int .i64 0, .slice none 0 0]) ?_ 0 _ rfl; (with_reducible repeat (first | refine blk_drewN ?_ _ | refine blk_drew ?_ | refine blk_alloc ?_ _)); exact BK120.out) hb); replace HB := Aside0.mk (below_step (bs2 HB.out GE105.out GE120.out) hb); (try clear hb); (try clear ho0); (try clear ho1)) | ((with_reducible refine gate_dst (N := 14) rfl ?_); (try (refine gate_guard (by rfl) ?_; dsimp only)); refine box_event ?hg (N := 14) ?hd (cs := #[.int .i64 0, .slice none 0 0]) (t := 26) ?hr ?_; (case hd => rfl); (case hg => rfl); (case hr => first | (go_simp; done) | (go_simp; rfl)); intro gb129 hg w79 hbox hb; replace HO_106001 := Aside0.mk (Kd.R_below (rz HO_106001.out) hb); replace HO115 := Aside0.mk (Kd.R_below (rz HO115.out) hb); replace HO118 := Aside0.mk (Kd.R_below (rz HO118.out) hb); replace HO124 := Aside0.mk (Kd.R_below (rz HO124.out) hb); replace HO127 := Aside0.mk (Kd.R_below (rz HO127.out) hb); have BK129 := Aside0.mk (hbox); have GW129 := Aside0.mk ((by rw [hg]; exact (below_size (bs2 HB.out GE105.out GE120.out)) : w.heap.size ≤ gb129)); have GE129 := Aside0.mk ((by rw [hg]; exact (below_size (bs2 HB.out GE105.out GE120.out)) : w.heap.size ≤ gb129)); replace HB := Aside0.mk (below_step (bs2 HB.out GE105.out GE120.out) hb); have NB105_129 := Aside0.mk ((by rw [hg]; exact Nat.ne_of_lt (blk_lt (g := gb105) (o := .cells #[.int .i64 t101, .slice Ao10 t102.length co10] 26 (0, 0)) (kz BK105.out)) : gb105 ≠ gb129)); have NB129_105 := Aside0.mk ((by rw [hg]; exact Nat.ne_of_gt (blk_lt (g := gb105) (o := .cells #[.int .i64 t101, .slice Ao10 t102.length co10] 26 (0, 0)) (kz BK105.out)) : gb129 ≠ gb105)); replace BK105 := Aside0.mk (blk_below (g := gb105) (o := .cells #[.int .i64 t101, .slice Ao10 t102.length co10] 26 (0, 0)) (kz BK105.out) hb); have NB120_129 := Aside0.mk ((by rw [hg]; exact Nat.ne_of_lt (blk_lt (g := gb120) (o := .cells #[.int .i64 t112, .slice Ao76 t113.length co76] 26 (0, 0)) (kz BK120.out)) : gb120 ≠ gb129)); have NB129_120 := Aside0.mk ((by rw [hg]; exact Nat.ne_of_gt (blk_lt (g := gb120) (o := .cells #[.int .i64 t112, .slice Ao76 t113.length co76] 26 (0, 0)) (kz BK120.out)) : gb129 ≠ gb120)); replace BK120 := Aside0.mk (blk_below (g := gb120) (o := .cells #[.int .i64 t112, .slice Ao76 t113.length co76] 26 (0, 0)) (kz BK120.out) hb); clear hb hbox hg; have hnb80 := NB129_105.out; have hnc80 := NB105_129.out; have hnb81 := NB129_120.out; have hnc81 := NB120_129.out; have hcz82_0 : w79.cell? ⟨gb129, 0, none⟩ = some (.int .i64 0) := (blk_cell BK129.out 0).trans rfl; have hcz82_1 : w79.cell? ⟨gb129, 1, none⟩ = some (.slice none 0 0) := (blk_cell BK129.out 1).trans rfl; have hfz82_0 := blk_frozen BK129.out 0; have hfz82_1 := blk_frozen BK129.out 1; obtain ⟨Ao83, co83, eo83⟩ := Kd.R_slice HO124.out; subst eo83))
         go_ret
         exact ⟨ze, by repeat (first | (with_reducible first | exact HB.out | apply below_alloc | apply pw_below_drewN | apply below_drew1 | refine below_set ?_ GE105.out | refine below_set ?_ GE120.out | refine below_set ?_ GE129.out) | exact HB.out)⟩
       ·
        replace c22 := Bool.eq_false_iff.mpr c22
        subst c22
        rw [if_neg nf_] at H
        obtain rfl := Option.some.inj H
        have hcz84_0 : wc.cell? ⟨gb105, 0, none⟩ = some (.int .i64 t101) := (blk_cell BK105.out 0).trans rfl
        have hcz84_1 : wc.cell? ⟨gb105, 1, none⟩ = some (.slice Ao10 t102.length co10) := (blk_cell BK105.out 1).trans rfl
        have hfz84_0 := blk_frozen BK105.out 0
        have hfz84_1 := blk_frozen BK105.out 1
        go_wp2_with (first | ((with_reducible refine gate_callee (f := 32) rfl ?_); refine goesL_ (some 62) rfl rfl Try.func32 zk rfl #[.agg #[.int .i64 t101, .slice Ao10 t102.length co10], .int .i64 (wrap64 (t106 - 1))] rfl zm ?_; (with_reducible refine (impl_ClockTick.calls kj15 t101 _ _ t102 (wrap64 (t106 - 1)) t112 t113 t116 false _ ?side1 ?side2 A20.out).mono ?_); (case side1 => exact cz ((Kd.R_reads' HO_106001.out).2.2)); (case side2 => exact (Kd.R_reads' HO_106001.out).2.1); rintro e w85 ⟨v114, v117, rfl, ho0, ho1, hb⟩; refine ⟨_, rfl, ?_⟩; have HO115 := Aside0.mk (Kd.R_lower (Kd.R_new' ho0 (Kd.R_lt (rz HO_106001.out))) (below_size (bs HB.out GE105.out))); replace HO_106001 := Aside0.mk (Kd.R_elder' (rz HO_106001.out) (Kd.R_base ho0) hb); have HO118 := Aside0.mk (Kd.R_lower ho1 (below_size (bs HB.out GE105.out))); replace BK105 := Aside0.mk (blk_below (g := gb105) (o := .cells #[.int .i64 t101, .slice Ao10 t102.length co10] 26 (0, 0)) (kz BK105.out) hb); replace HB := Aside0.mk (below_step (bs HB.out GE105.out) hb); (try clear hb); (try clear ho0); (try clear ho1)) | ((with_reducible refine gate_dst (N := 11) rfl ?_); (try (refine gate_guard (by rfl) ?_; dsimp only)); refine box_event ?hg (N := 11) ?hd (cs := #[.int .i64 0, .slice none 0 0]) (t := 26) ?hr ?_; (case hd => rfl); (case hg => rfl); (case hr => first | (go_simp; done) | (go_simp; rfl)); intro gb120 hg w86 hbox hb; replace HO_106001 := Aside0.mk (Kd.R_below (rz HO_106001.out) hb); replace HO115 := Aside0.mk (Kd.R_below (rz HO115.out) hb); replace HO118 := Aside0.mk (Kd.R_below (rz HO118.out) hb); have BK120 := Aside0.mk (hbox); have GW120 := Aside0.mk ((by rw [hg]; exact (below_size (bs HB.out GE105.out)) : w.heap.size ≤ gb120)); have GE120 := Aside0.mk ((by rw [hg]; exact (below_size (bs HB.out GE105.out)) : w.heap.size ≤ gb120)); replace HB := Aside0.mk (below_step (bs HB.out GE105.out) hb); have NB105_120 := Aside0.mk ((by rw [hg]; exact Nat.ne_of_lt (blk_lt (g := gb105) (o := .cells #[.int .i64 t101, .slice Ao10 t102.length co10] 26 (0, 0)) (kz BK105.out)) : gb105 ≠ gb120)); have NB120_105 := Aside0.mk ((by rw [hg]; exact Nat.ne_of_gt (blk_lt (g := gb105) (o := .cells #[.int .i64 t101, .slice Ao10 t102.length co10] 26 (0, 0)) (kz BK105.out)) : gb120 ≠ gb105)); replace BK105 := Aside0.mk (blk_below (g := gb105) (o := .cells #[.int .i64 t101, .slice Ao10 t102.length co10] 26 (0, 0)) (kz BK105.out) hb); clear hb hbox hg; have hnb87 := NB120_105.out; have hnc87 := NB105_120.out; have hcz88_0 : w86.cell? ⟨gb120, 0, none⟩ = some (.int .i64 0) := (blk_cell BK120.out 0).trans rfl; have hcz88_1 : w86.cell? ⟨gb120, 1, none⟩ = some (.slice none 0 0) := (blk_cell BK120.out 1).trans rfl; have hfz88_0 := blk_frozen BK120.out 0; have hfz88_1 := blk_frozen BK120.out 1; obtain ⟨Ao89, co89, eo89⟩ := Kd.R_slice HO115.out; subst eo89; have hcz90_0 : w86.cell? ⟨gb105, 0, none⟩ = some (.int .i64 t101) := (blk_cell BK105.out 0).trans rfl; have hcz90_1 : w86.cell? ⟨gb105, 1, none⟩ = some (.slice Ao10 t102.length co10) := (blk_cell BK105.out 1).trans rfl; have hfz90_0 := blk_frozen BK105.out 0; have hfz90_1 := blk_frozen BK105.out 1) | ((with_reducible refine gate_callee (f := 32) rfl ?_); refine goesL_ (some 69) rfl rfl Try.func32 zk rfl #[.agg #[.int .i64 t101, .slice Ao10 t102.length co10], .int .i64 t106] rfl zm ?_; (with_reducible refine (impl_ClockTick.calls kj15 t101 _ _ t102 t106 t121 t122 t125 t128 _ ?side1 ?side2 A21.out).mono ?_); (case side1 => refine (Kd.R_reads' (e := 62) (base := w.heap.size) (ok := fun k_ => (True ∧ some k_ ≠ (.slice Ao89 t113.length co89 : Value).ownBlock)) (n := t102.length) (c := co10) ?_).2.2; exact (by (with_reducible repeat (first | apply Kd.R_alloc | apply Kd.R_drewN | apply Kd.R_drew)); exact (Kd.R_mono (Kd.R_far (p := ⟨gb120, 1, none⟩) (Kd.R_far (p := ⟨gb120, 0, none⟩) (Kd.R_types HO_106001.out BK120.out (by decide)) (fun _ hk => hk.2) (.int .i64 t112)) (fun _ hk => hk.2) (.slice Ao89 t113.length co89)) (fun _ h_ => h_.1)))); (case side2 => exact (Kd.R_reads' HO_106001.out).2.1); rintro e w91 ⟨v123, v126, rfl, ho0, ho1, hb⟩; refine ⟨_, rfl, ?_⟩; have HO124 := Aside0.mk (Kd.R_lower (Kd.R_new' (Kd.R_new' ho0 (Kd.R_lt (by (with_reducible repeat (first | apply Kd.R_alloc | apply Kd.R_drewN | apply Kd.R_drew)); exact (Kd.R_mono (Kd.R_far (p := ⟨gb120, 1, none⟩) (Kd.R_far (p := ⟨gb120, 0, none⟩) (Kd.R_types HO_106001.out BK120.out (by decide)) (fun _ hk => hk.2) (.int .i64 t112)) (fun _ hk => hk.2) (.slice Ao89 t113.length co89)) (fun _ h_ => h_.1))))) (Kd.R_lt (by (with_reducible repeat (first | apply Kd.R_alloc | apply Kd.R_drewN | apply Kd.R_drew)); exact (Kd.R_mono (Kd.R_far (p := ⟨gb120, 1, none⟩) (Kd.R_far (p := ⟨gb120, 0, none⟩) (Kd.R_types HO115.out BK120.out (by decide)) (fun _ hk => hk.2) (.int .i64 t112)) (fun _ hk => hk.2) (.slice Ao89 t113.length co89)) (fun _ h_ => h_.1))))) (below_size (bs2 HB.out GE105.out GE120.out))); replace HO_106001 := Aside0.mk (Kd.R_elder' (by (with_reducible repeat (first | apply Kd.R_alloc | apply Kd.R_drewN | apply Kd.R_drew)); exact (Kd.R_mono (Kd.R_far (p := ⟨gb120, 1, none⟩) (Kd.R_far (p := ⟨gb120, 0, none⟩) (Kd.R_types HO_106001.out BK120.out (by decide)) (fun _ hk => hk.2) (.int .i64 t112)) (fun _ hk => hk.2) (.slice Ao89 t113.length co89)) (fun _ h_ => h_.1))) (Kd.R_base ho0) hb); replace HO115 := Aside0.mk (Kd.R_elder' (by (with_reducible repeat (first | apply Kd.R_alloc | apply Kd.R_drewN | apply Kd.R_drew)); exact (Kd.R_mono (Kd.R_far (p := ⟨gb120, 1, none⟩) (Kd.R_far (p := ⟨gb120, 0, none⟩) (Kd.R_types HO115.out BK120.out (by decide)) (fun _ hk => hk.2) (.int .i64 t112)) (fun _ hk => hk.2) (.slice Ao89 t113.length co89)) (fun _ h_ => h_.1))) (Kd.R_base ho0) hb); have HO127 := Aside0.mk (Kd.R_lower (Kd.R_new' ho1 (Kd.R_lt (by (with_reducible repeat (first | apply Kd.R_alloc | apply Kd.R_drewN | apply Kd.R_drew)); exact (Kd.R_mono (Kd.R_far (p := ⟨gb120, 1, none⟩) (Kd.R_far (p := ⟨gb120, 0, none⟩) (Kd.R_types HO118.out BK120.out (by decide)) (fun _ hk => hk.2) (.int .i64 t112)) (fun _ hk => hk.2) (.slice Ao89 t113.length co89)) (fun _ h_ => h_.1))))) (below_size (bs2 HB.out GE105.out GE120.out))); replace HO118 := Aside0.mk (Kd.R_elder' (by (with_reducible repeat (first | apply Kd.R_alloc | apply Kd.R_drewN | apply Kd.R_drew)); exact (Kd.R_mono (Kd.R_far (p := ⟨gb120, 1, none⟩) (Kd.R_far (p := ⟨gb120, 0, none⟩) (Kd.R_types HO118.out BK120.out (by decide)) (fun _ hk => hk.2) (.int .i64 t112)) (fun _ hk => hk.2) (.slice Ao89 t113.length co89)) (fun _ h_ => h_.1))) (Kd.R_base ho1) hb); replace BK105 := Aside0.mk (blk_below (g := gb105) (o := .cells #[.int .i64 t101, .slice Ao10 t102.length co10] 26 (0, 0)) (by (with_reducible repeat (first | refine blk_drewN ?_ _ | refine blk_drew ?_ | refine blk_alloc ?_ _)); refine blk_far ?_ NB105_120.out _; (with_reducible repeat (first | refine blk_drewN ?_ _ | refine blk_drew ?_ | refine blk_alloc ?_ _)); refine blk_far ?_ NB105_120.out _; (with_reducible repeat (first | refine blk_drewN ?_ _ | refine blk_drew ?_ | refine blk_alloc ?_ _)); exact BK105.out) hb); replace BK120 := Aside0.mk (blk_below (g := gb120) (o := .cells #[.int .i64 t112, .slice Ao89 t113.length co89] 26 (0, 0)) (by (with_reducible repeat (first | refine blk_drewN ?_ _ | refine blk_drew ?_ | refine blk_alloc ?_ _)); refine blk_put (cs := #[.int .i64 t112, .slice none 0 0]) ?_ 1 _ rfl; (with_reducible repeat (first | refine blk_drewN ?_ _ | refine blk_drew ?_ | refine blk_alloc ?_ _)); refine blk_put (cs := #[.int .i64 0, .slice none 0 0]) ?_ 0 _ rfl; (with_reducible repeat (first | refine blk_drewN ?_ _ | refine blk_drew ?_ | refine blk_alloc ?_ _)); exact BK120.out) hb); replace HB := Aside0.mk (below_step (bs2 HB.out GE105.out GE120.out) hb); (try clear hb); (try clear ho0); (try clear ho1)) | ((with_reducible refine gate_dst (N := 14) rfl ?_); (try (refine gate_guard (by rfl) ?_; dsimp only)); refine box_event ?hg (N := 14) ?hd (cs := #[.int .i64 0, .slice none 0 0]) (t := 26) ?hr ?_; (case hd => rfl); (case hg => rfl); (case hr => first | (go_simp; done) | (go_simp; rfl)); intro gb129 hg w92 hbox hb; replace HO_106001 := Aside0.mk (Kd.R_below (rz HO_106001.out) hb); replace HO115 := Aside0.mk (Kd.R_below (rz HO115.out) hb); replace HO118 := Aside0.mk (Kd.R_below (rz HO118.out) hb); replace HO124 := Aside0.mk (Kd.R_below (rz HO124.out) hb); replace HO127 := Aside0.mk (Kd.R_below (rz HO127.out) hb); have BK129 := Aside0.mk (hbox); have GW129 := Aside0.mk ((by rw [hg]; exact (below_size (bs2 HB.out GE105.out GE120.out)) : w.heap.size ≤ gb129)); have GE129 := Aside0.mk ((by rw [hg]; exact (below_size (bs2 HB.out GE105.out GE120.out)) : w.heap.size ≤ gb129)); replace HB := Aside0.mk (below_step (bs2 HB.out GE105.out GE120.out) hb); have NB105_129 := Aside0.mk ((by rw [hg]; exact Nat.ne_of_lt (blk_lt (g := gb105) (o := .cells #[.int .i64 t101, .slice Ao10 t102.length co10] 26 (0, 0)) (kz BK105.out)) : gb105 ≠ gb129)); have NB129_105 := Aside0.mk ((by rw [hg]; exact Nat.ne_of_gt (blk_lt (g := gb105) (o := .cells #[.int .i64 t101, .slice Ao10 t102.length co10] 26 (0, 0)) (kz BK105.out)) : gb129 ≠ gb105)); replace BK105 := Aside0.mk (blk_below (g := gb105) (o := .cells #[.int .i64 t101, .slice Ao10 t102.length co10] 26 (0, 0)) (kz BK105.out) hb); have NB120_129 := Aside0.mk ((by rw [hg]; exact Nat.ne_of_lt (blk_lt (g := gb120) (o := .cells #[.int .i64 t112, .slice Ao89 t113.length co89] 26 (0, 0)) (kz BK120.out)) : gb120 ≠ gb129)); have NB129_120 := Aside0.mk ((by rw [hg]; exact Nat.ne_of_gt (blk_lt (g := gb120) (o := .cells #[.int .i64 t112, .slice Ao89 t113.length co89] 26 (0, 0)) (kz BK120.out)) : gb129 ≠ gb120)); replace BK120 := Aside0.mk (blk_below (g := gb120) (o := .cells #[.int .i64 t112, .slice Ao89 t113.length co89] 26 (0, 0)) (kz BK120.out) hb); clear hb hbox hg; have hnb93 := NB129_105.out; have hnc93 := NB105_129.out; have hnb94 := NB129_120.out; have hnc94 := NB120_129.out; have hcz95_0 : w92.cell? ⟨gb129, 0, none⟩ = some (.int .i64 0) := (blk_cell BK129.out 0).trans rfl; have hcz95_1 : w92.cell? ⟨gb129, 1, none⟩ = some (.slice none 0 0) := (blk_cell BK129.out 1).trans rfl; have hfz95_0 := blk_frozen BK129.out 0; have hfz95_1 := blk_frozen BK129.out 1; obtain ⟨Ao96, co96, eo96⟩ := Kd.R_slice HO124.out; subst eo96))
        go_ret
        exact ⟨ze, by repeat (first | (with_reducible first | exact HB.out | apply below_alloc | apply pw_below_drewN | apply below_drew1 | refine below_set ?_ GE105.out | refine below_set ?_ GE120.out | refine below_set ?_ GE129.out) | exact HB.out)⟩

/-- THE ONE PURE STATEMENT of laws_FnClockNext: yours. -/
def laws_FnClockNext.Pure : Prop := ∀ (l0 : List Int), l0.length ≤ maxLen → l0.length * 1 ≤ 140737488351232 → (∀ x ∈ l0, (Lit.int .u8 x).wf = true) → ∃ k, laws_FnClockNext.f k l0 = some true
theorem laws_FnClockNext.walk (P : laws_FnClockNext.Pure) (a0 : Option Addr) (len0 cap0 : Nat) (z0 : List Int) (w : World) (w0 : (a0 = none ∧ len0 = 0 ∧ cap0 = 0 ∧ z0 = []) ∨ ∃ x, a0 = some x ∧ len0 ≤ cap0 ∧ cap0 ≤ maxLen ∧ z0.length = cap0 ∧ (∀ i, i < z0.length → w.cell? (x.add i) = some (.int .u8 (z0.getD i 0))) ∧ ∀ n ∈ z0, (Lit.int .u8 n).wf = true) (y0 : len0 * 1 ≤ 140737488351232) :
  Calls Try.prog 10 #[.slice a0 len0 cap0] w fun e w' => e = .returned (.bool true) ∧ Below w.heap.size w w' := by
 obtain ⟨l0, rfl, hr0, hm0, hw0, hc0⟩ := ReadsInt.ofRowC w0
 obtain ⟨k, h⟩ := P l0 hm0 y0 hw0
 refine (laws_FnClockNext.calls k _ _ l0 true w (Kd.C_of_reads (d := (0 : Int)) (h1 := fun _ => rfl) hr0) hc0 h).mono ?_
 rintro e w' ⟨rfl, hd⟩
 exact ⟨rfl, hd⟩

end Go.Proofs.Ytlejcgnfpcngbaa.P
