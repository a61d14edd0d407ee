-- printed by wip/qd.py
import Derived.Test.YtmpdoodimmmemaaPf0
import Derived.Test.YtmpdoodimmmemaaPfspecLockIn
import Derived.Test.YtmpdoodimmmemaaPfimplLockIn
import Derived.Test.YtmpdoodimmmemaaPfspecDrawLockIn
namespace Go.Proofs.Ytmpdoodimmmemaa.P
open Go.RowKit Go.Proofs.YtmpdoodimmmemaaW.PrintWords Go.Proofs.YtmpdoodimmmemaaW.PrintLast Go.Proofs.YtmpdoodimmmemaaW.PrintMore
attribute [local go_sem] max2_int min2_int max_two min_two max_three min_three max_four min_four Q.cell_set_map
set_option linter.unusedVariables false
set_option linter.unusedSimpArgs false

/-! ### laws_FnLockIn: function 6 -/
mutual
def laws_FnLockIn.j0 : Nat → Int → Bool → Bool → Int → List (S45) → List Int → Option (Bool)
 | 0, _, _, _, _, _, _ => none
 | k + 1, x4, x6, x27, x109000, x109001, x109002 => if x27 = true then (some x6) else (laws_FnLockIn.l0 k x4 0 0 x109000 x109001 x109002)
def laws_FnLockIn.l0 : Nat → Int → Int → Int → Int → List (S45) → List Int → Option (Bool)
 | 0, _, _, _, _, _, _ => none
 | k + 1, x4, x7, x8, x109000, x109001, x109002 => if x8 < (x109001.length : Int) then (if 0 ≤ x8 then (if ((rd_T45 x109001 x8).f0) = 4 then (laws_FnLockIn.l0 k x4 (wrap64 (x7 + 1)) (wrap64 (x8 + 1)) x109000 x109001 x109002) else (laws_FnLockIn.l0 k x4 x7 (wrap64 (x8 + 1)) x109000 x109001 x109002)) else (none)) else (some (x7 == x4))
end
def laws_FnLockIn.f (k : Nat) (l0 : List Int) : Option (Bool) := if (l0.length : Int) > 1048576 then (some true) else ((spec_DrawLockIn.f k l0).bind fun bt101 => ((impl_LockIn.f k bt101.1 bt101.2.1 bt101.2.2).bind fun t109 => ((spec_LockIn.f k bt101.1 bt101.2.1 bt101.2.2).bind fun t110 => (if t109 = t110 then (laws_FnLockIn.j0 k t109 true (!(decide (t109 ≥ 0))) bt101.1 bt101.2.1 bt101.2.2) else (laws_FnLockIn.j0 k t109 false true bt101.1 bt101.2.1 bt101.2.2)))))
theorem laws_FnLockIn.mono_l : ∀ k, (∀ y0 y1 y2 y3 y4 y5, LeO (laws_FnLockIn.j0 k y0 y1 y2 y3 y4 y5) (laws_FnLockIn.j0 (k + 1) y0 y1 y2 y3 y4 y5)) ∧ (∀ y0 y1 y2 y3 y4 y5, LeO (laws_FnLockIn.l0 k y0 y1 y2 y3 y4 y5) (laws_FnLockIn.l0 (k + 1) y0 y1 y2 y3 y4 y5))
 | 0 => ⟨fun _ _ _ _ _ _ r h => by simp [laws_FnLockIn.j0] at h, fun _ _ _ _ _ _ r h => by simp [laws_FnLockIn.l0] at h⟩
 | k + 1 => by
  obtain ⟨ih0, ih1⟩ := laws_FnLockIn.mono_l k
  refine ⟨?_, ?_⟩
  ·
   intro y0 y1 y2 y3 y4 y5
   unfold laws_FnLockIn.j0
   repeat' first
   | (with_reducible exact ih0 _ _ _ _ _ _)
   | (with_reducible exact ih1 _ _ _ _ _ _)
   | (with_reducible exact impl_LockIn.mono _ _ _ _)
   | (with_reducible exact spec_DrawLockIn.mono _ _)
   | (with_reducible exact spec_LockIn.mono _ _ _ _)
   | (with_reducible exact LeO.refl _)
   | (with_reducible exact LeO.none _)
   | (with_reducible refine LeO.ite ?_ ?_)
   | (with_reducible refine LeO.bind ?_ (fun _ => ?_))
   | exact ih0 _ _ _ _ _ _
   | exact ih1 _ _ _ _ _ _
   | exact impl_LockIn.mono _ _ _ _
   | exact spec_DrawLockIn.mono _ _
   | exact spec_LockIn.mono _ _ _ _
   | exact LeO.none _
   | refine LeO.ite ?_ ?_
   | refine LeO.bind ?_ (fun _ => ?_)
  ·
   intro y0 y1 y2 y3 y4 y5
   unfold laws_FnLockIn.l0
   repeat' first
   | (with_reducible exact ih0 _ _ _ _ _ _)
   | (with_reducible exact ih1 _ _ _ _ _ _)
   | (with_reducible exact impl_LockIn.mono _ _ _ _)
   | (with_reducible exact spec_DrawLockIn.mono _ _)
   | (with_reducible exact spec_LockIn.mono _ _ _ _)
   | (with_reducible exact LeO.refl _)
   | (with_reducible exact LeO.none _)
   | (with_reducible refine LeO.ite ?_ ?_)
   | (with_reducible refine LeO.bind ?_ (fun _ => ?_))
   | exact ih0 _ _ _ _ _ _
   | exact ih1 _ _ _ _ _ _
   | exact impl_LockIn.mono _ _ _ _
   | exact spec_DrawLockIn.mono _ _
   | exact spec_LockIn.mono _ _ _ _
   | exact LeO.none _
   | refine LeO.ite ?_ ?_
   | refine LeO.bind ?_ (fun _ => ?_)
theorem laws_FnLockIn.mono : ∀ a0 k, LeO (laws_FnLockIn.f k a0) (laws_FnLockIn.f (k + 1) a0) := by
 intro a0 k
 obtain ⟨ih0, ih1⟩ := laws_FnLockIn.mono_l k
 unfold laws_FnLockIn.f
 repeat' first
   | (with_reducible exact ih0 _ _ _ _ _ _)
   | (with_reducible exact ih1 _ _ _ _ _ _)
   | (with_reducible exact impl_LockIn.mono _ _ _ _)
   | (with_reducible exact spec_DrawLockIn.mono _ _)
   | (with_reducible exact spec_LockIn.mono _ _ _ _)
   | (with_reducible exact LeO.refl _)
   | (with_reducible exact LeO.none _)
   | (with_reducible refine LeO.ite ?_ ?_)
   | (with_reducible refine LeO.bind ?_ (fun _ => ?_))
   | exact ih0 _ _ _ _ _ _
   | exact ih1 _ _ _ _ _ _
   | exact impl_LockIn.mono _ _ _ _
   | exact spec_DrawLockIn.mono _ _
   | exact spec_LockIn.mono _ _ _ _
   | exact LeO.none _
   | refine LeO.ite ?_ ?_
   | refine LeO.bind ?_ (fun _ => ?_)
set_option maxHeartbeats 8000000 in
set_option maxRecDepth 100000 in
theorem laws_FnLockIn.calls (k : Nat) (A0 : Option Addr) (c0 : Nat) (l0 : List Int) (r : Bool) (w : World) (hr0 : Kd.C (Kd.int .u8) w A0 l0.length l0) (hc0 : l0.length ≤ c0) (h : laws_FnLockIn.f k l0 = some r) :
  Calls Try.prog 6 #[.slice A0 l0.length c0] w fun e w' => e = .returned (.bool r) ∧ Below w.heap.size w w' := by
 have hu37 := Try.underlying37; have HR0 := Aside0.mk hr0; have HC0 := Aside0.mk hc0; clear hr0 hc0; have HB := Aside0.mk (Below.refl w.heap.size w); have H : (if (l0.length : Int) > 1048576 then (some true) else ((spec_DrawLockIn.f k l0).bind fun bt101 => ((impl_LockIn.f k bt101.1 bt101.2.1 bt101.2.2).bind fun t109 => ((spec_LockIn.f k bt101.1 bt101.2.1 bt101.2.2).bind fun t110 => (if t109 = t110 then (laws_FnLockIn.j0 k t109 true (!(decide (t109 ≥ 0))) bt101.1 bt101.2.1 bt101.2.2) else (laws_FnLockIn.j0 k t109 false true bt101.1 bt101.2.1 bt101.2.2)))))) = some r := h; clear h
 by_cases c2 : (l0.length : Int) > 1048576
 ·
  rw [if_pos c2] at H; have c2b0 : decide (1048576 < (l0.length : Int)) = true := decide_eq_true c2; have c2b1 : decide (1048576 < l0.length) = true := decide_eq_true (by omega); clear c2; obtain rfl := Option.some.inj H
  go_enter Try.func6, Try.ntmps6
  go_wp2
  go_ret
  exact ⟨ze, bz HB.out⟩
 ·
  rw [if_neg c2] at H; have c2b0 : decide (1048576 < (l0.length : Int)) = false := decide_eq_false c2; have c2b1 : decide (1048576 < l0.length) = false := decide_eq_false (by omega); clear c2; replace H := Option.bind_eq_some_iff.mp H; obtain ⟨⟨t101, t102, t105⟩, A30, H⟩ := H; replace H : ((impl_LockIn.f k t101 t102 t105).bind fun t109 => ((spec_LockIn.f k t101 t102 t105).bind fun t110 => (if t109 = t110 then (laws_FnLockIn.j0 k t109 true (!(decide (t109 ≥ 0))) t101 t102 t105) else (laws_FnLockIn.j0 k t109 false true t101 t102 t105)))) = some r := H; have A3 := Aside0.mk A30; clear A30; replace H := Option.bind_eq_some_iff.mp H; obtain ⟨t109, A40, H⟩ := H; have A4 := Aside0.mk A40; clear A40; replace H := Option.bind_eq_some_iff.mp H; obtain ⟨t110, A50, H⟩ := H; have A5 := Aside0.mk A50; clear A50; have HC6 := Aside0.mk H; clear H
  go_enter Try.func6, Try.ntmps6
  go_upto_region 7 with (first | ((with_reducible refine gate_callee (f := 19) rfl ?_); refine goesL_ (some 13) rfl rfl Try.func19 zk rfl #[.slice A0 l0.length c0] rfl zm ?_; (with_reducible refine (spec_DrawLockIn.calls k _ _ l0 t101 t102 t105 _ ?side1 ?side2 A3.out).mono ?_); (case side1 => exact cz HR0.out); (case side2 => exact HC0.out); rintro e w7 ⟨v103, v106, rfl, ho0, ho1, hb⟩; refine ⟨_, rfl, ?_⟩; have HO104 := Aside0.mk (Kd.R_lower ho0 (below_size (bz HB.out))); have HO107 := Aside0.mk (Kd.R_lower ho1 (below_size (bz HB.out))); replace HB := Aside0.mk (below_step (bz HB.out) hb); (try clear hb); (try clear ho0); (try clear ho1)) | ((with_reducible refine gate_dst (N := 3) rfl ?_); refine box_event ?hg (N := 3) ?hd (cs := #[.int .i64 0, .slice none 0 0, .slice none 0 0]) (t := 37) ?hr ?_; (case hd => rfl); (case hg => rfl); (case hr => first | (go_simp; done) | (go_simp; rfl)); intro gb108 hg w8 hbox hb; replace HO104 := Aside0.mk (Kd.R_below (rz HO104.out) hb); replace HO107 := Aside0.mk (Kd.R_below (rz HO107.out) hb); have BK108 := Aside0.mk (hbox); have GW108 := Aside0.mk ((by rw [hg]; exact (below_size (bz HB.out)) : w.heap.size ≤ gb108)); have GE108 := GW108; replace HB := Aside0.mk (below_step (bz HB.out) hb); clear hb hbox hg; obtain ⟨hcz9_0, hcz9_1, hcz9_2⟩ := cz3 BK108.out; obtain ⟨hfz9_0, hfz9_1, hfz9_2⟩ := fz3 BK108.out; obtain ⟨Ao10, co10, eo10⟩ := Kd.R_slice HO104.out; subst eo10; obtain ⟨Ao11, co11, eo11⟩ := Kd.R_slice HO107.out; subst eo11) | ((with_reducible refine gate_callee (f := 15) rfl ?_); refine goesL_ (some 15) rfl rfl Try.func15 zk rfl #[.agg #[.int .i64 t101, .slice Ao10 t102.length co10, .slice Ao11 t105.length co11]] rfl zm ?_; (with_reducible refine (impl_LockIn.calls k t101 _ _ t102 _ _ t105 t109 _ ?side1 ?side2 ?side3 ?side4 A4.out).mono ?_); (case side1 => refine (Kd.R_reads' (e := 45) (base := w.heap.size) (ok := fun k_ => True) (n := t102.length) (c := co10) ?_).2.2; exact (rz ((Kd.R_mono (Kd.R_far (p := ⟨gb108, 2, none⟩) (Kd.R_far (p := ⟨gb108, 1, none⟩) (Kd.R_far (p := ⟨gb108, 0, none⟩) (Kd.R_types HO104.out BK108.out (by decide)) (fun _ hk => hk.2) (.int .i64 t101)) (fun _ hk => hk.2) (.slice Ao10 t102.length co10)) (fun _ hk => hk.2) (.slice Ao11 t105.length co11)) (fun _ h_ => h_.1))))); (case side2 => exact (Kd.R_reads' HO104.out).2.1); (case side3 => refine (Kd.R_reads' (e := 3) (base := w.heap.size) (ok := fun k_ => True) (n := t105.length) (c := co11) ?_).2.2; exact (rz ((Kd.R_mono (Kd.R_far (p := ⟨gb108, 2, none⟩) (Kd.R_far (p := ⟨gb108, 1, none⟩) (Kd.R_far (p := ⟨gb108, 0, none⟩) (Kd.R_types HO107.out BK108.out (by decide)) (fun _ hk => hk.2) (.int .i64 t101)) (fun _ hk => hk.2) (.slice Ao10 t102.length co10)) (fun _ hk => hk.2) (.slice Ao11 t105.length co11)) (fun _ h_ => h_.1))))); (case side4 => exact (Kd.R_reads' HO107.out).2.1); rintro e w12 ⟨rfl, hb⟩; refine ⟨_, rfl, ?_⟩; replace HO104 := Aside0.mk (Kd.R_below (rz ((Kd.R_mono (Kd.R_far (p := ⟨gb108, 2, none⟩) (Kd.R_far (p := ⟨gb108, 1, none⟩) (Kd.R_far (p := ⟨gb108, 0, none⟩) (Kd.R_types HO104.out BK108.out (by decide)) (fun _ hk => hk.2) (.int .i64 t101)) (fun _ hk => hk.2) (.slice Ao10 t102.length co10)) (fun _ hk => hk.2) (.slice Ao11 t105.length co11)) (fun _ h_ => h_.1)))) hb); replace HO107 := Aside0.mk (Kd.R_below (rz ((Kd.R_mono (Kd.R_far (p := ⟨gb108, 2, none⟩) (Kd.R_far (p := ⟨gb108, 1, none⟩) (Kd.R_far (p := ⟨gb108, 0, none⟩) (Kd.R_types HO107.out BK108.out (by decide)) (fun _ hk => hk.2) (.int .i64 t101)) (fun _ hk => hk.2) (.slice Ao10 t102.length co10)) (fun _ hk => hk.2) (.slice Ao11 t105.length co11)) (fun _ h_ => h_.1)))) hb); replace BK108 := Aside0.mk (blk_below (g := gb108) (o := .cells #[.int .i64 t101, .slice Ao10 t102.length co10, .slice Ao11 t105.length co11] 37 (0, 0)) (by (with_reducible repeat (first | refine blk_drewN ?_ _ | refine blk_drew ?_ | refine blk_alloc ?_ _)); refine blk_put (cs := #[.int .i64 t101, .slice Ao10 t102.length co10, .slice none 0 0]) ?_ 2 _ rfl; (with_reducible repeat (first | refine blk_drewN ?_ _ | refine blk_drew ?_ | refine blk_alloc ?_ _)); refine blk_put (cs := #[.int .i64 t101, .slice none 0 0, .slice none 0 0]) ?_ 1 _ rfl; (with_reducible repeat (first | refine blk_drewN ?_ _ | refine blk_drew ?_ | refine blk_alloc ?_ _)); refine blk_put (cs := #[.int .i64 0, .slice none 0 0, .slice none 0 0]) ?_ 0 _ rfl; (with_reducible repeat (first | refine blk_drewN ?_ _ | refine blk_drew ?_ | refine blk_alloc ?_ _)); exact BK108.out) hb); replace HB := Aside0.mk (below_step (bs HB.out GE108.out) hb); (try clear hb); obtain ⟨hcz13_0, hcz13_1, hcz13_2⟩ := cz3 BK108.out; obtain ⟨hfz13_0, hfz13_1, hfz13_2⟩ := fz3 BK108.out) | ((with_reducible refine gate_callee (f := 13) rfl ?_); refine goesL_ (some 17) rfl rfl Try.func13 zk rfl #[.agg #[.int .i64 t101, .slice Ao10 t102.length co10, .slice Ao11 t105.length co11]] rfl zm ?_; (with_reducible refine (spec_LockIn.calls k t101 _ _ t102 _ _ t105 t110 _ ?side1 ?side2 ?side3 ?side4 A5.out).mono ?_); (case side1 => exact cz ((Kd.R_reads' HO104.out).2.2)); (case side2 => exact (Kd.R_reads' HO104.out).2.1); (case side3 => exact cz ((Kd.R_reads' HO107.out).2.2)); (case side4 => exact (Kd.R_reads' HO107.out).2.1); rintro e w14 ⟨rfl, hb⟩; refine ⟨_, rfl, ?_⟩; replace HO104 := Aside0.mk (Kd.R_below (rz HO104.out) hb); replace HO107 := Aside0.mk (Kd.R_below (rz HO107.out) hb); replace BK108 := Aside0.mk (blk_below (kz BK108.out) hb); replace HB := Aside0.mk (below_step (bs HB.out GE108.out) hb); (try clear hb)))
  (try simp only [Act.put, List.setIfInBounds_toArray, List.set_cons_zero, List.set_cons_succ])
  go_cut [6, 27] (fun v6 v27 wc => ∃ (kq : Nat) (x6_5 : Bool) (x27_5 : Bool), v6 = .bool x6_5 ∧ v27 = .bool x27_5 ∧ Aside0 (laws_FnLockIn.j0 kq t109 x6_5 x27_5 t101 t102 t105 = some r) ∧ Aside0 (kq ≤ k) ∧ Aside0 (Kd.R k45 45 wc w.heap.size (fun _ => True) (.slice Ao10 t102.length co10) t102) ∧ Aside0 (Kd.R (Kd.int .i64) 3 wc w.heap.size (fun _ => True) (.slice Ao11 t105.length co11) t105) ∧ Aside0 (wc.heap[gb108]? = some (.cells #[.int .i64 t101, (.slice Ao10 t102.length co10), (.slice Ao11 t105.length co11)] 37 (0, 0))) ∧ Aside0 (Below w.heap.size w wc))
  case first =>
   have H := HC6.out; clear HC6
   by_cases c15 : t109 = t110
   ·
    rw [if_pos c15] at H; have c15b0 : (t109 == t110) = true := beq_iff_eq.mpr c15; have c15b1 : (t109 != t110) = false := bne_eq_false_iff_eq.mpr c15; clear c15
    (first | rw [c15b0] | (simp only [i64_w, i32_w]; rw [c15b0]) | skip)
    have H' := Aside0.mk H; clear H
    go_wp2
    go_meet
    case rel => exact ⟨_, (true), (!(decide (t109 ≥ 0))), zr, zr, H', ⟨by first | omega | exact Nat.le_refl _⟩, ⟨rz (HO104.out)⟩, ⟨rz (HO107.out)⟩, ⟨kz (BK108.out)⟩, ⟨bs HB.out GE108.out⟩⟩
   ·
    rw [if_neg c15] at H; have c15b0 : (t109 == t110) = false := beq_eq_false_iff_ne.mpr c15; have c15b1 : (t109 != t110) = true := bne_iff_ne.mpr c15
    (first | rw [c15b0] | (simp only [i64_w, i32_w]; rw [c15b0]) | skip)
    have H' := Aside0.mk H; clear H
    go_wp2
    go_meet
    case rel => exact ⟨_, (false), (true), zr, zr, H', ⟨by first | omega | exact Nat.le_refl _⟩, ⟨rz (HO104.out)⟩, ⟨rz (HO107.out)⟩, ⟨kz (BK108.out)⟩, ⟨bs HB.out GE108.out⟩⟩
  case rest =>
   clear HC6
   try clear c1
   try clear c2
   try clear c2b0
   try clear c2b1
   try clear p2
   try clear c6
   try clear c13
   try clear c15
   try clear c15b0
   try clear c15b1
   try clear hcz13_0
   try clear hcz13_1
   try clear hcz13_2
   try clear hcz9_0
   try clear hcz9_1
   try clear hcz9_2
   try clear hfz13_0
   try clear hfz13_1
   try clear hfz13_2
   try clear hfz9_0
   try clear hfz9_1
   try clear hfz9_2
   obtain ⟨kq, x6_5, x27_5, rfl, rfl, HA, HJ5, HO_109001, HO_109002, BK108, HB⟩ := hcut
   cases kq with
   | zero => exact absurd HA.out (by simp [laws_FnLockIn.j0])
   | succ kj5 =>
    have H := HA.out; clear HA; simp only [laws_FnLockIn.j0] at H
    by_cases c16 : x27_5 = true
    ·
     subst c16; rw [if_pos rfl] at H; obtain rfl := Option.some.inj H
     go_wp2
     go_ret
     exact ⟨ze, bs HB.out GE108.out⟩
    ·
     replace c16 := Bool.eq_false_iff.mpr c16; subst c16; rw [if_neg nf_] at H; have H' := Aside0.mk H; clear H
     go_wp2
     go_loopg [7, 8] kj5 (fun kq v7 v8 w' => ∃ (x7_2 : Int) (x8_2 : Int), v7 = .int .i64 x7_2 ∧ v8 = .int .i64 x8_2 ∧ Aside0 (laws_FnLockIn.l0 kq t109 x7_2 x8_2 t101 t102 t105 = some r) ∧ Aside0 (kq ≤ kj5) ∧ Aside0 (Kd.R k45 45 w' w.heap.size (fun _ => True) (.slice Ao10 t102.length co10) t102) ∧ Aside0 (Kd.R (Kd.int .i64) 3 w' w.heap.size (fun _ => True) (.slice Ao11 t105.length co11) t105) ∧ Aside0 (w'.heap[gb108]? = some (.cells #[.int .i64 t101, (.slice Ao10 t102.length co10), (.slice Ao11 t105.length co11)] 37 (0, 0))) ∧ Aside0 (Below w.heap.size w w'))
     case atStart => exact ⟨(0), (0), zr, zr, H', ⟨Nat.le_refl _⟩, ⟨rz (HO_109001.out)⟩, ⟨rz (HO_109002.out)⟩, ⟨kz (BK108.out)⟩, ⟨bs HB.out GE108.out⟩⟩
     case round =>
      clear H'
      try clear c1
      try clear c2
      try clear c2b0
      try clear c2b1
      try clear p2
      try clear c6
      try clear c13
      try clear c15
      try clear c15b0
      try clear c15b1
      try clear c16
      try clear hcz13_0
      try clear hcz13_1
      try clear hcz13_2
      try clear hcz9_0
      try clear hcz9_1
      try clear hcz9_2
      try clear hfz13_0
      try clear hfz13_1
      try clear hfz13_2
      try clear hfz9_0
      try clear hfz9_1
      try clear hfz9_2
      try clear p2
      obtain ⟨x7_2, x8_2, rfl, rfl, HA, HK2, HO_109001, HO_109002, BK108, HB⟩ := hrel
      cases gk with
      | zero => exact absurd HA.out (by simp [laws_FnLockIn.l0])
      | succ k2 =>
       have H := HA.out; clear HA; simp only [laws_FnLockIn.l0] at H
       by_cases c17 : x8_2 < (t102.length : Int)
       ·
        rw [if_pos c17] at H; have c17b0 : decide (x8_2 < (t102.length : Int)) = true := decide_eq_true c17; clear c17
        by_cases c18 : 0 ≤ x8_2
        ·
         rw [if_pos c18] at H; have c18b0 : decide (0 ≤ x8_2) = true := decide_eq_true c18; clear c18
         by_cases c19 : ((rd_T45 t102 x8_2).f0) = 4
         ·
          rw [if_pos c19] at H; have c19b0 : (((rd_T45 t102 x8_2).f0) == 4) = true := beq_iff_eq.mpr c19; have c19b1 : (((rd_T45 t102 x8_2).f0) != 4) = false := bne_eq_false_iff_eq.mpr c19; clear c19; have H' := Aside0.mk H; clear H; obtain ⟨hcz20_0, hcz20_1, hcz20_2⟩ := cz3 BK108.out; obtain ⟨hfz20_0, hfz20_1, hfz20_2⟩ := fz3 BK108.out; have p111 : 0 ≤ (x8_2 : Int) := of_decide_eq_true zs; have q111 : x8_2 < (t102.length : Int) := of_decide_eq_true zs; obtain ⟨ad111, e111, hx111_0, hx111_1, hx111_2, hx111_3⟩ := at_T45 (Kd.R_reads' HO_109001.out).2.2 x8_2 p111 q111; cases e111; replace p111 := eq_true p111; replace q111 := eq_true q111
          go_wp2
          go_roundg k2
          case measure => have := HJ5.out; have := HK2.out; omega
          case rel => exact ⟨(wrap64 (x7_2 + 1)), (wrap64 (x8_2 + 1)), zr, zr, H', ⟨by have := HJ5.out; have := HK2.out; omega⟩, ⟨rz (HO_109001.out)⟩, ⟨rz (HO_109002.out)⟩, ⟨kz (BK108.out)⟩, ⟨bs HB.out GE108.out⟩⟩
         ·
          rw [if_neg c19] at H; have c19b0 : (((rd_T45 t102 x8_2).f0) == 4) = false := beq_eq_false_iff_ne.mpr c19; have c19b1 : (((rd_T45 t102 x8_2).f0) != 4) = true := bne_iff_ne.mpr c19; have H' := Aside0.mk H; clear H; obtain ⟨hcz21_0, hcz21_1, hcz21_2⟩ := cz3 BK108.out; obtain ⟨hfz21_0, hfz21_1, hfz21_2⟩ := fz3 BK108.out; have p111 : 0 ≤ (x8_2 : Int) := of_decide_eq_true zs; have q111 : x8_2 < (t102.length : Int) := of_decide_eq_true zs; obtain ⟨ad111, e111, hx111_0, hx111_1, hx111_2, hx111_3⟩ := at_T45 (Kd.R_reads' HO_109001.out).2.2 x8_2 p111 q111; cases e111; replace p111 := eq_true p111; replace q111 := eq_true q111
          go_wp2
          go_roundg k2
          case measure => have := HJ5.out; have := HK2.out; omega
          case rel => exact ⟨(x7_2), (wrap64 (x8_2 + 1)), zr, zr, H', ⟨by have := HJ5.out; have := HK2.out; omega⟩, ⟨rz (HO_109001.out)⟩, ⟨rz (HO_109002.out)⟩, ⟨kz (BK108.out)⟩, ⟨bs HB.out GE108.out⟩⟩
        ·
         rw [if_neg c18] at H
         exact absurd H (by simp)
       ·
        rw [if_neg c17] at H; have c17b0 : decide (x8_2 < (t102.length : Int)) = false := decide_eq_false c17; clear c17; obtain rfl := Option.some.inj H; obtain ⟨hcz22_0, hcz22_1, hcz22_2⟩ := cz3 BK108.out; obtain ⟨hfz22_0, hfz22_1, hfz22_2⟩ := fz3 BK108.out
        go_wp2
        go_ret
        exact ⟨ze, bs HB.out GE108.out⟩

/-- THE ONE PURE STATEMENT of laws_FnLockIn: yours. -/
def laws_FnLockIn.Pure : Prop := ∀ (l0 : List Int), l0.length ≤ maxLen → l0.length * 1 ≤ 140737488351232 → (∀ x ∈ l0, (Lit.int .u8 x).wf = true) → ∃ k, laws_FnLockIn.f k l0 = some true
theorem laws_FnLockIn.walk (P : laws_FnLockIn.Pure) (a0 : Option Addr) (len0 cap0 : Nat) (z0 : List Int) (w : World) (w0 : (a0 = none ∧ len0 = 0 ∧ cap0 = 0 ∧ z0 = []) ∨ ∃ x, a0 = some x ∧ len0 ≤ cap0 ∧ cap0 ≤ maxLen ∧ z0.length = cap0 ∧ (∀ i, i < z0.length → w.cell? (x.add i) = some (.int .u8 (z0.getD i 0))) ∧ ∀ n ∈ z0, (Lit.int .u8 n).wf = true) (y0 : len0 * 1 ≤ 140737488351232) :
  Calls Try.prog 6 #[.slice a0 len0 cap0] w fun e w' => e = .returned (.bool true) ∧ Below w.heap.size w w' := by
 obtain ⟨l0, rfl, hr0, hm0, hw0, hc0⟩ := ReadsInt.ofRowC w0
 obtain ⟨k, h⟩ := P l0 hm0 y0 hw0
 refine (laws_FnLockIn.calls k _ _ l0 true w (Kd.C_of_reads (d := (0 : Int)) (h1 := fun _ => rfl) hr0) hc0 h).mono ?_
 rintro e w' ⟨rfl, hd⟩
 exact ⟨rfl, hd⟩

end Go.Proofs.Ytmpdoodimmmemaa.P
