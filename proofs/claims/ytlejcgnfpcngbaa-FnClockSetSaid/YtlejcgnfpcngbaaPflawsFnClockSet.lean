-- printed by this session's own driver (wip/qd.py) out of the translation; Lean checks it
import Derived.Test.YtlejcgnfpcngbaaPf0
import Derived.Test.YtlejcgnfpcngbaaPflawsqdClock
import Derived.Test.YtlejcgnfpcngbaaPfimplClockOk
import Derived.Test.YtlejcgnfpcngbaaPfimplClockSet
import Derived.Test.YtlejcgnfpcngbaaPfimplClockTick
import Derived.Test.YtlejcgnfpcngbaaPfspecClockSet
import Derived.Test.YtlejcgnfpcngbaaPfspecDrawClockSet
namespace Go.Proofs.Ytlejcgnfpcngbaa.P
open Go.RowKit Go.Proofs.YtlejcgnfpcngbaaW.PrintWords Go.Proofs.YtlejcgnfpcngbaaW.PrintLast Go.Proofs.YtlejcgnfpcngbaaW.PrintMore
attribute [local go_sem] max2_int min2_int max_two min_two max_three min_three max_four min_four Q.cell_set_map   -- for this text's walks alone
set_option linter.unusedVariables false
set_option linter.unusedSimpArgs false

/-! ### laws_FnClockSet: function 13 -/
theorem w13_0 {p h b1 b2 b3 : Prop} (H : h) (A1 : b1) (A2 : b2) (A3 : b3) (k : h → b1 → b2 → b3 → p := by intro h a1 a2 a3; repeat (first | (with_reducible first | exact h | apply below_alloc | apply pw_below_drewN | apply below_drew1 | refine below_set ?_ a1 | refine below_set ?_ a2 | refine below_set ?_ a3) | exact h)) : p := k H A1 A2 A3
theorem w13_1 {p h b1 b2 b3 b4 : Prop} (H : h) (A1 : b1) (A2 : b2) (A3 : b3) (A4 : b4) (k : h → b1 → b2 → b3 → b4 → p := by intro h a1 a2 a3 a4; repeat (first | (with_reducible first | exact h | apply below_alloc | apply pw_below_drewN | apply below_drew1 | refine below_set ?_ a1 | refine below_set ?_ a2 | refine below_set ?_ a3 | refine below_set ?_ a4) | exact h)) : p := k H A1 A2 A3 A4
theorem w13_2 {p h b1 b2 b3 b4 b5 : Prop} (H : h) (A1 : b1) (A2 : b2) (A3 : b3) (A4 : b4) (A5 : b5) (k : h → b1 → b2 → b3 → b4 → b5 → p := by intro h a1 a2 a3 a4 a5; repeat (first | (with_reducible first | exact h | apply below_alloc | apply pw_below_drewN | apply below_drew1 | refine below_set ?_ a1 | refine below_set ?_ a2 | refine below_set ?_ a3 | refine below_set ?_ a4 | refine below_set ?_ a5) | exact h)) : p := k H A1 A2 A3 A4 A5
mutual
def laws_FnClockSet.j0 : Nat → Int → Int → Bool → Bool → Int → List (S62) → Option (Bool)
 | 0, _, _, _, _, _, _ => none
 | k + 1, x4, x5, x8, x11, x115000, x115001 => if x11 = true then (laws_FnClockSet.j1 k x4 x5 true (!x8) x115000 x115001) else (laws_FnClockSet.j1 k x4 x5 false true x115000 x115001)
def laws_FnClockSet.j1 : Nat → Int → Int → Bool → Bool → Int → List (S62) → Option (Bool)
 | 0, _, _, _, _, _, _ => none
 | k + 1, x4, x5, x11, x61, x115000, x115001 => if x61 = true then (some x11) else (if x5 > 500 then ((impl_ClockOk.f x115000 x115001).bind fun t122 => (some t122)) else ((impl_ClockTick.f k x115000 x115001 (wrap64 (x5 - 1))).bind fun bt123 => ((impl_ClockTick.f k x115000 x115001 x5).bind fun bt132 => (laws_FnClockSet.l0 k x4 bt123.2.2.1 bt123.2.2.2 bt132.2.2.1 bt132.2.2.2 false 0 x115000 x115001))))
def laws_FnClockSet.l0 : Nat → Int → List Int → Bool → List Int → Bool → Bool → Int → Int → List (S62) → Option (Bool)
 | 0, _, _, _, _, _, _, _, _, _ => none
 | k + 1, x4, x13, x14, x16, x17, x18, x19, x115000, x115001 => if x19 < (x13.length : Int) then (if x18 = true then (laws_FnClockSet.l0 k x4 x13 x14 x16 x17 true (wrap64 (x19 + 1)) x115000 x115001) else (if 0 ≤ x19 then (laws_FnClockSet.l0 k x4 x13 x14 x16 x17 ((rd x13 x19) == x4) (wrap64 (x19 + 1)) x115000 x115001) else (none))) else (laws_FnClockSet.l1 k x4 x14 x16 x17 x18 false 0 x115000 x115001)
def laws_FnClockSet.l1 : Nat → Int → Bool → List Int → Bool → Bool → Bool → Int → Int → List (S62) → Option (Bool)
 | 0, _, _, _, _, _, _, _, _, _ => none
 | k + 1, x4, x14, x16, x17, x18, x20, x21, x115000, x115001 => if x21 < (x16.length : Int) then (if x20 = true then (laws_FnClockSet.l1 k x4 x14 x16 x17 x18 true (wrap64 (x21 + 1)) x115000 x115001) else (if 0 ≤ x21 then (laws_FnClockSet.l1 k x4 x14 x16 x17 x18 ((rd x16 x21) == x4) (wrap64 (x21 + 1)) x115000 x115001) else (none))) else ((impl_ClockOk.f x115000 x115001).bind fun t143 => (if t143 = true then (if x14 = true then (if x17 = true then (if x18 = true then (some false) else (some x20)) else (some false)) else (some false)) else (some false)))
end
def laws_FnClockSet.f (k : Nat) (l0 : List Int) : Option (Bool) := if (l0.length : Int) > 1048576 then (some true) else ((spec_DrawClockSet.f k l0).bind fun bt101 => ((impl_ClockSet.f k bt101.1 bt101.2.1 bt101.2.2.1 bt101.2.2.2.1 bt101.2.2.2.2).bind fun bt109 => ((spec_ClockSet.f k bt101.1 bt101.2.1 bt101.2.2.1 bt101.2.2.2.1 bt101.2.2.2.2).bind fun bt115 => ((laws_qdClock.f k bt109.1 bt109.2.1 bt115.1 bt115.2.1).bind fun t121 => (if t121 = true then (laws_FnClockSet.j0 k bt101.2.2.1 bt101.2.2.2.1 bt109.2.2 (bt109.2.2 == bt115.2.2) bt109.1 bt109.2.1) else (laws_FnClockSet.j0 k bt101.2.2.1 bt101.2.2.2.1 bt109.2.2 false bt109.1 bt109.2.1))))))
theorem laws_FnClockSet.mono_l : ∀ k, (∀ y0 y1 y2 y3 y4 y5, LeO (laws_FnClockSet.j0 k y0 y1 y2 y3 y4 y5) (laws_FnClockSet.j0 (k + 1) y0 y1 y2 y3 y4 y5)) ∧ (∀ y0 y1 y2 y3 y4 y5, LeO (laws_FnClockSet.j1 k y0 y1 y2 y3 y4 y5) (laws_FnClockSet.j1 (k + 1) y0 y1 y2 y3 y4 y5)) ∧ (∀ y0 y1 y2 y3 y4 y5 y6 y7 y8, LeO (laws_FnClockSet.l0 k y0 y1 y2 y3 y4 y5 y6 y7 y8) (laws_FnClockSet.l0 (k + 1) y0 y1 y2 y3 y4 y5 y6 y7 y8)) ∧ (∀ y0 y1 y2 y3 y4 y5 y6 y7 y8, LeO (laws_FnClockSet.l1 k y0 y1 y2 y3 y4 y5 y6 y7 y8) (laws_FnClockSet.l1 (k + 1) y0 y1 y2 y3 y4 y5 y6 y7 y8))
 | 0 => ⟨fun _ _ _ _ _ _ r h => by simp [laws_FnClockSet.j0] at h, fun _ _ _ _ _ _ r h => by simp [laws_FnClockSet.j1] at h, fun _ _ _ _ _ _ _ _ _ r h => by simp [laws_FnClockSet.l0] at h, fun _ _ _ _ _ _ _ _ _ r h => by simp [laws_FnClockSet.l1] at h⟩
 | k + 1 => by
  obtain ⟨ih0, ih1, ih2, ih3⟩ := laws_FnClockSet.mono_l k
  refine ⟨?_, ?_, ?_, ?_⟩
  ·
   intro y0 y1 y2 y3 y4 y5
   unfold laws_FnClockSet.j0
   repeat' first
   | (with_reducible exact ih0 _ _ _ _ _ _)
   | (with_reducible exact ih1 _ _ _ _ _ _)
   | (with_reducible exact ih2 _ _ _ _ _ _ _ _ _)
   | (with_reducible exact ih3 _ _ _ _ _ _ _ _ _)
   | (with_reducible exact impl_ClockSet.mono _ _ _ _ _ _)
   | (with_reducible exact impl_ClockTick.mono _ _ _ _)
   | (with_reducible exact laws_qdClock.mono _ _ _ _ _)
   | (with_reducible exact spec_ClockSet.mono _ _ _ _ _ _)
   | (with_reducible exact spec_DrawClockSet.mono _ _)
   | (with_reducible exact LeO.refl _)
   | (with_reducible exact LeO.none _)
   | (with_reducible refine LeO.ite ?_ ?_)
   | (with_reducible refine LeO.bind ?_ (fun _ => ?_))
   | exact ih0 _ _ _ _ _ _
   | exact ih1 _ _ _ _ _ _
   | exact ih2 _ _ _ _ _ _ _ _ _
   | exact ih3 _ _ _ _ _ _ _ _ _
   | exact impl_ClockSet.mono _ _ _ _ _ _
   | exact impl_ClockTick.mono _ _ _ _
   | exact laws_qdClock.mono _ _ _ _ _
   | exact spec_ClockSet.mono _ _ _ _ _ _
   | exact spec_DrawClockSet.mono _ _
   | exact LeO.none _
   | refine LeO.ite ?_ ?_
   | refine LeO.bind ?_ (fun _ => ?_)
  ·
   intro y0 y1 y2 y3 y4 y5
   unfold laws_FnClockSet.j1
   repeat' first
   | (with_reducible exact ih0 _ _ _ _ _ _)
   | (with_reducible exact ih1 _ _ _ _ _ _)
   | (with_reducible exact ih2 _ _ _ _ _ _ _ _ _)
   | (with_reducible exact ih3 _ _ _ _ _ _ _ _ _)
   | (with_reducible exact impl_ClockSet.mono _ _ _ _ _ _)
   | (with_reducible exact impl_ClockTick.mono _ _ _ _)
   | (with_reducible exact laws_qdClock.mono _ _ _ _ _)
   | (with_reducible exact spec_ClockSet.mono _ _ _ _ _ _)
   | (with_reducible exact spec_DrawClockSet.mono _ _)
   | (with_reducible exact LeO.refl _)
   | (with_reducible exact LeO.none _)
   | (with_reducible refine LeO.ite ?_ ?_)
   | (with_reducible refine LeO.bind ?_ (fun _ => ?_))
   | exact ih0 _ _ _ _ _ _
   | exact ih1 _ _ _ _ _ _
   | exact ih2 _ _ _ _ _ _ _ _ _
   | exact ih3 _ _ _ _ _ _ _ _ _
   | exact impl_ClockSet.mono _ _ _ _ _ _
   | exact impl_ClockTick.mono _ _ _ _
   | exact laws_qdClock.mono _ _ _ _ _
   | exact spec_ClockSet.mono _ _ _ _ _ _
   | exact spec_DrawClockSet.mono _ _
   | exact LeO.none _
   | refine LeO.ite ?_ ?_
   | refine LeO.bind ?_ (fun _ => ?_)
  ·
   intro y0 y1 y2 y3 y4 y5 y6 y7 y8
   unfold laws_FnClockSet.l0
   repeat' first
   | (with_reducible exact ih0 _ _ _ _ _ _)
   | (with_reducible exact ih1 _ _ _ _ _ _)
   | (with_reducible exact ih2 _ _ _ _ _ _ _ _ _)
   | (with_reducible exact ih3 _ _ _ _ _ _ _ _ _)
   | (with_reducible exact impl_ClockSet.mono _ _ _ _ _ _)
   | (with_reducible exact impl_ClockTick.mono _ _ _ _)
   | (with_reducible exact laws_qdClock.mono _ _ _ _ _)
   | (with_reducible exact spec_ClockSet.mono _ _ _ _ _ _)
   | (with_reducible exact spec_DrawClockSet.mono _ _)
   | (with_reducible exact LeO.refl _)
   | (with_reducible exact LeO.none _)
   | (with_reducible refine LeO.ite ?_ ?_)
   | (with_reducible refine LeO.bind ?_ (fun _ => ?_))
   | exact ih0 _ _ _ _ _ _
   | exact ih1 _ _ _ _ _ _
   | exact ih2 _ _ _ _ _ _ _ _ _
   | exact ih3 _ _ _ _ _ _ _ _ _
   | exact impl_ClockSet.mono _ _ _ _ _ _
   | exact impl_ClockTick.mono _ _ _ _
   | exact laws_qdClock.mono _ _ _ _ _
   | exact spec_ClockSet.mono _ _ _ _ _ _
   | exact spec_DrawClockSet.mono _ _
   | exact LeO.none _
   | refine LeO.ite ?_ ?_
   | refine LeO.bind ?_ (fun _ => ?_)
  ·
   intro y0 y1 y2 y3 y4 y5 y6 y7 y8
   unfold laws_FnClockSet.l1
   repeat' first
   | (with_reducible exact ih0 _ _ _ _ _ _)
   | (with_reducible exact ih1 _ _ _ _ _ _)
   | (with_reducible exact ih2 _ _ _ _ _ _ _ _ _)
   | (with_reducible exact ih3 _ _ _ _ _ _ _ _ _)
   | (with_reducible exact impl_ClockSet.mono _ _ _ _ _ _)
   | (with_reducible exact impl_ClockTick.mono _ _ _ _)
   | (with_reducible exact laws_qdClock.mono _ _ _ _ _)
   | (with_reducible exact spec_ClockSet.mono _ _ _ _ _ _)
   | (with_reducible exact spec_DrawClockSet.mono _ _)
   | (with_reducible exact LeO.refl _)
   | (with_reducible exact LeO.none _)
   | (with_reducible refine LeO.ite ?_ ?_)
   | (with_reducible refine LeO.bind ?_ (fun _ => ?_))
   | exact ih0 _ _ _ _ _ _
   | exact ih1 _ _ _ _ _ _
   | exact ih2 _ _ _ _ _ _ _ _ _
   | exact ih3 _ _ _ _ _ _ _ _ _
   | exact impl_ClockSet.mono _ _ _ _ _ _
   | exact impl_ClockTick.mono _ _ _ _
   | exact laws_qdClock.mono _ _ _ _ _
   | exact spec_ClockSet.mono _ _ _ _ _ _
   | exact spec_DrawClockSet.mono _ _
   | exact LeO.none _
   | refine LeO.ite ?_ ?_
   | refine LeO.bind ?_ (fun _ => ?_)
theorem laws_FnClockSet.mono : ∀ a0 k, LeO (laws_FnClockSet.f k a0) (laws_FnClockSet.f (k + 1) a0) := by
 intro a0 k
 obtain ⟨ih0, ih1, ih2, ih3⟩ := laws_FnClockSet.mono_l k
 unfold laws_FnClockSet.f
 repeat' first
   | (with_reducible exact ih0 _ _ _ _ _ _)
   | (with_reducible exact ih1 _ _ _ _ _ _)
   | (with_reducible exact ih2 _ _ _ _ _ _ _ _ _)
   | (with_reducible exact ih3 _ _ _ _ _ _ _ _ _)
   | (with_reducible exact impl_ClockSet.mono _ _ _ _ _ _)
   | (with_reducible exact impl_ClockTick.mono _ _ _ _)
   | (with_reducible exact laws_qdClock.mono _ _ _ _ _)
   | (with_reducible exact spec_ClockSet.mono _ _ _ _ _ _)
   | (with_reducible exact spec_DrawClockSet.mono _ _)
   | (with_reducible exact LeO.refl _)
   | (with_reducible exact LeO.none _)
   | (with_reducible refine LeO.ite ?_ ?_)
   | (with_reducible refine LeO.bind ?_ (fun _ => ?_))
   | exact ih0 _ _ _ _ _ _
   | exact ih1 _ _ _ _ _ _
   | exact ih2 _ _ _ _ _ _ _ _ _
   | exact ih3 _ _ _ _ _ _ _ _ _
   | exact impl_ClockSet.mono _ _ _ _ _ _
   | exact impl_ClockTick.mono _ _ _ _
   | exact laws_qdClock.mono _ _ _ _ _
   | exact spec_ClockSet.mono _ _ _ _ _ _
   | exact spec_DrawClockSet.mono _ _
   | exact LeO.none _
   | refine LeO.ite ?_ ?_
   | refine LeO.bind ?_ (fun _ => ?_)
set_option maxHeartbeats 8000000 in
set_option maxRecDepth 100000 in
theorem laws_FnClockSet.calls (k : Nat) (A0 : Option Addr) (c0 : Nat) (l0 : List Int) (r : Bool) (w : World) (hr0 : Kd.C (Kd.int .u8) w A0 l0.length l0) (hc0 : l0.length ≤ c0) (h : laws_FnClockSet.f k l0 = some r) :
  Calls Try.prog 13 #[.slice A0 l0.length c0] w fun e w' => e = .returned (.bool r) ∧ Below w.heap.size w w' := by
 have hu26 := Try.underlying26; have HR0 := Aside0.mk hr0; have HC0 := Aside0.mk hc0; clear hr0 hc0; have HB := Aside0.mk (Below.refl w.heap.size w); have H : (if (l0.length : Int) > 1048576 then (some true) else ((spec_DrawClockSet.f k l0).bind fun bt101 => ((impl_ClockSet.f k bt101.1 bt101.2.1 bt101.2.2.1 bt101.2.2.2.1 bt101.2.2.2.2).bind fun bt109 => ((spec_ClockSet.f k bt101.1 bt101.2.1 bt101.2.2.1 bt101.2.2.2.1 bt101.2.2.2.2).bind fun bt115 => ((laws_qdClock.f k bt109.1 bt109.2.1 bt115.1 bt115.2.1).bind fun t121 => (if t121 = true then (laws_FnClockSet.j0 k bt101.2.2.1 bt101.2.2.2.1 bt109.2.2 (bt109.2.2 == bt115.2.2) bt109.1 bt109.2.1) else (laws_FnClockSet.j0 k bt101.2.2.1 bt101.2.2.2.1 bt109.2.2 false bt109.1 bt109.2.1))))))) = some r := h; clear h
 by_cases c2 : (l0.length : Int) > 1048576
 ·
  rw [if_pos c2] at H; have c2b0 : decide (1048576 < (l0.length : Int)) = true := decide_eq_true c2; have c2b1 : decide (1048576 < l0.length) = true := decide_eq_true (by omega); clear c2; obtain rfl := Option.some.inj H
  go_enter Try.func13, Try.ntmps13
  go_wp2
  go_ret
  exact ⟨ze, bz HB.out⟩
 ·
  rw [if_neg c2] at H; have c2b0 : decide (1048576 < (l0.length : Int)) = false := decide_eq_false c2; have c2b1 : decide (1048576 < l0.length) = false := decide_eq_false (by omega); clear c2; replace H := Option.bind_eq_some_iff.mp H; obtain ⟨⟨t101, t102, t105, t106, t107⟩, A30, H⟩ := H; replace H : ((impl_ClockSet.f k t101 t102 t105 t106 t107).bind fun bt109 => ((spec_ClockSet.f k t101 t102 t105 t106 t107).bind fun bt115 => ((laws_qdClock.f k bt109.1 bt109.2.1 bt115.1 bt115.2.1).bind fun t121 => (if t121 = true then (laws_FnClockSet.j0 k t105 t106 bt109.2.2 (bt109.2.2 == bt115.2.2) bt109.1 bt109.2.1) else (laws_FnClockSet.j0 k t105 t106 bt109.2.2 false bt109.1 bt109.2.1))))) = some r := H; have A3 := Aside0.mk A30; clear A30; replace H := Option.bind_eq_some_iff.mp H; obtain ⟨⟨t109, t110, t113⟩, A40, H⟩ := H; replace H : ((spec_ClockSet.f k t101 t102 t105 t106 t107).bind fun bt115 => ((laws_qdClock.f k t109 t110 bt115.1 bt115.2.1).bind fun t121 => (if t121 = true then (laws_FnClockSet.j0 k t105 t106 t113 (t113 == bt115.2.2) t109 t110) else (laws_FnClockSet.j0 k t105 t106 t113 false t109 t110)))) = some r := H; have A4 := Aside0.mk A40; clear A40; replace H := Option.bind_eq_some_iff.mp H; obtain ⟨⟨t115, t116, t119⟩, A50, H⟩ := H; replace H : ((laws_qdClock.f k t109 t110 t115 t116).bind fun t121 => (if t121 = true then (laws_FnClockSet.j0 k t105 t106 t113 (t113 == t119) t109 t110) else (laws_FnClockSet.j0 k t105 t106 t113 false t109 t110))) = some r := H; have A5 := Aside0.mk A50; clear A50; have HC6 := Aside0.mk H; clear H
  go_enter Try.func13, Try.ntmps13
  go_upto_region 6 with (first | ((with_reducible refine gate_callee (f := 38) rfl ?_); refine goesL_ (some 27) rfl rfl Try.func38 zk rfl #[.slice A0 l0.length c0] rfl zm ?_; (with_reducible refine (spec_DrawClockSet.calls k _ _ l0 t101 t102 t105 t106 t107 _ ?side1 ?side2 A3.out).mono ?_); (case side1 => exact cz HR0.out); (case side2 => exact HC0.out); rintro e w7 ⟨v103, rfl, ho0, hb⟩; refine ⟨_, rfl, ?_⟩; have HO104 := Aside0.mk (Kd.R_lower ho0 (below_size (bz HB.out))); replace HB := Aside0.mk (below_step (bz HB.out) hb); (try clear hb); (try clear ho0)) | ((with_reducible refine gate_dst (N := 3) rfl ?_); refine box_event ?hg (N := 3) ?hd (cs := #[.int .i64 0, .slice none 0 0]) (t := 26) ?hr ?_; (case hd => rfl); (case hg => rfl); (case hr => first | (go_simp; done) | (go_simp; rfl)); intro gb108 hg w8 hbox hb; replace HO104 := Aside0.mk (Kd.R_below (rz HO104.out) hb); have BK108 := Aside0.mk (hbox); have GW108 := Aside0.mk ((by rw [hg]; exact (below_size (bz HB.out)) : w.heap.size ≤ gb108)); have GE108 := Aside0.mk ((by rw [hg]; exact (below_size (bz HB.out)) : w.heap.size ≤ gb108)); replace HB := Aside0.mk (below_step (bz HB.out) hb); clear hb hbox hg; have hcz9_0 : w8.cell? ⟨gb108, 0, none⟩ = some (.int .i64 0) := (blk_cell BK108.out 0).trans rfl; have hcz9_1 : w8.cell? ⟨gb108, 1, none⟩ = some (.slice none 0 0) := (blk_cell BK108.out 1).trans rfl; have hfz9_0 := blk_frozen BK108.out 0; have hfz9_1 := blk_frozen BK108.out 1; obtain ⟨Ao10, co10, eo10⟩ := Kd.R_slice HO104.out; subst eo10) | ((with_reducible refine gate_callee (f := 31) rfl ?_); refine goesL_ (some 37) rfl rfl Try.func31 zk rfl #[.agg #[.int .i64 t101, .slice Ao10 t102.length co10], .int .i64 t105, .int .i64 t106, .int .i64 t107] rfl zm ?_; (with_reducible refine (impl_ClockSet.calls k t101 _ _ t102 t105 t106 t107 t109 t110 t113 _ ?side1 ?side2 A4.out).mono ?_); (case side1 => refine (Kd.R_reads' (e := 62) (base := w.heap.size) (ok := fun k_ => True) (n := t102.length) (c := co10) ?_).2.2; exact (rz ((Kd.R_mono (Kd.R_far (p := ⟨gb108, 1, none⟩) (Kd.R_far (p := ⟨gb108, 0, none⟩) (Kd.R_types HO104.out BK108.out (by decide)) (fun _ hk => hk.2) (.int .i64 t101)) (fun _ hk => hk.2) (.slice Ao10 t102.length co10)) (fun _ h_ => h_.1))))); (case side2 => exact (Kd.R_reads' HO104.out).2.1); rintro e w11 ⟨v111, rfl, ho0, hb⟩; refine ⟨_, rfl, ?_⟩; have HO112 := Aside0.mk (Kd.R_lower (Kd.R_new' ho0 (Kd.R_lt (rz ((Kd.R_mono (Kd.R_far (p := ⟨gb108, 1, none⟩) (Kd.R_far (p := ⟨gb108, 0, none⟩) (Kd.R_types HO104.out BK108.out (by decide)) (fun _ hk => hk.2) (.int .i64 t101)) (fun _ hk => hk.2) (.slice Ao10 t102.length co10)) (fun _ h_ => h_.1)))))) (below_size (bs HB.out GE108.out))); replace HO104 := Aside0.mk (Kd.R_elder' (rz ((Kd.R_mono (Kd.R_far (p := ⟨gb108, 1, none⟩) (Kd.R_far (p := ⟨gb108, 0, none⟩) (Kd.R_types HO104.out BK108.out (by decide)) (fun _ hk => hk.2) (.int .i64 t101)) (fun _ hk => hk.2) (.slice Ao10 t102.length co10)) (fun _ h_ => h_.1)))) (Kd.R_base ho0) hb); replace BK108 := Aside0.mk (blk_below (g := gb108) (o := .cells #[.int .i64 t101, .slice Ao10 t102.length co10] 26 (0, 0)) (by (with_reducible repeat (first | refine blk_drewN ?_ _ | refine blk_drew ?_ | refine blk_alloc ?_ _)); refine blk_put (cs := #[.int .i64 t101, .slice none 0 0]) ?_ 1 _ rfl; (with_reducible repeat (first | refine blk_drewN ?_ _ | refine blk_drew ?_ | refine blk_alloc ?_ _)); refine blk_put (cs := #[.int .i64 0, .slice none 0 0]) ?_ 0 _ rfl; (with_reducible repeat (first | refine blk_drewN ?_ _ | refine blk_drew ?_ | refine blk_alloc ?_ _)); exact BK108.out) hb); replace HB := Aside0.mk (below_step (bs HB.out GE108.out) hb); (try clear hb); (try clear ho0)) | ((with_reducible refine gate_dst (N := 7) rfl ?_); refine box_event ?hg (N := 7) ?hd (cs := #[.int .i64 0, .slice none 0 0]) (t := 26) ?hr ?_; (case hd => rfl); (case hg => rfl); (case hr => first | (go_simp; done) | (go_simp; rfl)); intro gb114 hg w12 hbox hb; replace HO104 := Aside0.mk (Kd.R_below (rz HO104.out) hb); replace HO112 := Aside0.mk (Kd.R_below (rz HO112.out) hb); have BK114 := Aside0.mk (hbox); have GW114 := Aside0.mk ((by rw [hg]; exact (below_size (bs HB.out GE108.out)) : w.heap.size ≤ gb114)); have GE114 := Aside0.mk ((by rw [hg]; exact (below_size (bs HB.out GE108.out)) : w.heap.size ≤ gb114)); replace HB := Aside0.mk (below_step (bs HB.out GE108.out) hb); have NB108_114 := Aside0.mk ((by rw [hg]; exact Nat.ne_of_lt (blk_lt (kz BK108.out)) : gb108 ≠ gb114)); have NB114_108 := Aside0.mk ((by rw [hg]; exact Nat.ne_of_gt (blk_lt (kz BK108.out)) : gb114 ≠ gb108)); replace BK108 := Aside0.mk (blk_below (kz BK108.out) hb); clear hb hbox hg; have hnb13 := NB114_108.out; have hnc13 := NB108_114.out; have hcz14_0 : w12.cell? ⟨gb114, 0, none⟩ = some (.int .i64 0) := (blk_cell BK114.out 0).trans rfl; have hcz14_1 : w12.cell? ⟨gb114, 1, none⟩ = some (.slice none 0 0) := (blk_cell BK114.out 1).trans rfl; have hfz14_0 := blk_frozen BK114.out 0; have hfz14_1 := blk_frozen BK114.out 1; obtain ⟨Ao15, co15, eo15⟩ := Kd.R_slice HO112.out; subst eo15; have hcz16_0 : w12.cell? ⟨gb108, 0, none⟩ = some (.int .i64 t101) := (blk_cell BK108.out 0).trans rfl; have hcz16_1 : w12.cell? ⟨gb108, 1, none⟩ = some (.slice Ao10 t102.length co10) := (blk_cell BK108.out 1).trans rfl; have hfz16_0 := blk_frozen BK108.out 0; have hfz16_1 := blk_frozen BK108.out 1) | ((with_reducible refine gate_callee (f := 39) rfl ?_); refine goesL_ (some 45) rfl rfl Try.func39 zk rfl #[.agg #[.int .i64 t101, .slice Ao10 t102.length co10], .int .i64 t105, .int .i64 t106, .int .i64 t107] rfl zm ?_; (with_reducible refine (spec_ClockSet.calls k t101 _ _ t102 t105 t106 t107 t115 t116 t119 _ ?side1 ?side2 A5.out).mono ?_); (case side1 => refine (Kd.R_reads' (e := 62) (base := w.heap.size) (ok := fun k_ => (True ∧ some k_ ≠ (.slice Ao15 t110.length co15 : Value).ownBlock)) (n := t102.length) (c := co10) ?_).2.2; exact (rz ((Kd.R_mono (Kd.R_far (p := ⟨gb114, 1, none⟩) (Kd.R_far (p := ⟨gb114, 0, none⟩) (Kd.R_types HO104.out BK114.out (by decide)) (fun _ hk => hk.2) (.int .i64 t109)) (fun _ hk => hk.2) (.slice Ao15 t110.length co15)) (fun _ h_ => h_.1))))); (case side2 => exact (Kd.R_reads' HO104.out).2.1); rintro e w17 ⟨v117, rfl, ho0, hb⟩; refine ⟨_, rfl, ?_⟩; have HO118 := Aside0.mk (Kd.R_lower (Kd.R_new' (Kd.R_new' ho0 (Kd.R_lt (rz ((Kd.R_mono (Kd.R_far (p := ⟨gb114, 1, none⟩) (Kd.R_far (p := ⟨gb114, 0, none⟩) (Kd.R_types HO104.out BK114.out (by decide)) (fun _ hk => hk.2) (.int .i64 t109)) (fun _ hk => hk.2) (.slice Ao15 t110.length co15)) (fun _ h_ => h_.1)))))) (Kd.R_lt (rz ((Kd.R_mono (Kd.R_far (p := ⟨gb114, 1, none⟩) (Kd.R_far (p := ⟨gb114, 0, none⟩) (Kd.R_types HO112.out BK114.out (by decide)) (fun _ hk => hk.2) (.int .i64 t109)) (fun _ hk => hk.2) (.slice Ao15 t110.length co15)) (fun _ h_ => h_.1)))))) (below_size (bs2 HB.out GE108.out GE114.out))); replace HO104 := Aside0.mk (Kd.R_elder' (rz ((Kd.R_mono (Kd.R_far (p := ⟨gb114, 1, none⟩) (Kd.R_far (p := ⟨gb114, 0, none⟩) (Kd.R_types HO104.out BK114.out (by decide)) (fun _ hk => hk.2) (.int .i64 t109)) (fun _ hk => hk.2) (.slice Ao15 t110.length co15)) (fun _ h_ => h_.1)))) (Kd.R_base ho0) hb); replace HO112 := Aside0.mk (Kd.R_elder' (rz ((Kd.R_mono (Kd.R_far (p := ⟨gb114, 1, none⟩) (Kd.R_far (p := ⟨gb114, 0, none⟩) (Kd.R_types HO112.out BK114.out (by decide)) (fun _ hk => hk.2) (.int .i64 t109)) (fun _ hk => hk.2) (.slice Ao15 t110.length co15)) (fun _ h_ => h_.1)))) (Kd.R_base ho0) hb); replace BK108 := Aside0.mk (blk_below (g := gb108) (o := .cells #[.int .i64 t101, .slice Ao10 t102.length co10] 26 (0, 0)) (by (with_reducible repeat (first | refine blk_drewN ?_ _ | refine blk_drew ?_ | refine blk_alloc ?_ _)); refine blk_far ?_ NB108_114.out _; (with_reducible repeat (first | refine blk_drewN ?_ _ | refine blk_drew ?_ | refine blk_alloc ?_ _)); refine blk_far ?_ NB108_114.out _; (with_reducible repeat (first | refine blk_drewN ?_ _ | refine blk_drew ?_ | refine blk_alloc ?_ _)); exact BK108.out) hb); replace BK114 := Aside0.mk (blk_below (g := gb114) (o := .cells #[.int .i64 t109, .slice Ao15 t110.length co15] 26 (0, 0)) (by (with_reducible repeat (first | refine blk_drewN ?_ _ | refine blk_drew ?_ | refine blk_alloc ?_ _)); refine blk_put (cs := #[.int .i64 t109, .slice none 0 0]) ?_ 1 _ rfl; (with_reducible repeat (first | refine blk_drewN ?_ _ | refine blk_drew ?_ | refine blk_alloc ?_ _)); refine blk_put (cs := #[.int .i64 0, .slice none 0 0]) ?_ 0 _ rfl; (with_reducible repeat (first | refine blk_drewN ?_ _ | refine blk_drew ?_ | refine blk_alloc ?_ _)); exact BK114.out) hb); replace HB := Aside0.mk (below_step (bs2 HB.out GE108.out GE114.out) hb); (try clear hb); (try clear ho0)) | ((with_reducible refine gate_dst (N := 9) rfl ?_); refine box_event ?hg (N := 9) ?hd (cs := #[.int .i64 0, .slice none 0 0]) (t := 26) ?hr ?_; (case hd => rfl); (case hg => rfl); (case hr => first | (go_simp; done) | (go_simp; rfl)); intro gb120 hg w18 hbox hb; replace HO104 := Aside0.mk (Kd.R_below (rz HO104.out) hb); replace HO112 := Aside0.mk (Kd.R_below (rz HO112.out) hb); replace HO118 := Aside0.mk (Kd.R_below (rz HO118.out) hb); have BK120 := Aside0.mk (hbox); have GW120 := Aside0.mk ((by rw [hg]; exact (below_size (bs2 HB.out GE108.out GE114.out)) : w.heap.size ≤ gb120)); have GE120 := Aside0.mk ((by rw [hg]; exact (below_size (bs2 HB.out GE108.out GE114.out)) : w.heap.size ≤ gb120)); replace HB := Aside0.mk (below_step (bs2 HB.out GE108.out GE114.out) hb); have NB108_120 := Aside0.mk ((by rw [hg]; exact Nat.ne_of_lt (blk_lt (kz BK108.out)) : gb108 ≠ gb120)); have NB120_108 := Aside0.mk ((by rw [hg]; exact Nat.ne_of_gt (blk_lt (kz BK108.out)) : gb120 ≠ gb108)); replace BK108 := Aside0.mk (blk_below (kz BK108.out) hb); have NB114_120 := Aside0.mk ((by rw [hg]; exact Nat.ne_of_lt (blk_lt (kz BK114.out)) : gb114 ≠ gb120)); have NB120_114 := Aside0.mk ((by rw [hg]; exact Nat.ne_of_gt (blk_lt (kz BK114.out)) : gb120 ≠ gb114)); replace BK114 := Aside0.mk (blk_below (kz BK114.out) hb); clear hb hbox hg; have hnb19 := NB120_108.out; have hnc19 := NB108_120.out; have hnb20 := NB120_114.out; have hnc20 := NB114_120.out; have hcz21_0 : w18.cell? ⟨gb120, 0, none⟩ = some (.int .i64 0) := (blk_cell BK120.out 0).trans rfl; have hcz21_1 : w18.cell? ⟨gb120, 1, none⟩ = some (.slice none 0 0) := (blk_cell BK120.out 1).trans rfl; have hfz21_0 := blk_frozen BK120.out 0; have hfz21_1 := blk_frozen BK120.out 1; obtain ⟨Ao22, co22, eo22⟩ := Kd.R_slice HO118.out; subst eo22))
  (try simp only [Act.put, List.setIfInBounds_toArray, List.set_cons_zero, List.set_cons_succ])
  go_cut [11] (fun v11 wc => ∃ (kq : Nat) (x11_5 : Bool), v11 = .bool x11_5 ∧ Aside0 (laws_FnClockSet.j0 kq t105 t106 t113 x11_5 t109 t110 = some r) ∧ Aside0 (kq ≤ k) ∧ Aside0 (Kd.R k62 62 wc w.heap.size (fun k_ => some k_ ≠ ((.slice Ao15 t110.length co15) : Value).ownBlock ∧ some k_ ≠ ((.slice Ao22 t116.length co22) : Value).ownBlock) (.slice Ao10 t102.length co10) t102) ∧ Aside0 (Kd.R k62 62 wc w.heap.size (fun k_ => some k_ ≠ ((.slice Ao10 t102.length co10) : Value).ownBlock ∧ some k_ ≠ ((.slice Ao22 t116.length co22) : Value).ownBlock) (.slice Ao15 t110.length co15) t110) ∧ Aside0 (Kd.R k62 62 wc w.heap.size (fun k_ => some k_ ≠ ((.slice Ao10 t102.length co10) : Value).ownBlock ∧ some k_ ≠ ((.slice Ao15 t110.length co15) : Value).ownBlock) (.slice Ao22 t116.length co22) t116) ∧ Aside0 (wc.heap[gb108]? = some (.cells #[.int .i64 t101, (.slice Ao10 t102.length co10)] 26 (0, 0))) ∧ Aside0 (wc.heap[gb114]? = some (.cells #[.int .i64 t109, (.slice Ao15 t110.length co15)] 26 (0, 0))) ∧ Aside0 (wc.heap[gb120]? = some (.cells #[.int .i64 t115, (.slice Ao22 t116.length co22)] 26 (0, 0))) ∧ Aside0 (Below w.heap.size w wc))
  case first =>
   have H := HC6.out; clear HC6; replace H := Option.bind_eq_some_iff.mp H; obtain ⟨t121, A230, H⟩ := H; have A23 := Aside0.mk A230; clear A230
   by_cases c24 : t121 = true
   ·
    subst c24; rw [if_pos rfl] at H; have H' := Aside0.mk H; clear H; have hnb25 := NB114_108.out; have hnc25 := NB108_114.out; have hnb26 := NB114_120.out; have hnc26 := NB120_114.out; have hcz27_0 : w18.cell? ⟨gb114, 0, none⟩ = some (.int .i64 t109) := (blk_cell BK114.out 0).trans rfl; have hcz27_1 : w18.cell? ⟨gb114, 1, none⟩ = some (.slice Ao15 t110.length co15) := (blk_cell BK114.out 1).trans rfl; have hfz27_0 := blk_frozen BK114.out 0; have hfz27_1 := blk_frozen BK114.out 1; have hnb28 := NB120_108.out; have hnc28 := NB108_120.out; have hcz29_0 : w18.cell? ⟨gb120, 0, none⟩ = some (.int .i64 0) := (blk_cell BK120.out 0).trans rfl; have hcz29_1 : w18.cell? ⟨gb120, 1, none⟩ = some (.slice none 0 0) := (blk_cell BK120.out 1).trans rfl; have hfz29_0 := blk_frozen BK120.out 0; have hfz29_1 := blk_frozen BK120.out 1
    go_wp2_with (first | ((with_reducible refine gate_callee (f := 19) rfl ?_); refine goesL_ (some 50) rfl rfl Try.func19 zk rfl #[.agg #[.int .i64 t109, .slice Ao15 t110.length co15], .agg #[.int .i64 t115, .slice Ao22 t116.length co22]] rfl zm ?_; (with_reducible refine (laws_qdClock.calls k t109 _ _ t110 t115 _ _ t116 true _ ?side1 ?side2 ?side3 ?side4 A23.out).mono ?_); (case side1 => refine (Kd.R_reads' (e := 62) (base := w.heap.size) (ok := fun k_ => ((True ∧ some k_ ≠ (.slice Ao10 t102.length co10 : Value).ownBlock) ∧ some k_ ≠ (.slice Ao22 t116.length co22 : Value).ownBlock)) (n := t110.length) (c := co15) ?_).2.2; exact (rz ((Kd.R_mono (Kd.R_far (p := ⟨gb120, 1, none⟩) (Kd.R_far (p := ⟨gb120, 0, none⟩) (Kd.R_types HO112.out BK120.out (by decide)) (fun _ hk => hk.2) (.int .i64 t115)) (fun _ hk => hk.2) (.slice Ao22 t116.length co22)) (fun _ h_ => h_.1))))); (case side2 => exact (Kd.R_reads' HO112.out).2.1); (case side3 => refine (Kd.R_reads' (e := 62) (base := w.heap.size) (ok := fun k_ => ((True ∧ some k_ ≠ (.slice Ao10 t102.length co10 : Value).ownBlock) ∧ some k_ ≠ (.slice Ao15 t110.length co15 : Value).ownBlock)) (n := t116.length) (c := co22) ?_).2.2; exact (rz ((Kd.R_mono (Kd.R_far (p := ⟨gb120, 1, none⟩) (Kd.R_far (p := ⟨gb120, 0, none⟩) (Kd.R_types HO118.out BK120.out (by decide)) (fun _ hk => hk.2) (.int .i64 t115)) (fun _ hk => hk.2) (.slice Ao22 t116.length co22)) (fun _ h_ => h_.1))))); (case side4 => exact (Kd.R_reads' HO118.out).2.1); rintro e w30 ⟨rfl, hb⟩; refine ⟨_, rfl, ?_⟩; replace HO104 := Aside0.mk (Kd.R_below (rz ((Kd.R_mono (Kd.R_far (p := ⟨gb120, 1, none⟩) (Kd.R_far (p := ⟨gb120, 0, none⟩) (Kd.R_types HO104.out BK120.out (by decide)) (fun _ hk => hk.2) (.int .i64 t115)) (fun _ hk => hk.2) (.slice Ao22 t116.length co22)) (fun _ h_ => h_.1)))) hb); replace HO112 := Aside0.mk (Kd.R_below (rz ((Kd.R_mono (Kd.R_far (p := ⟨gb120, 1, none⟩) (Kd.R_far (p := ⟨gb120, 0, none⟩) (Kd.R_types HO112.out BK120.out (by decide)) (fun _ hk => hk.2) (.int .i64 t115)) (fun _ hk => hk.2) (.slice Ao22 t116.length co22)) (fun _ h_ => h_.1)))) hb); replace HO118 := Aside0.mk (Kd.R_below (rz ((Kd.R_mono (Kd.R_far (p := ⟨gb120, 1, none⟩) (Kd.R_far (p := ⟨gb120, 0, none⟩) (Kd.R_types HO118.out BK120.out (by decide)) (fun _ hk => hk.2) (.int .i64 t115)) (fun _ hk => hk.2) (.slice Ao22 t116.length co22)) (fun _ h_ => h_.1)))) hb); replace BK108 := Aside0.mk (blk_below (g := gb108) (o := .cells #[.int .i64 t101, .slice Ao10 t102.length co10] 26 (0, 0)) (by (with_reducible repeat (first | refine blk_drewN ?_ _ | refine blk_drew ?_ | refine blk_alloc ?_ _)); refine blk_far ?_ NB108_120.out _; (with_reducible repeat (first | refine blk_drewN ?_ _ | refine blk_drew ?_ | refine blk_alloc ?_ _)); refine blk_far ?_ NB108_120.out _; (with_reducible repeat (first | refine blk_drewN ?_ _ | refine blk_drew ?_ | refine blk_alloc ?_ _)); exact BK108.out) hb); replace BK114 := Aside0.mk (blk_below (g := gb114) (o := .cells #[.int .i64 t109, .slice Ao15 t110.length co15] 26 (0, 0)) (by (with_reducible repeat (first | refine blk_drewN ?_ _ | refine blk_drew ?_ | refine blk_alloc ?_ _)); refine blk_far ?_ NB114_120.out _; (with_reducible repeat (first | refine blk_drewN ?_ _ | refine blk_drew ?_ | refine blk_alloc ?_ _)); refine blk_far ?_ NB114_120.out _; (with_reducible repeat (first | refine blk_drewN ?_ _ | refine blk_drew ?_ | refine blk_alloc ?_ _)); exact BK114.out) hb); replace BK120 := Aside0.mk (blk_below (g := gb120) (o := .cells #[.int .i64 t115, .slice Ao22 t116.length co22] 26 (0, 0)) (by (with_reducible repeat (first | refine blk_drewN ?_ _ | refine blk_drew ?_ | refine blk_alloc ?_ _)); refine blk_put (cs := #[.int .i64 t115, .slice none 0 0]) ?_ 1 _ rfl; (with_reducible repeat (first | refine blk_drewN ?_ _ | refine blk_drew ?_ | refine blk_alloc ?_ _)); refine blk_put (cs := #[.int .i64 0, .slice none 0 0]) ?_ 0 _ rfl; (with_reducible repeat (first | refine blk_drewN ?_ _ | refine blk_drew ?_ | refine blk_alloc ?_ _)); exact BK120.out) hb); replace HB := Aside0.mk (below_step (w13_0 HB.out GE108.out GE114.out GE120.out) hb); (try clear hb)))
    go_meet
    case rel => exact ⟨_, ((t113 == t119)), zr, H', ⟨by first | omega | exact Nat.le_refl _⟩, ⟨rz (Kd.R_mono HO104.out (fun _ hk => ⟨hk.1.2, hk.2⟩))⟩, ⟨rz (Kd.R_mono HO112.out (fun _ hk => ⟨hk.1.2, hk.2⟩))⟩, ⟨rz (Kd.R_mono HO118.out (fun _ hk => ⟨hk.1.2, hk.2⟩))⟩, ⟨kz (BK108.out)⟩, ⟨kz (BK114.out)⟩, ⟨kz (BK120.out)⟩, ⟨by repeat (first | (with_reducible first | exact HB.out | apply below_alloc | apply pw_below_drewN | apply below_drew1 | refine below_set ?_ GE108.out | refine below_set ?_ GE114.out | refine below_set ?_ GE120.out) | exact HB.out)⟩⟩
   ·
    replace c24 := Bool.eq_false_iff.mpr c24; subst c24; rw [if_neg nf_] at H; have H' := Aside0.mk H; clear H; have hnb31 := NB114_108.out; have hnc31 := NB108_114.out; have hnb32 := NB114_120.out; have hnc32 := NB120_114.out; have hcz33_0 : w18.cell? ⟨gb114, 0, none⟩ = some (.int .i64 t109) := (blk_cell BK114.out 0).trans rfl; have hcz33_1 : w18.cell? ⟨gb114, 1, none⟩ = some (.slice Ao15 t110.length co15) := (blk_cell BK114.out 1).trans rfl; have hfz33_0 := blk_frozen BK114.out 0; have hfz33_1 := blk_frozen BK114.out 1; have hnb34 := NB120_108.out; have hnc34 := NB108_120.out; have hcz35_0 : w18.cell? ⟨gb120, 0, none⟩ = some (.int .i64 0) := (blk_cell BK120.out 0).trans rfl; have hcz35_1 : w18.cell? ⟨gb120, 1, none⟩ = some (.slice none 0 0) := (blk_cell BK120.out 1).trans rfl; have hfz35_0 := blk_frozen BK120.out 0; have hfz35_1 := blk_frozen BK120.out 1
    go_wp2_with (first | ((with_reducible refine gate_callee (f := 19) rfl ?_); refine goesL_ (some 50) rfl rfl Try.func19 zk rfl #[.agg #[.int .i64 t109, .slice Ao15 t110.length co15], .agg #[.int .i64 t115, .slice Ao22 t116.length co22]] rfl zm ?_; (with_reducible refine (laws_qdClock.calls k t109 _ _ t110 t115 _ _ t116 false _ ?side1 ?side2 ?side3 ?side4 A23.out).mono ?_); (case side1 => refine (Kd.R_reads' (e := 62) (base := w.heap.size) (ok := fun k_ => ((True ∧ some k_ ≠ (.slice Ao10 t102.length co10 : Value).ownBlock) ∧ some k_ ≠ (.slice Ao22 t116.length co22 : Value).ownBlock)) (n := t110.length) (c := co15) ?_).2.2; exact (rz ((Kd.R_mono (Kd.R_far (p := ⟨gb120, 1, none⟩) (Kd.R_far (p := ⟨gb120, 0, none⟩) (Kd.R_types HO112.out BK120.out (by decide)) (fun _ hk => hk.2) (.int .i64 t115)) (fun _ hk => hk.2) (.slice Ao22 t116.length co22)) (fun _ h_ => h_.1))))); (case side2 => exact (Kd.R_reads' HO112.out).2.1); (case side3 => refine (Kd.R_reads' (e := 62) (base := w.heap.size) (ok := fun k_ => ((True ∧ some k_ ≠ (.slice Ao10 t102.length co10 : Value).ownBlock) ∧ some k_ ≠ (.slice Ao15 t110.length co15 : Value).ownBlock)) (n := t116.length) (c := co22) ?_).2.2; exact (rz ((Kd.R_mono (Kd.R_far (p := ⟨gb120, 1, none⟩) (Kd.R_far (p := ⟨gb120, 0, none⟩) (Kd.R_types HO118.out BK120.out (by decide)) (fun _ hk => hk.2) (.int .i64 t115)) (fun _ hk => hk.2) (.slice Ao22 t116.length co22)) (fun _ h_ => h_.1))))); (case side4 => exact (Kd.R_reads' HO118.out).2.1); rintro e w36 ⟨rfl, hb⟩; refine ⟨_, rfl, ?_⟩; replace HO104 := Aside0.mk (Kd.R_below (rz ((Kd.R_mono (Kd.R_far (p := ⟨gb120, 1, none⟩) (Kd.R_far (p := ⟨gb120, 0, none⟩) (Kd.R_types HO104.out BK120.out (by decide)) (fun _ hk => hk.2) (.int .i64 t115)) (fun _ hk => hk.2) (.slice Ao22 t116.length co22)) (fun _ h_ => h_.1)))) hb); replace HO112 := Aside0.mk (Kd.R_below (rz ((Kd.R_mono (Kd.R_far (p := ⟨gb120, 1, none⟩) (Kd.R_far (p := ⟨gb120, 0, none⟩) (Kd.R_types HO112.out BK120.out (by decide)) (fun _ hk => hk.2) (.int .i64 t115)) (fun _ hk => hk.2) (.slice Ao22 t116.length co22)) (fun _ h_ => h_.1)))) hb); replace HO118 := Aside0.mk (Kd.R_below (rz ((Kd.R_mono (Kd.R_far (p := ⟨gb120, 1, none⟩) (Kd.R_far (p := ⟨gb120, 0, none⟩) (Kd.R_types HO118.out BK120.out (by decide)) (fun _ hk => hk.2) (.int .i64 t115)) (fun _ hk => hk.2) (.slice Ao22 t116.length co22)) (fun _ h_ => h_.1)))) hb); replace BK108 := Aside0.mk (blk_below (g := gb108) (o := .cells #[.int .i64 t101, .slice Ao10 t102.length co10] 26 (0, 0)) (by (with_reducible repeat (first | refine blk_drewN ?_ _ | refine blk_drew ?_ | refine blk_alloc ?_ _)); refine blk_far ?_ NB108_120.out _; (with_reducible repeat (first | refine blk_drewN ?_ _ | refine blk_drew ?_ | refine blk_alloc ?_ _)); refine blk_far ?_ NB108_120.out _; (with_reducible repeat (first | refine blk_drewN ?_ _ | refine blk_drew ?_ | refine blk_alloc ?_ _)); exact BK108.out) hb); replace BK114 := Aside0.mk (blk_below (g := gb114) (o := .cells #[.int .i64 t109, .slice Ao15 t110.length co15] 26 (0, 0)) (by (with_reducible repeat (first | refine blk_drewN ?_ _ | refine blk_drew ?_ | refine blk_alloc ?_ _)); refine blk_far ?_ NB114_120.out _; (with_reducible repeat (first | refine blk_drewN ?_ _ | refine blk_drew ?_ | refine blk_alloc ?_ _)); refine blk_far ?_ NB114_120.out _; (with_reducible repeat (first | refine blk_drewN ?_ _ | refine blk_drew ?_ | refine blk_alloc ?_ _)); exact BK114.out) hb); replace BK120 := Aside0.mk (blk_below (g := gb120) (o := .cells #[.int .i64 t115, .slice Ao22 t116.length co22] 26 (0, 0)) (by (with_reducible repeat (first | refine blk_drewN ?_ _ | refine blk_drew ?_ | refine blk_alloc ?_ _)); refine blk_put (cs := #[.int .i64 t115, .slice none 0 0]) ?_ 1 _ rfl; (with_reducible repeat (first | refine blk_drewN ?_ _ | refine blk_drew ?_ | refine blk_alloc ?_ _)); refine blk_put (cs := #[.int .i64 0, .slice none 0 0]) ?_ 0 _ rfl; (with_reducible repeat (first | refine blk_drewN ?_ _ | refine blk_drew ?_ | refine blk_alloc ?_ _)); exact BK120.out) hb); replace HB := Aside0.mk (below_step (w13_0 HB.out GE108.out GE114.out GE120.out) hb); (try clear hb)))
    go_meet
    case rel => exact ⟨_, (false), zr, H', ⟨by first | omega | exact Nat.le_refl _⟩, ⟨rz (Kd.R_mono HO104.out (fun _ hk => ⟨hk.1.2, hk.2⟩))⟩, ⟨rz (Kd.R_mono HO112.out (fun _ hk => ⟨hk.1.2, hk.2⟩))⟩, ⟨rz (Kd.R_mono HO118.out (fun _ hk => ⟨hk.1.2, hk.2⟩))⟩, ⟨kz (BK108.out)⟩, ⟨kz (BK114.out)⟩, ⟨kz (BK120.out)⟩, ⟨by repeat (first | (with_reducible first | exact HB.out | apply below_alloc | apply pw_below_drewN | apply below_drew1 | refine below_set ?_ GE108.out | refine below_set ?_ GE114.out | refine below_set ?_ GE120.out) | exact HB.out)⟩⟩
  case rest =>
   clear HC6
   try clear c1
   try clear c2
   try clear c2b0
   try clear c2b1
   try clear p2
   try clear c3
   try clear c13
   try clear c19
   try clear c20
   try clear c24
   try clear c25
   try clear c26
   try clear c28
   try clear c31
   try clear c32
   try clear c34
   try clear hcz14_0
   try clear hcz14_1
   try clear hcz16_0
   try clear hcz16_1
   try clear hcz21_0
   try clear hcz21_1
   try clear hcz27_0
   try clear hcz27_1
   try clear hcz29_0
   try clear hcz29_1
   try clear hcz33_0
   try clear hcz33_1
   try clear hcz35_0
   try clear hcz35_1
   try clear hcz9_0
   try clear hcz9_1
   try clear hfz14_0
   try clear hfz14_1
   try clear hfz16_0
   try clear hfz16_1
   try clear hfz21_0
   try clear hfz21_1
   try clear hfz27_0
   try clear hfz27_1
   try clear hfz29_0
   try clear hfz29_1
   try clear hfz33_0
   try clear hfz33_1
   try clear hfz35_0
   try clear hfz35_1
   try clear hfz9_0
   try clear hfz9_1
   obtain ⟨kq, x11_5, rfl, HA, HJ5, HO_109001, HO_115001, HO_121001, BK108, BK114, BK120, HB⟩ := hcut
   cases kq with
   | zero => exact absurd HA.out (by simp [laws_FnClockSet.j0])
   | succ kj5 =>
    have H := HA.out; clear HA; simp only [laws_FnClockSet.j0] at H; have HC37 := Aside0.mk H; clear H
    go_upto_region 7 with (fail)
    go_cut [61] (fun v61 wc => ∃ (kq : Nat) (x61_36 : Bool), v61 = .bool x61_36 ∧ Aside0 (laws_FnClockSet.j1 kq t105 t106 x11_5 x61_36 t109 t110 = some r) ∧ Aside0 (kq ≤ kj5) ∧ Aside0 (Kd.R k62 62 wc w.heap.size (fun k_ => some k_ ≠ ((.slice Ao15 t110.length co15) : Value).ownBlock ∧ some k_ ≠ ((.slice Ao22 t116.length co22) : Value).ownBlock) (.slice Ao10 t102.length co10) t102) ∧ Aside0 (Kd.R k62 62 wc w.heap.size (fun k_ => some k_ ≠ ((.slice Ao10 t102.length co10) : Value).ownBlock ∧ some k_ ≠ ((.slice Ao22 t116.length co22) : Value).ownBlock) (.slice Ao15 t110.length co15) t110) ∧ Aside0 (Kd.R k62 62 wc w.heap.size (fun k_ => some k_ ≠ ((.slice Ao10 t102.length co10) : Value).ownBlock ∧ some k_ ≠ ((.slice Ao15 t110.length co15) : Value).ownBlock) (.slice Ao22 t116.length co22) t116) ∧ Aside0 (wc.heap[gb108]? = some (.cells #[.int .i64 t101, (.slice Ao10 t102.length co10)] 26 (0, 0))) ∧ Aside0 (wc.heap[gb114]? = some (.cells #[.int .i64 t109, (.slice Ao15 t110.length co15)] 26 (0, 0))) ∧ Aside0 (wc.heap[gb120]? = some (.cells #[.int .i64 t115, (.slice Ao22 t116.length co22)] 26 (0, 0))) ∧ Aside0 (Below w.heap.size w wc))
    case first =>
     have H := HC37.out; clear HC37
     by_cases c38 : x11_5 = true
     ·
      subst c38; rw [if_pos rfl] at H; have H' := Aside0.mk H; clear H
      go_wp2
      go_meet
      case rel => exact ⟨_, (!t113), zr, H', ⟨by have := HJ5.out; first | omega | exact Nat.le_refl _⟩, ⟨rz (HO_109001.out)⟩, ⟨rz (HO_115001.out)⟩, ⟨rz (HO_121001.out)⟩, ⟨kz (BK108.out)⟩, ⟨kz (BK114.out)⟩, ⟨kz (BK120.out)⟩, ⟨by repeat (first | (with_reducible first | exact HB.out | apply below_alloc | apply pw_below_drewN | apply below_drew1 | refine below_set ?_ GE108.out | refine below_set ?_ GE114.out | refine below_set ?_ GE120.out) | exact HB.out)⟩⟩
     ·
      replace c38 := Bool.eq_false_iff.mpr c38; subst c38; rw [if_neg nf_] at H; have H' := Aside0.mk H; clear H
      go_wp2
      go_meet
      case rel => exact ⟨_, (true), zr, H', ⟨by have := HJ5.out; first | omega | exact Nat.le_refl _⟩, ⟨rz (HO_109001.out)⟩, ⟨rz (HO_115001.out)⟩, ⟨rz (HO_121001.out)⟩, ⟨kz (BK108.out)⟩, ⟨kz (BK114.out)⟩, ⟨kz (BK120.out)⟩, ⟨by repeat (first | (with_reducible first | exact HB.out | apply below_alloc | apply pw_below_drewN | apply below_drew1 | refine below_set ?_ GE108.out | refine below_set ?_ GE114.out | refine below_set ?_ GE120.out) | exact HB.out)⟩⟩
    case rest =>
     clear HC37
     try clear c1
     try clear c2
     try clear c2b0
     try clear c2b1
     try clear p2
     try clear c3
     try clear c13
     try clear c19
     try clear c20
     try clear c24
     try clear c25
     try clear c26
     try clear c28
     try clear c31
     try clear c32
     try clear c34
     try clear c38
     try clear hcz14_0
     try clear hcz14_1
     try clear hcz16_0
     try clear hcz16_1
     try clear hcz21_0
     try clear hcz21_1
     try clear hcz27_0
     try clear hcz27_1
     try clear hcz29_0
     try clear hcz29_1
     try clear hcz33_0
     try clear hcz33_1
     try clear hcz35_0
     try clear hcz35_1
     try clear hcz9_0
     try clear hcz9_1
     try clear hfz14_0
     try clear hfz14_1
     try clear hfz16_0
     try clear hfz16_1
     try clear hfz21_0
     try clear hfz21_1
     try clear hfz27_0
     try clear hfz27_1
     try clear hfz29_0
     try clear hfz29_1
     try clear hfz33_0
     try clear hfz33_1
     try clear hfz35_0
     try clear hfz35_1
     try clear hfz9_0
     try clear hfz9_1
     try clear p2
     obtain ⟨kq, x61_36, rfl, HA, HJ36, HO_109001, HO_115001, HO_121001, BK108, BK114, BK120, HB⟩ := hcut
     cases kq with
     | zero => exact absurd HA.out (by simp [laws_FnClockSet.j1])
     | succ kj36 =>
      have H := HA.out; clear HA; simp only [laws_FnClockSet.j1] at H
      by_cases c39 : x61_36 = true
      ·
       subst c39; rw [if_pos rfl] at H; obtain rfl := Option.some.inj H
       go_wp2
       go_ret
       exact ⟨ze, by repeat (first | (with_reducible first | exact HB.out | apply below_alloc | apply pw_below_drewN | apply below_drew1 | refine below_set ?_ GE108.out | refine below_set ?_ GE114.out | refine below_set ?_ GE120.out) | exact HB.out)⟩
      ·
       replace c39 := Bool.eq_false_iff.mpr c39; subst c39; rw [if_neg nf_] at H
       by_cases c40 : t106 > 500
       ·
        rw [if_pos c40] at H; have c40b0 : decide (500 < t106) = true := decide_eq_true c40; clear c40; replace H := Option.bind_eq_some_iff.mp H; obtain ⟨t122, A410, H⟩ := H; have A41 := Aside0.mk A410; clear A410; obtain rfl := Option.some.inj H; have hnb42 := NB114_108.out; have hnc42 := NB108_114.out; have hnb43 := NB114_120.out; have hnc43 := NB120_114.out; have hcz44_0 : wc.cell? ⟨gb114, 0, none⟩ = some (.int .i64 t109) := (blk_cell BK114.out 0).trans rfl; have hcz44_1 : wc.cell? ⟨gb114, 1, none⟩ = some (.slice Ao15 t110.length co15) := (blk_cell BK114.out 1).trans rfl; have hfz44_0 := blk_frozen BK114.out 0; have hfz44_1 := blk_frozen BK114.out 1
        go_wp2_with (first | ((with_reducible refine gate_callee (f := 21) rfl ?_); refine goesL_ (some 66) rfl rfl Try.func21 zk rfl #[.agg #[.int .i64 t109, .slice Ao15 t110.length co15]] rfl zm ?_; (with_reducible refine (impl_ClockOk.calls t109 _ _ t110 t122 _ ?side1 ?side2 A41.out).mono ?_); (case side1 => exact cz ((Kd.R_reads' HO_115001.out).2.2)); (case side2 => exact (Kd.R_reads' HO_115001.out).2.1); rintro e w45 ⟨rfl, hb⟩; refine ⟨_, rfl, ?_⟩; replace HO_109001 := Aside0.mk (Kd.R_below (rz HO_109001.out) hb); replace HO_115001 := Aside0.mk (Kd.R_below (rz HO_115001.out) hb); replace HO_121001 := Aside0.mk (Kd.R_below (rz HO_121001.out) hb); replace BK108 := Aside0.mk (blk_below (kz BK108.out) hb); replace BK114 := Aside0.mk (blk_below (kz BK114.out) hb); replace BK120 := Aside0.mk (blk_below (kz BK120.out) hb); replace HB := Aside0.mk (below_step (w13_0 HB.out GE108.out GE114.out GE120.out) hb); (try clear hb)))
        go_ret
        exact ⟨ze, by repeat (first | (with_reducible first | exact HB.out | apply below_alloc | apply pw_below_drewN | apply below_drew1 | refine below_set ?_ GE108.out | refine below_set ?_ GE114.out | refine below_set ?_ GE120.out) | exact HB.out)⟩
       ·
        rw [if_neg c40] at H; have c40b0 : decide (500 < t106) = false := decide_eq_false c40; clear c40; replace H := Option.bind_eq_some_iff.mp H; obtain ⟨⟨t123, t124, t127, t130⟩, A460, H⟩ := H; replace H : ((impl_ClockTick.f kj36 t109 t110 t106).bind fun bt132 => (laws_FnClockSet.l0 kj36 t105 t127 t130 bt132.2.2.1 bt132.2.2.2 false 0 t109 t110)) = some r := H; have A46 := Aside0.mk A460; clear A460; replace H := Option.bind_eq_some_iff.mp H; obtain ⟨⟨t132, t133, t136, t139⟩, A470, H⟩ := H; replace H : (laws_FnClockSet.l0 kj36 t105 t127 t130 t136 t139 false 0 t109 t110) = some r := H; have A47 := Aside0.mk A470; clear A470; have H' := Aside0.mk H; clear H; have hnb48 := NB114_108.out; have hnc48 := NB108_114.out; have hnb49 := NB114_120.out; have hnc49 := NB120_114.out; have hcz50_0 : wc.cell? ⟨gb114, 0, none⟩ = some (.int .i64 t109) := (blk_cell BK114.out 0).trans rfl; have hcz50_1 : wc.cell? ⟨gb114, 1, none⟩ = some (.slice Ao15 t110.length co15) := (blk_cell BK114.out 1).trans rfl; have hfz50_0 := blk_frozen BK114.out 0; have hfz50_1 := blk_frozen BK114.out 1
        go_wp2_with (first | ((with_reducible refine gate_callee (f := 32) rfl ?_); refine goesL_ (some 71) rfl rfl Try.func32 zk rfl #[.agg #[.int .i64 t109, .slice Ao15 t110.length co15], .int .i64 (wrap64 (t106 - 1))] rfl zm ?_; (with_reducible refine (impl_ClockTick.calls kj36 t109 _ _ t110 (wrap64 (t106 - 1)) t123 t124 t127 t130 _ ?side1 ?side2 A46.out).mono ?_); (case side1 => exact cz ((Kd.R_reads' HO_115001.out).2.2)); (case side2 => exact (Kd.R_reads' HO_115001.out).2.1); rintro e w51 ⟨v125, v128, rfl, ho0, ho1, hb⟩; refine ⟨_, rfl, ?_⟩; have HO126 := Aside0.mk (Kd.R_lower (Kd.R_new' (Kd.R_new' (Kd.R_new' ho0 (Kd.R_lt (rz HO_109001.out))) (Kd.R_lt (rz HO_115001.out))) (Kd.R_lt (rz HO_121001.out))) (below_size (w13_0 HB.out GE108.out GE114.out GE120.out))); replace HO_109001 := Aside0.mk (Kd.R_elder' (rz HO_109001.out) (Kd.R_base ho0) hb); replace HO_115001 := Aside0.mk (Kd.R_elder' (rz HO_115001.out) (Kd.R_base ho0) hb); replace HO_121001 := Aside0.mk (Kd.R_elder' (rz HO_121001.out) (Kd.R_base ho0) hb); have HO129 := Aside0.mk (Kd.R_lower ho1 (below_size (w13_0 HB.out GE108.out GE114.out GE120.out))); replace BK108 := Aside0.mk (blk_below (kz BK108.out) hb); replace BK114 := Aside0.mk (blk_below (kz BK114.out) hb); replace BK120 := Aside0.mk (blk_below (kz BK120.out) hb); replace HB := Aside0.mk (below_step (w13_0 HB.out GE108.out GE114.out GE120.out) hb); (try clear hb); (try clear ho0); (try clear ho1)) | ((with_reducible refine gate_dst (N := 12) rfl ?_); refine box_event ?hg (N := 12) ?hd (cs := #[.int .i64 0, .slice none 0 0]) (t := 26) ?hr ?_; (case hd => rfl); (case hg => rfl); (case hr => first | (go_simp; done) | (go_simp; rfl)); intro gb131 hg w52 hbox hb; replace HO_109001 := Aside0.mk (Kd.R_below (rz HO_109001.out) hb); replace HO_115001 := Aside0.mk (Kd.R_below (rz HO_115001.out) hb); replace HO_121001 := Aside0.mk (Kd.R_below (rz HO_121001.out) hb); replace HO126 := Aside0.mk (Kd.R_below (rz HO126.out) hb); replace HO129 := Aside0.mk (Kd.R_below (rz HO129.out) hb); have BK131 := Aside0.mk (hbox); have GW131 := Aside0.mk ((by rw [hg]; exact (below_size (w13_0 HB.out GE108.out GE114.out GE120.out)) : w.heap.size ≤ gb131)); have GE131 := Aside0.mk ((by rw [hg]; exact (below_size (w13_0 HB.out GE108.out GE114.out GE120.out)) : w.heap.size ≤ gb131)); replace HB := Aside0.mk (below_step (w13_0 HB.out GE108.out GE114.out GE120.out) hb); have NB108_131 := Aside0.mk ((by rw [hg]; exact Nat.ne_of_lt (blk_lt (kz BK108.out)) : gb108 ≠ gb131)); have NB131_108 := Aside0.mk ((by rw [hg]; exact Nat.ne_of_gt (blk_lt (kz BK108.out)) : gb131 ≠ gb108)); replace BK108 := Aside0.mk (blk_below (kz BK108.out) hb); have NB114_131 := Aside0.mk ((by rw [hg]; exact Nat.ne_of_lt (blk_lt (kz BK114.out)) : gb114 ≠ gb131)); have NB131_114 := Aside0.mk ((by rw [hg]; exact Nat.ne_of_gt (blk_lt (kz BK114.out)) : gb131 ≠ gb114)); replace BK114 := Aside0.mk (blk_below (kz BK114.out) hb); have NB120_131 := Aside0.mk ((by rw [hg]; exact Nat.ne_of_lt (blk_lt (kz BK120.out)) : gb120 ≠ gb131)); have NB131_120 := Aside0.mk ((by rw [hg]; exact Nat.ne_of_gt (blk_lt (kz BK120.out)) : gb131 ≠ gb120)); replace BK120 := Aside0.mk (blk_below (kz BK120.out) hb); clear hb hbox hg; have hnb53 := NB131_108.out; have hnc53 := NB108_131.out; have hnb54 := NB131_114.out; have hnc54 := NB114_131.out; have hnb55 := NB131_120.out; have hnc55 := NB120_131.out; have hcz56_0 : w52.cell? ⟨gb131, 0, none⟩ = some (.int .i64 0) := (blk_cell BK131.out 0).trans rfl; have hcz56_1 : w52.cell? ⟨gb131, 1, none⟩ = some (.slice none 0 0) := (blk_cell BK131.out 1).trans rfl; have hfz56_0 := blk_frozen BK131.out 0; have hfz56_1 := blk_frozen BK131.out 1; obtain ⟨Ao57, co57, eo57⟩ := Kd.R_slice HO126.out; subst eo57; have hcz58_0 : w52.cell? ⟨gb114, 0, none⟩ = some (.int .i64 t109) := (blk_cell BK114.out 0).trans rfl; have hcz58_1 : w52.cell? ⟨gb114, 1, none⟩ = some (.slice Ao15 t110.length co15) := (blk_cell BK114.out 1).trans rfl; have hfz58_0 := blk_frozen BK114.out 0; have hfz58_1 := blk_frozen BK114.out 1) | ((with_reducible refine gate_callee (f := 32) rfl ?_); refine goesL_ (some 78) rfl rfl Try.func32 zk rfl #[.agg #[.int .i64 t109, .slice Ao15 t110.length co15], .int .i64 t106] rfl zm ?_; (with_reducible refine (impl_ClockTick.calls kj36 t109 _ _ t110 t106 t132 t133 t136 t139 _ ?side1 ?side2 A47.out).mono ?_); (case side1 => refine (Kd.R_reads' (e := 62) (base := w.heap.size) (ok := fun k_ => ((some k_ ≠ (.slice Ao10 t102.length co10 : Value).ownBlock ∧ some k_ ≠ (.slice Ao22 t116.length co22 : Value).ownBlock) ∧ some k_ ≠ (.slice Ao57 t124.length co57 : Value).ownBlock)) (n := t110.length) (c := co15) ?_).2.2; exact (rz ((Kd.R_mono (Kd.R_far (p := ⟨gb131, 1, none⟩) (Kd.R_far (p := ⟨gb131, 0, none⟩) (Kd.R_types HO_115001.out BK131.out (by decide)) (fun _ hk => hk.2) (.int .i64 t123)) (fun _ hk => hk.2) (.slice Ao57 t124.length co57)) (fun _ h_ => h_.1))))); (case side2 => exact (Kd.R_reads' HO_115001.out).2.1); rintro e w59 ⟨v134, v137, rfl, ho0, ho1, hb⟩; refine ⟨_, rfl, ?_⟩; have HO135 := Aside0.mk (Kd.R_lower (Kd.R_new' (Kd.R_new' (Kd.R_new' (Kd.R_new' ho0 (Kd.R_lt (rz ((Kd.R_mono (Kd.R_far (p := ⟨gb131, 1, none⟩) (Kd.R_far (p := ⟨gb131, 0, none⟩) (Kd.R_types HO_109001.out BK131.out (by decide)) (fun _ hk => hk.2) (.int .i64 t123)) (fun _ hk => hk.2) (.slice Ao57 t124.length co57)) (fun _ h_ => h_.1)))))) (Kd.R_lt (rz ((Kd.R_mono (Kd.R_far (p := ⟨gb131, 1, none⟩) (Kd.R_far (p := ⟨gb131, 0, none⟩) (Kd.R_types HO_115001.out BK131.out (by decide)) (fun _ hk => hk.2) (.int .i64 t123)) (fun _ hk => hk.2) (.slice Ao57 t124.length co57)) (fun _ h_ => h_.1)))))) (Kd.R_lt (rz ((Kd.R_mono (Kd.R_far (p := ⟨gb131, 1, none⟩) (Kd.R_far (p := ⟨gb131, 0, none⟩) (Kd.R_types HO_121001.out BK131.out (by decide)) (fun _ hk => hk.2) (.int .i64 t123)) (fun _ hk => hk.2) (.slice Ao57 t124.length co57)) (fun _ h_ => h_.1)))))) (Kd.R_lt (rz ((Kd.R_mono (Kd.R_far (p := ⟨gb131, 1, none⟩) (Kd.R_far (p := ⟨gb131, 0, none⟩) (Kd.R_types HO126.out BK131.out (by decide)) (fun _ hk => hk.2) (.int .i64 t123)) (fun _ hk => hk.2) (.slice Ao57 t124.length co57)) (fun _ h_ => h_.1)))))) (below_size (w13_1 HB.out GE108.out GE114.out GE120.out GE131.out))); replace HO_109001 := Aside0.mk (Kd.R_elder' (rz ((Kd.R_mono (Kd.R_far (p := ⟨gb131, 1, none⟩) (Kd.R_far (p := ⟨gb131, 0, none⟩) (Kd.R_types HO_109001.out BK131.out (by decide)) (fun _ hk => hk.2) (.int .i64 t123)) (fun _ hk => hk.2) (.slice Ao57 t124.length co57)) (fun _ h_ => h_.1)))) (Kd.R_base ho0) hb); replace HO_115001 := Aside0.mk (Kd.R_elder' (rz ((Kd.R_mono (Kd.R_far (p := ⟨gb131, 1, none⟩) (Kd.R_far (p := ⟨gb131, 0, none⟩) (Kd.R_types HO_115001.out BK131.out (by decide)) (fun _ hk => hk.2) (.int .i64 t123)) (fun _ hk => hk.2) (.slice Ao57 t124.length co57)) (fun _ h_ => h_.1)))) (Kd.R_base ho0) hb); replace HO_121001 := Aside0.mk (Kd.R_elder' (rz ((Kd.R_mono (Kd.R_far (p := ⟨gb131, 1, none⟩) (Kd.R_far (p := ⟨gb131, 0, none⟩) (Kd.R_types HO_121001.out BK131.out (by decide)) (fun _ hk => hk.2) (.int .i64 t123)) (fun _ hk => hk.2) (.slice Ao57 t124.length co57)) (fun _ h_ => h_.1)))) (Kd.R_base ho0) hb); replace HO126 := Aside0.mk (Kd.R_elder' (rz ((Kd.R_mono (Kd.R_far (p := ⟨gb131, 1, none⟩) (Kd.R_far (p := ⟨gb131, 0, none⟩) (Kd.R_types HO126.out BK131.out (by decide)) (fun _ hk => hk.2) (.int .i64 t123)) (fun _ hk => hk.2) (.slice Ao57 t124.length co57)) (fun _ h_ => h_.1)))) (Kd.R_base ho0) hb); have HO138 := Aside0.mk (Kd.R_lower (Kd.R_new' ho1 (Kd.R_lt (rz ((Kd.R_mono (Kd.R_far (p := ⟨gb131, 1, none⟩) (Kd.R_far (p := ⟨gb131, 0, none⟩) (Kd.R_types HO129.out BK131.out (by decide)) (fun _ hk => hk.2) (.int .i64 t123)) (fun _ hk => hk.2) (.slice Ao57 t124.length co57)) (fun _ h_ => h_.1)))))) (below_size (w13_1 HB.out GE108.out GE114.out GE120.out GE131.out))); replace HO129 := Aside0.mk (Kd.R_elder' (rz ((Kd.R_mono (Kd.R_far (p := ⟨gb131, 1, none⟩) (Kd.R_far (p := ⟨gb131, 0, none⟩) (Kd.R_types HO129.out BK131.out (by decide)) (fun _ hk => hk.2) (.int .i64 t123)) (fun _ hk => hk.2) (.slice Ao57 t124.length co57)) (fun _ h_ => h_.1)))) (Kd.R_base ho1) hb); replace BK108 := Aside0.mk (blk_below (g := gb108) (o := .cells #[.int .i64 t101, .slice Ao10 t102.length co10] 26 (0, 0)) (by (with_reducible repeat (first | refine blk_drewN ?_ _ | refine blk_drew ?_ | refine blk_alloc ?_ _)); refine blk_far ?_ NB108_131.out _; (with_reducible repeat (first | refine blk_drewN ?_ _ | refine blk_drew ?_ | refine blk_alloc ?_ _)); refine blk_far ?_ NB108_131.out _; (with_reducible repeat (first | refine blk_drewN ?_ _ | refine blk_drew ?_ | refine blk_alloc ?_ _)); exact BK108.out) hb); replace BK114 := Aside0.mk (blk_below (g := gb114) (o := .cells #[.int .i64 t109, .slice Ao15 t110.length co15] 26 (0, 0)) (by (with_reducible repeat (first | refine blk_drewN ?_ _ | refine blk_drew ?_ | refine blk_alloc ?_ _)); refine blk_far ?_ NB114_131.out _; (with_reducible repeat (first | refine blk_drewN ?_ _ | refine blk_drew ?_ | refine blk_alloc ?_ _)); refine blk_far ?_ NB114_131.out _; (with_reducible repeat (first | refine blk_drewN ?_ _ | refine blk_drew ?_ | refine blk_alloc ?_ _)); exact BK114.out) hb); replace BK120 := Aside0.mk (blk_below (g := gb120) (o := .cells #[.int .i64 t115, .slice Ao22 t116.length co22] 26 (0, 0)) (by (with_reducible repeat (first | refine blk_drewN ?_ _ | refine blk_drew ?_ | refine blk_alloc ?_ _)); refine blk_far ?_ NB120_131.out _; (with_reducible repeat (first | refine blk_drewN ?_ _ | refine blk_drew ?_ | refine blk_alloc ?_ _)); refine blk_far ?_ NB120_131.out _; (with_reducible repeat (first | refine blk_drewN ?_ _ | refine blk_drew ?_ | refine blk_alloc ?_ _)); exact BK120.out) hb); replace BK131 := Aside0.mk (blk_below (g := gb131) (o := .cells #[.int .i64 t123, .slice Ao57 t124.length co57] 26 (0, 0)) (by (with_reducible repeat (first | refine blk_drewN ?_ _ | refine blk_drew ?_ | refine blk_alloc ?_ _)); refine blk_put (cs := #[.int .i64 t123, .slice none 0 0]) ?_ 1 _ rfl; (with_reducible repeat (first | refine blk_drewN ?_ _ | refine blk_drew ?_ | refine blk_alloc ?_ _)); refine blk_put (cs := #[.int .i64 0, .slice none 0 0]) ?_ 0 _ rfl; (with_reducible repeat (first | refine blk_drewN ?_ _ | refine blk_drew ?_ | refine blk_alloc ?_ _)); exact BK131.out) hb); replace HB := Aside0.mk (below_step (w13_1 HB.out GE108.out GE114.out GE120.out GE131.out) hb); (try clear hb); (try clear ho0); (try clear ho1)) | ((with_reducible refine gate_dst (N := 15) rfl ?_); refine box_event ?hg (N := 15) ?hd (cs := #[.int .i64 0, .slice none 0 0]) (t := 26) ?hr ?_; (case hd => rfl); (case hg => rfl); (case hr => first | (go_simp; done) | (go_simp; rfl)); intro gb140 hg w60 hbox hb; replace HO_109001 := Aside0.mk (Kd.R_below (rz HO_109001.out) hb); replace HO_115001 := Aside0.mk (Kd.R_below (rz HO_115001.out) hb); replace HO_121001 := Aside0.mk (Kd.R_below (rz HO_121001.out) hb); replace HO126 := Aside0.mk (Kd.R_below (rz HO126.out) hb); replace HO129 := Aside0.mk (Kd.R_below (rz HO129.out) hb); replace HO135 := Aside0.mk (Kd.R_below (rz HO135.out) hb); replace HO138 := Aside0.mk (Kd.R_below (rz HO138.out) hb); have BK140 := Aside0.mk (hbox); have GW140 := Aside0.mk ((by rw [hg]; exact (below_size (w13_1 HB.out GE108.out GE114.out GE120.out GE131.out)) : w.heap.size ≤ gb140)); have GE140 := Aside0.mk ((by rw [hg]; exact (below_size (w13_1 HB.out GE108.out GE114.out GE120.out GE131.out)) : w.heap.size ≤ gb140)); replace HB := Aside0.mk (below_step (w13_1 HB.out GE108.out GE114.out GE120.out GE131.out) hb); have NB108_140 := Aside0.mk ((by rw [hg]; exact Nat.ne_of_lt (blk_lt (kz BK108.out)) : gb108 ≠ gb140)); have NB140_108 := Aside0.mk ((by rw [hg]; exact Nat.ne_of_gt (blk_lt (kz BK108.out)) : gb140 ≠ gb108)); replace BK108 := Aside0.mk (blk_below (kz BK108.out) hb); have NB114_140 := Aside0.mk ((by rw [hg]; exact Nat.ne_of_lt (blk_lt (kz BK114.out)) : gb114 ≠ gb140)); have NB140_114 := Aside0.mk ((by rw [hg]; exact Nat.ne_of_gt (blk_lt (kz BK114.out)) : gb140 ≠ gb114)); replace BK114 := Aside0.mk (blk_below (kz BK114.out) hb); have NB120_140 := Aside0.mk ((by rw [hg]; exact Nat.ne_of_lt (blk_lt (kz BK120.out)) : gb120 ≠ gb140)); have NB140_120 := Aside0.mk ((by rw [hg]; exact Nat.ne_of_gt (blk_lt (kz BK120.out)) : gb140 ≠ gb120)); replace BK120 := Aside0.mk (blk_below (kz BK120.out) hb); have NB131_140 := Aside0.mk ((by rw [hg]; exact Nat.ne_of_lt (blk_lt (kz BK131.out)) : gb131 ≠ gb140)); have NB140_131 := Aside0.mk ((by rw [hg]; exact Nat.ne_of_gt (blk_lt (kz BK131.out)) : gb140 ≠ gb131)); replace BK131 := Aside0.mk (blk_below (kz BK131.out) hb); clear hb hbox hg; have hnb61 := NB140_108.out; have hnc61 := NB108_140.out; have hnb62 := NB140_114.out; have hnc62 := NB114_140.out; have hnb63 := NB140_120.out; have hnc63 := NB120_140.out; have hnb64 := NB140_131.out; have hnc64 := NB131_140.out; have hcz65_0 : w60.cell? ⟨gb140, 0, none⟩ = some (.int .i64 0) := (blk_cell BK140.out 0).trans rfl; have hcz65_1 : w60.cell? ⟨gb140, 1, none⟩ = some (.slice none 0 0) := (blk_cell BK140.out 1).trans rfl; have hfz65_0 := blk_frozen BK140.out 0; have hfz65_1 := blk_frozen BK140.out 1; obtain ⟨Ao66, co66, eo66⟩ := Kd.R_slice HO135.out; subst eo66))
        go_loopg [18, 19] kj36 (fun kq v18 v19 w' => ∃ (x18_3 : Bool) (x19_3 : Int), v18 = .bool x18_3 ∧ v19 = .int .i64 x19_3 ∧ Aside0 (laws_FnClockSet.l0 kq t105 t127 t130 t136 t139 x18_3 x19_3 t109 t110 = some r) ∧ Aside0 (kq ≤ kj36) ∧ Aside0 (Kd.R (Kd.int .i64) 3 w' w.heap.size (fun k_ => some k_ ≠ (v137 : Value).ownBlock) v128 t127) ∧ Aside0 (Kd.R (Kd.int .i64) 3 w' w.heap.size (fun k_ => some k_ ≠ (v128 : Value).ownBlock) v137 t136) ∧ Aside0 (Kd.R k62 62 w' w.heap.size (fun k_ => some k_ ≠ ((.slice Ao15 t110.length co15) : Value).ownBlock ∧ some k_ ≠ ((.slice Ao22 t116.length co22) : Value).ownBlock ∧ some k_ ≠ ((.slice Ao57 t124.length co57) : Value).ownBlock ∧ some k_ ≠ ((.slice Ao66 t133.length co66) : Value).ownBlock) (.slice Ao10 t102.length co10) t102) ∧ Aside0 (Kd.R k62 62 w' w.heap.size (fun k_ => some k_ ≠ ((.slice Ao10 t102.length co10) : Value).ownBlock ∧ some k_ ≠ ((.slice Ao22 t116.length co22) : Value).ownBlock ∧ some k_ ≠ ((.slice Ao57 t124.length co57) : Value).ownBlock ∧ some k_ ≠ ((.slice Ao66 t133.length co66) : Value).ownBlock) (.slice Ao15 t110.length co15) t110) ∧ Aside0 (Kd.R k62 62 w' w.heap.size (fun k_ => some k_ ≠ ((.slice Ao10 t102.length co10) : Value).ownBlock ∧ some k_ ≠ ((.slice Ao15 t110.length co15) : Value).ownBlock ∧ some k_ ≠ ((.slice Ao57 t124.length co57) : Value).ownBlock ∧ some k_ ≠ ((.slice Ao66 t133.length co66) : Value).ownBlock) (.slice Ao22 t116.length co22) t116) ∧ Aside0 (Kd.R k62 62 w' w.heap.size (fun k_ => some k_ ≠ ((.slice Ao10 t102.length co10) : Value).ownBlock ∧ some k_ ≠ ((.slice Ao15 t110.length co15) : Value).ownBlock ∧ some k_ ≠ ((.slice Ao22 t116.length co22) : Value).ownBlock ∧ some k_ ≠ ((.slice Ao66 t133.length co66) : Value).ownBlock) (.slice Ao57 t124.length co57) t124) ∧ Aside0 (Kd.R k62 62 w' w.heap.size (fun k_ => some k_ ≠ ((.slice Ao10 t102.length co10) : Value).ownBlock ∧ some k_ ≠ ((.slice Ao15 t110.length co15) : Value).ownBlock ∧ some k_ ≠ ((.slice Ao22 t116.length co22) : Value).ownBlock ∧ some k_ ≠ ((.slice Ao57 t124.length co57) : Value).ownBlock) (.slice Ao66 t133.length co66) t133) ∧ Aside0 (w'.heap[gb108]? = some (.cells #[.int .i64 t101, (.slice Ao10 t102.length co10)] 26 (0, 0))) ∧ Aside0 (w'.heap[gb114]? = some (.cells #[.int .i64 t109, (.slice Ao15 t110.length co15)] 26 (0, 0))) ∧ Aside0 (w'.heap[gb120]? = some (.cells #[.int .i64 t115, (.slice Ao22 t116.length co22)] 26 (0, 0))) ∧ Aside0 (w'.heap[gb131]? = some (.cells #[.int .i64 t123, (.slice Ao57 t124.length co57)] 26 (0, 0))) ∧ Aside0 (w'.heap[gb140]? = some (.cells #[.int .i64 t132, (.slice Ao66 t133.length co66)] 26 (0, 0))) ∧ Aside0 (Below w.heap.size w w'))
        case atStart => exact ⟨(false), (0), zr, zr, H', ⟨Nat.le_refl _⟩, ⟨rz (Kd.R_mono (Kd.R_far (p := ⟨gb140, 1, none⟩) (Kd.R_far (p := ⟨gb140, 0, none⟩) (Kd.R_types HO129.out BK140.out (by decide)) (fun _ hk => hk.2) (.int .i64 t132)) (fun _ hk => hk.2) (.slice Ao66 t133.length co66)) (fun _ hk => hk.1.2))⟩, ⟨rz (Kd.R_mono (Kd.R_far (p := ⟨gb140, 1, none⟩) (Kd.R_far (p := ⟨gb140, 0, none⟩) (Kd.R_types HO138.out BK140.out (by decide)) (fun _ hk => hk.2) (.int .i64 t132)) (fun _ hk => hk.2) (.slice Ao66 t133.length co66)) (fun _ hk => hk.1.2))⟩, ⟨rz (Kd.R_mono (Kd.R_far (p := ⟨gb140, 1, none⟩) (Kd.R_far (p := ⟨gb140, 0, none⟩) (Kd.R_types HO_109001.out BK140.out (by decide)) (fun _ hk => hk.2) (.int .i64 t132)) (fun _ hk => hk.2) (.slice Ao66 t133.length co66)) (fun _ hk => ⟨hk.1.1.1.1, ⟨hk.1.1.1.2, ⟨hk.1.1.2, hk.1.2⟩⟩⟩))⟩, ⟨rz (Kd.R_mono (Kd.R_far (p := ⟨gb140, 1, none⟩) (Kd.R_far (p := ⟨gb140, 0, none⟩) (Kd.R_types HO_115001.out BK140.out (by decide)) (fun _ hk => hk.2) (.int .i64 t132)) (fun _ hk => hk.2) (.slice Ao66 t133.length co66)) (fun _ hk => ⟨hk.1.1.1.1, ⟨hk.1.1.1.2, ⟨hk.1.1.2, hk.1.2⟩⟩⟩))⟩, ⟨rz (Kd.R_mono (Kd.R_far (p := ⟨gb140, 1, none⟩) (Kd.R_far (p := ⟨gb140, 0, none⟩) (Kd.R_types HO_121001.out BK140.out (by decide)) (fun _ hk => hk.2) (.int .i64 t132)) (fun _ hk => hk.2) (.slice Ao66 t133.length co66)) (fun _ hk => ⟨hk.1.1.1.1, ⟨hk.1.1.1.2, ⟨hk.1.1.2, hk.1.2⟩⟩⟩))⟩, ⟨rz (Kd.R_mono (Kd.R_far (p := ⟨gb140, 1, none⟩) (Kd.R_far (p := ⟨gb140, 0, none⟩) (Kd.R_types HO126.out BK140.out (by decide)) (fun _ hk => hk.2) (.int .i64 t132)) (fun _ hk => hk.2) (.slice Ao66 t133.length co66)) (fun _ hk => ⟨hk.1.1.1.1.2, ⟨hk.1.1.1.2, ⟨hk.1.1.2, hk.1.2⟩⟩⟩))⟩, ⟨rz (Kd.R_mono (Kd.R_far (p := ⟨gb140, 1, none⟩) (Kd.R_far (p := ⟨gb140, 0, none⟩) (Kd.R_types HO135.out BK140.out (by decide)) (fun _ hk => hk.2) (.int .i64 t132)) (fun _ hk => hk.2) (.slice Ao66 t133.length co66)) (fun _ hk => ⟨hk.1.1.1.1.2, ⟨hk.1.1.1.2, ⟨hk.1.1.2, hk.1.2⟩⟩⟩))⟩, ⟨by (with_reducible repeat (first | refine blk_drewN ?_ _ | refine blk_drew ?_ | refine blk_alloc ?_ _)); refine blk_far ?_ NB108_140.out _; (with_reducible repeat (first | refine blk_drewN ?_ _ | refine blk_drew ?_ | refine blk_alloc ?_ _)); refine blk_far ?_ NB108_140.out _; (with_reducible repeat (first | refine blk_drewN ?_ _ | refine blk_drew ?_ | refine blk_alloc ?_ _)); exact BK108.out⟩, ⟨by (with_reducible repeat (first | refine blk_drewN ?_ _ | refine blk_drew ?_ | refine blk_alloc ?_ _)); refine blk_far ?_ NB114_140.out _; (with_reducible repeat (first | refine blk_drewN ?_ _ | refine blk_drew ?_ | refine blk_alloc ?_ _)); refine blk_far ?_ NB114_140.out _; (with_reducible repeat (first | refine blk_drewN ?_ _ | refine blk_drew ?_ | refine blk_alloc ?_ _)); exact BK114.out⟩, ⟨by (with_reducible repeat (first | refine blk_drewN ?_ _ | refine blk_drew ?_ | refine blk_alloc ?_ _)); refine blk_far ?_ NB120_140.out _; (with_reducible repeat (first | refine blk_drewN ?_ _ | refine blk_drew ?_ | refine blk_alloc ?_ _)); refine blk_far ?_ NB120_140.out _; (with_reducible repeat (first | refine blk_drewN ?_ _ | refine blk_drew ?_ | refine blk_alloc ?_ _)); exact BK120.out⟩, ⟨by (with_reducible repeat (first | refine blk_drewN ?_ _ | refine blk_drew ?_ | refine blk_alloc ?_ _)); refine blk_far ?_ NB131_140.out _; (with_reducible repeat (first | refine blk_drewN ?_ _ | refine blk_drew ?_ | refine blk_alloc ?_ _)); refine blk_far ?_ NB131_140.out _; (with_reducible repeat (first | refine blk_drewN ?_ _ | refine blk_drew ?_ | refine blk_alloc ?_ _)); exact BK131.out⟩, ⟨by (with_reducible repeat (first | refine blk_drewN ?_ _ | refine blk_drew ?_ | refine blk_alloc ?_ _)); refine blk_put (cs := #[.int .i64 t132, .slice none 0 0]) ?_ 1 _ rfl; (with_reducible repeat (first | refine blk_drewN ?_ _ | refine blk_drew ?_ | refine blk_alloc ?_ _)); refine blk_put (cs := #[.int .i64 0, .slice none 0 0]) ?_ 0 _ rfl; (with_reducible repeat (first | refine blk_drewN ?_ _ | refine blk_drew ?_ | refine blk_alloc ?_ _)); exact BK140.out⟩, ⟨by repeat (first | (with_reducible first | exact HB.out | apply below_alloc | apply pw_below_drewN | apply below_drew1 | refine below_set ?_ GE108.out | refine below_set ?_ GE114.out | refine below_set ?_ GE120.out | refine below_set ?_ GE131.out | refine below_set ?_ GE140.out) | exact HB.out)⟩⟩
        case round =>
         clear H'
         try clear c1
         try clear c2
         try clear c2b0
         try clear c2b1
         try clear p2
         try clear c3
         try clear c4
         try clear c5
         try clear c6
         try clear p6
         try clear c13
         try clear c19
         try clear c20
         try clear c21
         try clear c24
         try clear c25
         try clear c26
         try clear c28
         try clear c31
         try clear c32
         try clear c34
         try clear c38
         try clear c39
         try clear c40
         try clear c40b0
         try clear c42
         try clear c43
         try clear c48
         try clear c49
         try clear c53
         try clear c54
         try clear c55
         try clear c61
         try clear c62
         try clear c63
         try clear c64
         try clear p64
         try clear hcz14_0
         try clear hcz14_1
         try clear hcz16_0
         try clear hcz16_1
         try clear hcz21_0
         try clear hcz21_1
         try clear hcz27_0
         try clear hcz27_1
         try clear hcz29_0
         try clear hcz29_1
         try clear hcz33_0
         try clear hcz33_1
         try clear hcz35_0
         try clear hcz35_1
         try clear hcz44_0
         try clear hcz44_1
         try clear hcz50_0
         try clear hcz50_1
         try clear hcz56_0
         try clear hcz56_1
         try clear hcz58_0
         try clear hcz58_1
         try clear hcz65_0
         try clear hcz65_1
         try clear hcz9_0
         try clear hcz9_1
         try clear hfz14_0
         try clear hfz14_1
         try clear hfz16_0
         try clear hfz16_1
         try clear hfz21_0
         try clear hfz21_1
         try clear hfz27_0
         try clear hfz27_1
         try clear hfz29_0
         try clear hfz29_1
         try clear hfz33_0
         try clear hfz33_1
         try clear hfz35_0
         try clear hfz35_1
         try clear hfz44_0
         try clear hfz44_1
         try clear hfz50_0
         try clear hfz50_1
         try clear hfz56_0
         try clear hfz56_1
         try clear hfz58_0
         try clear hfz58_1
         try clear hfz65_0
         try clear hfz65_1
         try clear hfz9_0
         try clear hfz9_1
         try clear p2
         obtain ⟨x18_3, x19_3, rfl, rfl, HA, HK3, HO_13, HO_16, HO_109001, HO_115001, HO_121001, HO_132001, HO_141001, BK108, BK114, BK120, BK131, BK140, HB⟩ := hrel
         cases gk with
         | zero => exact absurd HA.out (by simp [laws_FnClockSet.l0])
         | succ k3 =>
          have H := HA.out; clear HA; simp only [laws_FnClockSet.l0] at H
          by_cases c67 : x19_3 < (t127.length : Int)
          ·
           rw [if_pos c67] at H; have c67b0 : decide (x19_3 < (t127.length : Int)) = true := decide_eq_true c67; clear c67
           by_cases c68 : x18_3 = true
           ·
            subst c68; rw [if_pos rfl] at H; have H' := Aside0.mk H; clear H; obtain ⟨Ao69, co69, eo69⟩ := Kd.R_slice HO_13.out; subst eo69
            go_wp2
            go_roundg k3
            case measure => have := HJ5.out; have := HJ36.out; have := HK3.out; omega
            case rel => exact ⟨(true), (wrap64 (x19_3 + 1)), zr, zr, H', ⟨by have := HJ5.out; have := HJ36.out; have := HK3.out; omega⟩, ⟨rz (HO_13.out)⟩, ⟨rz (HO_16.out)⟩, ⟨rz (HO_109001.out)⟩, ⟨rz (HO_115001.out)⟩, ⟨rz (HO_121001.out)⟩, ⟨rz (HO_132001.out)⟩, ⟨rz (HO_141001.out)⟩, ⟨kz (BK108.out)⟩, ⟨kz (BK114.out)⟩, ⟨kz (BK120.out)⟩, ⟨kz (BK131.out)⟩, ⟨kz (BK140.out)⟩, ⟨by repeat (first | (with_reducible first | exact HB.out | apply below_alloc | apply pw_below_drewN | apply below_drew1 | refine below_set ?_ GE108.out | refine below_set ?_ GE114.out | refine below_set ?_ GE120.out | refine below_set ?_ GE131.out | refine below_set ?_ GE140.out) | exact HB.out)⟩⟩
           ·
            replace c68 := Bool.eq_false_iff.mpr c68; subst c68; rw [if_neg nf_] at H
            by_cases c70 : 0 ≤ x19_3
            ·
             rw [if_pos c70] at H; have c70b0 : decide (0 ≤ x19_3) = true := decide_eq_true c70; clear c70; have H' := Aside0.mk H; clear H; obtain ⟨Ao71, co71, eo71⟩ := Kd.R_slice HO_13.out; subst eo71; have p141 : 0 ≤ (x19_3 : Int) := of_decide_eq_true zs; have q141 : x19_3 < (t127.length : Int) := of_decide_eq_true zs; obtain ⟨ad141, e141, hx141_0⟩ := Kd.at_int (Kd.R_reads' HO_13.out).2.2 x19_3 p141 q141; cases e141; replace p141 := eq_true p141; replace q141 := eq_true q141
             go_wp2
             go_roundg k3
             case measure => have := HJ5.out; have := HJ36.out; have := HK3.out; omega
             case rel => exact ⟨(((rd t127 x19_3) == t105)), (wrap64 (x19_3 + 1)), zr, zr, H', ⟨by have := HJ5.out; have := HJ36.out; have := HK3.out; omega⟩, ⟨rz (HO_13.out)⟩, ⟨rz (HO_16.out)⟩, ⟨rz (HO_109001.out)⟩, ⟨rz (HO_115001.out)⟩, ⟨rz (HO_121001.out)⟩, ⟨rz (HO_132001.out)⟩, ⟨rz (HO_141001.out)⟩, ⟨kz (BK108.out)⟩, ⟨kz (BK114.out)⟩, ⟨kz (BK120.out)⟩, ⟨kz (BK131.out)⟩, ⟨kz (BK140.out)⟩, ⟨by repeat (first | (with_reducible first | exact HB.out | apply below_alloc | apply pw_below_drewN | apply below_drew1 | refine below_set ?_ GE108.out | refine below_set ?_ GE114.out | refine below_set ?_ GE120.out | refine below_set ?_ GE131.out | refine below_set ?_ GE140.out) | exact HB.out)⟩⟩
            ·
             rw [if_neg c70] at H
             exact absurd H (by simp)
          ·
           rw [if_neg c67] at H; have c67b0 : decide (x19_3 < (t127.length : Int)) = false := decide_eq_false c67; clear c67; have H' := Aside0.mk H; clear H; obtain ⟨Ao72, co72, eo72⟩ := Kd.R_slice HO_13.out; subst eo72
           go_wp2
           go_loopg [20, 21] k3 (fun kq v20 v21 w' => ∃ (x20_4 : Bool) (x21_4 : Int), v20 = .bool x20_4 ∧ v21 = .int .i64 x21_4 ∧ Aside0 (laws_FnClockSet.l1 kq t105 t130 t136 t139 x18_3 x20_4 x21_4 t109 t110 = some r) ∧ Aside0 (kq ≤ k3) ∧ Aside0 (Kd.R (Kd.int .i64) 3 w' w.heap.size (fun _ => True) v137 t136) ∧ Aside0 (Kd.R k62 62 w' w.heap.size (fun k_ => some k_ ≠ ((.slice Ao15 t110.length co15) : Value).ownBlock ∧ some k_ ≠ ((.slice Ao22 t116.length co22) : Value).ownBlock ∧ some k_ ≠ ((.slice Ao57 t124.length co57) : Value).ownBlock ∧ some k_ ≠ ((.slice Ao66 t133.length co66) : Value).ownBlock) (.slice Ao10 t102.length co10) t102) ∧ Aside0 (Kd.R k62 62 w' w.heap.size (fun k_ => some k_ ≠ ((.slice Ao10 t102.length co10) : Value).ownBlock ∧ some k_ ≠ ((.slice Ao22 t116.length co22) : Value).ownBlock ∧ some k_ ≠ ((.slice Ao57 t124.length co57) : Value).ownBlock ∧ some k_ ≠ ((.slice Ao66 t133.length co66) : Value).ownBlock) (.slice Ao15 t110.length co15) t110) ∧ Aside0 (Kd.R k62 62 w' w.heap.size (fun k_ => some k_ ≠ ((.slice Ao10 t102.length co10) : Value).ownBlock ∧ some k_ ≠ ((.slice Ao15 t110.length co15) : Value).ownBlock ∧ some k_ ≠ ((.slice Ao57 t124.length co57) : Value).ownBlock ∧ some k_ ≠ ((.slice Ao66 t133.length co66) : Value).ownBlock) (.slice Ao22 t116.length co22) t116) ∧ Aside0 (Kd.R k62 62 w' w.heap.size (fun k_ => some k_ ≠ ((.slice Ao10 t102.length co10) : Value).ownBlock ∧ some k_ ≠ ((.slice Ao15 t110.length co15) : Value).ownBlock ∧ some k_ ≠ ((.slice Ao22 t116.length co22) : Value).ownBlock ∧ some k_ ≠ ((.slice Ao66 t133.length co66) : Value).ownBlock) (.slice Ao57 t124.length co57) t124) ∧ Aside0 (Kd.R k62 62 w' w.heap.size (fun k_ => some k_ ≠ ((.slice Ao10 t102.length co10) : Value).ownBlock ∧ some k_ ≠ ((.slice Ao15 t110.length co15) : Value).ownBlock ∧ some k_ ≠ ((.slice Ao22 t116.length co22) : Value).ownBlock ∧ some k_ ≠ ((.slice Ao57 t124.length co57) : Value).ownBlock) (.slice Ao66 t133.length co66) t133) ∧ Aside0 (w'.heap[gb108]? = some (.cells #[.int .i64 t101, (.slice Ao10 t102.length co10)] 26 (0, 0))) ∧ Aside0 (w'.heap[gb114]? = some (.cells #[.int .i64 t109, (.slice Ao15 t110.length co15)] 26 (0, 0))) ∧ Aside0 (w'.heap[gb120]? = some (.cells #[.int .i64 t115, (.slice Ao22 t116.length co22)] 26 (0, 0))) ∧ Aside0 (w'.heap[gb131]? = some (.cells #[.int .i64 t123, (.slice Ao57 t124.length co57)] 26 (0, 0))) ∧ Aside0 (w'.heap[gb140]? = some (.cells #[.int .i64 t132, (.slice Ao66 t133.length co66)] 26 (0, 0))) ∧ Aside0 (Below w.heap.size w w'))
           case atStart => exact ⟨(false), (0), zr, zr, H', ⟨Nat.le_refl _⟩, ⟨rz (Kd.R_mono HO_16.out (fun _ hk => trivial))⟩, ⟨rz (HO_109001.out)⟩, ⟨rz (HO_115001.out)⟩, ⟨rz (HO_121001.out)⟩, ⟨rz (HO_132001.out)⟩, ⟨rz (HO_141001.out)⟩, ⟨kz (BK108.out)⟩, ⟨kz (BK114.out)⟩, ⟨kz (BK120.out)⟩, ⟨kz (BK131.out)⟩, ⟨kz (BK140.out)⟩, ⟨by repeat (first | (with_reducible first | exact HB.out | apply below_alloc | apply pw_below_drewN | apply below_drew1 | refine below_set ?_ GE108.out | refine below_set ?_ GE114.out | refine below_set ?_ GE120.out | refine below_set ?_ GE131.out | refine below_set ?_ GE140.out) | exact HB.out)⟩⟩
           case round =>
            clear H'
            try clear c1
            try clear p1
            try clear q1
            try clear hx1
            try clear c2
            try clear c2b0
            try clear c2b1
            try clear p2
            try clear c3
            try clear c4
            try clear c5
            try clear c6
            try clear p6
            try clear c7
            try clear c13
            try clear p14
            try clear q14
            try clear hx14
            try clear c19
            try clear c20
            try clear c21
            try clear c24
            try clear c25
            try clear c26
            try clear c28
            try clear c31
            try clear c32
            try clear c34
            try clear c38
            try clear c39
            try clear c40
            try clear c40b0
            try clear c42
            try clear c43
            try clear c48
            try clear c49
            try clear c53
            try clear c54
            try clear c55
            try clear c61
            try clear c62
            try clear c63
            try clear c64
            try clear p64
            try clear c67
            try clear c67b0
            try clear c68
            try clear c70
            try clear c70b0
            try clear hcz14_0
            try clear hcz14_1
            try clear hcz16_0
            try clear hcz16_1
            try clear hcz21_0
            try clear hcz21_1
            try clear hcz27_0
            try clear hcz27_1
            try clear hcz29_0
            try clear hcz29_1
            try clear hcz33_0
            try clear hcz33_1
            try clear hcz35_0
            try clear hcz35_1
            try clear hcz44_0
            try clear hcz44_1
            try clear hcz50_0
            try clear hcz50_1
            try clear hcz56_0
            try clear hcz56_1
            try clear hcz58_0
            try clear hcz58_1
            try clear hcz65_0
            try clear hcz65_1
            try clear hcz9_0
            try clear hcz9_1
            try clear hfz14_0
            try clear hfz14_1
            try clear hfz16_0
            try clear hfz16_1
            try clear hfz21_0
            try clear hfz21_1
            try clear hfz27_0
            try clear hfz27_1
            try clear hfz29_0
            try clear hfz29_1
            try clear hfz33_0
            try clear hfz33_1
            try clear hfz35_0
            try clear hfz35_1
            try clear hfz44_0
            try clear hfz44_1
            try clear hfz50_0
            try clear hfz50_1
            try clear hfz56_0
            try clear hfz56_1
            try clear hfz58_0
            try clear hfz58_1
            try clear hfz65_0
            try clear hfz65_1
            try clear hfz9_0
            try clear hfz9_1
            try clear hx141_0
            try clear p141
            try clear p2
            try clear p6
            try clear p64
            try clear q141
            obtain ⟨x20_4, x21_4, rfl, rfl, HA, HK4, HO_16, HO_109001, HO_115001, HO_121001, HO_132001, HO_141001, BK108, BK114, BK120, BK131, BK140, HB⟩ := hrel
            cases gk with
            | zero => exact absurd HA.out (by simp [laws_FnClockSet.l1])
            | succ k4 =>
             have H := HA.out; clear HA; simp only [laws_FnClockSet.l1] at H
             by_cases c73 : x21_4 < (t136.length : Int)
             ·
              rw [if_pos c73] at H; have c73b0 : decide (x21_4 < (t136.length : Int)) = true := decide_eq_true c73; clear c73
              by_cases c74 : x20_4 = true
              ·
               subst c74; rw [if_pos rfl] at H; have H' := Aside0.mk H; clear H; obtain ⟨Ao75, co75, eo75⟩ := Kd.R_slice HO_16.out; subst eo75
               go_wp2
               go_roundg k4
               case measure => have := HJ5.out; have := HJ36.out; have := HK3.out; have := HK4.out; omega
               case rel => exact ⟨(true), (wrap64 (x21_4 + 1)), zr, zr, H', ⟨by have := HJ5.out; have := HJ36.out; have := HK3.out; have := HK4.out; omega⟩, ⟨rz (HO_16.out)⟩, ⟨rz (HO_109001.out)⟩, ⟨rz (HO_115001.out)⟩, ⟨rz (HO_121001.out)⟩, ⟨rz (HO_132001.out)⟩, ⟨rz (HO_141001.out)⟩, ⟨kz (BK108.out)⟩, ⟨kz (BK114.out)⟩, ⟨kz (BK120.out)⟩, ⟨kz (BK131.out)⟩, ⟨kz (BK140.out)⟩, ⟨by repeat (first | (with_reducible first | exact HB.out | apply below_alloc | apply pw_below_drewN | apply below_drew1 | refine below_set ?_ GE108.out | refine below_set ?_ GE114.out | refine below_set ?_ GE120.out | refine below_set ?_ GE131.out | refine below_set ?_ GE140.out) | exact HB.out)⟩⟩
              ·
               replace c74 := Bool.eq_false_iff.mpr c74; subst c74; rw [if_neg nf_] at H
               by_cases c76 : 0 ≤ x21_4
               ·
                rw [if_pos c76] at H; have c76b0 : decide (0 ≤ x21_4) = true := decide_eq_true c76; clear c76; have H' := Aside0.mk H; clear H; obtain ⟨Ao77, co77, eo77⟩ := Kd.R_slice HO_16.out; subst eo77; have p142 : 0 ≤ (x21_4 : Int) := of_decide_eq_true zs; have q142 : x21_4 < (t136.length : Int) := of_decide_eq_true zs; obtain ⟨ad142, e142, hx142_0⟩ := Kd.at_int (Kd.R_reads' HO_16.out).2.2 x21_4 p142 q142; cases e142; replace p142 := eq_true p142; replace q142 := eq_true q142
                go_wp2
                go_roundg k4
                case measure => have := HJ5.out; have := HJ36.out; have := HK3.out; have := HK4.out; omega
                case rel => exact ⟨(((rd t136 x21_4) == t105)), (wrap64 (x21_4 + 1)), zr, zr, H', ⟨by have := HJ5.out; have := HJ36.out; have := HK3.out; have := HK4.out; omega⟩, ⟨rz (HO_16.out)⟩, ⟨rz (HO_109001.out)⟩, ⟨rz (HO_115001.out)⟩, ⟨rz (HO_121001.out)⟩, ⟨rz (HO_132001.out)⟩, ⟨rz (HO_141001.out)⟩, ⟨kz (BK108.out)⟩, ⟨kz (BK114.out)⟩, ⟨kz (BK120.out)⟩, ⟨kz (BK131.out)⟩, ⟨kz (BK140.out)⟩, ⟨by repeat (first | (with_reducible first | exact HB.out | apply below_alloc | apply pw_below_drewN | apply below_drew1 | refine below_set ?_ GE108.out | refine below_set ?_ GE114.out | refine below_set ?_ GE120.out | refine below_set ?_ GE131.out | refine below_set ?_ GE140.out) | exact HB.out)⟩⟩
               ·
                rw [if_neg c76] at H
                exact absurd H (by simp)
             ·
              rw [if_neg c73] at H; have c73b0 : decide (x21_4 < (t136.length : Int)) = false := decide_eq_false c73; clear c73; replace H := Option.bind_eq_some_iff.mp H; obtain ⟨t143, A780, H⟩ := H; have A78 := Aside0.mk A780; clear A780
              by_cases c79 : t143 = true
              ·
               subst c79; rw [if_pos rfl] at H
               by_cases c80 : t130 = true
               ·
                subst c80; rw [if_pos rfl] at H
                by_cases c81 : t139 = true
                ·
                 subst c81; rw [if_pos rfl] at H
                 by_cases c82 : x18_3 = true
                 ·
                  subst c82; rw [if_pos rfl] at H; obtain rfl := Option.some.inj H; obtain ⟨Ao83, co83, eo83⟩ := Kd.R_slice HO_16.out; subst eo83; have hnb84 := NB114_108.out; have hnc84 := NB108_114.out; have hnb85 := NB114_120.out; have hnc85 := NB120_114.out; have hnb86 := NB114_131.out; have hnc86 := NB131_114.out; have hnb87 := NB114_140.out; have hnc87 := NB140_114.out; have hcz88_0 : wr.cell? ⟨gb114, 0, none⟩ = some (.int .i64 t109) := (blk_cell BK114.out 0).trans rfl; have hcz88_1 : wr.cell? ⟨gb114, 1, none⟩ = some (.slice Ao15 t110.length co15) := (blk_cell BK114.out 1).trans rfl; have hfz88_0 := blk_frozen BK114.out 0; have hfz88_1 := blk_frozen BK114.out 1
                  go_wp2_with (first | ((with_reducible refine gate_callee (f := 21) rfl ?_); refine goesL_ (some 113) rfl rfl Try.func21 zk rfl #[.agg #[.int .i64 t109, .slice Ao15 t110.length co15]] rfl zm ?_; (with_reducible refine (impl_ClockOk.calls t109 _ _ t110 true _ ?side1 ?side2 A78.out).mono ?_); (case side1 => exact cz ((Kd.R_reads' HO_115001.out).2.2)); (case side2 => exact (Kd.R_reads' HO_115001.out).2.1); rintro e w89 ⟨rfl, hb⟩; refine ⟨_, rfl, ?_⟩; replace HO_16 := Aside0.mk (Kd.R_below (rz HO_16.out) hb); replace HO_109001 := Aside0.mk (Kd.R_below (rz HO_109001.out) hb); replace HO_115001 := Aside0.mk (Kd.R_below (rz HO_115001.out) hb); replace HO_121001 := Aside0.mk (Kd.R_below (rz HO_121001.out) hb); replace HO_132001 := Aside0.mk (Kd.R_below (rz HO_132001.out) hb); replace HO_141001 := Aside0.mk (Kd.R_below (rz HO_141001.out) hb); replace BK108 := Aside0.mk (blk_below (kz BK108.out) hb); replace BK114 := Aside0.mk (blk_below (kz BK114.out) hb); replace BK120 := Aside0.mk (blk_below (kz BK120.out) hb); replace BK131 := Aside0.mk (blk_below (kz BK131.out) hb); replace BK140 := Aside0.mk (blk_below (kz BK140.out) hb); replace HB := Aside0.mk (below_step (w13_2 HB.out GE108.out GE114.out GE120.out GE131.out GE140.out) hb); (try clear hb)))
                  go_ret
                  exact ⟨ze, by repeat (first | (with_reducible first | exact HB.out | apply below_alloc | apply pw_below_drewN | apply below_drew1 | refine below_set ?_ GE108.out | refine below_set ?_ GE114.out | refine below_set ?_ GE120.out | refine below_set ?_ GE131.out | refine below_set ?_ GE140.out) | exact HB.out)⟩
                 ·
                  replace c82 := Bool.eq_false_iff.mpr c82; subst c82; rw [if_neg nf_] at H; obtain rfl := Option.some.inj H; obtain ⟨Ao90, co90, eo90⟩ := Kd.R_slice HO_16.out; subst eo90; have hnb91 := NB114_108.out; have hnc91 := NB108_114.out; have hnb92 := NB114_120.out; have hnc92 := NB120_114.out; have hnb93 := NB114_131.out; have hnc93 := NB131_114.out; have hnb94 := NB114_140.out; have hnc94 := NB140_114.out; have hcz95_0 : wr.cell? ⟨gb114, 0, none⟩ = some (.int .i64 t109) := (blk_cell BK114.out 0).trans rfl; have hcz95_1 : wr.cell? ⟨gb114, 1, none⟩ = some (.slice Ao15 t110.length co15) := (blk_cell BK114.out 1).trans rfl; have hfz95_0 := blk_frozen BK114.out 0; have hfz95_1 := blk_frozen BK114.out 1
                  go_wp2_with (first | ((with_reducible refine gate_callee (f := 21) rfl ?_); refine goesL_ (some 113) rfl rfl Try.func21 zk rfl #[.agg #[.int .i64 t109, .slice Ao15 t110.length co15]] rfl zm ?_; (with_reducible refine (impl_ClockOk.calls t109 _ _ t110 true _ ?side1 ?side2 A78.out).mono ?_); (case side1 => exact cz ((Kd.R_reads' HO_115001.out).2.2)); (case side2 => exact (Kd.R_reads' HO_115001.out).2.1); rintro e w96 ⟨rfl, hb⟩; refine ⟨_, rfl, ?_⟩; replace HO_16 := Aside0.mk (Kd.R_below (rz HO_16.out) hb); replace HO_109001 := Aside0.mk (Kd.R_below (rz HO_109001.out) hb); replace HO_115001 := Aside0.mk (Kd.R_below (rz HO_115001.out) hb); replace HO_121001 := Aside0.mk (Kd.R_below (rz HO_121001.out) hb); replace HO_132001 := Aside0.mk (Kd.R_below (rz HO_132001.out) hb); replace HO_141001 := Aside0.mk (Kd.R_below (rz HO_141001.out) hb); replace BK108 := Aside0.mk (blk_below (kz BK108.out) hb); replace BK114 := Aside0.mk (blk_below (kz BK114.out) hb); replace BK120 := Aside0.mk (blk_below (kz BK120.out) hb); replace BK131 := Aside0.mk (blk_below (kz BK131.out) hb); replace BK140 := Aside0.mk (blk_below (kz BK140.out) hb); replace HB := Aside0.mk (below_step (w13_2 HB.out GE108.out GE114.out GE120.out GE131.out GE140.out) hb); (try clear hb)))
                  go_ret
                  exact ⟨ze, by repeat (first | (with_reducible first | exact HB.out | apply below_alloc | apply pw_below_drewN | apply below_drew1 | refine below_set ?_ GE108.out | refine below_set ?_ GE114.out | refine below_set ?_ GE120.out | refine below_set ?_ GE131.out | refine below_set ?_ GE140.out) | exact HB.out)⟩
                ·
                 replace c81 := Bool.eq_false_iff.mpr c81; subst c81; rw [if_neg nf_] at H; obtain rfl := Option.some.inj H; obtain ⟨Ao97, co97, eo97⟩ := Kd.R_slice HO_16.out; subst eo97; have hnb98 := NB114_108.out; have hnc98 := NB108_114.out; have hnb99 := NB114_120.out; have hnc99 := NB120_114.out; have hnb100 := NB114_131.out; have hnc100 := NB131_114.out; have hnb101 := NB114_140.out; have hnc101 := NB140_114.out; have hcz102_0 : wr.cell? ⟨gb114, 0, none⟩ = some (.int .i64 t109) := (blk_cell BK114.out 0).trans rfl; have hcz102_1 : wr.cell? ⟨gb114, 1, none⟩ = some (.slice Ao15 t110.length co15) := (blk_cell BK114.out 1).trans rfl; have hfz102_0 := blk_frozen BK114.out 0; have hfz102_1 := blk_frozen BK114.out 1
                 go_wp2_with (first | ((with_reducible refine gate_callee (f := 21) rfl ?_); refine goesL_ (some 113) rfl rfl Try.func21 zk rfl #[.agg #[.int .i64 t109, .slice Ao15 t110.length co15]] rfl zm ?_; (with_reducible refine (impl_ClockOk.calls t109 _ _ t110 true _ ?side1 ?side2 A78.out).mono ?_); (case side1 => exact cz ((Kd.R_reads' HO_115001.out).2.2)); (case side2 => exact (Kd.R_reads' HO_115001.out).2.1); rintro e w103 ⟨rfl, hb⟩; refine ⟨_, rfl, ?_⟩; replace HO_16 := Aside0.mk (Kd.R_below (rz HO_16.out) hb); replace HO_109001 := Aside0.mk (Kd.R_below (rz HO_109001.out) hb); replace HO_115001 := Aside0.mk (Kd.R_below (rz HO_115001.out) hb); replace HO_121001 := Aside0.mk (Kd.R_below (rz HO_121001.out) hb); replace HO_132001 := Aside0.mk (Kd.R_below (rz HO_132001.out) hb); replace HO_141001 := Aside0.mk (Kd.R_below (rz HO_141001.out) hb); replace BK108 := Aside0.mk (blk_below (kz BK108.out) hb); replace BK114 := Aside0.mk (blk_below (kz BK114.out) hb); replace BK120 := Aside0.mk (blk_below (kz BK120.out) hb); replace BK131 := Aside0.mk (blk_below (kz BK131.out) hb); replace BK140 := Aside0.mk (blk_below (kz BK140.out) hb); replace HB := Aside0.mk (below_step (w13_2 HB.out GE108.out GE114.out GE120.out GE131.out GE140.out) hb); (try clear hb)))
                 go_ret
                 exact ⟨ze, by repeat (first | (with_reducible first | exact HB.out | apply below_alloc | apply pw_below_drewN | apply below_drew1 | refine below_set ?_ GE108.out | refine below_set ?_ GE114.out | refine below_set ?_ GE120.out | refine below_set ?_ GE131.out | refine below_set ?_ GE140.out) | exact HB.out)⟩
               ·
                replace c80 := Bool.eq_false_iff.mpr c80; subst c80; rw [if_neg nf_] at H; obtain rfl := Option.some.inj H; obtain ⟨Ao104, co104, eo104⟩ := Kd.R_slice HO_16.out; subst eo104; have hnb105 := NB114_108.out; have hnc105 := NB108_114.out; have hnb106 := NB114_120.out; have hnc106 := NB120_114.out; have hnb107 := NB114_131.out; have hnc107 := NB131_114.out; have hnb108 := NB114_140.out; have hnc108 := NB140_114.out; have hcz109_0 : wr.cell? ⟨gb114, 0, none⟩ = some (.int .i64 t109) := (blk_cell BK114.out 0).trans rfl; have hcz109_1 : wr.cell? ⟨gb114, 1, none⟩ = some (.slice Ao15 t110.length co15) := (blk_cell BK114.out 1).trans rfl; have hfz109_0 := blk_frozen BK114.out 0; have hfz109_1 := blk_frozen BK114.out 1
                go_wp2_with (first | ((with_reducible refine gate_callee (f := 21) rfl ?_); refine goesL_ (some 113) rfl rfl Try.func21 zk rfl #[.agg #[.int .i64 t109, .slice Ao15 t110.length co15]] rfl zm ?_; (with_reducible refine (impl_ClockOk.calls t109 _ _ t110 true _ ?side1 ?side2 A78.out).mono ?_); (case side1 => exact cz ((Kd.R_reads' HO_115001.out).2.2)); (case side2 => exact (Kd.R_reads' HO_115001.out).2.1); rintro e w110 ⟨rfl, hb⟩; refine ⟨_, rfl, ?_⟩; replace HO_16 := Aside0.mk (Kd.R_below (rz HO_16.out) hb); replace HO_109001 := Aside0.mk (Kd.R_below (rz HO_109001.out) hb); replace HO_115001 := Aside0.mk (Kd.R_below (rz HO_115001.out) hb); replace HO_121001 := Aside0.mk (Kd.R_below (rz HO_121001.out) hb); replace HO_132001 := Aside0.mk (Kd.R_below (rz HO_132001.out) hb); replace HO_141001 := Aside0.mk (Kd.R_below (rz HO_141001.out) hb); replace BK108 := Aside0.mk (blk_below (kz BK108.out) hb); replace BK114 := Aside0.mk (blk_below (kz BK114.out) hb); replace BK120 := Aside0.mk (blk_below (kz BK120.out) hb); replace BK131 := Aside0.mk (blk_below (kz BK131.out) hb); replace BK140 := Aside0.mk (blk_below (kz BK140.out) hb); replace HB := Aside0.mk (below_step (w13_2 HB.out GE108.out GE114.out GE120.out GE131.out GE140.out) hb); (try clear hb)))
                go_ret
                exact ⟨ze, by repeat (first | (with_reducible first | exact HB.out | apply below_alloc | apply pw_below_drewN | apply below_drew1 | refine below_set ?_ GE108.out | refine below_set ?_ GE114.out | refine below_set ?_ GE120.out | refine below_set ?_ GE131.out | refine below_set ?_ GE140.out) | exact HB.out)⟩
              ·
               replace c79 := Bool.eq_false_iff.mpr c79; subst c79; rw [if_neg nf_] at H; obtain rfl := Option.some.inj H; obtain ⟨Ao111, co111, eo111⟩ := Kd.R_slice HO_16.out; subst eo111; have hnb112 := NB114_108.out; have hnc112 := NB108_114.out; have hnb113 := NB114_120.out; have hnc113 := NB120_114.out; have hnb114 := NB114_131.out; have hnc114 := NB131_114.out; have hnb115 := NB114_140.out; have hnc115 := NB140_114.out; have hcz116_0 : wr.cell? ⟨gb114, 0, none⟩ = some (.int .i64 t109) := (blk_cell BK114.out 0).trans rfl; have hcz116_1 : wr.cell? ⟨gb114, 1, none⟩ = some (.slice Ao15 t110.length co15) := (blk_cell BK114.out 1).trans rfl; have hfz116_0 := blk_frozen BK114.out 0; have hfz116_1 := blk_frozen BK114.out 1
               go_wp2_with (first | ((with_reducible refine gate_callee (f := 21) rfl ?_); refine goesL_ (some 113) rfl rfl Try.func21 zk rfl #[.agg #[.int .i64 t109, .slice Ao15 t110.length co15]] rfl zm ?_; (with_reducible refine (impl_ClockOk.calls t109 _ _ t110 false _ ?side1 ?side2 A78.out).mono ?_); (case side1 => exact cz ((Kd.R_reads' HO_115001.out).2.2)); (case side2 => exact (Kd.R_reads' HO_115001.out).2.1); rintro e w117 ⟨rfl, hb⟩; refine ⟨_, rfl, ?_⟩; replace HO_16 := Aside0.mk (Kd.R_below (rz HO_16.out) hb); replace HO_109001 := Aside0.mk (Kd.R_below (rz HO_109001.out) hb); replace HO_115001 := Aside0.mk (Kd.R_below (rz HO_115001.out) hb); replace HO_121001 := Aside0.mk (Kd.R_below (rz HO_121001.out) hb); replace HO_132001 := Aside0.mk (Kd.R_below (rz HO_132001.out) hb); replace HO_141001 := Aside0.mk (Kd.R_below (rz HO_141001.out) hb); replace BK108 := Aside0.mk (blk_below (kz BK108.out) hb); replace BK114 := Aside0.mk (blk_below (kz BK114.out) hb); replace BK120 := Aside0.mk (blk_below (kz BK120.out) hb); replace BK131 := Aside0.mk (blk_below (kz BK131.out) hb); replace BK140 := Aside0.mk (blk_below (kz BK140.out) hb); replace HB := Aside0.mk (below_step (w13_2 HB.out GE108.out GE114.out GE120.out GE131.out GE140.out) hb); (try clear hb)))
               go_ret
               exact ⟨ze, by repeat (first | (with_reducible first | exact HB.out | apply below_alloc | apply pw_below_drewN | apply below_drew1 | refine below_set ?_ GE108.out | refine below_set ?_ GE114.out | refine below_set ?_ GE120.out | refine below_set ?_ GE131.out | refine below_set ?_ GE140.out) | exact HB.out)⟩

/-- THE ONE PURE STATEMENT of laws_FnClockSet: yours. -/
def laws_FnClockSet.Pure : Prop := ∀ (l0 : List Int), l0.length ≤ maxLen → l0.length * 1 ≤ 140737488351232 → (∀ x ∈ l0, (Lit.int .u8 x).wf = true) → ∃ k, laws_FnClockSet.f k l0 = some true
theorem laws_FnClockSet.walk (P : laws_FnClockSet.Pure) (a0 : Option Addr) (len0 cap0 : Nat) (z0 : List Int) (w : World) (w0 : (a0 = none ∧ len0 = 0 ∧ cap0 = 0 ∧ z0 = []) ∨ ∃ x, a0 = some x ∧ len0 ≤ cap0 ∧ cap0 ≤ maxLen ∧ z0.length = cap0 ∧ (∀ i, i < z0.length → w.cell? (x.add i) = some (.int .u8 (z0.getD i 0))) ∧ ∀ n ∈ z0, (Lit.int .u8 n).wf = true) (y0 : len0 * 1 ≤ 140737488351232) :
  Calls Try.prog 13 #[.slice a0 len0 cap0] w fun e w' => e = .returned (.bool true) ∧ Below w.heap.size w w' := by
 obtain ⟨l0, rfl, hr0, hm0, hw0, hc0⟩ := ReadsInt.ofRowC w0
 obtain ⟨k, h⟩ := P l0 hm0 y0 hw0
 refine (laws_FnClockSet.calls k _ _ l0 true w (Kd.C_of_reads (d := (0 : Int)) (h1 := fun _ => rfl) hr0) hc0 h).mono ?_
 rintro e w' ⟨rfl, hd⟩
 exact ⟨rfl, hd⟩

end Go.Proofs.Ytlejcgnfpcngbaa.P
