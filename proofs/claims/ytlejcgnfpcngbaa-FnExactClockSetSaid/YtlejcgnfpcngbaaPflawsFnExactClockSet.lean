-- printed by this session's own driver (wip/qd.py) out of the translation; Lean checks it
import Derived.Test.YtlejcgnfpcngbaaPf0
import Derived.Test.YtlejcgnfpcngbaaPflawseqClock
import Derived.Test.YtlejcgnfpcngbaaPflawsmarkClock
import Derived.Test.YtlejcgnfpcngbaaPflawsheldClock
import Derived.Test.YtlejcgnfpcngbaaPflawsszClock
import Derived.Test.YtlejcgnfpcngbaaPflawstoClock
import Derived.Test.YtlejcgnfpcngbaaPfimplClockSet
import Derived.Test.YtlejcgnfpcngbaaPfspecClockSet
namespace Go.Proofs.Ytlejcgnfpcngbaa.P
open Go.RowKit Go.Proofs.YtlejcgnfpcngbaaW.PrintWords Go.Proofs.YtlejcgnfpcngbaaW.PrintLast Go.Proofs.YtlejcgnfpcngbaaW.PrintMore
attribute [local go_sem] max2_int min2_int max_two min_two max_three min_three max_four min_four Q.cell_set_map   -- for this text's walks alone
set_option linter.unusedVariables false
set_option linter.unusedSimpArgs false

/-! ### laws_FnExactClockSet: function 14 -/
mutual
def laws_FnExactClockSet.j0 : Nat → Int → Int → Int → Bool → Bool → Bool → Int → List (S79) → Int → List (S62) → Int → List (S62) → Int → List (S62) → Option (Bool)
 | 0, _, _, _, _, _, _, _, _, _, _, _, _, _, _ => none
 | k + 1, x1, x2, x3, x11, x14, x52, x102000, x102001, x113000, x113001, x118000, x118001, x124000, x124001 => if x52 = true then (some false) else ((laws_toClock.f k x102000 x102001).bind fun bt125 => ((laws_eqClock.f k x118000 x118001 bt125.1 bt125.2).bind fun t129 => (if t129 = true then ((laws_markClock.f k x118000 x118001 1).bind fun bt130 => (if bt130.1 < 0 then (laws_FnExactClockSet.j1 k x1 x2 x3 x11 true x102000 x102001 x113000 x113001 x124000 x124001) else ((laws_eqClock.f k x124000 x124001 x113000 x113001).bind fun t132 => (if t132 = true then (laws_FnExactClockSet.j1 k x1 x2 x3 x11 (x14 != x11) x102000 x102001 x113000 x113001 x124000 x124001) else (laws_FnExactClockSet.j1 k x1 x2 x3 x11 true x102000 x102001 x113000 x113001 x124000 x124001))))) else (some false))))
def laws_FnExactClockSet.j1 : Nat → Int → Int → Int → Bool → Bool → Int → List (S79) → Int → List (S62) → Int → List (S62) → Option (Bool)
 | 0, _, _, _, _, _, _, _, _, _, _, _ => none
 | k + 1, x1, x2, x3, x11, x73, x102000, x102001, x113000, x113001, x124000, x124001 => if x73 = true then (some false) else ((laws_markClock.f k x124000 x124001 1).bind fun bt133 => ((laws_heldClock.f k x124000 bt133.2 1).bind fun t135 => (if t135 < 0 then (some false) else (if t135 = bt133.1 then ((laws_toClock.f k x102000 x102001).bind fun bt136 => ((impl_ClockSet.f k bt136.1 bt136.2 x1 x2 x3).bind fun bt140 => ((laws_eqClock.f k bt140.1 bt140.2.1 x113000 x113001).bind fun t146 => (if t146 = true then (laws_FnExactClockSet.j2 k bt133.1 (bt140.2.2 != x11) x124000 bt133.2) else (laws_FnExactClockSet.j2 k bt133.1 true x124000 bt133.2))))) else (some false)))))
def laws_FnExactClockSet.j2 : Nat → Int → Bool → Int → List (S62) → Option (Bool)
 | 0, _, _, _, _ => none
 | k + 1, x16, x102, x124000, x124001 => if x102 = true then (some false) else ((laws_heldClock.f k x124000 x124001 1).bind fun t147 => (if t147 < 0 then (some false) else (if t147 = x16 then (some true) else (some false))))
end
def laws_FnExactClockSet.f (k : Nat) (a0_0 : Int) (l0_1 : List (S79)) (a1 : Int) (a2 : Int) (a3 : Int) : Option (Bool) := (laws_szClock.f a0_0 l0_1 1048576).bind fun t102 => (if t102 < 0 then (some true) else ((laws_toClock.f k a0_0 l0_1).bind fun bt103 => ((spec_ClockSet.f k bt103.1 bt103.2 a1 a2 a3).bind fun bt107 => ((laws_toClock.f k a0_0 l0_1).bind fun bt113 => ((impl_ClockSet.f k bt113.1 bt113.2 a1 a2 a3).bind fun bt118 => ((laws_eqClock.f k bt118.1 bt118.2.1 bt107.1 bt107.2.1).bind fun t124 => (if t124 = true then (laws_FnExactClockSet.j0 k a1 a2 a3 bt107.2.2 bt118.2.2 (bt118.2.2 != bt107.2.2) a0_0 l0_1 bt107.1 bt107.2.1 bt113.1 bt113.2 bt118.1 bt118.2.1) else (laws_FnExactClockSet.j0 k a1 a2 a3 bt107.2.2 bt118.2.2 true a0_0 l0_1 bt107.1 bt107.2.1 bt113.1 bt113.2 bt118.1 bt118.2.1))))))))
theorem laws_FnExactClockSet.mono_l : ∀ k, (∀ y0 y1 y2 y3 y4 y5 y6 y7 y8 y9 y10 y11 y12 y13, LeO (laws_FnExactClockSet.j0 k y0 y1 y2 y3 y4 y5 y6 y7 y8 y9 y10 y11 y12 y13) (laws_FnExactClockSet.j0 (k + 1) y0 y1 y2 y3 y4 y5 y6 y7 y8 y9 y10 y11 y12 y13)) ∧ (∀ y0 y1 y2 y3 y4 y5 y6 y7 y8 y9 y10, LeO (laws_FnExactClockSet.j1 k y0 y1 y2 y3 y4 y5 y6 y7 y8 y9 y10) (laws_FnExactClockSet.j1 (k + 1) y0 y1 y2 y3 y4 y5 y6 y7 y8 y9 y10)) ∧ (∀ y0 y1 y2 y3, LeO (laws_FnExactClockSet.j2 k y0 y1 y2 y3) (laws_FnExactClockSet.j2 (k + 1) y0 y1 y2 y3))
 | 0 => ⟨fun _ _ _ _ _ _ _ _ _ _ _ _ _ _ r h => by simp [laws_FnExactClockSet.j0] at h, fun _ _ _ _ _ _ _ _ _ _ _ r h => by simp [laws_FnExactClockSet.j1] at h, fun _ _ _ _ r h => by simp [laws_FnExactClockSet.j2] at h⟩
 | k + 1 => by
  obtain ⟨ih0, ih1, ih2⟩ := laws_FnExactClockSet.mono_l k
  refine ⟨?_, ?_, ?_⟩
  ·
   intro y0 y1 y2 y3 y4 y5 y6 y7 y8 y9 y10 y11 y12 y13
   unfold laws_FnExactClockSet.j0
   repeat' first
   | (with_reducible exact ih0 _ _ _ _ _ _ _ _ _ _ _ _ _ _)
   | (with_reducible exact ih1 _ _ _ _ _ _ _ _ _ _ _)
   | (with_reducible exact ih2 _ _ _ _)
   | (with_reducible exact impl_ClockSet.mono _ _ _ _ _ _)
   | (with_reducible exact laws_eqClock.mono _ _ _ _ _)
   | (with_reducible exact laws_heldClock.mono _ _ _ _)
   | (with_reducible exact laws_markClock.mono _ _ _ _)
   | (with_reducible exact laws_toClock.mono _ _ _)
   | (with_reducible exact spec_ClockSet.mono _ _ _ _ _ _)
   | (with_reducible exact LeO.refl _)
   | (with_reducible exact LeO.none _)
   | (with_reducible refine LeO.ite ?_ ?_)
   | (with_reducible refine LeO.bind ?_ (fun _ => ?_))
   | exact ih0 _ _ _ _ _ _ _ _ _ _ _ _ _ _
   | exact ih1 _ _ _ _ _ _ _ _ _ _ _
   | exact ih2 _ _ _ _
   | exact impl_ClockSet.mono _ _ _ _ _ _
   | exact laws_eqClock.mono _ _ _ _ _
   | exact laws_heldClock.mono _ _ _ _
   | exact laws_markClock.mono _ _ _ _
   | exact laws_toClock.mono _ _ _
   | exact spec_ClockSet.mono _ _ _ _ _ _
   | exact LeO.none _
   | refine LeO.ite ?_ ?_
   | refine LeO.bind ?_ (fun _ => ?_)
  ·
   intro y0 y1 y2 y3 y4 y5 y6 y7 y8 y9 y10
   unfold laws_FnExactClockSet.j1
   repeat' first
   | (with_reducible exact ih0 _ _ _ _ _ _ _ _ _ _ _ _ _ _)
   | (with_reducible exact ih1 _ _ _ _ _ _ _ _ _ _ _)
   | (with_reducible exact ih2 _ _ _ _)
   | (with_reducible exact impl_ClockSet.mono _ _ _ _ _ _)
   | (with_reducible exact laws_eqClock.mono _ _ _ _ _)
   | (with_reducible exact laws_heldClock.mono _ _ _ _)
   | (with_reducible exact laws_markClock.mono _ _ _ _)
   | (with_reducible exact laws_toClock.mono _ _ _)
   | (with_reducible exact spec_ClockSet.mono _ _ _ _ _ _)
   | (with_reducible exact LeO.refl _)
   | (with_reducible exact LeO.none _)
   | (with_reducible refine LeO.ite ?_ ?_)
   | (with_reducible refine LeO.bind ?_ (fun _ => ?_))
   | exact ih0 _ _ _ _ _ _ _ _ _ _ _ _ _ _
   | exact ih1 _ _ _ _ _ _ _ _ _ _ _
   | exact ih2 _ _ _ _
   | exact impl_ClockSet.mono _ _ _ _ _ _
   | exact laws_eqClock.mono _ _ _ _ _
   | exact laws_heldClock.mono _ _ _ _
   | exact laws_markClock.mono _ _ _ _
   | exact laws_toClock.mono _ _ _
   | exact spec_ClockSet.mono _ _ _ _ _ _
   | exact LeO.none _
   | refine LeO.ite ?_ ?_
   | refine LeO.bind ?_ (fun _ => ?_)
  ·
   intro y0 y1 y2 y3
   unfold laws_FnExactClockSet.j2
   repeat' first
   | (with_reducible exact ih0 _ _ _ _ _ _ _ _ _ _ _ _ _ _)
   | (with_reducible exact ih1 _ _ _ _ _ _ _ _ _ _ _)
   | (with_reducible exact ih2 _ _ _ _)
   | (with_reducible exact impl_ClockSet.mono _ _ _ _ _ _)
   | (with_reducible exact laws_eqClock.mono _ _ _ _ _)
   | (with_reducible exact laws_heldClock.mono _ _ _ _)
   | (with_reducible exact laws_markClock.mono _ _ _ _)
   | (with_reducible exact laws_toClock.mono _ _ _)
   | (with_reducible exact spec_ClockSet.mono _ _ _ _ _ _)
   | (with_reducible exact LeO.refl _)
   | (with_reducible exact LeO.none _)
   | (with_reducible refine LeO.ite ?_ ?_)
   | (with_reducible refine LeO.bind ?_ (fun _ => ?_))
   | exact ih0 _ _ _ _ _ _ _ _ _ _ _ _ _ _
   | exact ih1 _ _ _ _ _ _ _ _ _ _ _
   | exact ih2 _ _ _ _
   | exact impl_ClockSet.mono _ _ _ _ _ _
   | exact laws_eqClock.mono _ _ _ _ _
   | exact laws_heldClock.mono _ _ _ _
   | exact laws_markClock.mono _ _ _ _
   | exact laws_toClock.mono _ _ _
   | exact spec_ClockSet.mono _ _ _ _ _ _
   | exact LeO.none _
   | refine LeO.ite ?_ ?_
   | refine LeO.bind ?_ (fun _ => ?_)
theorem laws_FnExactClockSet.mono : ∀ a0 a1 a2 a3 a4 k, LeO (laws_FnExactClockSet.f k a0 a1 a2 a3 a4) (laws_FnExactClockSet.f (k + 1) a0 a1 a2 a3 a4) := by
 intro a0 a1 a2 a3 a4 k
 obtain ⟨ih0, ih1, ih2⟩ := laws_FnExactClockSet.mono_l k
 unfold laws_FnExactClockSet.f
 repeat' first
   | (with_reducible exact ih0 _ _ _ _ _ _ _ _ _ _ _ _ _ _)
   | (with_reducible exact ih1 _ _ _ _ _ _ _ _ _ _ _)
   | (with_reducible exact ih2 _ _ _ _)
   | (with_reducible exact impl_ClockSet.mono _ _ _ _ _ _)
   | (with_reducible exact laws_eqClock.mono _ _ _ _ _)
   | (with_reducible exact laws_heldClock.mono _ _ _ _)
   | (with_reducible exact laws_markClock.mono _ _ _ _)
   | (with_reducible exact laws_toClock.mono _ _ _)
   | (with_reducible exact spec_ClockSet.mono _ _ _ _ _ _)
   | (with_reducible exact LeO.refl _)
   | (with_reducible exact LeO.none _)
   | (with_reducible refine LeO.ite ?_ ?_)
   | (with_reducible refine LeO.bind ?_ (fun _ => ?_))
   | exact ih0 _ _ _ _ _ _ _ _ _ _ _ _ _ _
   | exact ih1 _ _ _ _ _ _ _ _ _ _ _
   | exact ih2 _ _ _ _
   | exact impl_ClockSet.mono _ _ _ _ _ _
   | exact laws_eqClock.mono _ _ _ _ _
   | exact laws_heldClock.mono _ _ _ _
   | exact laws_markClock.mono _ _ _ _
   | exact laws_toClock.mono _ _ _
   | exact spec_ClockSet.mono _ _ _ _ _ _
   | exact LeO.none _
   | refine LeO.ite ?_ ?_
   | refine LeO.bind ?_ (fun _ => ?_)
set_option maxHeartbeats 8000000 in
set_option maxRecDepth 100000 in
theorem laws_FnExactClockSet.calls (k : Nat) (a0_0 : Int) (A0_1 : Option Addr) (c0_1 : Nat) (l0_1 : List (S79)) (a1 : Int) (a2 : Int) (a3 : Int) (r : Bool) (w : World) (hr0_1 : Kd.C k79 w A0_1 l0_1.length l0_1) (hc0_1 : l0_1.length ≤ c0_1) (h : laws_FnExactClockSet.f k a0_0 l0_1 a1 a2 a3 = some r) :
  Calls Try.prog 14 #[.agg #[.int .i64 a0_0, .slice A0_1 l0_1.length c0_1], .int .i64 a1, .int .i64 a2, .int .i64 a3] w fun e w' => e = .returned (.bool r) ∧ Below w.heap.size w w' := by
 have hu38 := Try.underlying38
 have hu26 := Try.underlying26
 have HR0_1 := Aside0.mk hr0_1
 have HC0_1 := Aside0.mk hc0_1
 clear hr0_1 hc0_1
 have HB := Aside0.mk (Below.refl w.heap.size w)
 have H : ((laws_szClock.f a0_0 l0_1 1048576).bind fun t102 => (if t102 < 0 then (some true) else ((laws_toClock.f k a0_0 l0_1).bind fun bt103 => ((spec_ClockSet.f k bt103.1 bt103.2 a1 a2 a3).bind fun bt107 => ((laws_toClock.f k a0_0 l0_1).bind fun bt113 => ((impl_ClockSet.f k bt113.1 bt113.2 a1 a2 a3).bind fun bt118 => ((laws_eqClock.f k bt118.1 bt118.2.1 bt107.1 bt107.2.1).bind fun t124 => (if t124 = true then (laws_FnExactClockSet.j0 k a1 a2 a3 bt107.2.2 bt118.2.2 (bt118.2.2 != bt107.2.2) a0_0 l0_1 bt107.1 bt107.2.1 bt113.1 bt113.2 bt118.1 bt118.2.1) else (laws_FnExactClockSet.j0 k a1 a2 a3 bt107.2.2 bt118.2.2 true a0_0 l0_1 bt107.1 bt107.2.1 bt113.1 bt113.2 bt118.1 bt118.2.1))))))))) = some r := h
 clear h
 replace H := Option.bind_eq_some_iff.mp H
 obtain ⟨t102, A50, H⟩ := H
 have A5 := Aside0.mk A50
 clear A50
 by_cases c6 : t102 < 0
 ·
  rw [if_pos c6] at H
  have c6b0 : decide (t102 < 0) = true := decide_eq_true c6
  clear c6
  obtain rfl := Option.some.inj H
  go_enter Try.func14, Try.ntmps14
  go_wp2_with (first | ((with_reducible refine gate_dst (N := 4) rfl ?_); refine box_event ?hg (N := 4) ?hd (cs := #[.int .i64 a0_0, .slice A0_1 l0_1.length c0_1]) (t := 38) ?hr ?_; (case hd => rfl); (case hg => rfl); (case hr => first | (go_simp; done) | (go_simp; rfl)); intro gb101 hg w7 hbox hb; have BK101 := Aside0.mk (hbox); have GW101 := Aside0.mk ((by rw [hg]; exact (below_size (bz HB.out)) : w.heap.size ≤ gb101)); have GE101 := Aside0.mk ((by rw [hg]; exact (below_size (bz HB.out)) : w.heap.size ≤ gb101)); replace HB := Aside0.mk (below_step (bz HB.out) hb); clear hb hbox hg; have hcz8_0 : w7.cell? ⟨gb101, 0, none⟩ = some (.int .i64 a0_0) := (blk_cell BK101.out 0).trans rfl; have hcz8_1 : w7.cell? ⟨gb101, 1, none⟩ = some (.slice A0_1 l0_1.length c0_1) := (blk_cell BK101.out 1).trans rfl; have hfz8_0 := blk_frozen BK101.out 0; have hfz8_1 := blk_frozen BK101.out 1) | ((with_reducible refine gate_callee (f := 25) rfl ?_); refine goesL_ (some 22) rfl rfl Try.func25 zk rfl #[.agg #[.int .i64 a0_0, .slice A0_1 l0_1.length c0_1], .int .i64 1048576] rfl zm ?_; (with_reducible refine (laws_szClock.calls a0_0 _ _ l0_1 1048576 t102 _ ?side1 ?side2 A5.out).mono ?_); (case side1 => exact cz (Kd.C_below HR0_1.out HB.out)); (case side2 => exact HC0_1.out); rintro e w9 ⟨rfl, hb⟩; refine ⟨_, rfl, ?_⟩; replace BK101 := Aside0.mk (blk_below (g := gb101) (o := .cells #[.int .i64 a0_0, .slice A0_1 l0_1.length c0_1] 38 (0, 0)) (kz BK101.out) hb); replace HB := Aside0.mk (below_step (bs HB.out GE101.out) hb); (try clear hb)))
  go_ret
  exact ⟨ze, bs HB.out GE101.out⟩
 ·
  rw [if_neg c6] at H
  have c6b0 : decide (t102 < 0) = false := decide_eq_false c6
  clear c6
  replace H := Option.bind_eq_some_iff.mp H
  obtain ⟨⟨t103, t104⟩, A100, H⟩ := H
  replace H : ((spec_ClockSet.f k t103 t104 a1 a2 a3).bind fun bt107 => ((laws_toClock.f k a0_0 l0_1).bind fun bt113 => ((impl_ClockSet.f k bt113.1 bt113.2 a1 a2 a3).bind fun bt118 => ((laws_eqClock.f k bt118.1 bt118.2.1 bt107.1 bt107.2.1).bind fun t124 => (if t124 = true then (laws_FnExactClockSet.j0 k a1 a2 a3 bt107.2.2 bt118.2.2 (bt118.2.2 != bt107.2.2) a0_0 l0_1 bt107.1 bt107.2.1 bt113.1 bt113.2 bt118.1 bt118.2.1) else (laws_FnExactClockSet.j0 k a1 a2 a3 bt107.2.2 bt118.2.2 true a0_0 l0_1 bt107.1 bt107.2.1 bt113.1 bt113.2 bt118.1 bt118.2.1)))))) = some r := H
  have A10 := Aside0.mk A100
  clear A100
  replace H := Option.bind_eq_some_iff.mp H
  obtain ⟨⟨t107, t108, t111⟩, A110, H⟩ := H
  replace H : ((laws_toClock.f k a0_0 l0_1).bind fun bt113 => ((impl_ClockSet.f k bt113.1 bt113.2 a1 a2 a3).bind fun bt118 => ((laws_eqClock.f k bt118.1 bt118.2.1 t107 t108).bind fun t124 => (if t124 = true then (laws_FnExactClockSet.j0 k a1 a2 a3 t111 bt118.2.2 (bt118.2.2 != t111) a0_0 l0_1 t107 t108 bt113.1 bt113.2 bt118.1 bt118.2.1) else (laws_FnExactClockSet.j0 k a1 a2 a3 t111 bt118.2.2 true a0_0 l0_1 t107 t108 bt113.1 bt113.2 bt118.1 bt118.2.1))))) = some r := H
  have A11 := Aside0.mk A110
  clear A110
  replace H := Option.bind_eq_some_iff.mp H
  obtain ⟨⟨t113, t114⟩, A120, H⟩ := H
  replace H : ((impl_ClockSet.f k t113 t114 a1 a2 a3).bind fun bt118 => ((laws_eqClock.f k bt118.1 bt118.2.1 t107 t108).bind fun t124 => (if t124 = true then (laws_FnExactClockSet.j0 k a1 a2 a3 t111 bt118.2.2 (bt118.2.2 != t111) a0_0 l0_1 t107 t108 t113 t114 bt118.1 bt118.2.1) else (laws_FnExactClockSet.j0 k a1 a2 a3 t111 bt118.2.2 true a0_0 l0_1 t107 t108 t113 t114 bt118.1 bt118.2.1)))) = some r := H
  have A12 := Aside0.mk A120
  clear A120
  replace H := Option.bind_eq_some_iff.mp H
  obtain ⟨⟨t118, t119, t122⟩, A130, H⟩ := H
  replace H : ((laws_eqClock.f k t118 t119 t107 t108).bind fun t124 => (if t124 = true then (laws_FnExactClockSet.j0 k a1 a2 a3 t111 t122 (t122 != t111) a0_0 l0_1 t107 t108 t113 t114 t118 t119) else (laws_FnExactClockSet.j0 k a1 a2 a3 t111 t122 true a0_0 l0_1 t107 t108 t113 t114 t118 t119))) = some r := H
  have A13 := Aside0.mk A130
  clear A130
  have HC14 := Aside0.mk H
  clear H
  go_enter Try.func14, Try.ntmps14
  go_upto_region 8 with (first | ((with_reducible refine gate_dst (N := 4) rfl ?_); refine box_event ?hg (N := 4) ?hd (cs := #[.int .i64 a0_0, .slice A0_1 l0_1.length c0_1]) (t := 38) ?hr ?_; (case hd => rfl); (case hg => rfl); (case hr => first | (go_simp; done) | (go_simp; rfl)); intro gb101 hg w15 hbox hb; have BK101 := Aside0.mk (hbox); have GW101 := Aside0.mk ((by rw [hg]; exact (below_size (bz HB.out)) : w.heap.size ≤ gb101)); have GE101 := Aside0.mk ((by rw [hg]; exact (below_size (bz HB.out)) : w.heap.size ≤ gb101)); replace HB := Aside0.mk (below_step (bz HB.out) hb); clear hb hbox hg; have hcz16_0 : w15.cell? ⟨gb101, 0, none⟩ = some (.int .i64 a0_0) := (blk_cell BK101.out 0).trans rfl; have hcz16_1 : w15.cell? ⟨gb101, 1, none⟩ = some (.slice A0_1 l0_1.length c0_1) := (blk_cell BK101.out 1).trans rfl; have hfz16_0 := blk_frozen BK101.out 0; have hfz16_1 := blk_frozen BK101.out 1) | ((with_reducible refine gate_callee (f := 25) rfl ?_); refine goesL_ (some 22) rfl rfl Try.func25 zk rfl #[.agg #[.int .i64 a0_0, .slice A0_1 l0_1.length c0_1], .int .i64 1048576] rfl zm ?_; (with_reducible refine (laws_szClock.calls a0_0 _ _ l0_1 1048576 t102 _ ?side1 ?side2 A5.out).mono ?_); (case side1 => exact cz (Kd.C_below HR0_1.out HB.out)); (case side2 => exact HC0_1.out); rintro e w17 ⟨rfl, hb⟩; refine ⟨_, rfl, ?_⟩; replace BK101 := Aside0.mk (blk_below (g := gb101) (o := .cells #[.int .i64 a0_0, .slice A0_1 l0_1.length c0_1] 38 (0, 0)) (kz BK101.out) hb); replace HB := Aside0.mk (below_step (bs HB.out GE101.out) hb); (try clear hb); have hcz18_0 : w17.cell? ⟨gb101, 0, none⟩ = some (.int .i64 a0_0) := (blk_cell BK101.out 0).trans rfl; have hcz18_1 : w17.cell? ⟨gb101, 1, none⟩ = some (.slice A0_1 l0_1.length c0_1) := (blk_cell BK101.out 1).trans rfl; have hfz18_0 := blk_frozen BK101.out 0; have hfz18_1 := blk_frozen BK101.out 1) | ((with_reducible refine gate_callee (f := 27) rfl ?_); refine goesL_ (some 27) rfl rfl Try.func27 zk rfl #[.agg #[.int .i64 a0_0, .slice A0_1 l0_1.length c0_1]] rfl zm ?_; (with_reducible refine (laws_toClock.calls k a0_0 _ _ l0_1 t103 t104 _ ?side1 ?side2 A10.out).mono ?_); (case side1 => exact cz (Kd.C_below HR0_1.out HB.out)); (case side2 => exact HC0_1.out); rintro e w19 ⟨v105, rfl, ho0, hb⟩; refine ⟨_, rfl, ?_⟩; have HO106 := Aside0.mk (Kd.R_lower ho0 (below_size (bs HB.out GE101.out))); replace BK101 := Aside0.mk (blk_below (g := gb101) (o := .cells #[.int .i64 a0_0, .slice A0_1 l0_1.length c0_1] 38 (0, 0)) (kz BK101.out) hb); replace HB := Aside0.mk (below_step (bs HB.out GE101.out) hb); (try clear hb); (try clear ho0); obtain ⟨Ao20, co20, eo20⟩ := Kd.R_slice HO106.out; subst eo20) | ((with_reducible refine gate_callee (f := 39) rfl ?_); refine goesL_ (some 31) rfl rfl Try.func39 zk rfl #[.agg #[.int .i64 t103, .slice Ao20 t104.length co20], .int .i64 a1, .int .i64 a2, .int .i64 a3] rfl zm ?_; (with_reducible refine (spec_ClockSet.calls k t103 _ _ t104 a1 a2 a3 t107 t108 t111 _ ?side1 ?side2 A11.out).mono ?_); (case side1 => exact cz ((Kd.R_reads' HO106.out).2.2)); (case side2 => exact (Kd.R_reads' HO106.out).2.1); rintro e w21 ⟨v109, rfl, ho0, hb⟩; refine ⟨_, rfl, ?_⟩; have HO110 := Aside0.mk (Kd.R_lower (Kd.R_new' ho0 (Kd.R_lt (rz HO106.out))) (below_size (bs HB.out GE101.out))); replace HO106 := Aside0.mk (Kd.R_elder' (rz HO106.out) (Kd.R_base ho0) hb); replace BK101 := Aside0.mk (blk_below (g := gb101) (o := .cells #[.int .i64 a0_0, .slice A0_1 l0_1.length c0_1] 38 (0, 0)) (kz BK101.out) hb); replace HB := Aside0.mk (below_step (bs HB.out GE101.out) hb); (try clear hb); (try clear ho0)) | ((with_reducible refine gate_dst (N := 10) rfl ?_); refine box_event ?hg (N := 10) ?hd (cs := #[.int .i64 0, .slice none 0 0]) (t := 26) ?hr ?_; (case hd => rfl); (case hg => rfl); (case hr => first | (go_simp; done) | (go_simp; rfl)); intro gb112 hg w22 hbox hb; replace HO106 := Aside0.mk (Kd.R_below (rz HO106.out) hb); replace HO110 := Aside0.mk (Kd.R_below (rz HO110.out) hb); have BK112 := Aside0.mk (hbox); have GW112 := Aside0.mk ((by rw [hg]; exact (below_size (bs HB.out GE101.out)) : w.heap.size ≤ gb112)); have GE112 := Aside0.mk ((by rw [hg]; exact (below_size (bs HB.out GE101.out)) : w.heap.size ≤ gb112)); replace HB := Aside0.mk (below_step (bs HB.out GE101.out) hb); have NB101_112 := Aside0.mk ((by rw [hg]; exact Nat.ne_of_lt (blk_lt (g := gb101) (o := .cells #[.int .i64 a0_0, .slice A0_1 l0_1.length c0_1] 38 (0, 0)) (kz BK101.out)) : gb101 ≠ gb112)); have NB112_101 := Aside0.mk ((by rw [hg]; exact Nat.ne_of_gt (blk_lt (g := gb101) (o := .cells #[.int .i64 a0_0, .slice A0_1 l0_1.length c0_1] 38 (0, 0)) (kz BK101.out)) : gb112 ≠ gb101)); replace BK101 := Aside0.mk (blk_below (g := gb101) (o := .cells #[.int .i64 a0_0, .slice A0_1 l0_1.length c0_1] 38 (0, 0)) (kz BK101.out) hb); clear hb hbox hg; have hnb23 := NB112_101.out; have hnc23 := NB101_112.out; have hcz24_0 : w22.cell? ⟨gb112, 0, none⟩ = some (.int .i64 0) := (blk_cell BK112.out 0).trans rfl; have hcz24_1 : w22.cell? ⟨gb112, 1, none⟩ = some (.slice none 0 0) := (blk_cell BK112.out 1).trans rfl; have hfz24_0 := blk_frozen BK112.out 0; have hfz24_1 := blk_frozen BK112.out 1; obtain ⟨Ao25, co25, eo25⟩ := Kd.R_slice HO110.out; subst eo25; have hcz26_0 : w22.cell? ⟨gb101, 0, none⟩ = some (.int .i64 a0_0) := (blk_cell BK101.out 0).trans rfl; have hcz26_1 : w22.cell? ⟨gb101, 1, none⟩ = some (.slice A0_1 l0_1.length c0_1) := (blk_cell BK101.out 1).trans rfl; have hfz26_0 := blk_frozen BK101.out 0; have hfz26_1 := blk_frozen BK101.out 1) | ((with_reducible refine gate_callee (f := 27) rfl ?_); refine goesL_ (some 35) rfl rfl Try.func27 zk rfl #[.agg #[.int .i64 a0_0, .slice A0_1 l0_1.length c0_1]] rfl zm ?_; (with_reducible refine (laws_toClock.calls k a0_0 _ _ l0_1 t113 t114 _ ?side1 ?side2 A12.out).mono ?_); (case side1 => exact Kd.C_below HR0_1.out (bs2 HB.out GE101.out GE112.out)); (case side2 => exact HC0_1.out); rintro e w27 ⟨v115, rfl, ho0, hb⟩; refine ⟨_, rfl, ?_⟩; have HO116 := Aside0.mk (Kd.R_lower (Kd.R_new' (Kd.R_new' ho0 (Kd.R_lt (by (with_reducible repeat (first | apply Kd.R_alloc | apply Kd.R_drewN | apply Kd.R_drew)); exact (Kd.R_mono (Kd.R_far (p := ⟨gb112, 1, none⟩) (Kd.R_far (p := ⟨gb112, 0, none⟩) (Kd.R_types HO106.out BK112.out (by decide)) (fun _ hk => hk.2) (.int .i64 t107)) (fun _ hk => hk.2) (.slice Ao25 t108.length co25)) (fun _ h_ => h_.1))))) (Kd.R_lt (by (with_reducible repeat (first | apply Kd.R_alloc | apply Kd.R_drewN | apply Kd.R_drew)); exact (Kd.R_mono (Kd.R_far (p := ⟨gb112, 1, none⟩) (Kd.R_far (p := ⟨gb112, 0, none⟩) (Kd.R_types HO110.out BK112.out (by decide)) (fun _ hk => hk.2) (.int .i64 t107)) (fun _ hk => hk.2) (.slice Ao25 t108.length co25)) (fun _ h_ => h_.1))))) (below_size (bs2 HB.out GE101.out GE112.out))); replace HO106 := Aside0.mk (Kd.R_elder' (by (with_reducible repeat (first | apply Kd.R_alloc | apply Kd.R_drewN | apply Kd.R_drew)); exact (Kd.R_mono (Kd.R_far (p := ⟨gb112, 1, none⟩) (Kd.R_far (p := ⟨gb112, 0, none⟩) (Kd.R_types HO106.out BK112.out (by decide)) (fun _ hk => hk.2) (.int .i64 t107)) (fun _ hk => hk.2) (.slice Ao25 t108.length co25)) (fun _ h_ => h_.1))) (Kd.R_base ho0) hb); replace HO110 := Aside0.mk (Kd.R_elder' (by (with_reducible repeat (first | apply Kd.R_alloc | apply Kd.R_drewN | apply Kd.R_drew)); exact (Kd.R_mono (Kd.R_far (p := ⟨gb112, 1, none⟩) (Kd.R_far (p := ⟨gb112, 0, none⟩) (Kd.R_types HO110.out BK112.out (by decide)) (fun _ hk => hk.2) (.int .i64 t107)) (fun _ hk => hk.2) (.slice Ao25 t108.length co25)) (fun _ h_ => h_.1))) (Kd.R_base ho0) hb); replace BK101 := Aside0.mk (blk_below (g := gb101) (o := .cells #[.int .i64 a0_0, .slice A0_1 l0_1.length c0_1] 38 (0, 0)) (by (with_reducible repeat (first | refine blk_drewN ?_ _ | refine blk_drew ?_ | refine blk_alloc ?_ _)); refine blk_far ?_ NB101_112.out _; (with_reducible repeat (first | refine blk_drewN ?_ _ | refine blk_drew ?_ | refine blk_alloc ?_ _)); refine blk_far ?_ NB101_112.out _; (with_reducible repeat (first | refine blk_drewN ?_ _ | refine blk_drew ?_ | refine blk_alloc ?_ _)); exact BK101.out) hb); replace BK112 := Aside0.mk (blk_below (g := gb112) (o := .cells #[.int .i64 t107, .slice Ao25 t108.length co25] 26 (0, 0)) (by (with_reducible repeat (first | refine blk_drewN ?_ _ | refine blk_drew ?_ | refine blk_alloc ?_ _)); refine blk_put (cs := #[.int .i64 t107, .slice none 0 0]) ?_ 1 _ rfl; (with_reducible repeat (first | refine blk_drewN ?_ _ | refine blk_drew ?_ | refine blk_alloc ?_ _)); refine blk_put (cs := #[.int .i64 0, .slice none 0 0]) ?_ 0 _ rfl; (with_reducible repeat (first | refine blk_drewN ?_ _ | refine blk_drew ?_ | refine blk_alloc ?_ _)); exact BK112.out) hb); replace HB := Aside0.mk (below_step (bs2 HB.out GE101.out GE112.out) hb); (try clear hb); (try clear ho0)) | ((with_reducible refine gate_dst (N := 12) rfl ?_); refine box_event ?hg (N := 12) ?hd (cs := #[.int .i64 0, .slice none 0 0]) (t := 26) ?hr ?_; (case hd => rfl); (case hg => rfl); (case hr => first | (go_simp; done) | (go_simp; rfl)); intro gb117 hg w28 hbox hb; replace HO106 := Aside0.mk (Kd.R_below (rz HO106.out) hb); replace HO110 := Aside0.mk (Kd.R_below (rz HO110.out) hb); replace HO116 := Aside0.mk (Kd.R_below (rz HO116.out) hb); have BK117 := Aside0.mk (hbox); have GW117 := Aside0.mk ((by rw [hg]; exact (below_size (bs2 HB.out GE101.out GE112.out)) : w.heap.size ≤ gb117)); have GE117 := Aside0.mk ((by rw [hg]; exact (below_size (bs2 HB.out GE101.out GE112.out)) : w.heap.size ≤ gb117)); replace HB := Aside0.mk (below_step (bs2 HB.out GE101.out GE112.out) hb); have NB101_117 := Aside0.mk ((by rw [hg]; exact Nat.ne_of_lt (blk_lt (g := gb101) (o := .cells #[.int .i64 a0_0, .slice A0_1 l0_1.length c0_1] 38 (0, 0)) (kz BK101.out)) : gb101 ≠ gb117)); have NB117_101 := Aside0.mk ((by rw [hg]; exact Nat.ne_of_gt (blk_lt (g := gb101) (o := .cells #[.int .i64 a0_0, .slice A0_1 l0_1.length c0_1] 38 (0, 0)) (kz BK101.out)) : gb117 ≠ gb101)); replace BK101 := Aside0.mk (blk_below (g := gb101) (o := .cells #[.int .i64 a0_0, .slice A0_1 l0_1.length c0_1] 38 (0, 0)) (kz BK101.out) hb); have NB112_117 := Aside0.mk ((by rw [hg]; exact Nat.ne_of_lt (blk_lt (g := gb112) (o := .cells #[.int .i64 t107, .slice Ao25 t108.length co25] 26 (0, 0)) (kz BK112.out)) : gb112 ≠ gb117)); have NB117_112 := Aside0.mk ((by rw [hg]; exact Nat.ne_of_gt (blk_lt (g := gb112) (o := .cells #[.int .i64 t107, .slice Ao25 t108.length co25] 26 (0, 0)) (kz BK112.out)) : gb117 ≠ gb112)); replace BK112 := Aside0.mk (blk_below (g := gb112) (o := .cells #[.int .i64 t107, .slice Ao25 t108.length co25] 26 (0, 0)) (kz BK112.out) hb); clear hb hbox hg; have hnb29 := NB117_101.out; have hnc29 := NB101_117.out; have hnb30 := NB117_112.out; have hnc30 := NB112_117.out; have hcz31_0 : w28.cell? ⟨gb117, 0, none⟩ = some (.int .i64 0) := (blk_cell BK117.out 0).trans rfl; have hcz31_1 : w28.cell? ⟨gb117, 1, none⟩ = some (.slice none 0 0) := (blk_cell BK117.out 1).trans rfl; have hfz31_0 := blk_frozen BK117.out 0; have hfz31_1 := blk_frozen BK117.out 1; obtain ⟨Ao32, co32, eo32⟩ := Kd.R_slice HO116.out; subst eo32) | ((with_reducible refine gate_callee (f := 31) rfl ?_); refine goesL_ (some 41) rfl rfl Try.func31 zk rfl #[.agg #[.int .i64 t113, .slice Ao32 t114.length co32], .int .i64 a1, .int .i64 a2, .int .i64 a3] rfl zm ?_; (with_reducible refine (impl_ClockSet.calls k t113 _ _ t114 a1 a2 a3 t118 t119 t122 _ ?side1 ?side2 A13.out).mono ?_); (case side1 => refine (Kd.R_reads' (e := 62) (base := w.heap.size) (ok := fun k_ => ((True ∧ some k_ ≠ (.slice Ao20 t104.length co20 : Value).ownBlock) ∧ some k_ ≠ (.slice Ao25 t108.length co25 : Value).ownBlock)) (n := t114.length) (c := co32) ?_).2.2; exact (by (with_reducible repeat (first | apply Kd.R_alloc | apply Kd.R_drewN | apply Kd.R_drew)); exact (Kd.R_mono (Kd.R_far (p := ⟨gb117, 1, none⟩) (Kd.R_far (p := ⟨gb117, 0, none⟩) (Kd.R_types HO116.out BK117.out (by decide)) (fun _ hk => hk.2) (.int .i64 t113)) (fun _ hk => hk.2) (.slice Ao32 t114.length co32)) (fun _ h_ => h_.1)))); (case side2 => exact (Kd.R_reads' HO116.out).2.1); rintro e w33 ⟨v120, rfl, ho0, hb⟩; refine ⟨_, rfl, ?_⟩; have HO121 := Aside0.mk (Kd.R_lower (Kd.R_new' (Kd.R_new' (Kd.R_new' ho0 (Kd.R_lt (by (with_reducible repeat (first | apply Kd.R_alloc | apply Kd.R_drewN | apply Kd.R_drew)); exact (Kd.R_mono (Kd.R_far (p := ⟨gb117, 1, none⟩) (Kd.R_far (p := ⟨gb117, 0, none⟩) (Kd.R_types HO106.out BK117.out (by decide)) (fun _ hk => hk.2) (.int .i64 t113)) (fun _ hk => hk.2) (.slice Ao32 t114.length co32)) (fun _ h_ => h_.1))))) (Kd.R_lt (by (with_reducible repeat (first | apply Kd.R_alloc | apply Kd.R_drewN | apply Kd.R_drew)); exact (Kd.R_mono (Kd.R_far (p := ⟨gb117, 1, none⟩) (Kd.R_far (p := ⟨gb117, 0, none⟩) (Kd.R_types HO110.out BK117.out (by decide)) (fun _ hk => hk.2) (.int .i64 t113)) (fun _ hk => hk.2) (.slice Ao32 t114.length co32)) (fun _ h_ => h_.1))))) (Kd.R_lt (by (with_reducible repeat (first | apply Kd.R_alloc | apply Kd.R_drewN | apply Kd.R_drew)); exact (Kd.R_mono (Kd.R_far (p := ⟨gb117, 1, none⟩) (Kd.R_far (p := ⟨gb117, 0, none⟩) (Kd.R_types HO116.out BK117.out (by decide)) (fun _ hk => hk.2) (.int .i64 t113)) (fun _ hk => hk.2) (.slice Ao32 t114.length co32)) (fun _ h_ => h_.1))))) (below_size (by repeat (first | (with_reducible first | exact HB.out | apply below_alloc | apply pw_below_drewN | apply below_drew1 | refine below_set ?_ GE101.out | refine below_set ?_ GE112.out | refine below_set ?_ GE117.out) | exact HB.out)))); replace HO106 := Aside0.mk (Kd.R_elder' (by (with_reducible repeat (first | apply Kd.R_alloc | apply Kd.R_drewN | apply Kd.R_drew)); exact (Kd.R_mono (Kd.R_far (p := ⟨gb117, 1, none⟩) (Kd.R_far (p := ⟨gb117, 0, none⟩) (Kd.R_types HO106.out BK117.out (by decide)) (fun _ hk => hk.2) (.int .i64 t113)) (fun _ hk => hk.2) (.slice Ao32 t114.length co32)) (fun _ h_ => h_.1))) (Kd.R_base ho0) hb); replace HO110 := Aside0.mk (Kd.R_elder' (by (with_reducible repeat (first | apply Kd.R_alloc | apply Kd.R_drewN | apply Kd.R_drew)); exact (Kd.R_mono (Kd.R_far (p := ⟨gb117, 1, none⟩) (Kd.R_far (p := ⟨gb117, 0, none⟩) (Kd.R_types HO110.out BK117.out (by decide)) (fun _ hk => hk.2) (.int .i64 t113)) (fun _ hk => hk.2) (.slice Ao32 t114.length co32)) (fun _ h_ => h_.1))) (Kd.R_base ho0) hb); replace HO116 := Aside0.mk (Kd.R_elder' (by (with_reducible repeat (first | apply Kd.R_alloc | apply Kd.R_drewN | apply Kd.R_drew)); exact (Kd.R_mono (Kd.R_far (p := ⟨gb117, 1, none⟩) (Kd.R_far (p := ⟨gb117, 0, none⟩) (Kd.R_types HO116.out BK117.out (by decide)) (fun _ hk => hk.2) (.int .i64 t113)) (fun _ hk => hk.2) (.slice Ao32 t114.length co32)) (fun _ h_ => h_.1))) (Kd.R_base ho0) hb); replace BK101 := Aside0.mk (blk_below (g := gb101) (o := .cells #[.int .i64 a0_0, .slice A0_1 l0_1.length c0_1] 38 (0, 0)) (by (with_reducible repeat (first | refine blk_drewN ?_ _ | refine blk_drew ?_ | refine blk_alloc ?_ _)); refine blk_far ?_ NB101_117.out _; (with_reducible repeat (first | refine blk_drewN ?_ _ | refine blk_drew ?_ | refine blk_alloc ?_ _)); refine blk_far ?_ NB101_117.out _; (with_reducible repeat (first | refine blk_drewN ?_ _ | refine blk_drew ?_ | refine blk_alloc ?_ _)); exact BK101.out) hb); replace BK112 := Aside0.mk (blk_below (g := gb112) (o := .cells #[.int .i64 t107, .slice Ao25 t108.length co25] 26 (0, 0)) (by (with_reducible repeat (first | refine blk_drewN ?_ _ | refine blk_drew ?_ | refine blk_alloc ?_ _)); refine blk_far ?_ NB112_117.out _; (with_reducible repeat (first | refine blk_drewN ?_ _ | refine blk_drew ?_ | refine blk_alloc ?_ _)); refine blk_far ?_ NB112_117.out _; (with_reducible repeat (first | refine blk_drewN ?_ _ | refine blk_drew ?_ | refine blk_alloc ?_ _)); exact BK112.out) hb); replace BK117 := Aside0.mk (blk_below (g := gb117) (o := .cells #[.int .i64 t113, .slice Ao32 t114.length co32] 26 (0, 0)) (by (with_reducible repeat (first | refine blk_drewN ?_ _ | refine blk_drew ?_ | refine blk_alloc ?_ _)); refine blk_put (cs := #[.int .i64 t113, .slice none 0 0]) ?_ 1 _ rfl; (with_reducible repeat (first | refine blk_drewN ?_ _ | refine blk_drew ?_ | refine blk_alloc ?_ _)); refine blk_put (cs := #[.int .i64 0, .slice none 0 0]) ?_ 0 _ rfl; (with_reducible repeat (first | refine blk_drewN ?_ _ | refine blk_drew ?_ | refine blk_alloc ?_ _)); exact BK117.out) hb); replace HB := Aside0.mk (below_step (by repeat (first | (with_reducible first | exact HB.out | apply below_alloc | apply pw_below_drewN | apply below_drew1 | refine below_set ?_ GE101.out | refine below_set ?_ GE112.out | refine below_set ?_ GE117.out) | exact HB.out)) hb); (try clear hb); (try clear ho0)) | ((with_reducible refine gate_dst (N := 13) rfl ?_); refine box_event ?hg (N := 13) ?hd (cs := #[.int .i64 0, .slice none 0 0]) (t := 26) ?hr ?_; (case hd => rfl); (case hg => rfl); (case hr => first | (go_simp; done) | (go_simp; rfl)); intro gb123 hg w34 hbox hb; replace HO106 := Aside0.mk (Kd.R_below (rz HO106.out) hb); replace HO110 := Aside0.mk (Kd.R_below (rz HO110.out) hb); replace HO116 := Aside0.mk (Kd.R_below (rz HO116.out) hb); replace HO121 := Aside0.mk (Kd.R_below (rz HO121.out) hb); have BK123 := Aside0.mk (hbox); have GW123 := Aside0.mk ((by rw [hg]; exact (below_size (by repeat (first | (with_reducible first | exact HB.out | apply below_alloc | apply pw_below_drewN | apply below_drew1 | refine below_set ?_ GE101.out | refine below_set ?_ GE112.out | refine below_set ?_ GE117.out) | exact HB.out))) : w.heap.size ≤ gb123)); have GE123 := Aside0.mk ((by rw [hg]; exact (below_size (by repeat (first | (with_reducible first | exact HB.out | apply below_alloc | apply pw_below_drewN | apply below_drew1 | refine below_set ?_ GE101.out | refine below_set ?_ GE112.out | refine below_set ?_ GE117.out) | exact HB.out))) : w.heap.size ≤ gb123)); replace HB := Aside0.mk (below_step (by repeat (first | (with_reducible first | exact HB.out | apply below_alloc | apply pw_below_drewN | apply below_drew1 | refine below_set ?_ GE101.out | refine below_set ?_ GE112.out | refine below_set ?_ GE117.out) | exact HB.out)) hb); have NB101_123 := Aside0.mk ((by rw [hg]; exact Nat.ne_of_lt (blk_lt (g := gb101) (o := .cells #[.int .i64 a0_0, .slice A0_1 l0_1.length c0_1] 38 (0, 0)) (kz BK101.out)) : gb101 ≠ gb123)); have NB123_101 := Aside0.mk ((by rw [hg]; exact Nat.ne_of_gt (blk_lt (g := gb101) (o := .cells #[.int .i64 a0_0, .slice A0_1 l0_1.length c0_1] 38 (0, 0)) (kz BK101.out)) : gb123 ≠ gb101)); replace BK101 := Aside0.mk (blk_below (g := gb101) (o := .cells #[.int .i64 a0_0, .slice A0_1 l0_1.length c0_1] 38 (0, 0)) (kz BK101.out) hb); have NB112_123 := Aside0.mk ((by rw [hg]; exact Nat.ne_of_lt (blk_lt (g := gb112) (o := .cells #[.int .i64 t107, .slice Ao25 t108.length co25] 26 (0, 0)) (kz BK112.out)) : gb112 ≠ gb123)); have NB123_112 := Aside0.mk ((by rw [hg]; exact Nat.ne_of_gt (blk_lt (g := gb112) (o := .cells #[.int .i64 t107, .slice Ao25 t108.length co25] 26 (0, 0)) (kz BK112.out)) : gb123 ≠ gb112)); replace BK112 := Aside0.mk (blk_below (g := gb112) (o := .cells #[.int .i64 t107, .slice Ao25 t108.length co25] 26 (0, 0)) (kz BK112.out) hb); have NB117_123 := Aside0.mk ((by rw [hg]; exact Nat.ne_of_lt (blk_lt (g := gb117) (o := .cells #[.int .i64 t113, .slice Ao32 t114.length co32] 26 (0, 0)) (kz BK117.out)) : gb117 ≠ gb123)); have NB123_117 := Aside0.mk ((by rw [hg]; exact Nat.ne_of_gt (blk_lt (g := gb117) (o := .cells #[.int .i64 t113, .slice Ao32 t114.length co32] 26 (0, 0)) (kz BK117.out)) : gb123 ≠ gb117)); replace BK117 := Aside0.mk (blk_below (g := gb117) (o := .cells #[.int .i64 t113, .slice Ao32 t114.length co32] 26 (0, 0)) (kz BK117.out) hb); clear hb hbox hg; have hnb35 := NB123_101.out; have hnc35 := NB101_123.out; have hnb36 := NB123_112.out; have hnc36 := NB112_123.out; have hnb37 := NB123_117.out; have hnc37 := NB117_123.out; have hcz38_0 : w34.cell? ⟨gb123, 0, none⟩ = some (.int .i64 0) := (blk_cell BK123.out 0).trans rfl; have hcz38_1 : w34.cell? ⟨gb123, 1, none⟩ = some (.slice none 0 0) := (blk_cell BK123.out 1).trans rfl; have hfz38_0 := blk_frozen BK123.out 0; have hfz38_1 := blk_frozen BK123.out 1; obtain ⟨Ao39, co39, eo39⟩ := Kd.R_slice HO121.out; subst eo39))
  (try simp only [Act.put, List.setIfInBounds_toArray, List.set_cons_zero, List.set_cons_succ])
  go_cut [52] (fun v52 wc => ∃ (kq : Nat) (x52_13 : Bool), v52 = .bool x52_13 ∧ Aside0 (laws_FnExactClockSet.j0 kq a1 a2 a3 t111 t122 x52_13 a0_0 l0_1 t107 t108 t113 t114 t118 t119 = some r) ∧ Aside0 (kq ≤ k) ∧ Aside0 (Kd.R k62 62 wc w.heap.size (fun k_ => some k_ ≠ ((.slice Ao32 t114.length co32) : Value).ownBlock ∧ some k_ ≠ ((.slice Ao39 t119.length co39) : Value).ownBlock) (.slice Ao25 t108.length co25) t108) ∧ Aside0 (Kd.R k62 62 wc w.heap.size (fun k_ => some k_ ≠ ((.slice Ao25 t108.length co25) : Value).ownBlock ∧ some k_ ≠ ((.slice Ao39 t119.length co39) : Value).ownBlock) (.slice Ao32 t114.length co32) t114) ∧ Aside0 (Kd.R k62 62 wc w.heap.size (fun k_ => some k_ ≠ ((.slice Ao25 t108.length co25) : Value).ownBlock ∧ some k_ ≠ ((.slice Ao32 t114.length co32) : Value).ownBlock) (.slice Ao39 t119.length co39) t119) ∧ Aside0 (wc.heap[gb101]? = some (.cells #[.int .i64 a0_0, (.slice A0_1 l0_1.length c0_1)] 38 (0, 0))) ∧ Aside0 (wc.heap[gb112]? = some (.cells #[.int .i64 t107, (.slice Ao25 t108.length co25)] 26 (0, 0))) ∧ Aside0 (wc.heap[gb117]? = some (.cells #[.int .i64 t113, (.slice Ao32 t114.length co32)] 26 (0, 0))) ∧ Aside0 (wc.heap[gb123]? = some (.cells #[.int .i64 t118, (.slice Ao39 t119.length co39)] 26 (0, 0))) ∧ Aside0 (Below w.heap.size w wc))
  case first =>
   have H := HC14.out
   clear HC14
   replace H := Option.bind_eq_some_iff.mp H
   obtain ⟨t124, A400, H⟩ := H
   have A40 := Aside0.mk A400
   clear A400
   by_cases c41 : t124 = true
   ·
    subst c41
    rw [if_pos rfl] at H
    have H' := Aside0.mk H
    clear H
    have hnb42 := NB123_101.out
    have hnc42 := NB101_123.out
    have hnb43 := NB123_112.out
    have hnc43 := NB112_123.out
    have hnb44 := NB123_117.out
    have hnc44 := NB117_123.out
    have hcz45_0 : w34.cell? ⟨gb123, 0, none⟩ = some (.int .i64 0) := (blk_cell BK123.out 0).trans rfl
    have hcz45_1 : w34.cell? ⟨gb123, 1, none⟩ = some (.slice none 0 0) := (blk_cell BK123.out 1).trans rfl
    have hfz45_0 := blk_frozen BK123.out 0
    have hfz45_1 := blk_frozen BK123.out 1
    have hnb46 := NB112_101.out
    have hnc46 := NB101_112.out
    have hnb47 := NB112_117.out
    have hnc47 := NB117_112.out
    have hcz48_0 : w34.cell? ⟨gb112, 0, none⟩ = some (.int .i64 t107) := (blk_cell BK112.out 0).trans rfl
    have hcz48_1 : w34.cell? ⟨gb112, 1, none⟩ = some (.slice Ao25 t108.length co25) := (blk_cell BK112.out 1).trans rfl
    have hfz48_0 := blk_frozen BK112.out 0
    have hfz48_1 := blk_frozen BK112.out 1
    go_wp2_with (first | ((with_reducible refine gate_callee (f := 22) rfl ?_); refine goesL_ (some 46) rfl rfl Try.func22 zk rfl #[.agg #[.int .i64 t118, .slice Ao39 t119.length co39], .agg #[.int .i64 t107, .slice Ao25 t108.length co25]] rfl zm ?_; (with_reducible refine (laws_eqClock.calls k t118 _ _ t119 t107 _ _ t108 true _ ?side1 ?side2 ?side3 ?side4 A40.out).mono ?_); (case side1 => refine (Kd.R_reads' (e := 62) (base := w.heap.size) (ok := fun k_ => (((True ∧ some k_ ≠ (.slice Ao20 t104.length co20 : Value).ownBlock) ∧ some k_ ≠ (.slice Ao25 t108.length co25 : Value).ownBlock) ∧ some k_ ≠ (.slice Ao32 t114.length co32 : Value).ownBlock)) (n := t119.length) (c := co39) ?_).2.2; exact (by (with_reducible repeat (first | apply Kd.R_alloc | apply Kd.R_drewN | apply Kd.R_drew)); exact (Kd.R_mono (Kd.R_far (p := ⟨gb123, 1, none⟩) (Kd.R_far (p := ⟨gb123, 0, none⟩) (Kd.R_types HO121.out BK123.out (by decide)) (fun _ hk => hk.2) (.int .i64 t118)) (fun _ hk => hk.2) (.slice Ao39 t119.length co39)) (fun _ h_ => h_.1)))); (case side2 => exact (Kd.R_reads' HO121.out).2.1); (case side3 => refine (Kd.R_reads' (e := 62) (base := w.heap.size) (ok := fun k_ => (((True ∧ some k_ ≠ (.slice Ao20 t104.length co20 : Value).ownBlock) ∧ some k_ ≠ (.slice Ao32 t114.length co32 : Value).ownBlock) ∧ some k_ ≠ (.slice Ao39 t119.length co39 : Value).ownBlock)) (n := t108.length) (c := co25) ?_).2.2; exact (by (with_reducible repeat (first | apply Kd.R_alloc | apply Kd.R_drewN | apply Kd.R_drew)); exact (Kd.R_mono (Kd.R_far (p := ⟨gb123, 1, none⟩) (Kd.R_far (p := ⟨gb123, 0, none⟩) (Kd.R_types HO110.out BK123.out (by decide)) (fun _ hk => hk.2) (.int .i64 t118)) (fun _ hk => hk.2) (.slice Ao39 t119.length co39)) (fun _ h_ => h_.1)))); (case side4 => exact (Kd.R_reads' HO110.out).2.1); rintro e w49 ⟨rfl, hb⟩; refine ⟨_, rfl, ?_⟩; replace HO106 := Aside0.mk (Kd.R_below (by (with_reducible repeat (first | apply Kd.R_alloc | apply Kd.R_drewN | apply Kd.R_drew)); exact (Kd.R_mono (Kd.R_far (p := ⟨gb123, 1, none⟩) (Kd.R_far (p := ⟨gb123, 0, none⟩) (Kd.R_types HO106.out BK123.out (by decide)) (fun _ hk => hk.2) (.int .i64 t118)) (fun _ hk => hk.2) (.slice Ao39 t119.length co39)) (fun _ h_ => h_.1))) hb); replace HO110 := Aside0.mk (Kd.R_below (by (with_reducible repeat (first | apply Kd.R_alloc | apply Kd.R_drewN | apply Kd.R_drew)); exact (Kd.R_mono (Kd.R_far (p := ⟨gb123, 1, none⟩) (Kd.R_far (p := ⟨gb123, 0, none⟩) (Kd.R_types HO110.out BK123.out (by decide)) (fun _ hk => hk.2) (.int .i64 t118)) (fun _ hk => hk.2) (.slice Ao39 t119.length co39)) (fun _ h_ => h_.1))) hb); replace HO116 := Aside0.mk (Kd.R_below (by (with_reducible repeat (first | apply Kd.R_alloc | apply Kd.R_drewN | apply Kd.R_drew)); exact (Kd.R_mono (Kd.R_far (p := ⟨gb123, 1, none⟩) (Kd.R_far (p := ⟨gb123, 0, none⟩) (Kd.R_types HO116.out BK123.out (by decide)) (fun _ hk => hk.2) (.int .i64 t118)) (fun _ hk => hk.2) (.slice Ao39 t119.length co39)) (fun _ h_ => h_.1))) hb); replace HO121 := Aside0.mk (Kd.R_below (by (with_reducible repeat (first | apply Kd.R_alloc | apply Kd.R_drewN | apply Kd.R_drew)); exact (Kd.R_mono (Kd.R_far (p := ⟨gb123, 1, none⟩) (Kd.R_far (p := ⟨gb123, 0, none⟩) (Kd.R_types HO121.out BK123.out (by decide)) (fun _ hk => hk.2) (.int .i64 t118)) (fun _ hk => hk.2) (.slice Ao39 t119.length co39)) (fun _ h_ => h_.1))) hb); replace BK101 := Aside0.mk (blk_below (g := gb101) (o := .cells #[.int .i64 a0_0, .slice A0_1 l0_1.length c0_1] 38 (0, 0)) (by (with_reducible repeat (first | refine blk_drewN ?_ _ | refine blk_drew ?_ | refine blk_alloc ?_ _)); refine blk_far ?_ NB101_123.out _; (with_reducible repeat (first | refine blk_drewN ?_ _ | refine blk_drew ?_ | refine blk_alloc ?_ _)); refine blk_far ?_ NB101_123.out _; (with_reducible repeat (first | refine blk_drewN ?_ _ | refine blk_drew ?_ | refine blk_alloc ?_ _)); exact BK101.out) hb); replace BK112 := Aside0.mk (blk_below (g := gb112) (o := .cells #[.int .i64 t107, .slice Ao25 t108.length co25] 26 (0, 0)) (by (with_reducible repeat (first | refine blk_drewN ?_ _ | refine blk_drew ?_ | refine blk_alloc ?_ _)); refine blk_far ?_ NB112_123.out _; (with_reducible repeat (first | refine blk_drewN ?_ _ | refine blk_drew ?_ | refine blk_alloc ?_ _)); refine blk_far ?_ NB112_123.out _; (with_reducible repeat (first | refine blk_drewN ?_ _ | refine blk_drew ?_ | refine blk_alloc ?_ _)); exact BK112.out) hb); replace BK117 := Aside0.mk (blk_below (g := gb117) (o := .cells #[.int .i64 t113, .slice Ao32 t114.length co32] 26 (0, 0)) (by (with_reducible repeat (first | refine blk_drewN ?_ _ | refine blk_drew ?_ | refine blk_alloc ?_ _)); refine blk_far ?_ NB117_123.out _; (with_reducible repeat (first | refine blk_drewN ?_ _ | refine blk_drew ?_ | refine blk_alloc ?_ _)); refine blk_far ?_ NB117_123.out _; (with_reducible repeat (first | refine blk_drewN ?_ _ | refine blk_drew ?_ | refine blk_alloc ?_ _)); exact BK117.out) hb); replace BK123 := Aside0.mk (blk_below (g := gb123) (o := .cells #[.int .i64 t118, .slice Ao39 t119.length co39] 26 (0, 0)) (by (with_reducible repeat (first | refine blk_drewN ?_ _ | refine blk_drew ?_ | refine blk_alloc ?_ _)); refine blk_put (cs := #[.int .i64 t118, .slice none 0 0]) ?_ 1 _ rfl; (with_reducible repeat (first | refine blk_drewN ?_ _ | refine blk_drew ?_ | refine blk_alloc ?_ _)); refine blk_put (cs := #[.int .i64 0, .slice none 0 0]) ?_ 0 _ rfl; (with_reducible repeat (first | refine blk_drewN ?_ _ | refine blk_drew ?_ | refine blk_alloc ?_ _)); exact BK123.out) hb); replace HB := Aside0.mk (below_step (by repeat (first | (with_reducible first | exact HB.out | apply below_alloc | apply pw_below_drewN | apply below_drew1 | refine below_set ?_ GE101.out | refine below_set ?_ GE112.out | refine below_set ?_ GE117.out | refine below_set ?_ GE123.out) | exact HB.out)) hb); (try clear hb)))
    go_meet
    case rel => exact ⟨_, ((t122 != t111)), zr, H', ⟨by first | omega | exact Nat.le_refl _⟩, ⟨by (with_reducible repeat (first | apply Kd.R_alloc | apply Kd.R_drewN | apply Kd.R_drew)); exact Kd.R_mono HO110.out (fun _ hk => ⟨hk.1.2, hk.2⟩)⟩, ⟨by (with_reducible repeat (first | apply Kd.R_alloc | apply Kd.R_drewN | apply Kd.R_drew)); exact Kd.R_mono HO116.out (fun _ hk => ⟨hk.1.2, hk.2⟩)⟩, ⟨by (with_reducible repeat (first | apply Kd.R_alloc | apply Kd.R_drewN | apply Kd.R_drew)); exact Kd.R_mono HO121.out (fun _ hk => ⟨hk.1.2, hk.2⟩)⟩, ⟨by (with_reducible repeat (first | refine blk_drewN ?_ _ | refine blk_drew ?_ | refine blk_alloc ?_ _)); exact BK101.out⟩, ⟨by (with_reducible repeat (first | refine blk_drewN ?_ _ | refine blk_drew ?_ | refine blk_alloc ?_ _)); exact BK112.out⟩, ⟨by (with_reducible repeat (first | refine blk_drewN ?_ _ | refine blk_drew ?_ | refine blk_alloc ?_ _)); exact BK117.out⟩, ⟨by (with_reducible repeat (first | refine blk_drewN ?_ _ | refine blk_drew ?_ | refine blk_alloc ?_ _)); exact BK123.out⟩, ⟨by repeat (first | (with_reducible first | exact HB.out | apply below_alloc | apply pw_below_drewN | apply below_drew1 | refine below_set ?_ GE101.out | refine below_set ?_ GE112.out | refine below_set ?_ GE117.out | refine below_set ?_ GE123.out) | exact HB.out)⟩⟩
   ·
    replace c41 := Bool.eq_false_iff.mpr c41
    subst c41
    rw [if_neg nf_] at H
    have H' := Aside0.mk H
    clear H
    have hnb50 := NB123_101.out
    have hnc50 := NB101_123.out
    have hnb51 := NB123_112.out
    have hnc51 := NB112_123.out
    have hnb52 := NB123_117.out
    have hnc52 := NB117_123.out
    have hcz53_0 : w34.cell? ⟨gb123, 0, none⟩ = some (.int .i64 0) := (blk_cell BK123.out 0).trans rfl
    have hcz53_1 : w34.cell? ⟨gb123, 1, none⟩ = some (.slice none 0 0) := (blk_cell BK123.out 1).trans rfl
    have hfz53_0 := blk_frozen BK123.out 0
    have hfz53_1 := blk_frozen BK123.out 1
    have hnb54 := NB112_101.out
    have hnc54 := NB101_112.out
    have hnb55 := NB112_117.out
    have hnc55 := NB117_112.out
    have hcz56_0 : w34.cell? ⟨gb112, 0, none⟩ = some (.int .i64 t107) := (blk_cell BK112.out 0).trans rfl
    have hcz56_1 : w34.cell? ⟨gb112, 1, none⟩ = some (.slice Ao25 t108.length co25) := (blk_cell BK112.out 1).trans rfl
    have hfz56_0 := blk_frozen BK112.out 0
    have hfz56_1 := blk_frozen BK112.out 1
    go_wp2_with (first | ((with_reducible refine gate_callee (f := 22) rfl ?_); refine goesL_ (some 46) rfl rfl Try.func22 zk rfl #[.agg #[.int .i64 t118, .slice Ao39 t119.length co39], .agg #[.int .i64 t107, .slice Ao25 t108.length co25]] rfl zm ?_; (with_reducible refine (laws_eqClock.calls k t118 _ _ t119 t107 _ _ t108 false _ ?side1 ?side2 ?side3 ?side4 A40.out).mono ?_); (case side1 => refine (Kd.R_reads' (e := 62) (base := w.heap.size) (ok := fun k_ => (((True ∧ some k_ ≠ (.slice Ao20 t104.length co20 : Value).ownBlock) ∧ some k_ ≠ (.slice Ao25 t108.length co25 : Value).ownBlock) ∧ some k_ ≠ (.slice Ao32 t114.length co32 : Value).ownBlock)) (n := t119.length) (c := co39) ?_).2.2; exact (by (with_reducible repeat (first | apply Kd.R_alloc | apply Kd.R_drewN | apply Kd.R_drew)); exact (Kd.R_mono (Kd.R_far (p := ⟨gb123, 1, none⟩) (Kd.R_far (p := ⟨gb123, 0, none⟩) (Kd.R_types HO121.out BK123.out (by decide)) (fun _ hk => hk.2) (.int .i64 t118)) (fun _ hk => hk.2) (.slice Ao39 t119.length co39)) (fun _ h_ => h_.1)))); (case side2 => exact (Kd.R_reads' HO121.out).2.1); (case side3 => refine (Kd.R_reads' (e := 62) (base := w.heap.size) (ok := fun k_ => (((True ∧ some k_ ≠ (.slice Ao20 t104.length co20 : Value).ownBlock) ∧ some k_ ≠ (.slice Ao32 t114.length co32 : Value).ownBlock) ∧ some k_ ≠ (.slice Ao39 t119.length co39 : Value).ownBlock)) (n := t108.length) (c := co25) ?_).2.2; exact (by (with_reducible repeat (first | apply Kd.R_alloc | apply Kd.R_drewN | apply Kd.R_drew)); exact (Kd.R_mono (Kd.R_far (p := ⟨gb123, 1, none⟩) (Kd.R_far (p := ⟨gb123, 0, none⟩) (Kd.R_types HO110.out BK123.out (by decide)) (fun _ hk => hk.2) (.int .i64 t118)) (fun _ hk => hk.2) (.slice Ao39 t119.length co39)) (fun _ h_ => h_.1)))); (case side4 => exact (Kd.R_reads' HO110.out).2.1); rintro e w57 ⟨rfl, hb⟩; refine ⟨_, rfl, ?_⟩; replace HO106 := Aside0.mk (Kd.R_below (by (with_reducible repeat (first | apply Kd.R_alloc | apply Kd.R_drewN | apply Kd.R_drew)); exact (Kd.R_mono (Kd.R_far (p := ⟨gb123, 1, none⟩) (Kd.R_far (p := ⟨gb123, 0, none⟩) (Kd.R_types HO106.out BK123.out (by decide)) (fun _ hk => hk.2) (.int .i64 t118)) (fun _ hk => hk.2) (.slice Ao39 t119.length co39)) (fun _ h_ => h_.1))) hb); replace HO110 := Aside0.mk (Kd.R_below (by (with_reducible repeat (first | apply Kd.R_alloc | apply Kd.R_drewN | apply Kd.R_drew)); exact (Kd.R_mono (Kd.R_far (p := ⟨gb123, 1, none⟩) (Kd.R_far (p := ⟨gb123, 0, none⟩) (Kd.R_types HO110.out BK123.out (by decide)) (fun _ hk => hk.2) (.int .i64 t118)) (fun _ hk => hk.2) (.slice Ao39 t119.length co39)) (fun _ h_ => h_.1))) hb); replace HO116 := Aside0.mk (Kd.R_below (by (with_reducible repeat (first | apply Kd.R_alloc | apply Kd.R_drewN | apply Kd.R_drew)); exact (Kd.R_mono (Kd.R_far (p := ⟨gb123, 1, none⟩) (Kd.R_far (p := ⟨gb123, 0, none⟩) (Kd.R_types HO116.out BK123.out (by decide)) (fun _ hk => hk.2) (.int .i64 t118)) (fun _ hk => hk.2) (.slice Ao39 t119.length co39)) (fun _ h_ => h_.1))) hb); replace HO121 := Aside0.mk (Kd.R_below (by (with_reducible repeat (first | apply Kd.R_alloc | apply Kd.R_drewN | apply Kd.R_drew)); exact (Kd.R_mono (Kd.R_far (p := ⟨gb123, 1, none⟩) (Kd.R_far (p := ⟨gb123, 0, none⟩) (Kd.R_types HO121.out BK123.out (by decide)) (fun _ hk => hk.2) (.int .i64 t118)) (fun _ hk => hk.2) (.slice Ao39 t119.length co39)) (fun _ h_ => h_.1))) hb); replace BK101 := Aside0.mk (blk_below (g := gb101) (o := .cells #[.int .i64 a0_0, .slice A0_1 l0_1.length c0_1] 38 (0, 0)) (by (with_reducible repeat (first | refine blk_drewN ?_ _ | refine blk_drew ?_ | refine blk_alloc ?_ _)); refine blk_far ?_ NB101_123.out _; (with_reducible repeat (first | refine blk_drewN ?_ _ | refine blk_drew ?_ | refine blk_alloc ?_ _)); refine blk_far ?_ NB101_123.out _; (with_reducible repeat (first | refine blk_drewN ?_ _ | refine blk_drew ?_ | refine blk_alloc ?_ _)); exact BK101.out) hb); replace BK112 := Aside0.mk (blk_below (g := gb112) (o := .cells #[.int .i64 t107, .slice Ao25 t108.length co25] 26 (0, 0)) (by (with_reducible repeat (first | refine blk_drewN ?_ _ | refine blk_drew ?_ | refine blk_alloc ?_ _)); refine blk_far ?_ NB112_123.out _; (with_reducible repeat (first | refine blk_drewN ?_ _ | refine blk_drew ?_ | refine blk_alloc ?_ _)); refine blk_far ?_ NB112_123.out _; (with_reducible repeat (first | refine blk_drewN ?_ _ | refine blk_drew ?_ | refine blk_alloc ?_ _)); exact BK112.out) hb); replace BK117 := Aside0.mk (blk_below (g := gb117) (o := .cells #[.int .i64 t113, .slice Ao32 t114.length co32] 26 (0, 0)) (by (with_reducible repeat (first | refine blk_drewN ?_ _ | refine blk_drew ?_ | refine blk_alloc ?_ _)); refine blk_far ?_ NB117_123.out _; (with_reducible repeat (first | refine blk_drewN ?_ _ | refine blk_drew ?_ | refine blk_alloc ?_ _)); refine blk_far ?_ NB117_123.out _; (with_reducible repeat (first | refine blk_drewN ?_ _ | refine blk_drew ?_ | refine blk_alloc ?_ _)); exact BK117.out) hb); replace BK123 := Aside0.mk (blk_below (g := gb123) (o := .cells #[.int .i64 t118, .slice Ao39 t119.length co39] 26 (0, 0)) (by (with_reducible repeat (first | refine blk_drewN ?_ _ | refine blk_drew ?_ | refine blk_alloc ?_ _)); refine blk_put (cs := #[.int .i64 t118, .slice none 0 0]) ?_ 1 _ rfl; (with_reducible repeat (first | refine blk_drewN ?_ _ | refine blk_drew ?_ | refine blk_alloc ?_ _)); refine blk_put (cs := #[.int .i64 0, .slice none 0 0]) ?_ 0 _ rfl; (with_reducible repeat (first | refine blk_drewN ?_ _ | refine blk_drew ?_ | refine blk_alloc ?_ _)); exact BK123.out) hb); replace HB := Aside0.mk (below_step (by repeat (first | (with_reducible first | exact HB.out | apply below_alloc | apply pw_below_drewN | apply below_drew1 | refine below_set ?_ GE101.out | refine below_set ?_ GE112.out | refine below_set ?_ GE117.out | refine below_set ?_ GE123.out) | exact HB.out)) hb); (try clear hb)))
    go_meet
    case rel => exact ⟨_, (true), zr, H', ⟨by first | omega | exact Nat.le_refl _⟩, ⟨by (with_reducible repeat (first | apply Kd.R_alloc | apply Kd.R_drewN | apply Kd.R_drew)); exact Kd.R_mono HO110.out (fun _ hk => ⟨hk.1.2, hk.2⟩)⟩, ⟨by (with_reducible repeat (first | apply Kd.R_alloc | apply Kd.R_drewN | apply Kd.R_drew)); exact Kd.R_mono HO116.out (fun _ hk => ⟨hk.1.2, hk.2⟩)⟩, ⟨by (with_reducible repeat (first | apply Kd.R_alloc | apply Kd.R_drewN | apply Kd.R_drew)); exact Kd.R_mono HO121.out (fun _ hk => ⟨hk.1.2, hk.2⟩)⟩, ⟨by (with_reducible repeat (first | refine blk_drewN ?_ _ | refine blk_drew ?_ | refine blk_alloc ?_ _)); exact BK101.out⟩, ⟨by (with_reducible repeat (first | refine blk_drewN ?_ _ | refine blk_drew ?_ | refine blk_alloc ?_ _)); exact BK112.out⟩, ⟨by (with_reducible repeat (first | refine blk_drewN ?_ _ | refine blk_drew ?_ | refine blk_alloc ?_ _)); exact BK117.out⟩, ⟨by (with_reducible repeat (first | refine blk_drewN ?_ _ | refine blk_drew ?_ | refine blk_alloc ?_ _)); exact BK123.out⟩, ⟨by repeat (first | (with_reducible first | exact HB.out | apply below_alloc | apply pw_below_drewN | apply below_drew1 | refine below_set ?_ GE101.out | refine below_set ?_ GE112.out | refine below_set ?_ GE117.out | refine below_set ?_ GE123.out) | exact HB.out)⟩⟩
  case rest =>
   clear HC14
   try clear c1
   try clear c2
   try clear p2
   try clear c3
   try clear c4
   try clear c5
   try clear c6
   try clear c6b0
   try clear c14
   try clear c22
   try clear c23
   try clear c25
   try clear c27
   try clear c29
   try clear c30
   try clear c31
   try clear c35
   try clear c36
   try clear c37
   try clear c39
   try clear c41
   try clear c42
   try clear c43
   try clear c44
   try clear c46
   try clear c47
   try clear c50
   try clear c51
   try clear c52
   try clear c54
   try clear c55
   try clear hcz16_0
   try clear hcz16_1
   try clear hcz18_0
   try clear hcz18_1
   try clear hcz24_0
   try clear hcz24_1
   try clear hcz26_0
   try clear hcz26_1
   try clear hcz31_0
   try clear hcz31_1
   try clear hcz38_0
   try clear hcz38_1
   try clear hcz45_0
   try clear hcz45_1
   try clear hcz48_0
   try clear hcz48_1
   try clear hcz53_0
   try clear hcz53_1
   try clear hcz56_0
   try clear hcz56_1
   try clear hcz8_0
   try clear hcz8_1
   try clear hfz16_0
   try clear hfz16_1
   try clear hfz18_0
   try clear hfz18_1
   try clear hfz24_0
   try clear hfz24_1
   try clear hfz26_0
   try clear hfz26_1
   try clear hfz31_0
   try clear hfz31_1
   try clear hfz38_0
   try clear hfz38_1
   try clear hfz45_0
   try clear hfz45_1
   try clear hfz48_0
   try clear hfz48_1
   try clear hfz53_0
   try clear hfz53_1
   try clear hfz56_0
   try clear hfz56_1
   try clear hfz8_0
   try clear hfz8_1
   obtain ⟨kq, x52_13, rfl, HA, HJ13, HO_113001, HO_118001, HO_124001, BK101, BK112, BK117, BK123, HB⟩ := hcut
   cases kq with
   | zero => exact absurd HA.out (by simp [laws_FnExactClockSet.j0])
   | succ kj13 =>
    have H := HA.out
    clear HA
    simp only [laws_FnExactClockSet.j0] at H
    by_cases c58 : x52_13 = true
    ·
     subst c58
     rw [if_pos rfl] at H
     obtain rfl := Option.some.inj H
     go_wp2
     go_ret
     exact ⟨ze, by repeat (first | (with_reducible first | exact HB.out | apply below_alloc | apply pw_below_drewN | apply below_drew1 | refine below_set ?_ GE101.out | refine below_set ?_ GE112.out | refine below_set ?_ GE117.out | refine below_set ?_ GE123.out) | exact HB.out)⟩
    ·
     replace c58 := Bool.eq_false_iff.mpr c58
     subst c58
     rw [if_neg nf_] at H
     replace H := Option.bind_eq_some_iff.mp H
     obtain ⟨⟨t125, t126⟩, A590, H⟩ := H
     replace H : ((laws_eqClock.f kj13 t113 t114 t125 t126).bind fun t129 => (if t129 = true then ((laws_markClock.f kj13 t113 t114 1).bind fun bt130 => (if bt130.1 < 0 then (laws_FnExactClockSet.j1 kj13 a1 a2 a3 t111 true a0_0 l0_1 t107 t108 t118 t119) else ((laws_eqClock.f kj13 t118 t119 t107 t108).bind fun t132 => (if t132 = true then (laws_FnExactClockSet.j1 kj13 a1 a2 a3 t111 (t122 != t111) a0_0 l0_1 t107 t108 t118 t119) else (laws_FnExactClockSet.j1 kj13 a1 a2 a3 t111 true a0_0 l0_1 t107 t108 t118 t119))))) else (some false))) = some r := H
     have A59 := Aside0.mk A590
     clear A590
     replace H := Option.bind_eq_some_iff.mp H
     obtain ⟨t129, A600, H⟩ := H
     have A60 := Aside0.mk A600
     clear A600
     by_cases c61 : t129 = true
     ·
      subst c61
      rw [if_pos rfl] at H
      replace H := Option.bind_eq_some_iff.mp H
      obtain ⟨⟨t130, t131⟩, A620, H⟩ := H
      replace H : (if t130 < 0 then (laws_FnExactClockSet.j1 kj13 a1 a2 a3 t111 true a0_0 l0_1 t107 t108 t118 t119) else ((laws_eqClock.f kj13 t118 t119 t107 t108).bind fun t132 => (if t132 = true then (laws_FnExactClockSet.j1 kj13 a1 a2 a3 t111 (t122 != t111) a0_0 l0_1 t107 t108 t118 t119) else (laws_FnExactClockSet.j1 kj13 a1 a2 a3 t111 true a0_0 l0_1 t107 t108 t118 t119)))) = some r := H
      have A62 := Aside0.mk A620
      clear A620
      have HC63 := Aside0.mk H
      clear H
      try go_wp2
      replace HO_113001 := Aside0.mk (Kd.R_drew HO_113001.out)
      replace HO_118001 := Aside0.mk (Kd.R_drew HO_118001.out)
      replace HO_124001 := Aside0.mk (Kd.R_drew HO_124001.out)
      replace BK101 := Aside0.mk (blk_drew BK101.out)
      replace BK112 := Aside0.mk (blk_drew BK112.out)
      replace BK117 := Aside0.mk (blk_drew BK117.out)
      replace BK123 := Aside0.mk (blk_drew BK123.out)
      replace HB := Aside0.mk (below_drew1 HB.out)
      refine start_ (n := 5) (S := fun w' => w'.cell? ⟨gb117, 0, none⟩ = some (.int .i64 t113) ∧ w'.cell? ⟨gb117, 1, none⟩ = some (.slice Ao32 t114.length co32) ∧ w'.cell? ⟨gb101, 0, none⟩ = some (.int .i64 a0_0) ∧ w'.cell? ⟨gb101, 1, none⟩ = some (.slice A0_1 l0_1.length c0_1)) (ds := []) (lb 5 0) zk rfl rfl ⟨(blk_cell BK117.out 0).trans rfl, (blk_cell BK117.out 1).trans rfl, (blk_cell BK101.out 0).trans rfl, (blk_cell BK101.out 1).trans rfl⟩ (fun hHeld => ?_)
      generalize wc.drew = w64 at HO_113001 HO_118001 HO_124001 BK101 BK112 BK117 BK123 HB hHeld ⊢
      refine take_ (i := 0) (N := some 53) (v := ?_) (a' := ?_) (lb 5 1) rfl rfl zk (fun _ _ _ h => h) (Or.inl ⟨by rfl, ?_⟩) hHeld ?_ ?_; rotate_left; (rintro w' ⟨s0, s1, s2, s3⟩; go_simp; with_reducible rfl); rotate_left; (simp only [Act.put, List.setIfInBounds_toArray, List.set_cons_zero, List.set_cons_succ, i64_w, i32_w]; rfl)
      refine take_ (i := 1) (N := some 54) (v := ?_) (a' := ?_) (lb 5 3) rfl rfl zk (fun _ _ _ h => h) (Or.inl ⟨by rfl, ?_⟩) hHeld ?_ ?_; rotate_left; (rintro w' ⟨s0, s1, s2, s3⟩; go_simp; with_reducible rfl); rotate_left; (simp only [Act.put, List.setIfInBounds_toArray, List.set_cons_zero, List.set_cons_succ, i64_w, i32_w]; rfl)
      refine one_ (i := 2) (N := some 55) (lb 5 7) rfl rfl zk (by decide) (fun K hK => ?_)
      refine goes_ Try.func27 zk rfl #[.agg #[.int .i64 a0_0, .slice A0_1 l0_1.length c0_1]] (by rfl) rfl rfl zm ?_
      with_reducible refine (laws_toClock.calls kj13 a0_0 _ _ l0_1 t125 t126 _ ?side1 ?side2 A59.out).mono ?_
      (case side1 => exact cz (Kd.C_below HR0_1.out HB.out))
      (case side2 => exact HC0_1.out)
      rintro e w65 ⟨v127, rfl, ho0, hb⟩
      refine ⟨_, rfl, ?_⟩
      have HO128 := Aside0.mk (Kd.R_lower (Kd.R_new' (Kd.R_new' (Kd.R_new' ho0 (Kd.R_lt (rz HO_113001.out))) (Kd.R_lt (rz HO_118001.out))) (Kd.R_lt (rz HO_124001.out))) (below_size (by repeat (first | (with_reducible first | exact HB.out | apply below_alloc | apply pw_below_drewN | apply below_drew1 | refine below_set ?_ GE101.out | refine below_set ?_ GE112.out | refine below_set ?_ GE117.out | refine below_set ?_ GE123.out) | exact HB.out))))
      replace HO_113001 := Aside0.mk (Kd.R_elder' (rz HO_113001.out) (Kd.R_base ho0) hb)
      replace HO_118001 := Aside0.mk (Kd.R_elder' (rz HO_118001.out) (Kd.R_base ho0) hb)
      replace HO_124001 := Aside0.mk (Kd.R_elder' (rz HO_124001.out) (Kd.R_base ho0) hb)
      replace BK101 := Aside0.mk (blk_below (g := gb101) (o := .cells #[.int .i64 a0_0, .slice A0_1 l0_1.length c0_1] 38 (0, 0)) (kz BK101.out) hb)
      replace BK112 := Aside0.mk (blk_below (g := gb112) (o := .cells #[.int .i64 t107, .slice Ao25 t108.length co25] 26 (0, 0)) (kz BK112.out) hb)
      replace BK117 := Aside0.mk (blk_below (g := gb117) (o := .cells #[.int .i64 t113, .slice Ao32 t114.length co32] 26 (0, 0)) (kz BK117.out) hb)
      replace BK123 := Aside0.mk (blk_below (g := gb123) (o := .cells #[.int .i64 t118, .slice Ao39 t119.length co39] 26 (0, 0)) (kz BK123.out) hb)
      replace HB := Aside0.mk (below_step (by repeat (first | (with_reducible first | exact HB.out | apply below_alloc | apply pw_below_drewN | apply below_drew1 | refine below_set ?_ GE101.out | refine below_set ?_ GE112.out | refine below_set ?_ GE117.out | refine below_set ?_ GE123.out) | exact HB.out)) hb)
      (try clear hb)
      (try clear ho0)
      obtain ⟨Ao66, co66, eo66⟩ := Kd.R_slice HO128.out
      (first | subst eo66 | (injection eo66 with f1_ f2_ f3_; have f4_ := f1_.symm; have f5_ := f3_.symm; clear f1_ f2_ f3_; subst f4_; subst f5_))
      refine hK.out _ _ ⟨(blk_cell BK117.out 0).trans rfl, (blk_cell BK117.out 1).trans rfl, (blk_cell BK101.out 0).trans rfl, (blk_cell BK101.out 1).trans rfl⟩ (fun hHeld => ?_)
      clear hK K
      refine norm_ (a' := ?_) ?_ ?_
      rotate_left
      ·
       show Act.put _ (some 55) _ = _
       simp only [Act.put, List.setIfInBounds_toArray, List.set_cons_zero, List.set_cons_succ, i64_w, i32_w]
       rfl
      refine one_ (i := 3) (N := some 56) (lb 5 15) rfl rfl zk (by decide) (fun K hK => ?_)
      refine goes_ Try.func22 zk rfl #[.agg #[.int .i64 t113, .slice Ao32 t114.length co32], .agg #[.int .i64 t125, .slice Ao66 t126.length co66]] (by rfl) rfl rfl zm ?_
      with_reducible refine (laws_eqClock.calls kj13 t113 _ _ t114 t125 _ _ t126 true _ ?side1 ?side2 ?side3 ?side4 A60.out).mono ?_
      (case side1 => exact cz ((Kd.R_reads' HO_118001.out).2.2))
      (case side2 => exact (Kd.R_reads' HO_118001.out).2.1)
      (case side3 => exact cz ((Kd.R_reads' HO128.out).2.2))
      (case side4 => exact (Kd.R_reads' HO128.out).2.1)
      rintro e w67 ⟨rfl, hb⟩
      refine ⟨_, rfl, ?_⟩
      replace HO_113001 := Aside0.mk (Kd.R_below (rz HO_113001.out) hb)
      replace HO_118001 := Aside0.mk (Kd.R_below (rz HO_118001.out) hb)
      replace HO_124001 := Aside0.mk (Kd.R_below (rz HO_124001.out) hb)
      replace HO128 := Aside0.mk (Kd.R_below (rz HO128.out) hb)
      replace BK101 := Aside0.mk (blk_below (g := gb101) (o := .cells #[.int .i64 a0_0, .slice A0_1 l0_1.length c0_1] 38 (0, 0)) (kz BK101.out) hb)
      replace BK112 := Aside0.mk (blk_below (g := gb112) (o := .cells #[.int .i64 t107, .slice Ao25 t108.length co25] 26 (0, 0)) (kz BK112.out) hb)
      replace BK117 := Aside0.mk (blk_below (g := gb117) (o := .cells #[.int .i64 t113, .slice Ao32 t114.length co32] 26 (0, 0)) (kz BK117.out) hb)
      replace BK123 := Aside0.mk (blk_below (g := gb123) (o := .cells #[.int .i64 t118, .slice Ao39 t119.length co39] 26 (0, 0)) (kz BK123.out) hb)
      replace HB := Aside0.mk (below_step (by repeat (first | (with_reducible first | exact HB.out | apply below_alloc | apply pw_below_drewN | apply below_drew1 | refine below_set ?_ GE101.out | refine below_set ?_ GE112.out | refine below_set ?_ GE117.out | refine below_set ?_ GE123.out) | exact HB.out)) hb)
      (try clear hb)
      refine hK.out _ _ ⟨(blk_cell BK117.out 0).trans rfl, (blk_cell BK117.out 1).trans rfl, (blk_cell BK101.out 0).trans rfl, (blk_cell BK101.out 1).trans rfl⟩ (fun hHeld => ?_)
      clear hK K
      refine norm_ (a' := ?_) ?_ ?_
      rotate_left
      ·
       show Act.put _ (some 56) _ = _
       simp only [Act.put, List.setIfInBounds_toArray, List.set_cons_zero, List.set_cons_succ, i64_w, i32_w]
       rfl
      refine pure_ (i := 4) (N := some 57) (v := ?_) (a' := ?_) (lb 5 31) rfl rfl zk (fun _ _ _ h => h) (Or.inl ⟨by rfl, ?_⟩) ?_ ?_; rotate_left; (intro w'; go_simp; with_reducible rfl); rotate_left; (simp only [Act.put, List.setIfInBounds_toArray, List.set_cons_zero, List.set_cons_succ, i64_w, i32_w]; rfl)
      refine done_ zk ?_
      have hnb68 := NB117_101.out
      have hnc68 := NB101_117.out
      have hnb69 := NB117_112.out
      have hnc69 := NB112_117.out
      have hnb70 := NB117_123.out
      have hnc70 := NB123_117.out
      have hcz71_0 : w67.cell? ⟨gb117, 0, none⟩ = some (.int .i64 t113) := (blk_cell BK117.out 0).trans rfl
      have hcz71_1 : w67.cell? ⟨gb117, 1, none⟩ = some (.slice Ao32 t114.length co32) := (blk_cell BK117.out 1).trans rfl
      have hfz71_0 := blk_frozen BK117.out 0
      have hfz71_1 := blk_frozen BK117.out 1
      go_upto_region 14 with (first | ((with_reducible refine gate_callee (f := 23) rfl ?_); refine goesL_ (some 60) rfl rfl Try.func23 zk rfl #[.agg #[.int .i64 t113, .slice Ao32 t114.length co32], .int .i64 1] rfl zm ?_; (with_reducible refine (laws_markClock.calls kj13 t113 (fun k_ => some k_ = (.slice Ao32 t114.length co32 : Value).ownBlock) (.slice Ao32 t114.length co32) t114 1 t130 t131 w _ ?side1 ?side2 A62.out).mono ?_); (case side1 => repeat (first | (with_reducible first | exact HB.out | apply below_alloc | apply pw_below_drewN | apply below_drew1 | refine below_set ?_ GE101.out | refine below_set ?_ GE112.out | refine below_set ?_ GE117.out | refine below_set ?_ GE123.out) | exact HB.out)); (case side2 => exact Kd.R_tight rfl HO_118001.out); rintro e w72 ⟨rfl, hy0, hb, hkp⟩; refine ⟨_, rfl, ?_⟩; replace HO_113001 := Aside0.mk (Kd.R_mono (ok' := fun k_ => some k_ ≠ (.slice Ao32 t114.length co32 : Value).ownBlock ∧ some k_ ≠ (.slice Ao39 t119.length co39 : Value).ownBlock ∧ some k_ ≠ (.slice Ao66 t126.length co66 : Value).ownBlock) (Kd.R_keptB (HO_113001.out) hkp (fun k_ hk_ hs_ => (hk_.1.1) hs_)) (fun k_ hk_ => ⟨hk_.1.1.1, hk_.1.1.2, hk_.1.2⟩)); replace HO_124001 := Aside0.mk (Kd.R_mono (ok' := fun k_ => some k_ ≠ (.slice Ao25 t108.length co25 : Value).ownBlock ∧ some k_ ≠ (.slice Ao32 t114.length co32 : Value).ownBlock ∧ some k_ ≠ (.slice Ao66 t126.length co66 : Value).ownBlock) (Kd.R_keptB (HO_124001.out) hkp (fun k_ hk_ hs_ => (hk_.1.2) hs_)) (fun k_ hk_ => ⟨hk_.1.1.1, hk_.1.1.2, hk_.1.2⟩)); replace BK101 := Aside0.mk (blk_kept (kz BK101.out) hkp (fun hs_ => (fun e_ => (Kd.R_ne HO_118001.out BK101.out (by decide)) e_) hs_)); replace BK112 := Aside0.mk (blk_kept (kz BK112.out) hkp (fun hs_ => (fun e_ => (Kd.R_ne HO_118001.out BK112.out (by decide)) e_) hs_)); replace BK117 := Aside0.mk (blk_kept (kz BK117.out) hkp (fun hs_ => (fun e_ => (Kd.R_ne HO_118001.out BK117.out (by decide)) e_) hs_)); replace BK123 := Aside0.mk (blk_kept (kz BK123.out) hkp (fun hs_ => (fun e_ => (Kd.R_ne HO_118001.out BK123.out (by decide)) e_) hs_)); replace HO_118001 := Aside0.mk (Kd.R_reok rfl hy0 (fun k_ e_ => HO_118001.out.1 k_ e_)); replace HO128 := Aside0.mk (Kd.R_mono (ok' := fun k_ => some k_ ≠ (.slice Ao25 t108.length co25 : Value).ownBlock ∧ some k_ ≠ (.slice Ao32 t114.length co32 : Value).ownBlock ∧ some k_ ≠ (.slice Ao39 t119.length co39 : Value).ownBlock) (Kd.R_keptB (HO128.out) hkp (fun k_ hk_ hs_ => (hk_.1.2) hs_)) (fun k_ hk_ => ⟨hk_.1.1.1.2, hk_.1.1.2, hk_.1.2⟩)); replace HB := Aside0.mk (hb); (try clear hb); (try clear hkp); (try clear hy0)))
      (try simp only [Act.put, List.setIfInBounds_toArray, List.set_cons_zero, List.set_cons_succ])
      go_cut [73] (fun v73 wc => ∃ (kq : Nat) (x73_62 : Bool), v73 = .bool x73_62 ∧ Aside0 (laws_FnExactClockSet.j1 kq a1 a2 a3 t111 x73_62 a0_0 l0_1 t107 t108 t118 t119 = some r) ∧ Aside0 (kq ≤ kj13) ∧ Aside0 (Kd.R k62 62 wc w.heap.size (fun k_ => some k_ ≠ ((.slice Ao32 t114.length co32) : Value).ownBlock ∧ some k_ ≠ ((.slice Ao39 t119.length co39) : Value).ownBlock) (.slice Ao25 t108.length co25) t108) ∧ Aside0 (Kd.R k62 62 wc w.heap.size (fun k_ => some k_ ≠ ((.slice Ao25 t108.length co25) : Value).ownBlock ∧ some k_ ≠ ((.slice Ao39 t119.length co39) : Value).ownBlock) (.slice Ao32 t114.length co32) t131) ∧ Aside0 (Kd.R k62 62 wc w.heap.size (fun k_ => some k_ ≠ ((.slice Ao25 t108.length co25) : Value).ownBlock ∧ some k_ ≠ ((.slice Ao32 t114.length co32) : Value).ownBlock) (.slice Ao39 t119.length co39) t119) ∧ Aside0 (wc.heap[gb101]? = some (.cells #[.int .i64 a0_0, (.slice A0_1 l0_1.length c0_1)] 38 (0, 0))) ∧ Aside0 (wc.heap[gb112]? = some (.cells #[.int .i64 t107, (.slice Ao25 t108.length co25)] 26 (0, 0))) ∧ Aside0 (wc.heap[gb117]? = some (.cells #[.int .i64 t113, (.slice Ao32 t114.length co32)] 26 (0, 0))) ∧ Aside0 (wc.heap[gb123]? = some (.cells #[.int .i64 t118, (.slice Ao39 t119.length co39)] 26 (0, 0))) ∧ Aside0 (Below w.heap.size w wc))
      case first =>
       have H := HC63.out
       clear HC63
       by_cases c73 : t130 < 0
       ·
        rw [if_pos c73] at H
        have c73b0 : decide (t130 < 0) = true := decide_eq_true c73
        clear c73
        (first | rw [c73b0] | (simp only [i64_w, i32_w]; rw [c73b0]) | skip)
        have H' := Aside0.mk H
        clear H
        go_wp2
        go_meet
        case rel => exact ⟨_, (true), zr, H', ⟨by have := HJ13.out; first | omega | exact Nat.le_refl _⟩, ⟨by (with_reducible repeat (first | apply Kd.R_alloc | apply Kd.R_drewN | apply Kd.R_drew)); exact Kd.R_mono HO_113001.out (fun _ hk => ⟨hk.1, hk.2.1⟩)⟩, ⟨by (with_reducible repeat (first | apply Kd.R_alloc | apply Kd.R_drewN | apply Kd.R_drew)); exact Kd.R_mono HO_118001.out (fun _ hk => ⟨hk.1.1, hk.1.2⟩)⟩, ⟨by (with_reducible repeat (first | apply Kd.R_alloc | apply Kd.R_drewN | apply Kd.R_drew)); exact Kd.R_mono HO_124001.out (fun _ hk => ⟨hk.1, hk.2.1⟩)⟩, ⟨by (with_reducible repeat (first | refine blk_drewN ?_ _ | refine blk_drew ?_ | refine blk_alloc ?_ _)); exact BK101.out⟩, ⟨by (with_reducible repeat (first | refine blk_drewN ?_ _ | refine blk_drew ?_ | refine blk_alloc ?_ _)); exact BK112.out⟩, ⟨by (with_reducible repeat (first | refine blk_drewN ?_ _ | refine blk_drew ?_ | refine blk_alloc ?_ _)); exact BK117.out⟩, ⟨by (with_reducible repeat (first | refine blk_drewN ?_ _ | refine blk_drew ?_ | refine blk_alloc ?_ _)); exact BK123.out⟩, ⟨by repeat (first | (with_reducible first | exact HB.out | apply below_alloc | apply pw_below_drewN | apply below_drew1 | refine below_set ?_ GE101.out | refine below_set ?_ GE112.out | refine below_set ?_ GE117.out | refine below_set ?_ GE123.out) | exact HB.out)⟩⟩
       ·
        rw [if_neg c73] at H
        have c73b0 : decide (t130 < 0) = false := decide_eq_false c73
        clear c73
        (first | rw [c73b0] | (simp only [i64_w, i32_w]; rw [c73b0]) | skip)
        replace H := Option.bind_eq_some_iff.mp H
        obtain ⟨t132, A740, H⟩ := H
        have A74 := Aside0.mk A740
        clear A740
        by_cases c75 : t132 = true
        ·
         subst c75
         rw [if_pos rfl] at H
         have H' := Aside0.mk H
         clear H
         have hnb76 := NB123_101.out
         have hnc76 := NB101_123.out
         have hnb77 := NB123_112.out
         have hnc77 := NB112_123.out
         have hnb78 := NB123_117.out
         have hnc78 := NB117_123.out
         have hcz79_0 : w72.cell? ⟨gb123, 0, none⟩ = some (.int .i64 t118) := (blk_cell BK123.out 0).trans rfl
         have hcz79_1 : w72.cell? ⟨gb123, 1, none⟩ = some (.slice Ao39 t119.length co39) := (blk_cell BK123.out 1).trans rfl
         have hfz79_0 := blk_frozen BK123.out 0
         have hfz79_1 := blk_frozen BK123.out 1
         have hnb80 := NB112_101.out
         have hnc80 := NB101_112.out
         have hnb81 := NB112_117.out
         have hnc81 := NB117_112.out
         have hcz82_0 : w72.cell? ⟨gb112, 0, none⟩ = some (.int .i64 t107) := (blk_cell BK112.out 0).trans rfl
         have hcz82_1 : w72.cell? ⟨gb112, 1, none⟩ = some (.slice Ao25 t108.length co25) := (blk_cell BK112.out 1).trans rfl
         have hfz82_0 := blk_frozen BK112.out 0
         have hfz82_1 := blk_frozen BK112.out 1
         go_wp2_with (first | (go_at_call 22; (with_reducible refine (laws_eqClock.calls kj13 t118 _ _ t119 t107 _ _ t108 true _ ?side1 ?side2 ?side3 ?side4 A74.out).mono ?_); (case side1 => exact cz ((Kd.R_reads' HO_124001.out).2.2)); (case side2 => exact (Kd.R_reads' HO_124001.out).2.1); (case side3 => exact cz ((Kd.R_reads' HO_113001.out).2.2)); (case side4 => exact (Kd.R_reads' HO_113001.out).2.1); rintro e w83 ⟨rfl, hb⟩; replace HO_113001 := Aside0.mk (Kd.R_below (rz HO_113001.out) hb); replace HO_118001 := Aside0.mk (Kd.R_below (rz HO_118001.out) hb); replace HO_124001 := Aside0.mk (Kd.R_below (rz HO_124001.out) hb); replace HO128 := Aside0.mk (Kd.R_below (rz HO128.out) hb); replace BK101 := Aside0.mk (blk_below (g := gb101) (o := .cells #[.int .i64 a0_0, .slice A0_1 l0_1.length c0_1] 38 (0, 0)) (kz BK101.out) hb); replace BK112 := Aside0.mk (blk_below (g := gb112) (o := .cells #[.int .i64 t107, .slice Ao25 t108.length co25] 26 (0, 0)) (kz BK112.out) hb); replace BK117 := Aside0.mk (blk_below (g := gb117) (o := .cells #[.int .i64 t113, .slice Ao32 t114.length co32] 26 (0, 0)) (kz BK117.out) hb); replace BK123 := Aside0.mk (blk_below (g := gb123) (o := .cells #[.int .i64 t118, .slice Ao39 t119.length co39] 26 (0, 0)) (kz BK123.out) hb); replace HB := Aside0.mk (below_step (by repeat (first | (with_reducible first | exact HB.out | apply below_alloc | apply pw_below_drewN | apply below_drew1 | refine below_set ?_ GE101.out | refine below_set ?_ GE112.out | refine below_set ?_ GE117.out | refine below_set ?_ GE123.out) | exact HB.out)) hb); (try clear hb)))
         go_meet
         case rel => exact ⟨_, ((t122 != t111)), zr, H', ⟨by have := HJ13.out; first | omega | exact Nat.le_refl _⟩, ⟨by (with_reducible repeat (first | apply Kd.R_alloc | apply Kd.R_drewN | apply Kd.R_drew)); exact Kd.R_mono HO_113001.out (fun _ hk => ⟨hk.1, hk.2.1⟩)⟩, ⟨by (with_reducible repeat (first | apply Kd.R_alloc | apply Kd.R_drewN | apply Kd.R_drew)); exact Kd.R_mono HO_118001.out (fun _ hk => ⟨hk.1.1, hk.1.2⟩)⟩, ⟨by (with_reducible repeat (first | apply Kd.R_alloc | apply Kd.R_drewN | apply Kd.R_drew)); exact Kd.R_mono HO_124001.out (fun _ hk => ⟨hk.1, hk.2.1⟩)⟩, ⟨by (with_reducible repeat (first | refine blk_drewN ?_ _ | refine blk_drew ?_ | refine blk_alloc ?_ _)); exact BK101.out⟩, ⟨by (with_reducible repeat (first | refine blk_drewN ?_ _ | refine blk_drew ?_ | refine blk_alloc ?_ _)); exact BK112.out⟩, ⟨by (with_reducible repeat (first | refine blk_drewN ?_ _ | refine blk_drew ?_ | refine blk_alloc ?_ _)); exact BK117.out⟩, ⟨by (with_reducible repeat (first | refine blk_drewN ?_ _ | refine blk_drew ?_ | refine blk_alloc ?_ _)); exact BK123.out⟩, ⟨by repeat (first | (with_reducible first | exact HB.out | apply below_alloc | apply pw_below_drewN | apply below_drew1 | refine below_set ?_ GE101.out | refine below_set ?_ GE112.out | refine below_set ?_ GE117.out | refine below_set ?_ GE123.out) | exact HB.out)⟩⟩
        ·
         replace c75 := Bool.eq_false_iff.mpr c75
         subst c75
         rw [if_neg nf_] at H
         have H' := Aside0.mk H
         clear H
         have hnb84 := NB123_101.out
         have hnc84 := NB101_123.out
         have hnb85 := NB123_112.out
         have hnc85 := NB112_123.out
         have hnb86 := NB123_117.out
         have hnc86 := NB117_123.out
         have hcz87_0 : w72.cell? ⟨gb123, 0, none⟩ = some (.int .i64 t118) := (blk_cell BK123.out 0).trans rfl
         have hcz87_1 : w72.cell? ⟨gb123, 1, none⟩ = some (.slice Ao39 t119.length co39) := (blk_cell BK123.out 1).trans rfl
         have hfz87_0 := blk_frozen BK123.out 0
         have hfz87_1 := blk_frozen BK123.out 1
         have hnb88 := NB112_101.out
         have hnc88 := NB101_112.out
         have hnb89 := NB112_117.out
         have hnc89 := NB117_112.out
         have hcz90_0 : w72.cell? ⟨gb112, 0, none⟩ = some (.int .i64 t107) := (blk_cell BK112.out 0).trans rfl
         have hcz90_1 : w72.cell? ⟨gb112, 1, none⟩ = some (.slice Ao25 t108.length co25) := (blk_cell BK112.out 1).trans rfl
         have hfz90_0 := blk_frozen BK112.out 0
         have hfz90_1 := blk_frozen BK112.out 1
         go_wp2_with (first | (go_at_call 22; (with_reducible refine (laws_eqClock.calls kj13 t118 _ _ t119 t107 _ _ t108 false _ ?side1 ?side2 ?side3 ?side4 A74.out).mono ?_); (case side1 => exact cz ((Kd.R_reads' HO_124001.out).2.2)); (case side2 => exact (Kd.R_reads' HO_124001.out).2.1); (case side3 => exact cz ((Kd.R_reads' HO_113001.out).2.2)); (case side4 => exact (Kd.R_reads' HO_113001.out).2.1); rintro e w91 ⟨rfl, hb⟩; replace HO_113001 := Aside0.mk (Kd.R_below (rz HO_113001.out) hb); replace HO_118001 := Aside0.mk (Kd.R_below (rz HO_118001.out) hb); replace HO_124001 := Aside0.mk (Kd.R_below (rz HO_124001.out) hb); replace HO128 := Aside0.mk (Kd.R_below (rz HO128.out) hb); replace BK101 := Aside0.mk (blk_below (g := gb101) (o := .cells #[.int .i64 a0_0, .slice A0_1 l0_1.length c0_1] 38 (0, 0)) (kz BK101.out) hb); replace BK112 := Aside0.mk (blk_below (g := gb112) (o := .cells #[.int .i64 t107, .slice Ao25 t108.length co25] 26 (0, 0)) (kz BK112.out) hb); replace BK117 := Aside0.mk (blk_below (g := gb117) (o := .cells #[.int .i64 t113, .slice Ao32 t114.length co32] 26 (0, 0)) (kz BK117.out) hb); replace BK123 := Aside0.mk (blk_below (g := gb123) (o := .cells #[.int .i64 t118, .slice Ao39 t119.length co39] 26 (0, 0)) (kz BK123.out) hb); replace HB := Aside0.mk (below_step (by repeat (first | (with_reducible first | exact HB.out | apply below_alloc | apply pw_below_drewN | apply below_drew1 | refine below_set ?_ GE101.out | refine below_set ?_ GE112.out | refine below_set ?_ GE117.out | refine below_set ?_ GE123.out) | exact HB.out)) hb); (try clear hb)))
         go_meet
         case rel => exact ⟨_, (true), zr, H', ⟨by have := HJ13.out; first | omega | exact Nat.le_refl _⟩, ⟨by (with_reducible repeat (first | apply Kd.R_alloc | apply Kd.R_drewN | apply Kd.R_drew)); exact Kd.R_mono HO_113001.out (fun _ hk => ⟨hk.1, hk.2.1⟩)⟩, ⟨by (with_reducible repeat (first | apply Kd.R_alloc | apply Kd.R_drewN | apply Kd.R_drew)); exact Kd.R_mono HO_118001.out (fun _ hk => ⟨hk.1.1, hk.1.2⟩)⟩, ⟨by (with_reducible repeat (first | apply Kd.R_alloc | apply Kd.R_drewN | apply Kd.R_drew)); exact Kd.R_mono HO_124001.out (fun _ hk => ⟨hk.1, hk.2.1⟩)⟩, ⟨by (with_reducible repeat (first | refine blk_drewN ?_ _ | refine blk_drew ?_ | refine blk_alloc ?_ _)); exact BK101.out⟩, ⟨by (with_reducible repeat (first | refine blk_drewN ?_ _ | refine blk_drew ?_ | refine blk_alloc ?_ _)); exact BK112.out⟩, ⟨by (with_reducible repeat (first | refine blk_drewN ?_ _ | refine blk_drew ?_ | refine blk_alloc ?_ _)); exact BK117.out⟩, ⟨by (with_reducible repeat (first | refine blk_drewN ?_ _ | refine blk_drew ?_ | refine blk_alloc ?_ _)); exact BK123.out⟩, ⟨by repeat (first | (with_reducible first | exact HB.out | apply below_alloc | apply pw_below_drewN | apply below_drew1 | refine below_set ?_ GE101.out | refine below_set ?_ GE112.out | refine below_set ?_ GE117.out | refine below_set ?_ GE123.out) | exact HB.out)⟩⟩
      case rest =>
       clear HC63
       try clear c1
       try clear c2
       try clear p2
       try clear c3
       try clear c4
       try clear c5
       try clear c6
       try clear c6b0
       try clear c7
       try clear c8
       try clear c14
       try clear c22
       try clear c23
       try clear c25
       try clear c27
       try clear c29
       try clear c30
       try clear c31
       try clear c35
       try clear c36
       try clear c37
       try clear c39
       try clear c41
       try clear c42
       try clear c43
       try clear c44
       try clear c46
       try clear c47
       try clear c50
       try clear c51
       try clear c52
       try clear c54
       try clear c55
       try clear c58
       try clear c61
       try clear c68
       try clear c69
       try clear c70
       try clear c73
       try clear c73b0
       try clear c75
       try clear c76
       try clear c77
       try clear c78
       try clear c80
       try clear c81
       try clear c84
       try clear c85
       try clear c86
       try clear c88
       try clear c89
       try clear hcz16_0
       try clear hcz16_1
       try clear hcz18_0
       try clear hcz18_1
       try clear hcz24_0
       try clear hcz24_1
       try clear hcz26_0
       try clear hcz26_1
       try clear hcz31_0
       try clear hcz31_1
       try clear hcz38_0
       try clear hcz38_1
       try clear hcz45_0
       try clear hcz45_1
       try clear hcz48_0
       try clear hcz48_1
       try clear hcz53_0
       try clear hcz53_1
       try clear hcz56_0
       try clear hcz56_1
       try clear hcz71_0
       try clear hcz71_1
       try clear hcz79_0
       try clear hcz79_1
       try clear hcz82_0
       try clear hcz82_1
       try clear hcz87_0
       try clear hcz87_1
       try clear hcz8_0
       try clear hcz8_1
       try clear hcz90_0
       try clear hcz90_1
       try clear hfz16_0
       try clear hfz16_1
       try clear hfz18_0
       try clear hfz18_1
       try clear hfz24_0
       try clear hfz24_1
       try clear hfz26_0
       try clear hfz26_1
       try clear hfz31_0
       try clear hfz31_1
       try clear hfz38_0
       try clear hfz38_1
       try clear hfz45_0
       try clear hfz45_1
       try clear hfz48_0
       try clear hfz48_1
       try clear hfz53_0
       try clear hfz53_1
       try clear hfz56_0
       try clear hfz56_1
       try clear hfz71_0
       try clear hfz71_1
       try clear hfz79_0
       try clear hfz79_1
       try clear hfz82_0
       try clear hfz82_1
       try clear hfz87_0
       try clear hfz87_1
       try clear hfz8_0
       try clear hfz8_1
       try clear hfz90_0
       try clear hfz90_1
       try clear p2
       obtain ⟨kq, x73_62, rfl, HA, HJ62, HO_113001, HO_118001, HO_124001, BK101, BK112, BK117, BK123, HB⟩ := hcut
       have hl118001_62 := (Kd.R_reads' HO_118001.out).1
       rw [hl118001_62] at HO_118001
       (try simp only [hl118001_62])
       (try simp only [hl118001_62] at BK101)
       (try simp only [hl118001_62] at BK112)
       (try simp only [hl118001_62] at BK117)
       (try simp only [hl118001_62] at BK123)
       (try simp only [hl118001_62] at HO_113001)
       (try simp only [hl118001_62] at HO_124001)
       cases kq with
       | zero => exact absurd HA.out (by simp [laws_FnExactClockSet.j1])
       | succ kj62 =>
        have H := HA.out
        clear HA
        simp only [laws_FnExactClockSet.j1] at H
        by_cases c92 : x73_62 = true
        ·
         subst c92
         rw [if_pos rfl] at H
         obtain rfl := Option.some.inj H
         go_wp2
         go_ret
         exact ⟨ze, by repeat (first | (with_reducible first | exact HB.out | apply below_alloc | apply pw_below_drewN | apply below_drew1 | refine below_set ?_ GE101.out | refine below_set ?_ GE112.out | refine below_set ?_ GE117.out | refine below_set ?_ GE123.out) | exact HB.out)⟩
        ·
         replace c92 := Bool.eq_false_iff.mpr c92
         subst c92
         rw [if_neg nf_] at H
         replace H := Option.bind_eq_some_iff.mp H
         obtain ⟨⟨t133, t134⟩, A930, H⟩ := H
         replace H : ((laws_heldClock.f kj62 t118 t134 1).bind fun t135 => (if t135 < 0 then (some false) else (if t135 = t133 then ((laws_toClock.f kj62 a0_0 l0_1).bind fun bt136 => ((impl_ClockSet.f kj62 bt136.1 bt136.2 a1 a2 a3).bind fun bt140 => ((laws_eqClock.f kj62 bt140.1 bt140.2.1 t107 t108).bind fun t146 => (if t146 = true then (laws_FnExactClockSet.j2 kj62 t133 (bt140.2.2 != t111) t118 t134) else (laws_FnExactClockSet.j2 kj62 t133 true t118 t134))))) else (some false)))) = some r := H
         have A93 := Aside0.mk A930
         clear A930
         replace H := Option.bind_eq_some_iff.mp H
         obtain ⟨t135, A940, H⟩ := H
         have A94 := Aside0.mk A940
         clear A940
         by_cases c95 : t135 < 0
         ·
          rw [if_pos c95] at H
          have c95b0 : decide (t135 < 0) = true := decide_eq_true c95
          clear c95
          obtain rfl := Option.some.inj H
          have hnb96 := NB123_101.out
          have hnc96 := NB101_123.out
          have hnb97 := NB123_112.out
          have hnc97 := NB112_123.out
          have hnb98 := NB123_117.out
          have hnc98 := NB117_123.out
          have hcz99_0 : wc.cell? ⟨gb123, 0, none⟩ = some (.int .i64 t118) := (blk_cell BK123.out 0).trans rfl
          have hcz99_1 : wc.cell? ⟨gb123, 1, none⟩ = some (.slice Ao39 t119.length co39) := (blk_cell BK123.out 1).trans rfl
          have hfz99_0 := blk_frozen BK123.out 0
          have hfz99_1 := blk_frozen BK123.out 1
          go_wp2_with (first | ((with_reducible refine gate_callee (f := 23) rfl ?_); refine goesL_ (some 76) rfl rfl Try.func23 zk rfl #[.agg #[.int .i64 t118, .slice Ao39 t119.length co39], .int .i64 1] rfl zm ?_; (with_reducible refine (laws_markClock.calls kj62 t118 (fun k_ => some k_ = (.slice Ao39 t119.length co39 : Value).ownBlock) (.slice Ao39 t119.length co39) t119 1 t133 t134 w _ ?side1 ?side2 A93.out).mono ?_); (case side1 => repeat (first | (with_reducible first | exact HB.out | apply below_alloc | apply pw_below_drewN | apply below_drew1 | refine below_set ?_ GE101.out | refine below_set ?_ GE112.out | refine below_set ?_ GE117.out | refine below_set ?_ GE123.out) | exact HB.out)); (case side2 => exact Kd.R_tight rfl HO_124001.out); rintro e w100 ⟨rfl, hy0, hb, hkp⟩; refine ⟨_, rfl, ?_⟩; replace HO_113001 := Aside0.mk (Kd.R_mono (ok' := fun k_ => some k_ ≠ (.slice Ao32 t131.length co32 : Value).ownBlock ∧ some k_ ≠ (.slice Ao39 t119.length co39 : Value).ownBlock) (Kd.R_keptB (HO_113001.out) hkp (fun k_ hk_ hs_ => (hk_.2) hs_)) (fun k_ hk_ => ⟨hk_.1.1, hk_.1.2⟩)); replace HO_118001 := Aside0.mk (Kd.R_mono (ok' := fun k_ => some k_ ≠ (.slice Ao25 t108.length co25 : Value).ownBlock ∧ some k_ ≠ (.slice Ao39 t119.length co39 : Value).ownBlock) (Kd.R_keptB (HO_118001.out) hkp (fun k_ hk_ hs_ => (hk_.2) hs_)) (fun k_ hk_ => ⟨hk_.1.1, hk_.1.2⟩)); replace BK101 := Aside0.mk (blk_kept (kz BK101.out) hkp (fun hs_ => (fun e_ => (Kd.R_ne HO_124001.out BK101.out (by decide)) e_) hs_)); replace BK112 := Aside0.mk (blk_kept (kz BK112.out) hkp (fun hs_ => (fun e_ => (Kd.R_ne HO_124001.out BK112.out (by decide)) e_) hs_)); replace BK117 := Aside0.mk (blk_kept (kz BK117.out) hkp (fun hs_ => (fun e_ => (Kd.R_ne HO_124001.out BK117.out (by decide)) e_) hs_)); replace BK123 := Aside0.mk (blk_kept (kz BK123.out) hkp (fun hs_ => (fun e_ => (Kd.R_ne HO_124001.out BK123.out (by decide)) e_) hs_)); replace HO_124001 := Aside0.mk (Kd.R_reok rfl hy0 (fun k_ e_ => HO_124001.out.1 k_ e_)); replace HB := Aside0.mk (hb); (try clear hb); (try clear hkp); (try clear hy0); have hcz101_0 : w100.cell? ⟨gb123, 0, none⟩ = some (.int .i64 t118) := (blk_cell BK123.out 0).trans rfl; have hcz101_1 : w100.cell? ⟨gb123, 1, none⟩ = some (.slice Ao39 t119.length co39) := (blk_cell BK123.out 1).trans rfl; have hfz101_0 := blk_frozen BK123.out 0; have hfz101_1 := blk_frozen BK123.out 1) | ((with_reducible refine gate_callee (f := 24) rfl ?_); refine goesL_ (some 79) rfl rfl Try.func24 zk rfl #[.agg #[.int .i64 t118, .slice Ao39 t134.length co39], .int .i64 1] rfl (by (try simp only [List.map_toArray, List.map_cons, List.map_nil]); first | done | (rw [show t134.length = t119.length from (Kd.R_reads' HO_124001.out).1.symm] <;> rfl) | rfl | (simp only [List.length_drop, List.length_take]; rfl)) ?_; (with_reducible refine (laws_heldClock.calls kj62 t118 _ _ t134 1 t135 _ ?side1 ?side2 A94.out).mono ?_); (case side1 => exact cz ((Kd.R_reads' HO_124001.out).2.2)); (case side2 => rw [show t134.length = t119.length from (Kd.R_reads' HO_124001.out).1.symm]; exact (Kd.R_reads' HO_124001.out).2.1); rintro e w102 ⟨rfl, hb⟩; refine ⟨_, rfl, ?_⟩; replace HO_113001 := Aside0.mk (Kd.R_below (rz HO_113001.out) hb); replace HO_118001 := Aside0.mk (Kd.R_below (rz HO_118001.out) hb); replace HO_124001 := Aside0.mk (Kd.R_below (rz HO_124001.out) hb); replace BK101 := Aside0.mk (blk_below (g := gb101) (o := .cells #[.int .i64 a0_0, .slice A0_1 l0_1.length c0_1] 38 (0, 0)) (kz BK101.out) hb); replace BK112 := Aside0.mk (blk_below (g := gb112) (o := .cells #[.int .i64 t107, .slice Ao25 t108.length co25] 26 (0, 0)) (kz BK112.out) hb); replace BK117 := Aside0.mk (blk_below (g := gb117) (o := .cells #[.int .i64 t113, .slice Ao32 t131.length co32] 26 (0, 0)) (kz BK117.out) hb); replace BK123 := Aside0.mk (blk_below (g := gb123) (o := .cells #[.int .i64 t118, .slice Ao39 t119.length co39] 26 (0, 0)) (kz BK123.out) hb); replace HB := Aside0.mk (below_step (by repeat (first | (with_reducible first | exact HB.out | apply below_alloc | apply pw_below_drewN | apply below_drew1 | refine below_set ?_ GE101.out | refine below_set ?_ GE112.out | refine below_set ?_ GE117.out | refine below_set ?_ GE123.out) | exact HB.out)) hb); (try clear hb)))
          go_ret
          exact ⟨ze, by repeat (first | (with_reducible first | exact HB.out | apply below_alloc | apply pw_below_drewN | apply below_drew1 | refine below_set ?_ GE101.out | refine below_set ?_ GE112.out | refine below_set ?_ GE117.out | refine below_set ?_ GE123.out) | exact HB.out)⟩
         ·
          rw [if_neg c95] at H
          have c95b0 : decide (t135 < 0) = false := decide_eq_false c95
          clear c95
          by_cases c103 : t135 = t133
          ·
           rw [if_pos c103] at H
           have c103b0 : (t135 == t133) = true := beq_iff_eq.mpr c103
           have c103b1 : (t135 != t133) = false := bne_eq_false_iff_eq.mpr c103
           clear c103
           replace H := Option.bind_eq_some_iff.mp H
           obtain ⟨⟨t136, t137⟩, A1040, H⟩ := H
           replace H : ((impl_ClockSet.f kj62 t136 t137 a1 a2 a3).bind fun bt140 => ((laws_eqClock.f kj62 bt140.1 bt140.2.1 t107 t108).bind fun t146 => (if t146 = true then (laws_FnExactClockSet.j2 kj62 t133 (bt140.2.2 != t111) t118 t134) else (laws_FnExactClockSet.j2 kj62 t133 true t118 t134)))) = some r := H
           have A104 := Aside0.mk A1040
           clear A1040
           replace H := Option.bind_eq_some_iff.mp H
           obtain ⟨⟨t140, t141, t144⟩, A1050, H⟩ := H
           replace H : ((laws_eqClock.f kj62 t140 t141 t107 t108).bind fun t146 => (if t146 = true then (laws_FnExactClockSet.j2 kj62 t133 (t144 != t111) t118 t134) else (laws_FnExactClockSet.j2 kj62 t133 true t118 t134))) = some r := H
           have A105 := Aside0.mk A1050
           clear A1050
           have HC106 := Aside0.mk H
           clear H
           have hnb107 := NB123_101.out
           have hnc107 := NB101_123.out
           have hnb108 := NB123_112.out
           have hnc108 := NB112_123.out
           have hnb109 := NB123_117.out
           have hnc109 := NB117_123.out
           have hcz110_0 : wc.cell? ⟨gb123, 0, none⟩ = some (.int .i64 t118) := (blk_cell BK123.out 0).trans rfl
           have hcz110_1 : wc.cell? ⟨gb123, 1, none⟩ = some (.slice Ao39 t119.length co39) := (blk_cell BK123.out 1).trans rfl
           have hfz110_0 := blk_frozen BK123.out 0
           have hfz110_1 := blk_frozen BK123.out 1
           go_upto_region 25 with (first | ((with_reducible refine gate_callee (f := 23) rfl ?_); refine goesL_ (some 76) rfl rfl Try.func23 zk rfl #[.agg #[.int .i64 t118, .slice Ao39 t119.length co39], .int .i64 1] rfl zm ?_; (with_reducible refine (laws_markClock.calls kj62 t118 (fun k_ => some k_ = (.slice Ao39 t119.length co39 : Value).ownBlock) (.slice Ao39 t119.length co39) t119 1 t133 t134 w _ ?side1 ?side2 A93.out).mono ?_); (case side1 => repeat (first | (with_reducible first | exact HB.out | apply below_alloc | apply pw_below_drewN | apply below_drew1 | refine below_set ?_ GE101.out | refine below_set ?_ GE112.out | refine below_set ?_ GE117.out | refine below_set ?_ GE123.out) | exact HB.out)); (case side2 => exact Kd.R_tight rfl HO_124001.out); rintro e w111 ⟨rfl, hy0, hb, hkp⟩; refine ⟨_, rfl, ?_⟩; replace HO_113001 := Aside0.mk (Kd.R_mono (ok' := fun k_ => some k_ ≠ (.slice Ao32 t131.length co32 : Value).ownBlock ∧ some k_ ≠ (.slice Ao39 t119.length co39 : Value).ownBlock) (Kd.R_keptB (HO_113001.out) hkp (fun k_ hk_ hs_ => (hk_.2) hs_)) (fun k_ hk_ => ⟨hk_.1.1, hk_.1.2⟩)); replace HO_118001 := Aside0.mk (Kd.R_mono (ok' := fun k_ => some k_ ≠ (.slice Ao25 t108.length co25 : Value).ownBlock ∧ some k_ ≠ (.slice Ao39 t119.length co39 : Value).ownBlock) (Kd.R_keptB (HO_118001.out) hkp (fun k_ hk_ hs_ => (hk_.2) hs_)) (fun k_ hk_ => ⟨hk_.1.1, hk_.1.2⟩)); replace BK101 := Aside0.mk (blk_kept (kz BK101.out) hkp (fun hs_ => (fun e_ => (Kd.R_ne HO_124001.out BK101.out (by decide)) e_) hs_)); replace BK112 := Aside0.mk (blk_kept (kz BK112.out) hkp (fun hs_ => (fun e_ => (Kd.R_ne HO_124001.out BK112.out (by decide)) e_) hs_)); replace BK117 := Aside0.mk (blk_kept (kz BK117.out) hkp (fun hs_ => (fun e_ => (Kd.R_ne HO_124001.out BK117.out (by decide)) e_) hs_)); replace BK123 := Aside0.mk (blk_kept (kz BK123.out) hkp (fun hs_ => (fun e_ => (Kd.R_ne HO_124001.out BK123.out (by decide)) e_) hs_)); replace HO_124001 := Aside0.mk (Kd.R_reok rfl hy0 (fun k_ e_ => HO_124001.out.1 k_ e_)); replace HB := Aside0.mk (hb); (try clear hb); (try clear hkp); (try clear hy0); have hcz112_0 : w111.cell? ⟨gb123, 0, none⟩ = some (.int .i64 t118) := (blk_cell BK123.out 0).trans rfl; have hcz112_1 : w111.cell? ⟨gb123, 1, none⟩ = some (.slice Ao39 t119.length co39) := (blk_cell BK123.out 1).trans rfl; have hfz112_0 := blk_frozen BK123.out 0; have hfz112_1 := blk_frozen BK123.out 1) | ((with_reducible refine gate_callee (f := 24) rfl ?_); refine goesL_ (some 79) rfl rfl Try.func24 zk rfl #[.agg #[.int .i64 t118, .slice Ao39 t134.length co39], .int .i64 1] rfl (by (try simp only [List.map_toArray, List.map_cons, List.map_nil]); first | done | (rw [show t134.length = t119.length from (Kd.R_reads' HO_124001.out).1.symm] <;> rfl) | rfl | (simp only [List.length_drop, List.length_take]; rfl)) ?_; (with_reducible refine (laws_heldClock.calls kj62 t118 _ _ t134 1 t135 _ ?side1 ?side2 A94.out).mono ?_); (case side1 => exact cz ((Kd.R_reads' HO_124001.out).2.2)); (case side2 => rw [show t134.length = t119.length from (Kd.R_reads' HO_124001.out).1.symm]; exact (Kd.R_reads' HO_124001.out).2.1); rintro e w113 ⟨rfl, hb⟩; refine ⟨_, rfl, ?_⟩; replace HO_113001 := Aside0.mk (Kd.R_below (rz HO_113001.out) hb); replace HO_118001 := Aside0.mk (Kd.R_below (rz HO_118001.out) hb); replace HO_124001 := Aside0.mk (Kd.R_below (rz HO_124001.out) hb); replace BK101 := Aside0.mk (blk_below (g := gb101) (o := .cells #[.int .i64 a0_0, .slice A0_1 l0_1.length c0_1] 38 (0, 0)) (kz BK101.out) hb); replace BK112 := Aside0.mk (blk_below (g := gb112) (o := .cells #[.int .i64 t107, .slice Ao25 t108.length co25] 26 (0, 0)) (kz BK112.out) hb); replace BK117 := Aside0.mk (blk_below (g := gb117) (o := .cells #[.int .i64 t113, .slice Ao32 t131.length co32] 26 (0, 0)) (kz BK117.out) hb); replace BK123 := Aside0.mk (blk_below (g := gb123) (o := .cells #[.int .i64 t118, .slice Ao39 t119.length co39] 26 (0, 0)) (kz BK123.out) hb); replace HB := Aside0.mk (below_step (by repeat (first | (with_reducible first | exact HB.out | apply below_alloc | apply pw_below_drewN | apply below_drew1 | refine below_set ?_ GE101.out | refine below_set ?_ GE112.out | refine below_set ?_ GE117.out | refine below_set ?_ GE123.out) | exact HB.out)) hb); (try clear hb); have hnb114 := NB101_112.out; have hnc114 := NB112_101.out; have hnb115 := NB101_117.out; have hnc115 := NB117_101.out; have hcz116_0 : w113.cell? ⟨gb101, 0, none⟩ = some (.int .i64 a0_0) := (blk_cell BK101.out 0).trans rfl; have hcz116_1 : w113.cell? ⟨gb101, 1, none⟩ = some (.slice A0_1 l0_1.length c0_1) := (blk_cell BK101.out 1).trans rfl; have hfz116_0 := blk_frozen BK101.out 0; have hfz116_1 := blk_frozen BK101.out 1) | ((with_reducible refine gate_callee (f := 27) rfl ?_); refine goesL_ (some 87) rfl rfl Try.func27 zk rfl #[.agg #[.int .i64 a0_0, .slice A0_1 l0_1.length c0_1]] rfl zm ?_; (with_reducible refine (laws_toClock.calls kj62 a0_0 _ _ l0_1 t136 t137 _ ?side1 ?side2 A104.out).mono ?_); (case side1 => exact cz (Kd.C_below HR0_1.out HB.out)); (case side2 => exact HC0_1.out); rintro e w117 ⟨v138, rfl, ho0, hb⟩; refine ⟨_, rfl, ?_⟩; have HO139 := Aside0.mk (Kd.R_lower (Kd.R_new' (Kd.R_new' (Kd.R_new' ho0 (Kd.R_lt (rz HO_113001.out))) (Kd.R_lt (rz HO_118001.out))) (Kd.R_lt (rz HO_124001.out))) (below_size (by repeat (first | (with_reducible first | exact HB.out | apply below_alloc | apply pw_below_drewN | apply below_drew1 | refine below_set ?_ GE101.out | refine below_set ?_ GE112.out | refine below_set ?_ GE117.out | refine below_set ?_ GE123.out) | exact HB.out)))); replace HO_113001 := Aside0.mk (Kd.R_elder' (rz HO_113001.out) (Kd.R_base ho0) hb); replace HO_118001 := Aside0.mk (Kd.R_elder' (rz HO_118001.out) (Kd.R_base ho0) hb); replace HO_124001 := Aside0.mk (Kd.R_elder' (rz HO_124001.out) (Kd.R_base ho0) hb); replace BK101 := Aside0.mk (blk_below (g := gb101) (o := .cells #[.int .i64 a0_0, .slice A0_1 l0_1.length c0_1] 38 (0, 0)) (kz BK101.out) hb); replace BK112 := Aside0.mk (blk_below (g := gb112) (o := .cells #[.int .i64 t107, .slice Ao25 t108.length co25] 26 (0, 0)) (kz BK112.out) hb); replace BK117 := Aside0.mk (blk_below (g := gb117) (o := .cells #[.int .i64 t113, .slice Ao32 t131.length co32] 26 (0, 0)) (kz BK117.out) hb); replace BK123 := Aside0.mk (blk_below (g := gb123) (o := .cells #[.int .i64 t118, .slice Ao39 t119.length co39] 26 (0, 0)) (kz BK123.out) hb); replace HB := Aside0.mk (below_step (by repeat (first | (with_reducible first | exact HB.out | apply below_alloc | apply pw_below_drewN | apply below_drew1 | refine below_set ?_ GE101.out | refine below_set ?_ GE112.out | refine below_set ?_ GE117.out | refine below_set ?_ GE123.out) | exact HB.out)) hb); (try clear hb); (try clear ho0); obtain ⟨Ao118, co118, eo118⟩ := Kd.R_slice HO139.out; subst eo118) | ((with_reducible refine gate_callee (f := 31) rfl ?_); refine goesL_ (some 91) rfl rfl Try.func31 zk rfl #[.agg #[.int .i64 t136, .slice Ao118 t137.length co118], .int .i64 a1, .int .i64 a2, .int .i64 a3] rfl zm ?_; (with_reducible refine (impl_ClockSet.calls kj62 t136 _ _ t137 a1 a2 a3 t140 t141 t144 _ ?side1 ?side2 A105.out).mono ?_); (case side1 => exact cz ((Kd.R_reads' HO139.out).2.2)); (case side2 => exact (Kd.R_reads' HO139.out).2.1); rintro e w119 ⟨v142, rfl, ho0, hb⟩; refine ⟨_, rfl, ?_⟩; have HO143 := Aside0.mk (Kd.R_lower (Kd.R_new' (Kd.R_new' (Kd.R_new' (Kd.R_new' ho0 (Kd.R_lt (rz HO_113001.out))) (Kd.R_lt (rz HO_118001.out))) (Kd.R_lt (rz HO_124001.out))) (Kd.R_lt (rz HO139.out))) (below_size (by repeat (first | (with_reducible first | exact HB.out | apply below_alloc | apply pw_below_drewN | apply below_drew1 | refine below_set ?_ GE101.out | refine below_set ?_ GE112.out | refine below_set ?_ GE117.out | refine below_set ?_ GE123.out) | exact HB.out)))); replace HO_113001 := Aside0.mk (Kd.R_elder' (rz HO_113001.out) (Kd.R_base ho0) hb); replace HO_118001 := Aside0.mk (Kd.R_elder' (rz HO_118001.out) (Kd.R_base ho0) hb); replace HO_124001 := Aside0.mk (Kd.R_elder' (rz HO_124001.out) (Kd.R_base ho0) hb); replace HO139 := Aside0.mk (Kd.R_elder' (rz HO139.out) (Kd.R_base ho0) hb); replace BK101 := Aside0.mk (blk_below (g := gb101) (o := .cells #[.int .i64 a0_0, .slice A0_1 l0_1.length c0_1] 38 (0, 0)) (kz BK101.out) hb); replace BK112 := Aside0.mk (blk_below (g := gb112) (o := .cells #[.int .i64 t107, .slice Ao25 t108.length co25] 26 (0, 0)) (kz BK112.out) hb); replace BK117 := Aside0.mk (blk_below (g := gb117) (o := .cells #[.int .i64 t113, .slice Ao32 t131.length co32] 26 (0, 0)) (kz BK117.out) hb); replace BK123 := Aside0.mk (blk_below (g := gb123) (o := .cells #[.int .i64 t118, .slice Ao39 t119.length co39] 26 (0, 0)) (kz BK123.out) hb); replace HB := Aside0.mk (below_step (by repeat (first | (with_reducible first | exact HB.out | apply below_alloc | apply pw_below_drewN | apply below_drew1 | refine below_set ?_ GE101.out | refine below_set ?_ GE112.out | refine below_set ?_ GE117.out | refine below_set ?_ GE123.out) | exact HB.out)) hb); (try clear hb); (try clear ho0)) | ((with_reducible refine gate_dst (N := 18) rfl ?_); refine box_event ?hg (N := 18) ?hd (cs := #[.int .i64 0, .slice none 0 0]) (t := 26) ?hr ?_; (case hd => rfl); (case hg => rfl); (case hr => first | (go_simp; done) | (go_simp; rfl)); intro gb145 hg w120 hbox hb; replace HO_113001 := Aside0.mk (Kd.R_below (rz HO_113001.out) hb); replace HO_118001 := Aside0.mk (Kd.R_below (rz HO_118001.out) hb); replace HO_124001 := Aside0.mk (Kd.R_below (rz HO_124001.out) hb); replace HO139 := Aside0.mk (Kd.R_below (rz HO139.out) hb); replace HO143 := Aside0.mk (Kd.R_below (rz HO143.out) hb); have BK145 := Aside0.mk (hbox); have GW145 := Aside0.mk ((by rw [hg]; exact (below_size (by repeat (first | (with_reducible first | exact HB.out | apply below_alloc | apply pw_below_drewN | apply below_drew1 | refine below_set ?_ GE101.out | refine below_set ?_ GE112.out | refine below_set ?_ GE117.out | refine below_set ?_ GE123.out) | exact HB.out))) : w.heap.size ≤ gb145)); have GE145 := Aside0.mk ((by rw [hg]; exact (below_size (by repeat (first | (with_reducible first | exact HB.out | apply below_alloc | apply pw_below_drewN | apply below_drew1 | refine below_set ?_ GE101.out | refine below_set ?_ GE112.out | refine below_set ?_ GE117.out | refine below_set ?_ GE123.out) | exact HB.out))) : w.heap.size ≤ gb145)); replace HB := Aside0.mk (below_step (by repeat (first | (with_reducible first | exact HB.out | apply below_alloc | apply pw_below_drewN | apply below_drew1 | refine below_set ?_ GE101.out | refine below_set ?_ GE112.out | refine below_set ?_ GE117.out | refine below_set ?_ GE123.out) | exact HB.out)) hb); have NB101_145 := Aside0.mk ((by rw [hg]; exact Nat.ne_of_lt (blk_lt (g := gb101) (o := .cells #[.int .i64 a0_0, .slice A0_1 l0_1.length c0_1] 38 (0, 0)) (kz BK101.out)) : gb101 ≠ gb145)); have NB145_101 := Aside0.mk ((by rw [hg]; exact Nat.ne_of_gt (blk_lt (g := gb101) (o := .cells #[.int .i64 a0_0, .slice A0_1 l0_1.length c0_1] 38 (0, 0)) (kz BK101.out)) : gb145 ≠ gb101)); replace BK101 := Aside0.mk (blk_below (g := gb101) (o := .cells #[.int .i64 a0_0, .slice A0_1 l0_1.length c0_1] 38 (0, 0)) (kz BK101.out) hb); have NB112_145 := Aside0.mk ((by rw [hg]; exact Nat.ne_of_lt (blk_lt (g := gb112) (o := .cells #[.int .i64 t107, .slice Ao25 t108.length co25] 26 (0, 0)) (kz BK112.out)) : gb112 ≠ gb145)); have NB145_112 := Aside0.mk ((by rw [hg]; exact Nat.ne_of_gt (blk_lt (g := gb112) (o := .cells #[.int .i64 t107, .slice Ao25 t108.length co25] 26 (0, 0)) (kz BK112.out)) : gb145 ≠ gb112)); replace BK112 := Aside0.mk (blk_below (g := gb112) (o := .cells #[.int .i64 t107, .slice Ao25 t108.length co25] 26 (0, 0)) (kz BK112.out) hb); have NB117_145 := Aside0.mk ((by rw [hg]; exact Nat.ne_of_lt (blk_lt (g := gb117) (o := .cells #[.int .i64 t113, .slice Ao32 t131.length co32] 26 (0, 0)) (kz BK117.out)) : gb117 ≠ gb145)); have NB145_117 := Aside0.mk ((by rw [hg]; exact Nat.ne_of_gt (blk_lt (g := gb117) (o := .cells #[.int .i64 t113, .slice Ao32 t131.length co32] 26 (0, 0)) (kz BK117.out)) : gb145 ≠ gb117)); replace BK117 := Aside0.mk (blk_below (g := gb117) (o := .cells #[.int .i64 t113, .slice Ao32 t131.length co32] 26 (0, 0)) (kz BK117.out) hb); have NB123_145 := Aside0.mk ((by rw [hg]; exact Nat.ne_of_lt (blk_lt (g := gb123) (o := .cells #[.int .i64 t118, .slice Ao39 t119.length co39] 26 (0, 0)) (kz BK123.out)) : gb123 ≠ gb145)); have NB145_123 := Aside0.mk ((by rw [hg]; exact Nat.ne_of_gt (blk_lt (g := gb123) (o := .cells #[.int .i64 t118, .slice Ao39 t119.length co39] 26 (0, 0)) (kz BK123.out)) : gb145 ≠ gb123)); replace BK123 := Aside0.mk (blk_below (g := gb123) (o := .cells #[.int .i64 t118, .slice Ao39 t119.length co39] 26 (0, 0)) (kz BK123.out) hb); clear hb hbox hg; have hnb121 := NB145_101.out; have hnc121 := NB101_145.out; have hnb122 := NB145_112.out; have hnc122 := NB112_145.out; have hnb123 := NB145_117.out; have hnc123 := NB117_145.out; have hnb124 := NB145_123.out; have hnc124 := NB123_145.out; have hcz125_0 : w120.cell? ⟨gb145, 0, none⟩ = some (.int .i64 0) := (blk_cell BK145.out 0).trans rfl; have hcz125_1 : w120.cell? ⟨gb145, 1, none⟩ = some (.slice none 0 0) := (blk_cell BK145.out 1).trans rfl; have hfz125_0 := blk_frozen BK145.out 0; have hfz125_1 := blk_frozen BK145.out 1; obtain ⟨Ao126, co126, eo126⟩ := Kd.R_slice HO143.out; subst eo126))
           (try simp only [Act.put, List.setIfInBounds_toArray, List.set_cons_zero, List.set_cons_succ])
           go_cut [102] (fun v102 wc => ∃ (kq : Nat) (x102_105 : Bool), v102 = .bool x102_105 ∧ Aside0 (laws_FnExactClockSet.j2 kq t133 x102_105 t118 t134 = some r) ∧ Aside0 (kq ≤ kj62) ∧ Aside0 (Kd.R k62 62 wc w.heap.size (fun k_ => some k_ ≠ ((.slice Ao32 t131.length co32) : Value).ownBlock ∧ some k_ ≠ ((.slice Ao39 t119.length co39) : Value).ownBlock ∧ some k_ ≠ ((.slice Ao126 t141.length co126) : Value).ownBlock) (.slice Ao25 t108.length co25) t108) ∧ Aside0 (Kd.R k62 62 wc w.heap.size (fun k_ => some k_ ≠ ((.slice Ao25 t108.length co25) : Value).ownBlock ∧ some k_ ≠ ((.slice Ao39 t119.length co39) : Value).ownBlock ∧ some k_ ≠ ((.slice Ao126 t141.length co126) : Value).ownBlock) (.slice Ao32 t131.length co32) t131) ∧ Aside0 (Kd.R k62 62 wc w.heap.size (fun k_ => some k_ ≠ ((.slice Ao25 t108.length co25) : Value).ownBlock ∧ some k_ ≠ ((.slice Ao32 t131.length co32) : Value).ownBlock ∧ some k_ ≠ ((.slice Ao126 t141.length co126) : Value).ownBlock) (.slice Ao39 t119.length co39) t134) ∧ Aside0 (Kd.R k62 62 wc w.heap.size (fun k_ => some k_ ≠ ((.slice Ao25 t108.length co25) : Value).ownBlock ∧ some k_ ≠ ((.slice Ao32 t131.length co32) : Value).ownBlock ∧ some k_ ≠ ((.slice Ao39 t119.length co39) : Value).ownBlock) (.slice Ao126 t141.length co126) t141) ∧ Aside0 (wc.heap[gb101]? = some (.cells #[.int .i64 a0_0, (.slice A0_1 l0_1.length c0_1)] 38 (0, 0))) ∧ Aside0 (wc.heap[gb112]? = some (.cells #[.int .i64 t107, (.slice Ao25 t108.length co25)] 26 (0, 0))) ∧ Aside0 (wc.heap[gb117]? = some (.cells #[.int .i64 t113, (.slice Ao32 t131.length co32)] 26 (0, 0))) ∧ Aside0 (wc.heap[gb123]? = some (.cells #[.int .i64 t118, (.slice Ao39 t119.length co39)] 26 (0, 0))) ∧ Aside0 (wc.heap[gb145]? = some (.cells #[.int .i64 t140, (.slice Ao126 t141.length co126)] 26 (0, 0))) ∧ Aside0 (Below w.heap.size w wc))
           case first =>
            have H := HC106.out
            clear HC106
            replace H := Option.bind_eq_some_iff.mp H
            obtain ⟨t146, A1270, H⟩ := H
            have A127 := Aside0.mk A1270
            clear A1270
            by_cases c128 : t146 = true
            ·
             subst c128
             rw [if_pos rfl] at H
             have H' := Aside0.mk H
             clear H
             have hnb129 := NB145_101.out
             have hnc129 := NB101_145.out
             have hnb130 := NB145_112.out
             have hnc130 := NB112_145.out
             have hnb131 := NB145_117.out
             have hnc131 := NB117_145.out
             have hnb132 := NB145_123.out
             have hnc132 := NB123_145.out
             have hcz133_0 : w120.cell? ⟨gb145, 0, none⟩ = some (.int .i64 0) := (blk_cell BK145.out 0).trans rfl
             have hcz133_1 : w120.cell? ⟨gb145, 1, none⟩ = some (.slice none 0 0) := (blk_cell BK145.out 1).trans rfl
             have hfz133_0 := blk_frozen BK145.out 0
             have hfz133_1 := blk_frozen BK145.out 1
             have hnb134 := NB112_101.out
             have hnc134 := NB101_112.out
             have hnb135 := NB112_117.out
             have hnc135 := NB117_112.out
             have hnb136 := NB112_123.out
             have hnc136 := NB123_112.out
             have hcz137_0 : w120.cell? ⟨gb112, 0, none⟩ = some (.int .i64 t107) := (blk_cell BK112.out 0).trans rfl
             have hcz137_1 : w120.cell? ⟨gb112, 1, none⟩ = some (.slice Ao25 t108.length co25) := (blk_cell BK112.out 1).trans rfl
             have hfz137_0 := blk_frozen BK112.out 0
             have hfz137_1 := blk_frozen BK112.out 1
             go_wp2_with (first | ((with_reducible refine gate_callee (f := 22) rfl ?_); refine goesL_ (some 96) rfl rfl Try.func22 zk rfl #[.agg #[.int .i64 t140, .slice Ao126 t141.length co126], .agg #[.int .i64 t107, .slice Ao25 t108.length co25]] rfl zm ?_; (with_reducible refine (laws_eqClock.calls kj62 t140 _ _ t141 t107 _ _ t108 true _ ?side1 ?side2 ?side3 ?side4 A127.out).mono ?_); (case side1 => refine (Kd.R_reads' (e := 62) (base := w.heap.size) (ok := fun k_ => ((((True ∧ some k_ ≠ (.slice Ao25 t108.length co25 : Value).ownBlock) ∧ some k_ ≠ (.slice Ao32 t131.length co32 : Value).ownBlock) ∧ some k_ ≠ (.slice Ao39 t119.length co39 : Value).ownBlock) ∧ some k_ ≠ (.slice Ao118 t137.length co118 : Value).ownBlock)) (n := t141.length) (c := co126) ?_).2.2; exact (by (with_reducible repeat (first | apply Kd.R_alloc | apply Kd.R_drewN | apply Kd.R_drew)); exact (Kd.R_mono (Kd.R_far (p := ⟨gb145, 1, none⟩) (Kd.R_far (p := ⟨gb145, 0, none⟩) (Kd.R_types HO143.out BK145.out (by decide)) (fun _ hk => hk.2) (.int .i64 t140)) (fun _ hk => hk.2) (.slice Ao126 t141.length co126)) (fun _ h_ => h_.1)))); (case side2 => exact (Kd.R_reads' HO143.out).2.1); (case side3 => refine (Kd.R_reads' (e := 62) (base := w.heap.size) (ok := fun k_ => (((some k_ ≠ (.slice Ao32 t131.length co32 : Value).ownBlock ∧ some k_ ≠ (.slice Ao39 t119.length co39 : Value).ownBlock) ∧ some k_ ≠ (.slice Ao118 t137.length co118 : Value).ownBlock) ∧ some k_ ≠ (.slice Ao126 t141.length co126 : Value).ownBlock)) (n := t108.length) (c := co25) ?_).2.2; exact (by (with_reducible repeat (first | apply Kd.R_alloc | apply Kd.R_drewN | apply Kd.R_drew)); exact (Kd.R_mono (Kd.R_far (p := ⟨gb145, 1, none⟩) (Kd.R_far (p := ⟨gb145, 0, none⟩) (Kd.R_types HO_113001.out BK145.out (by decide)) (fun _ hk => hk.2) (.int .i64 t140)) (fun _ hk => hk.2) (.slice Ao126 t141.length co126)) (fun _ h_ => h_.1)))); (case side4 => exact (Kd.R_reads' HO_113001.out).2.1); rintro e w138 ⟨rfl, hb⟩; refine ⟨_, rfl, ?_⟩; replace HO_113001 := Aside0.mk (Kd.R_below (by (with_reducible repeat (first | apply Kd.R_alloc | apply Kd.R_drewN | apply Kd.R_drew)); exact (Kd.R_mono (Kd.R_far (p := ⟨gb145, 1, none⟩) (Kd.R_far (p := ⟨gb145, 0, none⟩) (Kd.R_types HO_113001.out BK145.out (by decide)) (fun _ hk => hk.2) (.int .i64 t140)) (fun _ hk => hk.2) (.slice Ao126 t141.length co126)) (fun _ h_ => h_.1))) hb); replace HO_118001 := Aside0.mk (Kd.R_below (by (with_reducible repeat (first | apply Kd.R_alloc | apply Kd.R_drewN | apply Kd.R_drew)); exact (Kd.R_mono (Kd.R_far (p := ⟨gb145, 1, none⟩) (Kd.R_far (p := ⟨gb145, 0, none⟩) (Kd.R_types HO_118001.out BK145.out (by decide)) (fun _ hk => hk.2) (.int .i64 t140)) (fun _ hk => hk.2) (.slice Ao126 t141.length co126)) (fun _ h_ => h_.1))) hb); replace HO_124001 := Aside0.mk (Kd.R_below (by (with_reducible repeat (first | apply Kd.R_alloc | apply Kd.R_drewN | apply Kd.R_drew)); exact (Kd.R_mono (Kd.R_far (p := ⟨gb145, 1, none⟩) (Kd.R_far (p := ⟨gb145, 0, none⟩) (Kd.R_types HO_124001.out BK145.out (by decide)) (fun _ hk => hk.2) (.int .i64 t140)) (fun _ hk => hk.2) (.slice Ao126 t141.length co126)) (fun _ h_ => h_.1))) hb); replace HO139 := Aside0.mk (Kd.R_below (by (with_reducible repeat (first | apply Kd.R_alloc | apply Kd.R_drewN | apply Kd.R_drew)); exact (Kd.R_mono (Kd.R_far (p := ⟨gb145, 1, none⟩) (Kd.R_far (p := ⟨gb145, 0, none⟩) (Kd.R_types HO139.out BK145.out (by decide)) (fun _ hk => hk.2) (.int .i64 t140)) (fun _ hk => hk.2) (.slice Ao126 t141.length co126)) (fun _ h_ => h_.1))) hb); replace HO143 := Aside0.mk (Kd.R_below (by (with_reducible repeat (first | apply Kd.R_alloc | apply Kd.R_drewN | apply Kd.R_drew)); exact (Kd.R_mono (Kd.R_far (p := ⟨gb145, 1, none⟩) (Kd.R_far (p := ⟨gb145, 0, none⟩) (Kd.R_types HO143.out BK145.out (by decide)) (fun _ hk => hk.2) (.int .i64 t140)) (fun _ hk => hk.2) (.slice Ao126 t141.length co126)) (fun _ h_ => h_.1))) hb); replace BK101 := Aside0.mk (blk_below (g := gb101) (o := .cells #[.int .i64 a0_0, .slice A0_1 l0_1.length c0_1] 38 (0, 0)) (by (with_reducible repeat (first | refine blk_drewN ?_ _ | refine blk_drew ?_ | refine blk_alloc ?_ _)); refine blk_far ?_ NB101_145.out _; (with_reducible repeat (first | refine blk_drewN ?_ _ | refine blk_drew ?_ | refine blk_alloc ?_ _)); refine blk_far ?_ NB101_145.out _; (with_reducible repeat (first | refine blk_drewN ?_ _ | refine blk_drew ?_ | refine blk_alloc ?_ _)); exact BK101.out) hb); replace BK112 := Aside0.mk (blk_below (g := gb112) (o := .cells #[.int .i64 t107, .slice Ao25 t108.length co25] 26 (0, 0)) (by (with_reducible repeat (first | refine blk_drewN ?_ _ | refine blk_drew ?_ | refine blk_alloc ?_ _)); refine blk_far ?_ NB112_145.out _; (with_reducible repeat (first | refine blk_drewN ?_ _ | refine blk_drew ?_ | refine blk_alloc ?_ _)); refine blk_far ?_ NB112_145.out _; (with_reducible repeat (first | refine blk_drewN ?_ _ | refine blk_drew ?_ | refine blk_alloc ?_ _)); exact BK112.out) hb); replace BK117 := Aside0.mk (blk_below (g := gb117) (o := .cells #[.int .i64 t113, .slice Ao32 t131.length co32] 26 (0, 0)) (by (with_reducible repeat (first | refine blk_drewN ?_ _ | refine blk_drew ?_ | refine blk_alloc ?_ _)); refine blk_far ?_ NB117_145.out _; (with_reducible repeat (first | refine blk_drewN ?_ _ | refine blk_drew ?_ | refine blk_alloc ?_ _)); refine blk_far ?_ NB117_145.out _; (with_reducible repeat (first | refine blk_drewN ?_ _ | refine blk_drew ?_ | refine blk_alloc ?_ _)); exact BK117.out) hb); replace BK123 := Aside0.mk (blk_below (g := gb123) (o := .cells #[.int .i64 t118, .slice Ao39 t119.length co39] 26 (0, 0)) (by (with_reducible repeat (first | refine blk_drewN ?_ _ | refine blk_drew ?_ | refine blk_alloc ?_ _)); refine blk_far ?_ NB123_145.out _; (with_reducible repeat (first | refine blk_drewN ?_ _ | refine blk_drew ?_ | refine blk_alloc ?_ _)); refine blk_far ?_ NB123_145.out _; (with_reducible repeat (first | refine blk_drewN ?_ _ | refine blk_drew ?_ | refine blk_alloc ?_ _)); exact BK123.out) hb); replace BK145 := Aside0.mk (blk_below (g := gb145) (o := .cells #[.int .i64 t140, .slice Ao126 t141.length co126] 26 (0, 0)) (by (with_reducible repeat (first | refine blk_drewN ?_ _ | refine blk_drew ?_ | refine blk_alloc ?_ _)); refine blk_put (cs := #[.int .i64 t140, .slice none 0 0]) ?_ 1 _ rfl; (with_reducible repeat (first | refine blk_drewN ?_ _ | refine blk_drew ?_ | refine blk_alloc ?_ _)); refine blk_put (cs := #[.int .i64 0, .slice none 0 0]) ?_ 0 _ rfl; (with_reducible repeat (first | refine blk_drewN ?_ _ | refine blk_drew ?_ | refine blk_alloc ?_ _)); exact BK145.out) hb); replace HB := Aside0.mk (below_step (by repeat (first | (with_reducible first | exact HB.out | apply below_alloc | apply pw_below_drewN | apply below_drew1 | refine below_set ?_ GE101.out | refine below_set ?_ GE112.out | refine below_set ?_ GE117.out | refine below_set ?_ GE123.out | refine below_set ?_ GE145.out) | exact HB.out)) hb); (try clear hb)))
             go_meet
             case rel => exact ⟨_, ((t144 != t111)), zr, H', ⟨by have := HJ13.out; have := HJ62.out; first | omega | exact Nat.le_refl _⟩, ⟨by (try simp only [hl118001_62]); (with_reducible repeat (first | apply Kd.R_alloc | apply Kd.R_drewN | apply Kd.R_drew)); exact Kd.R_mono HO_113001.out (fun _ hk => ⟨hk.1.1.1, ⟨hk.1.1.2, hk.2⟩⟩)⟩, ⟨by (try simp only [hl118001_62]); (with_reducible repeat (first | apply Kd.R_alloc | apply Kd.R_drewN | apply Kd.R_drew)); exact Kd.R_mono HO_118001.out (fun _ hk => ⟨hk.1.1.1, ⟨hk.1.1.2, hk.2⟩⟩)⟩, ⟨by (try simp only [hl118001_62]); (with_reducible repeat (first | apply Kd.R_alloc | apply Kd.R_drewN | apply Kd.R_drew)); exact Kd.R_mono HO_124001.out (fun _ hk => ⟨hk.1.1.1, ⟨hk.1.1.2, hk.2⟩⟩)⟩, ⟨by (try simp only [hl118001_62]); (with_reducible repeat (first | apply Kd.R_alloc | apply Kd.R_drewN | apply Kd.R_drew)); exact Kd.R_mono HO143.out (fun _ hk => ⟨hk.1.1.1.2, ⟨hk.1.1.2, hk.1.2⟩⟩)⟩, ⟨by (try simp only [hl118001_62]); (with_reducible repeat (first | refine blk_drewN ?_ _ | refine blk_drew ?_ | refine blk_alloc ?_ _)); exact BK101.out⟩, ⟨by (try simp only [hl118001_62]); (with_reducible repeat (first | refine blk_drewN ?_ _ | refine blk_drew ?_ | refine blk_alloc ?_ _)); exact BK112.out⟩, ⟨by (try simp only [hl118001_62]); (with_reducible repeat (first | refine blk_drewN ?_ _ | refine blk_drew ?_ | refine blk_alloc ?_ _)); exact BK117.out⟩, ⟨by (try simp only [hl118001_62]); (with_reducible repeat (first | refine blk_drewN ?_ _ | refine blk_drew ?_ | refine blk_alloc ?_ _)); exact BK123.out⟩, ⟨by (try simp only [hl118001_62]); (with_reducible repeat (first | refine blk_drewN ?_ _ | refine blk_drew ?_ | refine blk_alloc ?_ _)); exact BK145.out⟩, ⟨by repeat (first | (with_reducible first | exact HB.out | apply below_alloc | apply pw_below_drewN | apply below_drew1 | refine below_set ?_ GE101.out | refine below_set ?_ GE112.out | refine below_set ?_ GE117.out | refine below_set ?_ GE123.out | refine below_set ?_ GE145.out) | exact HB.out)⟩⟩
            ·
             replace c128 := Bool.eq_false_iff.mpr c128
             subst c128
             rw [if_neg nf_] at H
             have H' := Aside0.mk H
             clear H
             have hnb139 := NB145_101.out
             have hnc139 := NB101_145.out
             have hnb140 := NB145_112.out
             have hnc140 := NB112_145.out
             have hnb141 := NB145_117.out
             have hnc141 := NB117_145.out
             have hnb142 := NB145_123.out
             have hnc142 := NB123_145.out
             have hcz143_0 : w120.cell? ⟨gb145, 0, none⟩ = some (.int .i64 0) := (blk_cell BK145.out 0).trans rfl
             have hcz143_1 : w120.cell? ⟨gb145, 1, none⟩ = some (.slice none 0 0) := (blk_cell BK145.out 1).trans rfl
             have hfz143_0 := blk_frozen BK145.out 0
             have hfz143_1 := blk_frozen BK145.out 1
             have hnb144 := NB112_101.out
             have hnc144 := NB101_112.out
             have hnb145 := NB112_117.out
             have hnc145 := NB117_112.out
             have hnb146 := NB112_123.out
             have hnc146 := NB123_112.out
             have hcz147_0 : w120.cell? ⟨gb112, 0, none⟩ = some (.int .i64 t107) := (blk_cell BK112.out 0).trans rfl
             have hcz147_1 : w120.cell? ⟨gb112, 1, none⟩ = some (.slice Ao25 t108.length co25) := (blk_cell BK112.out 1).trans rfl
             have hfz147_0 := blk_frozen BK112.out 0
             have hfz147_1 := blk_frozen BK112.out 1
             go_wp2_with (first | ((with_reducible refine gate_callee (f := 22) rfl ?_); refine goesL_ (some 96) rfl rfl Try.func22 zk rfl #[.agg #[.int .i64 t140, .slice Ao126 t141.length co126], .agg #[.int .i64 t107, .slice Ao25 t108.length co25]] rfl zm ?_; (with_reducible refine (laws_eqClock.calls kj62 t140 _ _ t141 t107 _ _ t108 false _ ?side1 ?side2 ?side3 ?side4 A127.out).mono ?_); (case side1 => refine (Kd.R_reads' (e := 62) (base := w.heap.size) (ok := fun k_ => ((((True ∧ some k_ ≠ (.slice Ao25 t108.length co25 : Value).ownBlock) ∧ some k_ ≠ (.slice Ao32 t131.length co32 : Value).ownBlock) ∧ some k_ ≠ (.slice Ao39 t119.length co39 : Value).ownBlock) ∧ some k_ ≠ (.slice Ao118 t137.length co118 : Value).ownBlock)) (n := t141.length) (c := co126) ?_).2.2; exact (by (with_reducible repeat (first | apply Kd.R_alloc | apply Kd.R_drewN | apply Kd.R_drew)); exact (Kd.R_mono (Kd.R_far (p := ⟨gb145, 1, none⟩) (Kd.R_far (p := ⟨gb145, 0, none⟩) (Kd.R_types HO143.out BK145.out (by decide)) (fun _ hk => hk.2) (.int .i64 t140)) (fun _ hk => hk.2) (.slice Ao126 t141.length co126)) (fun _ h_ => h_.1)))); (case side2 => exact (Kd.R_reads' HO143.out).2.1); (case side3 => refine (Kd.R_reads' (e := 62) (base := w.heap.size) (ok := fun k_ => (((some k_ ≠ (.slice Ao32 t131.length co32 : Value).ownBlock ∧ some k_ ≠ (.slice Ao39 t119.length co39 : Value).ownBlock) ∧ some k_ ≠ (.slice Ao118 t137.length co118 : Value).ownBlock) ∧ some k_ ≠ (.slice Ao126 t141.length co126 : Value).ownBlock)) (n := t108.length) (c := co25) ?_).2.2; exact (by (with_reducible repeat (first | apply Kd.R_alloc | apply Kd.R_drewN | apply Kd.R_drew)); exact (Kd.R_mono (Kd.R_far (p := ⟨gb145, 1, none⟩) (Kd.R_far (p := ⟨gb145, 0, none⟩) (Kd.R_types HO_113001.out BK145.out (by decide)) (fun _ hk => hk.2) (.int .i64 t140)) (fun _ hk => hk.2) (.slice Ao126 t141.length co126)) (fun _ h_ => h_.1)))); (case side4 => exact (Kd.R_reads' HO_113001.out).2.1); rintro e w148 ⟨rfl, hb⟩; refine ⟨_, rfl, ?_⟩; replace HO_113001 := Aside0.mk (Kd.R_below (by (with_reducible repeat (first | apply Kd.R_alloc | apply Kd.R_drewN | apply Kd.R_drew)); exact (Kd.R_mono (Kd.R_far (p := ⟨gb145, 1, none⟩) (Kd.R_far (p := ⟨gb145, 0, none⟩) (Kd.R_types HO_113001.out BK145.out (by decide)) (fun _ hk => hk.2) (.int .i64 t140)) (fun _ hk => hk.2) (.slice Ao126 t141.length co126)) (fun _ h_ => h_.1))) hb); replace HO_118001 := Aside0.mk (Kd.R_below (by (with_reducible repeat (first | apply Kd.R_alloc | apply Kd.R_drewN | apply Kd.R_drew)); exact (Kd.R_mono (Kd.R_far (p := ⟨gb145, 1, none⟩) (Kd.R_far (p := ⟨gb145, 0, none⟩) (Kd.R_types HO_118001.out BK145.out (by decide)) (fun _ hk => hk.2) (.int .i64 t140)) (fun _ hk => hk.2) (.slice Ao126 t141.length co126)) (fun _ h_ => h_.1))) hb); replace HO_124001 := Aside0.mk (Kd.R_below (by (with_reducible repeat (first | apply Kd.R_alloc | apply Kd.R_drewN | apply Kd.R_drew)); exact (Kd.R_mono (Kd.R_far (p := ⟨gb145, 1, none⟩) (Kd.R_far (p := ⟨gb145, 0, none⟩) (Kd.R_types HO_124001.out BK145.out (by decide)) (fun _ hk => hk.2) (.int .i64 t140)) (fun _ hk => hk.2) (.slice Ao126 t141.length co126)) (fun _ h_ => h_.1))) hb); replace HO139 := Aside0.mk (Kd.R_below (by (with_reducible repeat (first | apply Kd.R_alloc | apply Kd.R_drewN | apply Kd.R_drew)); exact (Kd.R_mono (Kd.R_far (p := ⟨gb145, 1, none⟩) (Kd.R_far (p := ⟨gb145, 0, none⟩) (Kd.R_types HO139.out BK145.out (by decide)) (fun _ hk => hk.2) (.int .i64 t140)) (fun _ hk => hk.2) (.slice Ao126 t141.length co126)) (fun _ h_ => h_.1))) hb); replace HO143 := Aside0.mk (Kd.R_below (by (with_reducible repeat (first | apply Kd.R_alloc | apply Kd.R_drewN | apply Kd.R_drew)); exact (Kd.R_mono (Kd.R_far (p := ⟨gb145, 1, none⟩) (Kd.R_far (p := ⟨gb145, 0, none⟩) (Kd.R_types HO143.out BK145.out (by decide)) (fun _ hk => hk.2) (.int .i64 t140)) (fun _ hk => hk.2) (.slice Ao126 t141.length co126)) (fun _ h_ => h_.1))) hb); replace BK101 := Aside0.mk (blk_below (g := gb101) (o := .cells #[.int .i64 a0_0, .slice A0_1 l0_1.length c0_1] 38 (0, 0)) (by (with_reducible repeat (first | refine blk_drewN ?_ _ | refine blk_drew ?_ | refine blk_alloc ?_ _)); refine blk_far ?_ NB101_145.out _; (with_reducible repeat (first | refine blk_drewN ?_ _ | refine blk_drew ?_ | refine blk_alloc ?_ _)); refine blk_far ?_ NB101_145.out _; (with_reducible repeat (first | refine blk_drewN ?_ _ | refine blk_drew ?_ | refine blk_alloc ?_ _)); exact BK101.out) hb); replace BK112 := Aside0.mk (blk_below (g := gb112) (o := .cells #[.int .i64 t107, .slice Ao25 t108.length co25] 26 (0, 0)) (by (with_reducible repeat (first | refine blk_drewN ?_ _ | refine blk_drew ?_ | refine blk_alloc ?_ _)); refine blk_far ?_ NB112_145.out _; (with_reducible repeat (first | refine blk_drewN ?_ _ | refine blk_drew ?_ | refine blk_alloc ?_ _)); refine blk_far ?_ NB112_145.out _; (with_reducible repeat (first | refine blk_drewN ?_ _ | refine blk_drew ?_ | refine blk_alloc ?_ _)); exact BK112.out) hb); replace BK117 := Aside0.mk (blk_below (g := gb117) (o := .cells #[.int .i64 t113, .slice Ao32 t131.length co32] 26 (0, 0)) (by (with_reducible repeat (first | refine blk_drewN ?_ _ | refine blk_drew ?_ | refine blk_alloc ?_ _)); refine blk_far ?_ NB117_145.out _; (with_reducible repeat (first | refine blk_drewN ?_ _ | refine blk_drew ?_ | refine blk_alloc ?_ _)); refine blk_far ?_ NB117_145.out _; (with_reducible repeat (first | refine blk_drewN ?_ _ | refine blk_drew ?_ | refine blk_alloc ?_ _)); exact BK117.out) hb); replace BK123 := Aside0.mk (blk_below (g := gb123) (o := .cells #[.int .i64 t118, .slice Ao39 t119.length co39] 26 (0, 0)) (by (with_reducible repeat (first | refine blk_drewN ?_ _ | refine blk_drew ?_ | refine blk_alloc ?_ _)); refine blk_far ?_ NB123_145.out _; (with_reducible repeat (first | refine blk_drewN ?_ _ | refine blk_drew ?_ | refine blk_alloc ?_ _)); refine blk_far ?_ NB123_145.out _; (with_reducible repeat (first | refine blk_drewN ?_ _ | refine blk_drew ?_ | refine blk_alloc ?_ _)); exact BK123.out) hb); replace BK145 := Aside0.mk (blk_below (g := gb145) (o := .cells #[.int .i64 t140, .slice Ao126 t141.length co126] 26 (0, 0)) (by (with_reducible repeat (first | refine blk_drewN ?_ _ | refine blk_drew ?_ | refine blk_alloc ?_ _)); refine blk_put (cs := #[.int .i64 t140, .slice none 0 0]) ?_ 1 _ rfl; (with_reducible repeat (first | refine blk_drewN ?_ _ | refine blk_drew ?_ | refine blk_alloc ?_ _)); refine blk_put (cs := #[.int .i64 0, .slice none 0 0]) ?_ 0 _ rfl; (with_reducible repeat (first | refine blk_drewN ?_ _ | refine blk_drew ?_ | refine blk_alloc ?_ _)); exact BK145.out) hb); replace HB := Aside0.mk (below_step (by repeat (first | (with_reducible first | exact HB.out | apply below_alloc | apply pw_below_drewN | apply below_drew1 | refine below_set ?_ GE101.out | refine below_set ?_ GE112.out | refine below_set ?_ GE117.out | refine below_set ?_ GE123.out | refine below_set ?_ GE145.out) | exact HB.out)) hb); (try clear hb)))
             go_meet
             case rel => exact ⟨_, (true), zr, H', ⟨by have := HJ13.out; have := HJ62.out; first | omega | exact Nat.le_refl _⟩, ⟨by (try simp only [hl118001_62]); (with_reducible repeat (first | apply Kd.R_alloc | apply Kd.R_drewN | apply Kd.R_drew)); exact Kd.R_mono HO_113001.out (fun _ hk => ⟨hk.1.1.1, ⟨hk.1.1.2, hk.2⟩⟩)⟩, ⟨by (try simp only [hl118001_62]); (with_reducible repeat (first | apply Kd.R_alloc | apply Kd.R_drewN | apply Kd.R_drew)); exact Kd.R_mono HO_118001.out (fun _ hk => ⟨hk.1.1.1, ⟨hk.1.1.2, hk.2⟩⟩)⟩, ⟨by (try simp only [hl118001_62]); (with_reducible repeat (first | apply Kd.R_alloc | apply Kd.R_drewN | apply Kd.R_drew)); exact Kd.R_mono HO_124001.out (fun _ hk => ⟨hk.1.1.1, ⟨hk.1.1.2, hk.2⟩⟩)⟩, ⟨by (try simp only [hl118001_62]); (with_reducible repeat (first | apply Kd.R_alloc | apply Kd.R_drewN | apply Kd.R_drew)); exact Kd.R_mono HO143.out (fun _ hk => ⟨hk.1.1.1.2, ⟨hk.1.1.2, hk.1.2⟩⟩)⟩, ⟨by (try simp only [hl118001_62]); (with_reducible repeat (first | refine blk_drewN ?_ _ | refine blk_drew ?_ | refine blk_alloc ?_ _)); exact BK101.out⟩, ⟨by (try simp only [hl118001_62]); (with_reducible repeat (first | refine blk_drewN ?_ _ | refine blk_drew ?_ | refine blk_alloc ?_ _)); exact BK112.out⟩, ⟨by (try simp only [hl118001_62]); (with_reducible repeat (first | refine blk_drewN ?_ _ | refine blk_drew ?_ | refine blk_alloc ?_ _)); exact BK117.out⟩, ⟨by (try simp only [hl118001_62]); (with_reducible repeat (first | refine blk_drewN ?_ _ | refine blk_drew ?_ | refine blk_alloc ?_ _)); exact BK123.out⟩, ⟨by (try simp only [hl118001_62]); (with_reducible repeat (first | refine blk_drewN ?_ _ | refine blk_drew ?_ | refine blk_alloc ?_ _)); exact BK145.out⟩, ⟨by repeat (first | (with_reducible first | exact HB.out | apply below_alloc | apply pw_below_drewN | apply below_drew1 | refine below_set ?_ GE101.out | refine below_set ?_ GE112.out | refine below_set ?_ GE117.out | refine below_set ?_ GE123.out | refine below_set ?_ GE145.out) | exact HB.out)⟩⟩
           case rest =>
            clear HC106
            try clear c1
            try clear c2
            try clear p2
            try clear c3
            try clear c4
            try clear c5
            try clear c6
            try clear c6b0
            try clear c7
            try clear c8
            try clear c9
            try clear c10
            try clear c11
            try clear c12
            try clear c13
            try clear c14
            try clear c22
            try clear c23
            try clear c24
            try clear c25
            try clear c27
            try clear c29
            try clear c30
            try clear c31
            try clear c35
            try clear c36
            try clear c37
            try clear c39
            try clear c41
            try clear c42
            try clear c43
            try clear c44
            try clear c46
            try clear c47
            try clear c50
            try clear c51
            try clear c52
            try clear c54
            try clear c55
            try clear c58
            try clear c61
            try clear c68
            try clear c69
            try clear c70
            try clear c73
            try clear c73b0
            try clear c75
            try clear c76
            try clear c77
            try clear c78
            try clear c80
            try clear c81
            try clear c84
            try clear c85
            try clear c86
            try clear c88
            try clear c89
            try clear c92
            try clear c95
            try clear c95b0
            try clear c96
            try clear c97
            try clear c98
            try clear c103
            try clear c103b0
            try clear c103b1
            try clear c107
            try clear c108
            try clear c109
            try clear c114
            try clear c115
            try clear c121
            try clear c122
            try clear c123
            try clear c124
            try clear c128
            try clear c129
            try clear c130
            try clear c131
            try clear c132
            try clear c134
            try clear c135
            try clear c136
            try clear c139
            try clear c140
            try clear c141
            try clear c142
            try clear c144
            try clear c145
            try clear c146
            try clear hcz101_0
            try clear hcz101_1
            try clear hcz110_0
            try clear hcz110_1
            try clear hcz112_0
            try clear hcz112_1
            try clear hcz116_0
            try clear hcz116_1
            try clear hcz125_0
            try clear hcz125_1
            try clear hcz133_0
            try clear hcz133_1
            try clear hcz137_0
            try clear hcz137_1
            try clear hcz143_0
            try clear hcz143_1
            try clear hcz147_0
            try clear hcz147_1
            try clear hcz16_0
            try clear hcz16_1
            try clear hcz18_0
            try clear hcz18_1
            try clear hcz24_0
            try clear hcz24_1
            try clear hcz26_0
            try clear hcz26_1
            try clear hcz31_0
            try clear hcz31_1
            try clear hcz38_0
            try clear hcz38_1
            try clear hcz45_0
            try clear hcz45_1
            try clear hcz48_0
            try clear hcz48_1
            try clear hcz53_0
            try clear hcz53_1
            try clear hcz56_0
            try clear hcz56_1
            try clear hcz71_0
            try clear hcz71_1
            try clear hcz79_0
            try clear hcz79_1
            try clear hcz82_0
            try clear hcz82_1
            try clear hcz87_0
            try clear hcz87_1
            try clear hcz8_0
            try clear hcz8_1
            try clear hcz90_0
            try clear hcz90_1
            try clear hcz99_0
            try clear hcz99_1
            try clear hfz101_0
            try clear hfz101_1
            try clear hfz110_0
            try clear hfz110_1
            try clear hfz112_0
            try clear hfz112_1
            try clear hfz116_0
            try clear hfz116_1
            try clear hfz125_0
            try clear hfz125_1
            try clear hfz133_0
            try clear hfz133_1
            try clear hfz137_0
            try clear hfz137_1
            try clear hfz143_0
            try clear hfz143_1
            try clear hfz147_0
            try clear hfz147_1
            try clear hfz16_0
            try clear hfz16_1
            try clear hfz18_0
            try clear hfz18_1
            try clear hfz24_0
            try clear hfz24_1
            try clear hfz26_0
            try clear hfz26_1
            try clear hfz31_0
            try clear hfz31_1
            try clear hfz38_0
            try clear hfz38_1
            try clear hfz45_0
            try clear hfz45_1
            try clear hfz48_0
            try clear hfz48_1
            try clear hfz53_0
            try clear hfz53_1
            try clear hfz56_0
            try clear hfz56_1
            try clear hfz71_0
            try clear hfz71_1
            try clear hfz79_0
            try clear hfz79_1
            try clear hfz82_0
            try clear hfz82_1
            try clear hfz87_0
            try clear hfz87_1
            try clear hfz8_0
            try clear hfz8_1
            try clear hfz90_0
            try clear hfz90_1
            try clear hfz99_0
            try clear hfz99_1
            try clear p2
            obtain ⟨kq, x102_105, rfl, HA, HJ105, HO_113001, HO_118001, HO_124001, HO_146001, BK101, BK112, BK117, BK123, BK145, HB⟩ := hcut
            have hl124001_105 := (Kd.R_reads' HO_124001.out).1
            rw [hl124001_105] at HO_124001
            (try simp only [hl124001_105])
            (try simp only [hl124001_105] at BK101)
            (try simp only [hl124001_105] at BK112)
            (try simp only [hl124001_105] at BK117)
            (try simp only [hl124001_105] at BK123)
            (try simp only [hl124001_105] at BK145)
            (try simp only [hl124001_105] at HO_113001)
            (try simp only [hl124001_105] at HO_118001)
            (try simp only [hl124001_105] at HO_146001)
            cases kq with
            | zero => exact absurd HA.out (by simp [laws_FnExactClockSet.j2])
            | succ kj105 =>
             have H := HA.out
             clear HA
             simp only [laws_FnExactClockSet.j2] at H
             by_cases c149 : x102_105 = true
             ·
              subst c149
              rw [if_pos rfl] at H
              obtain rfl := Option.some.inj H
              go_wp2
              go_ret
              exact ⟨ze, by repeat (first | (with_reducible first | exact HB.out | apply below_alloc | apply pw_below_drewN | apply below_drew1 | refine below_set ?_ GE101.out | refine below_set ?_ GE112.out | refine below_set ?_ GE117.out | refine below_set ?_ GE123.out | refine below_set ?_ GE145.out) | exact HB.out)⟩
             ·
              replace c149 := Bool.eq_false_iff.mpr c149
              subst c149
              rw [if_neg nf_] at H
              replace H := Option.bind_eq_some_iff.mp H
              obtain ⟨t147, A1500, H⟩ := H
              have A150 := Aside0.mk A1500
              clear A1500
              by_cases c151 : t147 < 0
              ·
               rw [if_pos c151] at H
               have c151b0 : decide (t147 < 0) = true := decide_eq_true c151
               clear c151
               obtain rfl := Option.some.inj H
               have hnb152 := NB123_101.out
               have hnc152 := NB101_123.out
               have hnb153 := NB123_112.out
               have hnc153 := NB112_123.out
               have hnb154 := NB123_117.out
               have hnc154 := NB117_123.out
               have hnb155 := NB123_145.out
               have hnc155 := NB145_123.out
               have hcz156_0 : wc.cell? ⟨gb123, 0, none⟩ = some (.int .i64 t118) := (blk_cell BK123.out 0).trans rfl
               have hcz156_1 : wc.cell? ⟨gb123, 1, none⟩ = some (.slice Ao39 t134.length co39) := (blk_cell BK123.out 1).trans rfl
               have hfz156_0 := blk_frozen BK123.out 0
               have hfz156_1 := blk_frozen BK123.out 1
               go_wp2_with (first | ((with_reducible refine gate_callee (f := 24) rfl ?_); refine goesL_ (some 105) rfl rfl Try.func24 zk rfl #[.agg #[.int .i64 t118, .slice Ao39 t134.length co39], .int .i64 1] rfl zm ?_; (with_reducible refine (laws_heldClock.calls kj105 t118 _ _ t134 1 t147 _ ?side1 ?side2 A150.out).mono ?_); (case side1 => exact cz ((Kd.R_reads' HO_124001.out).2.2)); (case side2 => exact (Kd.R_reads' HO_124001.out).2.1); rintro e w157 ⟨rfl, hb⟩; refine ⟨_, rfl, ?_⟩; replace HO_113001 := Aside0.mk (Kd.R_below (rz HO_113001.out) hb); replace HO_118001 := Aside0.mk (Kd.R_below (rz HO_118001.out) hb); replace HO_124001 := Aside0.mk (Kd.R_below (rz HO_124001.out) hb); replace HO_146001 := Aside0.mk (Kd.R_below (rz HO_146001.out) hb); replace BK101 := Aside0.mk (blk_below (g := gb101) (o := .cells #[.int .i64 a0_0, .slice A0_1 l0_1.length c0_1] 38 (0, 0)) (kz BK101.out) hb); replace BK112 := Aside0.mk (blk_below (g := gb112) (o := .cells #[.int .i64 t107, .slice Ao25 t108.length co25] 26 (0, 0)) (kz BK112.out) hb); replace BK117 := Aside0.mk (blk_below (g := gb117) (o := .cells #[.int .i64 t113, .slice Ao32 t131.length co32] 26 (0, 0)) (kz BK117.out) hb); replace BK123 := Aside0.mk (blk_below (g := gb123) (o := .cells #[.int .i64 t118, .slice Ao39 t134.length co39] 26 (0, 0)) (kz BK123.out) hb); replace BK145 := Aside0.mk (blk_below (g := gb145) (o := .cells #[.int .i64 t140, .slice Ao126 t141.length co126] 26 (0, 0)) (kz BK145.out) hb); replace HB := Aside0.mk (below_step (by repeat (first | (with_reducible first | exact HB.out | apply below_alloc | apply pw_below_drewN | apply below_drew1 | refine below_set ?_ GE101.out | refine below_set ?_ GE112.out | refine below_set ?_ GE117.out | refine below_set ?_ GE123.out | refine below_set ?_ GE145.out) | exact HB.out)) hb); (try clear hb)))
               go_ret
               exact ⟨ze, by repeat (first | (with_reducible first | exact HB.out | apply below_alloc | apply pw_below_drewN | apply below_drew1 | refine below_set ?_ GE101.out | refine below_set ?_ GE112.out | refine below_set ?_ GE117.out | refine below_set ?_ GE123.out | refine below_set ?_ GE145.out) | exact HB.out)⟩
              ·
               rw [if_neg c151] at H
               have c151b0 : decide (t147 < 0) = false := decide_eq_false c151
               clear c151
               by_cases c158 : t147 = t133
               ·
                rw [if_pos c158] at H
                have c158b0 : (t147 == t133) = true := beq_iff_eq.mpr c158
                have c158b1 : (t147 != t133) = false := bne_eq_false_iff_eq.mpr c158
                clear c158
                obtain rfl := Option.some.inj H
                have hnb159 := NB123_101.out
                have hnc159 := NB101_123.out
                have hnb160 := NB123_112.out
                have hnc160 := NB112_123.out
                have hnb161 := NB123_117.out
                have hnc161 := NB117_123.out
                have hnb162 := NB123_145.out
                have hnc162 := NB145_123.out
                have hcz163_0 : wc.cell? ⟨gb123, 0, none⟩ = some (.int .i64 t118) := (blk_cell BK123.out 0).trans rfl
                have hcz163_1 : wc.cell? ⟨gb123, 1, none⟩ = some (.slice Ao39 t134.length co39) := (blk_cell BK123.out 1).trans rfl
                have hfz163_0 := blk_frozen BK123.out 0
                have hfz163_1 := blk_frozen BK123.out 1
                go_wp2_with (first | ((with_reducible refine gate_callee (f := 24) rfl ?_); refine goesL_ (some 105) rfl rfl Try.func24 zk rfl #[.agg #[.int .i64 t118, .slice Ao39 t134.length co39], .int .i64 1] rfl zm ?_; (with_reducible refine (laws_heldClock.calls kj105 t118 _ _ t134 1 t147 _ ?side1 ?side2 A150.out).mono ?_); (case side1 => exact cz ((Kd.R_reads' HO_124001.out).2.2)); (case side2 => exact (Kd.R_reads' HO_124001.out).2.1); rintro e w164 ⟨rfl, hb⟩; refine ⟨_, rfl, ?_⟩; replace HO_113001 := Aside0.mk (Kd.R_below (rz HO_113001.out) hb); replace HO_118001 := Aside0.mk (Kd.R_below (rz HO_118001.out) hb); replace HO_124001 := Aside0.mk (Kd.R_below (rz HO_124001.out) hb); replace HO_146001 := Aside0.mk (Kd.R_below (rz HO_146001.out) hb); replace BK101 := Aside0.mk (blk_below (g := gb101) (o := .cells #[.int .i64 a0_0, .slice A0_1 l0_1.length c0_1] 38 (0, 0)) (kz BK101.out) hb); replace BK112 := Aside0.mk (blk_below (g := gb112) (o := .cells #[.int .i64 t107, .slice Ao25 t108.length co25] 26 (0, 0)) (kz BK112.out) hb); replace BK117 := Aside0.mk (blk_below (g := gb117) (o := .cells #[.int .i64 t113, .slice Ao32 t131.length co32] 26 (0, 0)) (kz BK117.out) hb); replace BK123 := Aside0.mk (blk_below (g := gb123) (o := .cells #[.int .i64 t118, .slice Ao39 t134.length co39] 26 (0, 0)) (kz BK123.out) hb); replace BK145 := Aside0.mk (blk_below (g := gb145) (o := .cells #[.int .i64 t140, .slice Ao126 t141.length co126] 26 (0, 0)) (kz BK145.out) hb); replace HB := Aside0.mk (below_step (by repeat (first | (with_reducible first | exact HB.out | apply below_alloc | apply pw_below_drewN | apply below_drew1 | refine below_set ?_ GE101.out | refine below_set ?_ GE112.out | refine below_set ?_ GE117.out | refine below_set ?_ GE123.out | refine below_set ?_ GE145.out) | exact HB.out)) hb); (try clear hb)))
                go_ret
                exact ⟨ze, by repeat (first | (with_reducible first | exact HB.out | apply below_alloc | apply pw_below_drewN | apply below_drew1 | refine below_set ?_ GE101.out | refine below_set ?_ GE112.out | refine below_set ?_ GE117.out | refine below_set ?_ GE123.out | refine below_set ?_ GE145.out) | exact HB.out)⟩
               ·
                rw [if_neg c158] at H
                have c158b0 : (t147 == t133) = false := beq_eq_false_iff_ne.mpr c158
                have c158b1 : (t147 != t133) = true := bne_iff_ne.mpr c158
                obtain rfl := Option.some.inj H
                have hnb165 := NB123_101.out
                have hnc165 := NB101_123.out
                have hnb166 := NB123_112.out
                have hnc166 := NB112_123.out
                have hnb167 := NB123_117.out
                have hnc167 := NB117_123.out
                have hnb168 := NB123_145.out
                have hnc168 := NB145_123.out
                have hcz169_0 : wc.cell? ⟨gb123, 0, none⟩ = some (.int .i64 t118) := (blk_cell BK123.out 0).trans rfl
                have hcz169_1 : wc.cell? ⟨gb123, 1, none⟩ = some (.slice Ao39 t134.length co39) := (blk_cell BK123.out 1).trans rfl
                have hfz169_0 := blk_frozen BK123.out 0
                have hfz169_1 := blk_frozen BK123.out 1
                go_wp2_with (first | ((with_reducible refine gate_callee (f := 24) rfl ?_); refine goesL_ (some 105) rfl rfl Try.func24 zk rfl #[.agg #[.int .i64 t118, .slice Ao39 t134.length co39], .int .i64 1] rfl zm ?_; (with_reducible refine (laws_heldClock.calls kj105 t118 _ _ t134 1 t147 _ ?side1 ?side2 A150.out).mono ?_); (case side1 => exact cz ((Kd.R_reads' HO_124001.out).2.2)); (case side2 => exact (Kd.R_reads' HO_124001.out).2.1); rintro e w170 ⟨rfl, hb⟩; refine ⟨_, rfl, ?_⟩; replace HO_113001 := Aside0.mk (Kd.R_below (rz HO_113001.out) hb); replace HO_118001 := Aside0.mk (Kd.R_below (rz HO_118001.out) hb); replace HO_124001 := Aside0.mk (Kd.R_below (rz HO_124001.out) hb); replace HO_146001 := Aside0.mk (Kd.R_below (rz HO_146001.out) hb); replace BK101 := Aside0.mk (blk_below (g := gb101) (o := .cells #[.int .i64 a0_0, .slice A0_1 l0_1.length c0_1] 38 (0, 0)) (kz BK101.out) hb); replace BK112 := Aside0.mk (blk_below (g := gb112) (o := .cells #[.int .i64 t107, .slice Ao25 t108.length co25] 26 (0, 0)) (kz BK112.out) hb); replace BK117 := Aside0.mk (blk_below (g := gb117) (o := .cells #[.int .i64 t113, .slice Ao32 t131.length co32] 26 (0, 0)) (kz BK117.out) hb); replace BK123 := Aside0.mk (blk_below (g := gb123) (o := .cells #[.int .i64 t118, .slice Ao39 t134.length co39] 26 (0, 0)) (kz BK123.out) hb); replace BK145 := Aside0.mk (blk_below (g := gb145) (o := .cells #[.int .i64 t140, .slice Ao126 t141.length co126] 26 (0, 0)) (kz BK145.out) hb); replace HB := Aside0.mk (below_step (by repeat (first | (with_reducible first | exact HB.out | apply below_alloc | apply pw_below_drewN | apply below_drew1 | refine below_set ?_ GE101.out | refine below_set ?_ GE112.out | refine below_set ?_ GE117.out | refine below_set ?_ GE123.out | refine below_set ?_ GE145.out) | exact HB.out)) hb); (try clear hb)))
                go_ret
                exact ⟨ze, by repeat (first | (with_reducible first | exact HB.out | apply below_alloc | apply pw_below_drewN | apply below_drew1 | refine below_set ?_ GE101.out | refine below_set ?_ GE112.out | refine below_set ?_ GE117.out | refine below_set ?_ GE123.out | refine below_set ?_ GE145.out) | exact HB.out)⟩
          ·
           rw [if_neg c103] at H
           have c103b0 : (t135 == t133) = false := beq_eq_false_iff_ne.mpr c103
           have c103b1 : (t135 != t133) = true := bne_iff_ne.mpr c103
           obtain rfl := Option.some.inj H
           have hnb171 := NB123_101.out
           have hnc171 := NB101_123.out
           have hnb172 := NB123_112.out
           have hnc172 := NB112_123.out
           have hnb173 := NB123_117.out
           have hnc173 := NB117_123.out
           have hcz174_0 : wc.cell? ⟨gb123, 0, none⟩ = some (.int .i64 t118) := (blk_cell BK123.out 0).trans rfl
           have hcz174_1 : wc.cell? ⟨gb123, 1, none⟩ = some (.slice Ao39 t119.length co39) := (blk_cell BK123.out 1).trans rfl
           have hfz174_0 := blk_frozen BK123.out 0
           have hfz174_1 := blk_frozen BK123.out 1
           go_wp2_with (first | ((with_reducible refine gate_callee (f := 23) rfl ?_); refine goesL_ (some 76) rfl rfl Try.func23 zk rfl #[.agg #[.int .i64 t118, .slice Ao39 t119.length co39], .int .i64 1] rfl zm ?_; (with_reducible refine (laws_markClock.calls kj62 t118 (fun k_ => some k_ = (.slice Ao39 t119.length co39 : Value).ownBlock) (.slice Ao39 t119.length co39) t119 1 t133 t134 w _ ?side1 ?side2 A93.out).mono ?_); (case side1 => repeat (first | (with_reducible first | exact HB.out | apply below_alloc | apply pw_below_drewN | apply below_drew1 | refine below_set ?_ GE101.out | refine below_set ?_ GE112.out | refine below_set ?_ GE117.out | refine below_set ?_ GE123.out) | exact HB.out)); (case side2 => exact Kd.R_tight rfl HO_124001.out); rintro e w175 ⟨rfl, hy0, hb, hkp⟩; refine ⟨_, rfl, ?_⟩; replace HO_113001 := Aside0.mk (Kd.R_mono (ok' := fun k_ => some k_ ≠ (.slice Ao32 t131.length co32 : Value).ownBlock ∧ some k_ ≠ (.slice Ao39 t119.length co39 : Value).ownBlock) (Kd.R_keptB (HO_113001.out) hkp (fun k_ hk_ hs_ => (hk_.2) hs_)) (fun k_ hk_ => ⟨hk_.1.1, hk_.1.2⟩)); replace HO_118001 := Aside0.mk (Kd.R_mono (ok' := fun k_ => some k_ ≠ (.slice Ao25 t108.length co25 : Value).ownBlock ∧ some k_ ≠ (.slice Ao39 t119.length co39 : Value).ownBlock) (Kd.R_keptB (HO_118001.out) hkp (fun k_ hk_ hs_ => (hk_.2) hs_)) (fun k_ hk_ => ⟨hk_.1.1, hk_.1.2⟩)); replace BK101 := Aside0.mk (blk_kept (kz BK101.out) hkp (fun hs_ => (fun e_ => (Kd.R_ne HO_124001.out BK101.out (by decide)) e_) hs_)); replace BK112 := Aside0.mk (blk_kept (kz BK112.out) hkp (fun hs_ => (fun e_ => (Kd.R_ne HO_124001.out BK112.out (by decide)) e_) hs_)); replace BK117 := Aside0.mk (blk_kept (kz BK117.out) hkp (fun hs_ => (fun e_ => (Kd.R_ne HO_124001.out BK117.out (by decide)) e_) hs_)); replace BK123 := Aside0.mk (blk_kept (kz BK123.out) hkp (fun hs_ => (fun e_ => (Kd.R_ne HO_124001.out BK123.out (by decide)) e_) hs_)); replace HO_124001 := Aside0.mk (Kd.R_reok rfl hy0 (fun k_ e_ => HO_124001.out.1 k_ e_)); replace HB := Aside0.mk (hb); (try clear hb); (try clear hkp); (try clear hy0); have hcz176_0 : w175.cell? ⟨gb123, 0, none⟩ = some (.int .i64 t118) := (blk_cell BK123.out 0).trans rfl; have hcz176_1 : w175.cell? ⟨gb123, 1, none⟩ = some (.slice Ao39 t119.length co39) := (blk_cell BK123.out 1).trans rfl; have hfz176_0 := blk_frozen BK123.out 0; have hfz176_1 := blk_frozen BK123.out 1) | ((with_reducible refine gate_callee (f := 24) rfl ?_); refine goesL_ (some 79) rfl rfl Try.func24 zk rfl #[.agg #[.int .i64 t118, .slice Ao39 t134.length co39], .int .i64 1] rfl (by (try simp only [List.map_toArray, List.map_cons, List.map_nil]); first | done | (rw [show t134.length = t119.length from (Kd.R_reads' HO_124001.out).1.symm] <;> rfl) | rfl | (simp only [List.length_drop, List.length_take]; rfl)) ?_; (with_reducible refine (laws_heldClock.calls kj62 t118 _ _ t134 1 t135 _ ?side1 ?side2 A94.out).mono ?_); (case side1 => exact cz ((Kd.R_reads' HO_124001.out).2.2)); (case side2 => rw [show t134.length = t119.length from (Kd.R_reads' HO_124001.out).1.symm]; exact (Kd.R_reads' HO_124001.out).2.1); rintro e w177 ⟨rfl, hb⟩; refine ⟨_, rfl, ?_⟩; replace HO_113001 := Aside0.mk (Kd.R_below (rz HO_113001.out) hb); replace HO_118001 := Aside0.mk (Kd.R_below (rz HO_118001.out) hb); replace HO_124001 := Aside0.mk (Kd.R_below (rz HO_124001.out) hb); replace BK101 := Aside0.mk (blk_below (g := gb101) (o := .cells #[.int .i64 a0_0, .slice A0_1 l0_1.length c0_1] 38 (0, 0)) (kz BK101.out) hb); replace BK112 := Aside0.mk (blk_below (g := gb112) (o := .cells #[.int .i64 t107, .slice Ao25 t108.length co25] 26 (0, 0)) (kz BK112.out) hb); replace BK117 := Aside0.mk (blk_below (g := gb117) (o := .cells #[.int .i64 t113, .slice Ao32 t131.length co32] 26 (0, 0)) (kz BK117.out) hb); replace BK123 := Aside0.mk (blk_below (g := gb123) (o := .cells #[.int .i64 t118, .slice Ao39 t119.length co39] 26 (0, 0)) (kz BK123.out) hb); replace HB := Aside0.mk (below_step (by repeat (first | (with_reducible first | exact HB.out | apply below_alloc | apply pw_below_drewN | apply below_drew1 | refine below_set ?_ GE101.out | refine below_set ?_ GE112.out | refine below_set ?_ GE117.out | refine below_set ?_ GE123.out) | exact HB.out)) hb); (try clear hb)))
           go_ret
           exact ⟨ze, by repeat (first | (with_reducible first | exact HB.out | apply below_alloc | apply pw_below_drewN | apply below_drew1 | refine below_set ?_ GE101.out | refine below_set ?_ GE112.out | refine below_set ?_ GE117.out | refine below_set ?_ GE123.out) | exact HB.out)⟩
     ·
      replace c61 := Bool.eq_false_iff.mpr c61
      subst c61
      rw [if_neg nf_] at H
      obtain rfl := Option.some.inj H
      try go_wp2
      replace HO_113001 := Aside0.mk (Kd.R_drew HO_113001.out)
      replace HO_118001 := Aside0.mk (Kd.R_drew HO_118001.out)
      replace HO_124001 := Aside0.mk (Kd.R_drew HO_124001.out)
      replace BK101 := Aside0.mk (blk_drew BK101.out)
      replace BK112 := Aside0.mk (blk_drew BK112.out)
      replace BK117 := Aside0.mk (blk_drew BK117.out)
      replace BK123 := Aside0.mk (blk_drew BK123.out)
      replace HB := Aside0.mk (below_drew1 HB.out)
      refine start_ (n := 5) (S := fun w' => w'.cell? ⟨gb117, 0, none⟩ = some (.int .i64 t113) ∧ w'.cell? ⟨gb117, 1, none⟩ = some (.slice Ao32 t114.length co32) ∧ w'.cell? ⟨gb101, 0, none⟩ = some (.int .i64 a0_0) ∧ w'.cell? ⟨gb101, 1, none⟩ = some (.slice A0_1 l0_1.length c0_1)) (ds := []) (lb 5 0) zk rfl rfl ⟨(blk_cell BK117.out 0).trans rfl, (blk_cell BK117.out 1).trans rfl, (blk_cell BK101.out 0).trans rfl, (blk_cell BK101.out 1).trans rfl⟩ (fun hHeld => ?_)
      generalize wc.drew = w178 at HO_113001 HO_118001 HO_124001 BK101 BK112 BK117 BK123 HB hHeld ⊢
      refine take_ (i := 0) (N := some 53) (v := ?_) (a' := ?_) (lb 5 1) rfl rfl zk (fun _ _ _ h => h) (Or.inl ⟨by rfl, ?_⟩) hHeld ?_ ?_; rotate_left; (rintro w' ⟨s0, s1, s2, s3⟩; go_simp; with_reducible rfl); rotate_left; (simp only [Act.put, List.setIfInBounds_toArray, List.set_cons_zero, List.set_cons_succ, i64_w, i32_w]; rfl)
      refine take_ (i := 1) (N := some 54) (v := ?_) (a' := ?_) (lb 5 3) rfl rfl zk (fun _ _ _ h => h) (Or.inl ⟨by rfl, ?_⟩) hHeld ?_ ?_; rotate_left; (rintro w' ⟨s0, s1, s2, s3⟩; go_simp; with_reducible rfl); rotate_left; (simp only [Act.put, List.setIfInBounds_toArray, List.set_cons_zero, List.set_cons_succ, i64_w, i32_w]; rfl)
      refine one_ (i := 2) (N := some 55) (lb 5 7) rfl rfl zk (by decide) (fun K hK => ?_)
      refine goes_ Try.func27 zk rfl #[.agg #[.int .i64 a0_0, .slice A0_1 l0_1.length c0_1]] (by rfl) rfl rfl zm ?_
      with_reducible refine (laws_toClock.calls kj13 a0_0 _ _ l0_1 t125 t126 _ ?side1 ?side2 A59.out).mono ?_
      (case side1 => exact cz (Kd.C_below HR0_1.out HB.out))
      (case side2 => exact HC0_1.out)
      rintro e w179 ⟨v127, rfl, ho0, hb⟩
      refine ⟨_, rfl, ?_⟩
      have HO128 := Aside0.mk (Kd.R_lower (Kd.R_new' (Kd.R_new' (Kd.R_new' ho0 (Kd.R_lt (rz HO_113001.out))) (Kd.R_lt (rz HO_118001.out))) (Kd.R_lt (rz HO_124001.out))) (below_size (by repeat (first | (with_reducible first | exact HB.out | apply below_alloc | apply pw_below_drewN | apply below_drew1 | refine below_set ?_ GE101.out | refine below_set ?_ GE112.out | refine below_set ?_ GE117.out | refine below_set ?_ GE123.out) | exact HB.out))))
      replace HO_113001 := Aside0.mk (Kd.R_elder' (rz HO_113001.out) (Kd.R_base ho0) hb)
      replace HO_118001 := Aside0.mk (Kd.R_elder' (rz HO_118001.out) (Kd.R_base ho0) hb)
      replace HO_124001 := Aside0.mk (Kd.R_elder' (rz HO_124001.out) (Kd.R_base ho0) hb)
      replace BK101 := Aside0.mk (blk_below (g := gb101) (o := .cells #[.int .i64 a0_0, .slice A0_1 l0_1.length c0_1] 38 (0, 0)) (kz BK101.out) hb)
      replace BK112 := Aside0.mk (blk_below (g := gb112) (o := .cells #[.int .i64 t107, .slice Ao25 t108.length co25] 26 (0, 0)) (kz BK112.out) hb)
      replace BK117 := Aside0.mk (blk_below (g := gb117) (o := .cells #[.int .i64 t113, .slice Ao32 t114.length co32] 26 (0, 0)) (kz BK117.out) hb)
      replace BK123 := Aside0.mk (blk_below (g := gb123) (o := .cells #[.int .i64 t118, .slice Ao39 t119.length co39] 26 (0, 0)) (kz BK123.out) hb)
      replace HB := Aside0.mk (below_step (by repeat (first | (with_reducible first | exact HB.out | apply below_alloc | apply pw_below_drewN | apply below_drew1 | refine below_set ?_ GE101.out | refine below_set ?_ GE112.out | refine below_set ?_ GE117.out | refine below_set ?_ GE123.out) | exact HB.out)) hb)
      (try clear hb)
      (try clear ho0)
      obtain ⟨Ao180, co180, eo180⟩ := Kd.R_slice HO128.out
      (first | subst eo180 | (injection eo180 with f1_ f2_ f3_; have f4_ := f1_.symm; have f5_ := f3_.symm; clear f1_ f2_ f3_; subst f4_; subst f5_))
      refine hK.out _ _ ⟨(blk_cell BK117.out 0).trans rfl, (blk_cell BK117.out 1).trans rfl, (blk_cell BK101.out 0).trans rfl, (blk_cell BK101.out 1).trans rfl⟩ (fun hHeld => ?_)
      clear hK K
      refine norm_ (a' := ?_) ?_ ?_
      rotate_left
      ·
       show Act.put _ (some 55) _ = _
       simp only [Act.put, List.setIfInBounds_toArray, List.set_cons_zero, List.set_cons_succ, i64_w, i32_w]
       rfl
      refine one_ (i := 3) (N := some 56) (lb 5 15) rfl rfl zk (by decide) (fun K hK => ?_)
      refine goes_ Try.func22 zk rfl #[.agg #[.int .i64 t113, .slice Ao32 t114.length co32], .agg #[.int .i64 t125, .slice Ao180 t126.length co180]] (by rfl) rfl rfl zm ?_
      with_reducible refine (laws_eqClock.calls kj13 t113 _ _ t114 t125 _ _ t126 false _ ?side1 ?side2 ?side3 ?side4 A60.out).mono ?_
      (case side1 => exact cz ((Kd.R_reads' HO_118001.out).2.2))
      (case side2 => exact (Kd.R_reads' HO_118001.out).2.1)
      (case side3 => exact cz ((Kd.R_reads' HO128.out).2.2))
      (case side4 => exact (Kd.R_reads' HO128.out).2.1)
      rintro e w181 ⟨rfl, hb⟩
      refine ⟨_, rfl, ?_⟩
      replace HO_113001 := Aside0.mk (Kd.R_below (rz HO_113001.out) hb)
      replace HO_118001 := Aside0.mk (Kd.R_below (rz HO_118001.out) hb)
      replace HO_124001 := Aside0.mk (Kd.R_below (rz HO_124001.out) hb)
      replace HO128 := Aside0.mk (Kd.R_below (rz HO128.out) hb)
      replace BK101 := Aside0.mk (blk_below (g := gb101) (o := .cells #[.int .i64 a0_0, .slice A0_1 l0_1.length c0_1] 38 (0, 0)) (kz BK101.out) hb)
      replace BK112 := Aside0.mk (blk_below (g := gb112) (o := .cells #[.int .i64 t107, .slice Ao25 t108.length co25] 26 (0, 0)) (kz BK112.out) hb)
      replace BK117 := Aside0.mk (blk_below (g := gb117) (o := .cells #[.int .i64 t113, .slice Ao32 t114.length co32] 26 (0, 0)) (kz BK117.out) hb)
      replace BK123 := Aside0.mk (blk_below (g := gb123) (o := .cells #[.int .i64 t118, .slice Ao39 t119.length co39] 26 (0, 0)) (kz BK123.out) hb)
      replace HB := Aside0.mk (below_step (by repeat (first | (with_reducible first | exact HB.out | apply below_alloc | apply pw_below_drewN | apply below_drew1 | refine below_set ?_ GE101.out | refine below_set ?_ GE112.out | refine below_set ?_ GE117.out | refine below_set ?_ GE123.out) | exact HB.out)) hb)
      (try clear hb)
      refine hK.out _ _ ⟨(blk_cell BK117.out 0).trans rfl, (blk_cell BK117.out 1).trans rfl, (blk_cell BK101.out 0).trans rfl, (blk_cell BK101.out 1).trans rfl⟩ (fun hHeld => ?_)
      clear hK K
      refine norm_ (a' := ?_) ?_ ?_
      rotate_left
      ·
       show Act.put _ (some 56) _ = _
       simp only [Act.put, List.setIfInBounds_toArray, List.set_cons_zero, List.set_cons_succ, i64_w, i32_w]
       rfl
      refine pure_ (i := 4) (N := some 57) (v := ?_) (a' := ?_) (lb 5 31) rfl rfl zk (fun _ _ _ h => h) (Or.inl ⟨by rfl, ?_⟩) ?_ ?_; rotate_left; (intro w'; go_simp; with_reducible rfl); rotate_left; (simp only [Act.put, List.setIfInBounds_toArray, List.set_cons_zero, List.set_cons_succ, i64_w, i32_w]; rfl)
      refine done_ zk ?_
      try go_wp2
      go_ret
      exact ⟨ze, by repeat (first | (with_reducible first | exact HB.out | apply below_alloc | apply pw_below_drewN | apply below_drew1 | refine below_set ?_ GE101.out | refine below_set ?_ GE112.out | refine below_set ?_ GE117.out | refine below_set ?_ GE123.out) | exact HB.out)⟩

end Go.Proofs.Ytlejcgnfpcngbaa.P
