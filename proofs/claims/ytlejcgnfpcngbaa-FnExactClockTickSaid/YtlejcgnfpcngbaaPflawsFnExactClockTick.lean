-- printed by this session's own driver (wip/qd.py) out of the translation; Lean checks it
import Derived.Test.YtlejcgnfpcngbaaPf0
import Derived.Test.YtlejcgnfpcngbaaPflawseqClock
import Derived.Test.YtlejcgnfpcngbaaPflawsmarkClock
import Derived.Test.YtlejcgnfpcngbaaPflawsheldClock
import Derived.Test.YtlejcgnfpcngbaaPflawsszClock
import Derived.Test.YtlejcgnfpcngbaaPflawstoClock
import Derived.Test.YtlejcgnfpcngbaaPfimplClockTick
import Derived.Test.YtlejcgnfpcngbaaPfspecClockTick
import Derived.Test.YtlejcgnfpcngbaaPflawseqIntS
import Derived.Test.YtlejcgnfpcngbaaPflawsmarkIntS
import Derived.Test.YtlejcgnfpcngbaaPflawsheldIntS
namespace Go.Proofs.Ytlejcgnfpcngbaa.P
open Go.RowKit Go.Proofs.YtlejcgnfpcngbaaW.PrintWords Go.Proofs.YtlejcgnfpcngbaaW.PrintLast Go.Proofs.YtlejcgnfpcngbaaW.PrintMore
attribute [local go_sem] max2_int min2_int max_two min_two max_three min_three max_four min_four Q.cell_set_map   -- for this text's walks alone
set_option linter.unusedVariables false
set_option linter.unusedSimpArgs false

/-! ### laws_FnExactClockTick: function 15 -/
mutual
def laws_FnExactClockTick.j0 : Nat → Int → List Int → Bool → List Int → Bool → Bool → Int → List (S79) → Int → List (S62) → Int → List (S62) → Int → List (S62) → Option (Bool)
 | 0, _, _, _, _, _, _, _, _, _, _, _, _, _, _ => none
 | k + 1, x1, x7, x8, x11, x12, x55, x102000, x102001, x116000, x116001, x121000, x121001, x130000, x130001 => if x55 = true then (some false) else ((laws_toClock.f k x102000 x102001).bind fun bt132 => ((laws_eqClock.f k x121000 x121001 bt132.1 bt132.2).bind fun t136 => (if t136 = true then ((laws_markClock.f k x121000 x121001 1).bind fun bt137 => (if bt137.1 < 0 then (laws_FnExactClockTick.j1 k x1 x7 x8 x11 true x102000 x102001 x116000 x116001 x130000 x130001) else ((laws_eqClock.f k x130000 x130001 x116000 x116001).bind fun t139 => (if t139 = true then ((laws_eqIntS.f k x11 x7).bind fun t140 => (if t140 = true then (laws_FnExactClockTick.j1 k x1 x7 x8 x11 (x12 != x8) x102000 x102001 x116000 x116001 x130000 x130001) else (laws_FnExactClockTick.j1 k x1 x7 x8 x11 true x102000 x102001 x116000 x116001 x130000 x130001))) else (laws_FnExactClockTick.j1 k x1 x7 x8 x11 true x102000 x102001 x116000 x116001 x130000 x130001))))) else (some false))))
def laws_FnExactClockTick.j1 : Nat → Int → List Int → Bool → List Int → Bool → Int → List (S79) → Int → List (S62) → Int → List (S62) → Option (Bool)
 | 0, _, _, _, _, _, _, _, _, _, _, _ => none
 | k + 1, x1, x7, x8, x11, x82, x102000, x102001, x116000, x116001, x130000, x130001 => if x82 = true then (some false) else ((laws_markClock.f k x130000 x130001 1).bind fun bt141 => ((laws_markIntS.f k x11 bt141.1).bind fun bt143 => ((laws_heldClock.f k x130000 bt141.2 1).bind fun t145 => (if t145 < 0 then (some false) else ((laws_heldIntS.f k bt143.2 t145).bind fun t146 => (if t146 < 0 then (some false) else (if t146 = bt143.1 then ((laws_toClock.f k x102000 x102001).bind fun bt147 => ((impl_ClockTick.f k bt147.1 bt147.2 x1).bind fun bt151 => ((laws_eqClock.f k bt151.1 bt151.2.1 x116000 x116001).bind fun t160 => (if t160 = true then ((laws_eqIntS.f k bt151.2.2.1 x7).bind fun t161 => (if t161 = true then (laws_FnExactClockTick.j2 k bt143.2 bt143.1 (bt151.2.2.2 != x8) x130000 bt141.2) else (laws_FnExactClockTick.j2 k bt143.2 bt143.1 true x130000 bt141.2))) else (laws_FnExactClockTick.j2 k bt143.2 bt143.1 true x130000 bt141.2))))) else (some false))))))))
def laws_FnExactClockTick.j2 : Nat → List Int → Int → Bool → Int → List (S62) → Option (Bool)
 | 0, _, _, _, _, _ => none
 | k + 1, x11, x14, x124, x130000, x130001 => if x124 = true then (some false) else ((laws_heldClock.f k x130000 x130001 1).bind fun t162 => (if t162 < 0 then (some false) else ((laws_heldIntS.f k x11 t162).bind fun t163 => (if t163 < 0 then (some false) else (if t163 = x14 then (some true) else (some false))))))
end
def laws_FnExactClockTick.f (k : Nat) (a0_0 : Int) (l0_1 : List (S79)) (a1 : Int) : Option (Bool) := (laws_szClock.f a0_0 l0_1 1048576).bind fun t102 => (if t102 < 0 then (some true) else ((laws_toClock.f k a0_0 l0_1).bind fun bt103 => ((spec_ClockTick.f k bt103.1 bt103.2 a1).bind fun bt107 => ((laws_toClock.f k a0_0 l0_1).bind fun bt116 => ((impl_ClockTick.f k bt116.1 bt116.2 a1).bind fun bt121 => ((laws_eqClock.f k bt121.1 bt121.2.1 bt107.1 bt107.2.1).bind fun t130 => (if t130 = true then ((laws_eqIntS.f k bt121.2.2.1 bt107.2.2.1).bind fun t131 => (if t131 = true then (laws_FnExactClockTick.j0 k a1 bt107.2.2.1 bt107.2.2.2 bt121.2.2.1 bt121.2.2.2 (bt121.2.2.2 != bt107.2.2.2) a0_0 l0_1 bt107.1 bt107.2.1 bt116.1 bt116.2 bt121.1 bt121.2.1) else (laws_FnExactClockTick.j0 k a1 bt107.2.2.1 bt107.2.2.2 bt121.2.2.1 bt121.2.2.2 true a0_0 l0_1 bt107.1 bt107.2.1 bt116.1 bt116.2 bt121.1 bt121.2.1))) else (laws_FnExactClockTick.j0 k a1 bt107.2.2.1 bt107.2.2.2 bt121.2.2.1 bt121.2.2.2 true a0_0 l0_1 bt107.1 bt107.2.1 bt116.1 bt116.2 bt121.1 bt121.2.1))))))))
theorem laws_FnExactClockTick.mono_l : ∀ k, (∀ y0 y1 y2 y3 y4 y5 y6 y7 y8 y9 y10 y11 y12 y13, LeO (laws_FnExactClockTick.j0 k y0 y1 y2 y3 y4 y5 y6 y7 y8 y9 y10 y11 y12 y13) (laws_FnExactClockTick.j0 (k + 1) y0 y1 y2 y3 y4 y5 y6 y7 y8 y9 y10 y11 y12 y13)) ∧ (∀ y0 y1 y2 y3 y4 y5 y6 y7 y8 y9 y10, LeO (laws_FnExactClockTick.j1 k y0 y1 y2 y3 y4 y5 y6 y7 y8 y9 y10) (laws_FnExactClockTick.j1 (k + 1) y0 y1 y2 y3 y4 y5 y6 y7 y8 y9 y10)) ∧ (∀ y0 y1 y2 y3 y4, LeO (laws_FnExactClockTick.j2 k y0 y1 y2 y3 y4) (laws_FnExactClockTick.j2 (k + 1) y0 y1 y2 y3 y4))
 | 0 => ⟨fun _ _ _ _ _ _ _ _ _ _ _ _ _ _ r h => by simp [laws_FnExactClockTick.j0] at h, fun _ _ _ _ _ _ _ _ _ _ _ r h => by simp [laws_FnExactClockTick.j1] at h, fun _ _ _ _ _ r h => by simp [laws_FnExactClockTick.j2] at h⟩
 | k + 1 => by
  obtain ⟨ih0, ih1, ih2⟩ := laws_FnExactClockTick.mono_l k
  refine ⟨?_, ?_, ?_⟩
  ·
   intro y0 y1 y2 y3 y4 y5 y6 y7 y8 y9 y10 y11 y12 y13
   unfold laws_FnExactClockTick.j0
   repeat' first
   | (with_reducible exact ih0 _ _ _ _ _ _ _ _ _ _ _ _ _ _)
   | (with_reducible exact ih1 _ _ _ _ _ _ _ _ _ _ _)
   | (with_reducible exact ih2 _ _ _ _ _)
   | (with_reducible exact impl_ClockTick.mono _ _ _ _)
   | (with_reducible exact laws_eqClock.mono _ _ _ _ _)
   | (with_reducible exact laws_eqIntS.mono _ _ _)
   | (with_reducible exact laws_heldClock.mono _ _ _ _)
   | (with_reducible exact laws_heldIntS.mono _ _ _)
   | (with_reducible exact laws_markClock.mono _ _ _ _)
   | (with_reducible exact laws_markIntS.mono _ _ _)
   | (with_reducible exact laws_toClock.mono _ _ _)
   | (with_reducible exact spec_ClockTick.mono _ _ _ _)
   | (with_reducible exact LeO.refl _)
   | (with_reducible exact LeO.none _)
   | (with_reducible refine LeO.ite ?_ ?_)
   | (with_reducible refine LeO.bind ?_ (fun _ => ?_))
   | exact ih0 _ _ _ _ _ _ _ _ _ _ _ _ _ _
   | exact ih1 _ _ _ _ _ _ _ _ _ _ _
   | exact ih2 _ _ _ _ _
   | exact impl_ClockTick.mono _ _ _ _
   | exact laws_eqClock.mono _ _ _ _ _
   | exact laws_eqIntS.mono _ _ _
   | exact laws_heldClock.mono _ _ _ _
   | exact laws_heldIntS.mono _ _ _
   | exact laws_markClock.mono _ _ _ _
   | exact laws_markIntS.mono _ _ _
   | exact laws_toClock.mono _ _ _
   | exact spec_ClockTick.mono _ _ _ _
   | exact LeO.none _
   | refine LeO.ite ?_ ?_
   | refine LeO.bind ?_ (fun _ => ?_)
  ·
   intro y0 y1 y2 y3 y4 y5 y6 y7 y8 y9 y10
   unfold laws_FnExactClockTick.j1
   repeat' first
   | (with_reducible exact ih0 _ _ _ _ _ _ _ _ _ _ _ _ _ _)
   | (with_reducible exact ih1 _ _ _ _ _ _ _ _ _ _ _)
   | (with_reducible exact ih2 _ _ _ _ _)
   | (with_reducible exact impl_ClockTick.mono _ _ _ _)
   | (with_reducible exact laws_eqClock.mono _ _ _ _ _)
   | (with_reducible exact laws_eqIntS.mono _ _ _)
   | (with_reducible exact laws_heldClock.mono _ _ _ _)
   | (with_reducible exact laws_heldIntS.mono _ _ _)
   | (with_reducible exact laws_markClock.mono _ _ _ _)
   | (with_reducible exact laws_markIntS.mono _ _ _)
   | (with_reducible exact laws_toClock.mono _ _ _)
   | (with_reducible exact spec_ClockTick.mono _ _ _ _)
   | (with_reducible exact LeO.refl _)
   | (with_reducible exact LeO.none _)
   | (with_reducible refine LeO.ite ?_ ?_)
   | (with_reducible refine LeO.bind ?_ (fun _ => ?_))
   | exact ih0 _ _ _ _ _ _ _ _ _ _ _ _ _ _
   | exact ih1 _ _ _ _ _ _ _ _ _ _ _
   | exact ih2 _ _ _ _ _
   | exact impl_ClockTick.mono _ _ _ _
   | exact laws_eqClock.mono _ _ _ _ _
   | exact laws_eqIntS.mono _ _ _
   | exact laws_heldClock.mono _ _ _ _
   | exact laws_heldIntS.mono _ _ _
   | exact laws_markClock.mono _ _ _ _
   | exact laws_markIntS.mono _ _ _
   | exact laws_toClock.mono _ _ _
   | exact spec_ClockTick.mono _ _ _ _
   | exact LeO.none _
   | refine LeO.ite ?_ ?_
   | refine LeO.bind ?_ (fun _ => ?_)
  ·
   intro y0 y1 y2 y3 y4
   unfold laws_FnExactClockTick.j2
   repeat' first
   | (with_reducible exact ih0 _ _ _ _ _ _ _ _ _ _ _ _ _ _)
   | (with_reducible exact ih1 _ _ _ _ _ _ _ _ _ _ _)
   | (with_reducible exact ih2 _ _ _ _ _)
   | (with_reducible exact impl_ClockTick.mono _ _ _ _)
   | (with_reducible exact laws_eqClock.mono _ _ _ _ _)
   | (with_reducible exact laws_eqIntS.mono _ _ _)
   | (with_reducible exact laws_heldClock.mono _ _ _ _)
   | (with_reducible exact laws_heldIntS.mono _ _ _)
   | (with_reducible exact laws_markClock.mono _ _ _ _)
   | (with_reducible exact laws_markIntS.mono _ _ _)
   | (with_reducible exact laws_toClock.mono _ _ _)
   | (with_reducible exact spec_ClockTick.mono _ _ _ _)
   | (with_reducible exact LeO.refl _)
   | (with_reducible exact LeO.none _)
   | (with_reducible refine LeO.ite ?_ ?_)
   | (with_reducible refine LeO.bind ?_ (fun _ => ?_))
   | exact ih0 _ _ _ _ _ _ _ _ _ _ _ _ _ _
   | exact ih1 _ _ _ _ _ _ _ _ _ _ _
   | exact ih2 _ _ _ _ _
   | exact impl_ClockTick.mono _ _ _ _
   | exact laws_eqClock.mono _ _ _ _ _
   | exact laws_eqIntS.mono _ _ _
   | exact laws_heldClock.mono _ _ _ _
   | exact laws_heldIntS.mono _ _ _
   | exact laws_markClock.mono _ _ _ _
   | exact laws_markIntS.mono _ _ _
   | exact laws_toClock.mono _ _ _
   | exact spec_ClockTick.mono _ _ _ _
   | exact LeO.none _
   | refine LeO.ite ?_ ?_
   | refine LeO.bind ?_ (fun _ => ?_)
theorem laws_FnExactClockTick.mono : ∀ a0 a1 a2 k, LeO (laws_FnExactClockTick.f k a0 a1 a2) (laws_FnExactClockTick.f (k + 1) a0 a1 a2) := by
 intro a0 a1 a2 k
 obtain ⟨ih0, ih1, ih2⟩ := laws_FnExactClockTick.mono_l k
 unfold laws_FnExactClockTick.f
 repeat' first
   | (with_reducible exact ih0 _ _ _ _ _ _ _ _ _ _ _ _ _ _)
   | (with_reducible exact ih1 _ _ _ _ _ _ _ _ _ _ _)
   | (with_reducible exact ih2 _ _ _ _ _)
   | (with_reducible exact impl_ClockTick.mono _ _ _ _)
   | (with_reducible exact laws_eqClock.mono _ _ _ _ _)
   | (with_reducible exact laws_eqIntS.mono _ _ _)
   | (with_reducible exact laws_heldClock.mono _ _ _ _)
   | (with_reducible exact laws_heldIntS.mono _ _ _)
   | (with_reducible exact laws_markClock.mono _ _ _ _)
   | (with_reducible exact laws_markIntS.mono _ _ _)
   | (with_reducible exact laws_toClock.mono _ _ _)
   | (with_reducible exact spec_ClockTick.mono _ _ _ _)
   | (with_reducible exact LeO.refl _)
   | (with_reducible exact LeO.none _)
   | (with_reducible refine LeO.ite ?_ ?_)
   | (with_reducible refine LeO.bind ?_ (fun _ => ?_))
   | exact ih0 _ _ _ _ _ _ _ _ _ _ _ _ _ _
   | exact ih1 _ _ _ _ _ _ _ _ _ _ _
   | exact ih2 _ _ _ _ _
   | exact impl_ClockTick.mono _ _ _ _
   | exact laws_eqClock.mono _ _ _ _ _
   | exact laws_eqIntS.mono _ _ _
   | exact laws_heldClock.mono _ _ _ _
   | exact laws_heldIntS.mono _ _ _
   | exact laws_markClock.mono _ _ _ _
   | exact laws_markIntS.mono _ _ _
   | exact laws_toClock.mono _ _ _
   | exact spec_ClockTick.mono _ _ _ _
   | exact LeO.none _
   | refine LeO.ite ?_ ?_
   | refine LeO.bind ?_ (fun _ => ?_)
set_option maxHeartbeats 8000000 in
set_option maxRecDepth 100000 in
theorem laws_FnExactClockTick.calls (k : Nat) (a0_0 : Int) (A0_1 : Option Addr) (c0_1 : Nat) (l0_1 : List (S79)) (a1 : Int) (r : Bool) (w : World) (hr0_1 : Kd.C k79 w A0_1 l0_1.length l0_1) (hc0_1 : l0_1.length ≤ c0_1) (h : laws_FnExactClockTick.f k a0_0 l0_1 a1 = some r) :
  Calls Try.prog 15 #[.agg #[.int .i64 a0_0, .slice A0_1 l0_1.length c0_1], .int .i64 a1] w fun e w' => e = .returned (.bool r) ∧ Below w.heap.size w w' := by
 have hu38 := Try.underlying38
 have hu26 := Try.underlying26
 have HR0_1 := Aside0.mk hr0_1
 have HC0_1 := Aside0.mk hc0_1
 clear hr0_1 hc0_1
 have HB := Aside0.mk (Below.refl w.heap.size w)
 have H : ((laws_szClock.f a0_0 l0_1 1048576).bind fun t102 => (if t102 < 0 then (some true) else ((laws_toClock.f k a0_0 l0_1).bind fun bt103 => ((spec_ClockTick.f k bt103.1 bt103.2 a1).bind fun bt107 => ((laws_toClock.f k a0_0 l0_1).bind fun bt116 => ((impl_ClockTick.f k bt116.1 bt116.2 a1).bind fun bt121 => ((laws_eqClock.f k bt121.1 bt121.2.1 bt107.1 bt107.2.1).bind fun t130 => (if t130 = true then ((laws_eqIntS.f k bt121.2.2.1 bt107.2.2.1).bind fun t131 => (if t131 = true then (laws_FnExactClockTick.j0 k a1 bt107.2.2.1 bt107.2.2.2 bt121.2.2.1 bt121.2.2.2 (bt121.2.2.2 != bt107.2.2.2) a0_0 l0_1 bt107.1 bt107.2.1 bt116.1 bt116.2 bt121.1 bt121.2.1) else (laws_FnExactClockTick.j0 k a1 bt107.2.2.1 bt107.2.2.2 bt121.2.2.1 bt121.2.2.2 true a0_0 l0_1 bt107.1 bt107.2.1 bt116.1 bt116.2 bt121.1 bt121.2.1))) else (laws_FnExactClockTick.j0 k a1 bt107.2.2.1 bt107.2.2.2 bt121.2.2.1 bt121.2.2.2 true a0_0 l0_1 bt107.1 bt107.2.1 bt116.1 bt116.2 bt121.1 bt121.2.1))))))))) = some r := h
 clear h
 replace H := Option.bind_eq_some_iff.mp H
 obtain ⟨t102, A30, H⟩ := H
 have A3 := Aside0.mk A30
 clear A30
 by_cases c4 : t102 < 0
 ·
  rw [if_pos c4] at H
  have c4b0 : decide (t102 < 0) = true := decide_eq_true c4
  clear c4
  obtain rfl := Option.some.inj H
  go_enter Try.func15, Try.ntmps15
  go_wp2_with (first | ((with_reducible refine gate_dst (N := 2) rfl ?_); refine box_event ?hg (N := 2) ?hd (cs := #[.int .i64 a0_0, .slice A0_1 l0_1.length c0_1]) (t := 38) ?hr ?_; (case hd => rfl); (case hg => rfl); (case hr => first | (go_simp; done) | (go_simp; rfl)); intro gb101 hg w5 hbox hb; have BK101 := Aside0.mk (hbox); have GW101 := Aside0.mk ((by rw [hg]; exact (below_size (bz HB.out)) : w.heap.size ≤ gb101)); have GE101 := Aside0.mk ((by rw [hg]; exact (below_size (bz HB.out)) : w.heap.size ≤ gb101)); replace HB := Aside0.mk (below_step (bz HB.out) hb); clear hb hbox hg; have hcz6_0 : w5.cell? ⟨gb101, 0, none⟩ = some (.int .i64 a0_0) := (blk_cell BK101.out 0).trans rfl; have hcz6_1 : w5.cell? ⟨gb101, 1, none⟩ = some (.slice A0_1 l0_1.length c0_1) := (blk_cell BK101.out 1).trans rfl; have hfz6_0 := blk_frozen BK101.out 0; have hfz6_1 := blk_frozen BK101.out 1) | ((with_reducible refine gate_callee (f := 25) rfl ?_); refine goesL_ (some 21) rfl rfl Try.func25 zk rfl #[.agg #[.int .i64 a0_0, .slice A0_1 l0_1.length c0_1], .int .i64 1048576] rfl zm ?_; (with_reducible refine (laws_szClock.calls a0_0 _ _ l0_1 1048576 t102 _ ?side1 ?side2 A3.out).mono ?_); (case side1 => exact cz (Kd.C_below HR0_1.out HB.out)); (case side2 => exact HC0_1.out); rintro e w7 ⟨rfl, hb⟩; refine ⟨_, rfl, ?_⟩; replace BK101 := Aside0.mk (blk_below (g := gb101) (o := .cells #[.int .i64 a0_0, .slice A0_1 l0_1.length c0_1] 38 (0, 0)) (kz BK101.out) hb); replace HB := Aside0.mk (below_step (bs HB.out GE101.out) hb); (try clear hb)))
  go_ret
  exact ⟨ze, bs HB.out GE101.out⟩
 ·
  rw [if_neg c4] at H
  have c4b0 : decide (t102 < 0) = false := decide_eq_false c4
  clear c4
  replace H := Option.bind_eq_some_iff.mp H
  obtain ⟨⟨t103, t104⟩, A80, H⟩ := H
  replace H : ((spec_ClockTick.f k t103 t104 a1).bind fun bt107 => ((laws_toClock.f k a0_0 l0_1).bind fun bt116 => ((impl_ClockTick.f k bt116.1 bt116.2 a1).bind fun bt121 => ((laws_eqClock.f k bt121.1 bt121.2.1 bt107.1 bt107.2.1).bind fun t130 => (if t130 = true then ((laws_eqIntS.f k bt121.2.2.1 bt107.2.2.1).bind fun t131 => (if t131 = true then (laws_FnExactClockTick.j0 k a1 bt107.2.2.1 bt107.2.2.2 bt121.2.2.1 bt121.2.2.2 (bt121.2.2.2 != bt107.2.2.2) a0_0 l0_1 bt107.1 bt107.2.1 bt116.1 bt116.2 bt121.1 bt121.2.1) else (laws_FnExactClockTick.j0 k a1 bt107.2.2.1 bt107.2.2.2 bt121.2.2.1 bt121.2.2.2 true a0_0 l0_1 bt107.1 bt107.2.1 bt116.1 bt116.2 bt121.1 bt121.2.1))) else (laws_FnExactClockTick.j0 k a1 bt107.2.2.1 bt107.2.2.2 bt121.2.2.1 bt121.2.2.2 true a0_0 l0_1 bt107.1 bt107.2.1 bt116.1 bt116.2 bt121.1 bt121.2.1)))))) = some r := H
  have A8 := Aside0.mk A80
  clear A80
  replace H := Option.bind_eq_some_iff.mp H
  obtain ⟨⟨t107, t108, t111, t114⟩, A90, H⟩ := H
  replace H : ((laws_toClock.f k a0_0 l0_1).bind fun bt116 => ((impl_ClockTick.f k bt116.1 bt116.2 a1).bind fun bt121 => ((laws_eqClock.f k bt121.1 bt121.2.1 t107 t108).bind fun t130 => (if t130 = true then ((laws_eqIntS.f k bt121.2.2.1 t111).bind fun t131 => (if t131 = true then (laws_FnExactClockTick.j0 k a1 t111 t114 bt121.2.2.1 bt121.2.2.2 (bt121.2.2.2 != t114) a0_0 l0_1 t107 t108 bt116.1 bt116.2 bt121.1 bt121.2.1) else (laws_FnExactClockTick.j0 k a1 t111 t114 bt121.2.2.1 bt121.2.2.2 true a0_0 l0_1 t107 t108 bt116.1 bt116.2 bt121.1 bt121.2.1))) else (laws_FnExactClockTick.j0 k a1 t111 t114 bt121.2.2.1 bt121.2.2.2 true a0_0 l0_1 t107 t108 bt116.1 bt116.2 bt121.1 bt121.2.1))))) = some r := H
  have A9 := Aside0.mk A90
  clear A90
  replace H := Option.bind_eq_some_iff.mp H
  obtain ⟨⟨t116, t117⟩, A100, H⟩ := H
  replace H : ((impl_ClockTick.f k t116 t117 a1).bind fun bt121 => ((laws_eqClock.f k bt121.1 bt121.2.1 t107 t108).bind fun t130 => (if t130 = true then ((laws_eqIntS.f k bt121.2.2.1 t111).bind fun t131 => (if t131 = true then (laws_FnExactClockTick.j0 k a1 t111 t114 bt121.2.2.1 bt121.2.2.2 (bt121.2.2.2 != t114) a0_0 l0_1 t107 t108 t116 t117 bt121.1 bt121.2.1) else (laws_FnExactClockTick.j0 k a1 t111 t114 bt121.2.2.1 bt121.2.2.2 true a0_0 l0_1 t107 t108 t116 t117 bt121.1 bt121.2.1))) else (laws_FnExactClockTick.j0 k a1 t111 t114 bt121.2.2.1 bt121.2.2.2 true a0_0 l0_1 t107 t108 t116 t117 bt121.1 bt121.2.1)))) = some r := H
  have A10 := Aside0.mk A100
  clear A100
  replace H := Option.bind_eq_some_iff.mp H
  obtain ⟨⟨t121, t122, t125, t128⟩, A110, H⟩ := H
  replace H : ((laws_eqClock.f k t121 t122 t107 t108).bind fun t130 => (if t130 = true then ((laws_eqIntS.f k t125 t111).bind fun t131 => (if t131 = true then (laws_FnExactClockTick.j0 k a1 t111 t114 t125 t128 (t128 != t114) a0_0 l0_1 t107 t108 t116 t117 t121 t122) else (laws_FnExactClockTick.j0 k a1 t111 t114 t125 t128 true a0_0 l0_1 t107 t108 t116 t117 t121 t122))) else (laws_FnExactClockTick.j0 k a1 t111 t114 t125 t128 true a0_0 l0_1 t107 t108 t116 t117 t121 t122))) = some r := H
  have A11 := Aside0.mk A110
  clear A110
  have HC12 := Aside0.mk H
  clear H
  go_enter Try.func15, Try.ntmps15
  go_upto_region 8 with (first | ((with_reducible refine gate_dst (N := 2) rfl ?_); refine box_event ?hg (N := 2) ?hd (cs := #[.int .i64 a0_0, .slice A0_1 l0_1.length c0_1]) (t := 38) ?hr ?_; (case hd => rfl); (case hg => rfl); (case hr => first | (go_simp; done) | (go_simp; rfl)); intro gb101 hg w13 hbox hb; have BK101 := Aside0.mk (hbox); have GW101 := Aside0.mk ((by rw [hg]; exact (below_size (bz HB.out)) : w.heap.size ≤ gb101)); have GE101 := Aside0.mk ((by rw [hg]; exact (below_size (bz HB.out)) : w.heap.size ≤ gb101)); replace HB := Aside0.mk (below_step (bz HB.out) hb); clear hb hbox hg; have hcz14_0 : w13.cell? ⟨gb101, 0, none⟩ = some (.int .i64 a0_0) := (blk_cell BK101.out 0).trans rfl; have hcz14_1 : w13.cell? ⟨gb101, 1, none⟩ = some (.slice A0_1 l0_1.length c0_1) := (blk_cell BK101.out 1).trans rfl; have hfz14_0 := blk_frozen BK101.out 0; have hfz14_1 := blk_frozen BK101.out 1) | ((with_reducible refine gate_callee (f := 25) rfl ?_); refine goesL_ (some 21) rfl rfl Try.func25 zk rfl #[.agg #[.int .i64 a0_0, .slice A0_1 l0_1.length c0_1], .int .i64 1048576] rfl zm ?_; (with_reducible refine (laws_szClock.calls a0_0 _ _ l0_1 1048576 t102 _ ?side1 ?side2 A3.out).mono ?_); (case side1 => exact cz (Kd.C_below HR0_1.out HB.out)); (case side2 => exact HC0_1.out); rintro e w15 ⟨rfl, hb⟩; refine ⟨_, rfl, ?_⟩; replace BK101 := Aside0.mk (blk_below (g := gb101) (o := .cells #[.int .i64 a0_0, .slice A0_1 l0_1.length c0_1] 38 (0, 0)) (kz BK101.out) hb); replace HB := Aside0.mk (below_step (bs HB.out GE101.out) hb); (try clear hb); have hcz16_0 : w15.cell? ⟨gb101, 0, none⟩ = some (.int .i64 a0_0) := (blk_cell BK101.out 0).trans rfl; have hcz16_1 : w15.cell? ⟨gb101, 1, none⟩ = some (.slice A0_1 l0_1.length c0_1) := (blk_cell BK101.out 1).trans rfl; have hfz16_0 := blk_frozen BK101.out 0; have hfz16_1 := blk_frozen BK101.out 1) | ((with_reducible refine gate_callee (f := 27) rfl ?_); refine goesL_ (some 26) rfl rfl Try.func27 zk rfl #[.agg #[.int .i64 a0_0, .slice A0_1 l0_1.length c0_1]] rfl zm ?_; (with_reducible refine (laws_toClock.calls k a0_0 _ _ l0_1 t103 t104 _ ?side1 ?side2 A8.out).mono ?_); (case side1 => exact cz (Kd.C_below HR0_1.out HB.out)); (case side2 => exact HC0_1.out); rintro e w17 ⟨v105, rfl, ho0, hb⟩; refine ⟨_, rfl, ?_⟩; have HO106 := Aside0.mk (Kd.R_lower ho0 (below_size (bs HB.out GE101.out))); replace BK101 := Aside0.mk (blk_below (g := gb101) (o := .cells #[.int .i64 a0_0, .slice A0_1 l0_1.length c0_1] 38 (0, 0)) (kz BK101.out) hb); replace HB := Aside0.mk (below_step (bs HB.out GE101.out) hb); (try clear hb); (try clear ho0); obtain ⟨Ao18, co18, eo18⟩ := Kd.R_slice HO106.out; subst eo18) | ((with_reducible refine gate_callee (f := 36) rfl ?_); refine goesL_ (some 28) rfl rfl Try.func36 zk rfl #[.agg #[.int .i64 t103, .slice Ao18 t104.length co18], .int .i64 a1] rfl zm ?_; (with_reducible refine (spec_ClockTick.calls k t103 _ _ t104 a1 t107 t108 t111 t114 _ ?side1 ?side2 A9.out).mono ?_); (case side1 => exact cz ((Kd.R_reads' HO106.out).2.2)); (case side2 => exact (Kd.R_reads' HO106.out).2.1); rintro e w19 ⟨v109, v112, rfl, ho0, ho1, hb⟩; refine ⟨_, rfl, ?_⟩; have HO110 := Aside0.mk (Kd.R_lower (Kd.R_new' ho0 (Kd.R_lt (rz HO106.out))) (below_size (bs HB.out GE101.out))); replace HO106 := Aside0.mk (Kd.R_elder' (rz HO106.out) (Kd.R_base ho0) hb); have HO113 := Aside0.mk (Kd.R_lower ho1 (below_size (bs HB.out GE101.out))); replace BK101 := Aside0.mk (blk_below (g := gb101) (o := .cells #[.int .i64 a0_0, .slice A0_1 l0_1.length c0_1] 38 (0, 0)) (kz BK101.out) hb); replace HB := Aside0.mk (below_step (bs HB.out GE101.out) hb); (try clear hb); (try clear ho0); (try clear ho1)) | ((with_reducible refine gate_dst (N := 6) rfl ?_); refine box_event ?hg (N := 6) ?hd (cs := #[.int .i64 0, .slice none 0 0]) (t := 26) ?hr ?_; (case hd => rfl); (case hg => rfl); (case hr => first | (go_simp; done) | (go_simp; rfl)); intro gb115 hg w20 hbox hb; replace HO106 := Aside0.mk (Kd.R_below (rz HO106.out) hb); replace HO110 := Aside0.mk (Kd.R_below (rz HO110.out) hb); replace HO113 := Aside0.mk (Kd.R_below (rz HO113.out) hb); have BK115 := Aside0.mk (hbox); have GW115 := Aside0.mk ((by rw [hg]; exact (below_size (bs HB.out GE101.out)) : w.heap.size ≤ gb115)); have GE115 := Aside0.mk ((by rw [hg]; exact (below_size (bs HB.out GE101.out)) : w.heap.size ≤ gb115)); replace HB := Aside0.mk (below_step (bs HB.out GE101.out) hb); have NB101_115 := Aside0.mk ((by rw [hg]; exact Nat.ne_of_lt (blk_lt (g := gb101) (o := .cells #[.int .i64 a0_0, .slice A0_1 l0_1.length c0_1] 38 (0, 0)) (kz BK101.out)) : gb101 ≠ gb115)); have NB115_101 := Aside0.mk ((by rw [hg]; exact Nat.ne_of_gt (blk_lt (g := gb101) (o := .cells #[.int .i64 a0_0, .slice A0_1 l0_1.length c0_1] 38 (0, 0)) (kz BK101.out)) : gb115 ≠ gb101)); replace BK101 := Aside0.mk (blk_below (g := gb101) (o := .cells #[.int .i64 a0_0, .slice A0_1 l0_1.length c0_1] 38 (0, 0)) (kz BK101.out) hb); clear hb hbox hg; have hnb21 := NB115_101.out; have hnc21 := NB101_115.out; have hcz22_0 : w20.cell? ⟨gb115, 0, none⟩ = some (.int .i64 0) := (blk_cell BK115.out 0).trans rfl; have hcz22_1 : w20.cell? ⟨gb115, 1, none⟩ = some (.slice none 0 0) := (blk_cell BK115.out 1).trans rfl; have hfz22_0 := blk_frozen BK115.out 0; have hfz22_1 := blk_frozen BK115.out 1; obtain ⟨Ao23, co23, eo23⟩ := Kd.R_slice HO110.out; subst eo23; have hcz24_0 : w20.cell? ⟨gb101, 0, none⟩ = some (.int .i64 a0_0) := (blk_cell BK101.out 0).trans rfl; have hcz24_1 : w20.cell? ⟨gb101, 1, none⟩ = some (.slice A0_1 l0_1.length c0_1) := (blk_cell BK101.out 1).trans rfl; have hfz24_0 := blk_frozen BK101.out 0; have hfz24_1 := blk_frozen BK101.out 1) | ((with_reducible refine gate_callee (f := 27) rfl ?_); refine goesL_ (some 33) rfl rfl Try.func27 zk rfl #[.agg #[.int .i64 a0_0, .slice A0_1 l0_1.length c0_1]] rfl zm ?_; (with_reducible refine (laws_toClock.calls k a0_0 _ _ l0_1 t116 t117 _ ?side1 ?side2 A10.out).mono ?_); (case side1 => exact Kd.C_below HR0_1.out (bs2 HB.out GE101.out GE115.out)); (case side2 => exact HC0_1.out); rintro e w25 ⟨v118, rfl, ho0, hb⟩; refine ⟨_, rfl, ?_⟩; replace HO113 := Aside0.mk (Kd.R_below (by (with_reducible repeat (first | apply Kd.R_alloc | apply Kd.R_drewN | apply Kd.R_drew)); exact (Kd.R_mono (Kd.R_far (p := ⟨gb115, 1, none⟩) (Kd.R_far (p := ⟨gb115, 0, none⟩) (Kd.R_types HO113.out BK115.out (by decide)) (fun _ hk => hk.2) (.int .i64 t107)) (fun _ hk => hk.2) (.slice Ao23 t108.length co23)) (fun _ h_ => h_.1))) hb); have HO119 := Aside0.mk (Kd.R_lower (Kd.R_new' (Kd.R_new' ho0 (Kd.R_lt (by (with_reducible repeat (first | apply Kd.R_alloc | apply Kd.R_drewN | apply Kd.R_drew)); exact (Kd.R_mono (Kd.R_far (p := ⟨gb115, 1, none⟩) (Kd.R_far (p := ⟨gb115, 0, none⟩) (Kd.R_types HO106.out BK115.out (by decide)) (fun _ hk => hk.2) (.int .i64 t107)) (fun _ hk => hk.2) (.slice Ao23 t108.length co23)) (fun _ h_ => h_.1))))) (Kd.R_lt (by (with_reducible repeat (first | apply Kd.R_alloc | apply Kd.R_drewN | apply Kd.R_drew)); exact (Kd.R_mono (Kd.R_far (p := ⟨gb115, 1, none⟩) (Kd.R_far (p := ⟨gb115, 0, none⟩) (Kd.R_types HO110.out BK115.out (by decide)) (fun _ hk => hk.2) (.int .i64 t107)) (fun _ hk => hk.2) (.slice Ao23 t108.length co23)) (fun _ h_ => h_.1))))) (below_size (bs2 HB.out GE101.out GE115.out))); replace HO106 := Aside0.mk (Kd.R_elder' (by (with_reducible repeat (first | apply Kd.R_alloc | apply Kd.R_drewN | apply Kd.R_drew)); exact (Kd.R_mono (Kd.R_far (p := ⟨gb115, 1, none⟩) (Kd.R_far (p := ⟨gb115, 0, none⟩) (Kd.R_types HO106.out BK115.out (by decide)) (fun _ hk => hk.2) (.int .i64 t107)) (fun _ hk => hk.2) (.slice Ao23 t108.length co23)) (fun _ h_ => h_.1))) (Kd.R_base ho0) hb); replace HO110 := Aside0.mk (Kd.R_elder' (by (with_reducible repeat (first | apply Kd.R_alloc | apply Kd.R_drewN | apply Kd.R_drew)); exact (Kd.R_mono (Kd.R_far (p := ⟨gb115, 1, none⟩) (Kd.R_far (p := ⟨gb115, 0, none⟩) (Kd.R_types HO110.out BK115.out (by decide)) (fun _ hk => hk.2) (.int .i64 t107)) (fun _ hk => hk.2) (.slice Ao23 t108.length co23)) (fun _ h_ => h_.1))) (Kd.R_base ho0) hb); replace BK101 := Aside0.mk (blk_below (g := gb101) (o := .cells #[.int .i64 a0_0, .slice A0_1 l0_1.length c0_1] 38 (0, 0)) (by (with_reducible repeat (first | refine blk_drewN ?_ _ | refine blk_drew ?_ | refine blk_alloc ?_ _)); refine blk_far ?_ NB101_115.out _; (with_reducible repeat (first | refine blk_drewN ?_ _ | refine blk_drew ?_ | refine blk_alloc ?_ _)); refine blk_far ?_ NB101_115.out _; (with_reducible repeat (first | refine blk_drewN ?_ _ | refine blk_drew ?_ | refine blk_alloc ?_ _)); exact BK101.out) hb); replace BK115 := Aside0.mk (blk_below (g := gb115) (o := .cells #[.int .i64 t107, .slice Ao23 t108.length co23] 26 (0, 0)) (by (with_reducible repeat (first | refine blk_drewN ?_ _ | refine blk_drew ?_ | refine blk_alloc ?_ _)); refine blk_put (cs := #[.int .i64 t107, .slice none 0 0]) ?_ 1 _ rfl; (with_reducible repeat (first | refine blk_drewN ?_ _ | refine blk_drew ?_ | refine blk_alloc ?_ _)); refine blk_put (cs := #[.int .i64 0, .slice none 0 0]) ?_ 0 _ rfl; (with_reducible repeat (first | refine blk_drewN ?_ _ | refine blk_drew ?_ | refine blk_alloc ?_ _)); exact BK115.out) hb); replace HB := Aside0.mk (below_step (bs2 HB.out GE101.out GE115.out) hb); (try clear hb); (try clear ho0)) | ((with_reducible refine gate_dst (N := 9) rfl ?_); refine box_event ?hg (N := 9) ?hd (cs := #[.int .i64 0, .slice none 0 0]) (t := 26) ?hr ?_; (case hd => rfl); (case hg => rfl); (case hr => first | (go_simp; done) | (go_simp; rfl)); intro gb120 hg w26 hbox hb; replace HO106 := Aside0.mk (Kd.R_below (rz HO106.out) hb); replace HO110 := Aside0.mk (Kd.R_below (rz HO110.out) hb); replace HO113 := Aside0.mk (Kd.R_below (rz HO113.out) hb); replace HO119 := Aside0.mk (Kd.R_below (rz HO119.out) hb); have BK120 := Aside0.mk (hbox); have GW120 := Aside0.mk ((by rw [hg]; exact (below_size (bs2 HB.out GE101.out GE115.out)) : w.heap.size ≤ gb120)); have GE120 := Aside0.mk ((by rw [hg]; exact (below_size (bs2 HB.out GE101.out GE115.out)) : w.heap.size ≤ gb120)); replace HB := Aside0.mk (below_step (bs2 HB.out GE101.out GE115.out) hb); have NB101_120 := Aside0.mk ((by rw [hg]; exact Nat.ne_of_lt (blk_lt (g := gb101) (o := .cells #[.int .i64 a0_0, .slice A0_1 l0_1.length c0_1] 38 (0, 0)) (kz BK101.out)) : gb101 ≠ gb120)); have NB120_101 := Aside0.mk ((by rw [hg]; exact Nat.ne_of_gt (blk_lt (g := gb101) (o := .cells #[.int .i64 a0_0, .slice A0_1 l0_1.length c0_1] 38 (0, 0)) (kz BK101.out)) : gb120 ≠ gb101)); replace BK101 := Aside0.mk (blk_below (g := gb101) (o := .cells #[.int .i64 a0_0, .slice A0_1 l0_1.length c0_1] 38 (0, 0)) (kz BK101.out) hb); have NB115_120 := Aside0.mk ((by rw [hg]; exact Nat.ne_of_lt (blk_lt (g := gb115) (o := .cells #[.int .i64 t107, .slice Ao23 t108.length co23] 26 (0, 0)) (kz BK115.out)) : gb115 ≠ gb120)); have NB120_115 := Aside0.mk ((by rw [hg]; exact Nat.ne_of_gt (blk_lt (g := gb115) (o := .cells #[.int .i64 t107, .slice Ao23 t108.length co23] 26 (0, 0)) (kz BK115.out)) : gb120 ≠ gb115)); replace BK115 := Aside0.mk (blk_below (g := gb115) (o := .cells #[.int .i64 t107, .slice Ao23 t108.length co23] 26 (0, 0)) (kz BK115.out) hb); clear hb hbox hg; have hnb27 := NB120_101.out; have hnc27 := NB101_120.out; have hnb28 := NB120_115.out; have hnc28 := NB115_120.out; have hcz29_0 : w26.cell? ⟨gb120, 0, none⟩ = some (.int .i64 0) := (blk_cell BK120.out 0).trans rfl; have hcz29_1 : w26.cell? ⟨gb120, 1, none⟩ = some (.slice none 0 0) := (blk_cell BK120.out 1).trans rfl; have hfz29_0 := blk_frozen BK120.out 0; have hfz29_1 := blk_frozen BK120.out 1; obtain ⟨Ao30, co30, eo30⟩ := Kd.R_slice HO119.out; subst eo30) | ((with_reducible refine gate_callee (f := 32) rfl ?_); refine goesL_ (some 37) rfl rfl Try.func32 zk rfl #[.agg #[.int .i64 t116, .slice Ao30 t117.length co30], .int .i64 a1] rfl zm ?_; (with_reducible refine (impl_ClockTick.calls k t116 _ _ t117 a1 t121 t122 t125 t128 _ ?side1 ?side2 A11.out).mono ?_); (case side1 => refine (Kd.R_reads' (e := 62) (base := w.heap.size) (ok := fun k_ => ((True ∧ some k_ ≠ (.slice Ao18 t104.length co18 : Value).ownBlock) ∧ some k_ ≠ (.slice Ao23 t108.length co23 : Value).ownBlock)) (n := t117.length) (c := co30) ?_).2.2; exact (by (with_reducible repeat (first | apply Kd.R_alloc | apply Kd.R_drewN | apply Kd.R_drew)); exact (Kd.R_mono (Kd.R_far (p := ⟨gb120, 1, none⟩) (Kd.R_far (p := ⟨gb120, 0, none⟩) (Kd.R_types HO119.out BK120.out (by decide)) (fun _ hk => hk.2) (.int .i64 t116)) (fun _ hk => hk.2) (.slice Ao30 t117.length co30)) (fun _ h_ => h_.1)))); (case side2 => exact (Kd.R_reads' HO119.out).2.1); rintro e w31 ⟨v123, v126, rfl, ho0, ho1, hb⟩; refine ⟨_, rfl, ?_⟩; have HO124 := Aside0.mk (Kd.R_lower (Kd.R_new' (Kd.R_new' (Kd.R_new' ho0 (Kd.R_lt (by (with_reducible repeat (first | apply Kd.R_alloc | apply Kd.R_drewN | apply Kd.R_drew)); exact (Kd.R_mono (Kd.R_far (p := ⟨gb120, 1, none⟩) (Kd.R_far (p := ⟨gb120, 0, none⟩) (Kd.R_types HO106.out BK120.out (by decide)) (fun _ hk => hk.2) (.int .i64 t116)) (fun _ hk => hk.2) (.slice Ao30 t117.length co30)) (fun _ h_ => h_.1))))) (Kd.R_lt (by (with_reducible repeat (first | apply Kd.R_alloc | apply Kd.R_drewN | apply Kd.R_drew)); exact (Kd.R_mono (Kd.R_far (p := ⟨gb120, 1, none⟩) (Kd.R_far (p := ⟨gb120, 0, none⟩) (Kd.R_types HO110.out BK120.out (by decide)) (fun _ hk => hk.2) (.int .i64 t116)) (fun _ hk => hk.2) (.slice Ao30 t117.length co30)) (fun _ h_ => h_.1))))) (Kd.R_lt (by (with_reducible repeat (first | apply Kd.R_alloc | apply Kd.R_drewN | apply Kd.R_drew)); exact (Kd.R_mono (Kd.R_far (p := ⟨gb120, 1, none⟩) (Kd.R_far (p := ⟨gb120, 0, none⟩) (Kd.R_types HO119.out BK120.out (by decide)) (fun _ hk => hk.2) (.int .i64 t116)) (fun _ hk => hk.2) (.slice Ao30 t117.length co30)) (fun _ h_ => h_.1))))) (below_size (by repeat (first | (with_reducible first | exact HB.out | apply below_alloc | apply pw_below_drewN | apply below_drew1 | refine below_set ?_ GE101.out | refine below_set ?_ GE115.out | refine below_set ?_ GE120.out) | exact HB.out)))); replace HO106 := Aside0.mk (Kd.R_elder' (by (with_reducible repeat (first | apply Kd.R_alloc | apply Kd.R_drewN | apply Kd.R_drew)); exact (Kd.R_mono (Kd.R_far (p := ⟨gb120, 1, none⟩) (Kd.R_far (p := ⟨gb120, 0, none⟩) (Kd.R_types HO106.out BK120.out (by decide)) (fun _ hk => hk.2) (.int .i64 t116)) (fun _ hk => hk.2) (.slice Ao30 t117.length co30)) (fun _ h_ => h_.1))) (Kd.R_base ho0) hb); replace HO110 := Aside0.mk (Kd.R_elder' (by (with_reducible repeat (first | apply Kd.R_alloc | apply Kd.R_drewN | apply Kd.R_drew)); exact (Kd.R_mono (Kd.R_far (p := ⟨gb120, 1, none⟩) (Kd.R_far (p := ⟨gb120, 0, none⟩) (Kd.R_types HO110.out BK120.out (by decide)) (fun _ hk => hk.2) (.int .i64 t116)) (fun _ hk => hk.2) (.slice Ao30 t117.length co30)) (fun _ h_ => h_.1))) (Kd.R_base ho0) hb); replace HO119 := Aside0.mk (Kd.R_elder' (by (with_reducible repeat (first | apply Kd.R_alloc | apply Kd.R_drewN | apply Kd.R_drew)); exact (Kd.R_mono (Kd.R_far (p := ⟨gb120, 1, none⟩) (Kd.R_far (p := ⟨gb120, 0, none⟩) (Kd.R_types HO119.out BK120.out (by decide)) (fun _ hk => hk.2) (.int .i64 t116)) (fun _ hk => hk.2) (.slice Ao30 t117.length co30)) (fun _ h_ => h_.1))) (Kd.R_base ho0) hb); have HO127 := Aside0.mk (Kd.R_lower (Kd.R_new' ho1 (Kd.R_lt (by (with_reducible repeat (first | apply Kd.R_alloc | apply Kd.R_drewN | apply Kd.R_drew)); exact (Kd.R_mono (Kd.R_far (p := ⟨gb120, 1, none⟩) (Kd.R_far (p := ⟨gb120, 0, none⟩) (Kd.R_types HO113.out BK120.out (by decide)) (fun _ hk => hk.2) (.int .i64 t116)) (fun _ hk => hk.2) (.slice Ao30 t117.length co30)) (fun _ h_ => h_.1))))) (below_size (by repeat (first | (with_reducible first | exact HB.out | apply below_alloc | apply pw_below_drewN | apply below_drew1 | refine below_set ?_ GE101.out | refine below_set ?_ GE115.out | refine below_set ?_ GE120.out) | exact HB.out)))); replace HO113 := Aside0.mk (Kd.R_elder' (by (with_reducible repeat (first | apply Kd.R_alloc | apply Kd.R_drewN | apply Kd.R_drew)); exact (Kd.R_mono (Kd.R_far (p := ⟨gb120, 1, none⟩) (Kd.R_far (p := ⟨gb120, 0, none⟩) (Kd.R_types HO113.out BK120.out (by decide)) (fun _ hk => hk.2) (.int .i64 t116)) (fun _ hk => hk.2) (.slice Ao30 t117.length co30)) (fun _ h_ => h_.1))) (Kd.R_base ho1) hb); replace BK101 := Aside0.mk (blk_below (g := gb101) (o := .cells #[.int .i64 a0_0, .slice A0_1 l0_1.length c0_1] 38 (0, 0)) (by (with_reducible repeat (first | refine blk_drewN ?_ _ | refine blk_drew ?_ | refine blk_alloc ?_ _)); refine blk_far ?_ NB101_120.out _; (with_reducible repeat (first | refine blk_drewN ?_ _ | refine blk_drew ?_ | refine blk_alloc ?_ _)); refine blk_far ?_ NB101_120.out _; (with_reducible repeat (first | refine blk_drewN ?_ _ | refine blk_drew ?_ | refine blk_alloc ?_ _)); exact BK101.out) hb); replace BK115 := Aside0.mk (blk_below (g := gb115) (o := .cells #[.int .i64 t107, .slice Ao23 t108.length co23] 26 (0, 0)) (by (with_reducible repeat (first | refine blk_drewN ?_ _ | refine blk_drew ?_ | refine blk_alloc ?_ _)); refine blk_far ?_ NB115_120.out _; (with_reducible repeat (first | refine blk_drewN ?_ _ | refine blk_drew ?_ | refine blk_alloc ?_ _)); refine blk_far ?_ NB115_120.out _; (with_reducible repeat (first | refine blk_drewN ?_ _ | refine blk_drew ?_ | refine blk_alloc ?_ _)); exact BK115.out) hb); replace BK120 := Aside0.mk (blk_below (g := gb120) (o := .cells #[.int .i64 t116, .slice Ao30 t117.length co30] 26 (0, 0)) (by (with_reducible repeat (first | refine blk_drewN ?_ _ | refine blk_drew ?_ | refine blk_alloc ?_ _)); refine blk_put (cs := #[.int .i64 t116, .slice none 0 0]) ?_ 1 _ rfl; (with_reducible repeat (first | refine blk_drewN ?_ _ | refine blk_drew ?_ | refine blk_alloc ?_ _)); refine blk_put (cs := #[.int .i64 0, .slice none 0 0]) ?_ 0 _ rfl; (with_reducible repeat (first | refine blk_drewN ?_ _ | refine blk_drew ?_ | refine blk_alloc ?_ _)); exact BK120.out) hb); replace HB := Aside0.mk (below_step (by repeat (first | (with_reducible first | exact HB.out | apply below_alloc | apply pw_below_drewN | apply below_drew1 | refine below_set ?_ GE101.out | refine below_set ?_ GE115.out | refine below_set ?_ GE120.out) | exact HB.out)) hb); (try clear hb); (try clear ho0); (try clear ho1)) | ((with_reducible refine gate_dst (N := 10) rfl ?_); refine box_event ?hg (N := 10) ?hd (cs := #[.int .i64 0, .slice none 0 0]) (t := 26) ?hr ?_; (case hd => rfl); (case hg => rfl); (case hr => first | (go_simp; done) | (go_simp; rfl)); intro gb129 hg w32 hbox hb; replace HO106 := Aside0.mk (Kd.R_below (rz HO106.out) hb); replace HO110 := Aside0.mk (Kd.R_below (rz HO110.out) hb); replace HO113 := Aside0.mk (Kd.R_below (rz HO113.out) hb); replace HO119 := Aside0.mk (Kd.R_below (rz HO119.out) hb); replace HO124 := Aside0.mk (Kd.R_below (rz HO124.out) hb); replace HO127 := Aside0.mk (Kd.R_below (rz HO127.out) hb); have BK129 := Aside0.mk (hbox); have GW129 := Aside0.mk ((by rw [hg]; exact (below_size (by repeat (first | (with_reducible first | exact HB.out | apply below_alloc | apply pw_below_drewN | apply below_drew1 | refine below_set ?_ GE101.out | refine below_set ?_ GE115.out | refine below_set ?_ GE120.out) | exact HB.out))) : w.heap.size ≤ gb129)); have GE129 := Aside0.mk ((by rw [hg]; exact (below_size (by repeat (first | (with_reducible first | exact HB.out | apply below_alloc | apply pw_below_drewN | apply below_drew1 | refine below_set ?_ GE101.out | refine below_set ?_ GE115.out | refine below_set ?_ GE120.out) | exact HB.out))) : w.heap.size ≤ gb129)); replace HB := Aside0.mk (below_step (by repeat (first | (with_reducible first | exact HB.out | apply below_alloc | apply pw_below_drewN | apply below_drew1 | refine below_set ?_ GE101.out | refine below_set ?_ GE115.out | refine below_set ?_ GE120.out) | exact HB.out)) hb); have NB101_129 := Aside0.mk ((by rw [hg]; exact Nat.ne_of_lt (blk_lt (g := gb101) (o := .cells #[.int .i64 a0_0, .slice A0_1 l0_1.length c0_1] 38 (0, 0)) (kz BK101.out)) : gb101 ≠ gb129)); have NB129_101 := Aside0.mk ((by rw [hg]; exact Nat.ne_of_gt (blk_lt (g := gb101) (o := .cells #[.int .i64 a0_0, .slice A0_1 l0_1.length c0_1] 38 (0, 0)) (kz BK101.out)) : gb129 ≠ gb101)); replace BK101 := Aside0.mk (blk_below (g := gb101) (o := .cells #[.int .i64 a0_0, .slice A0_1 l0_1.length c0_1] 38 (0, 0)) (kz BK101.out) hb); have NB115_129 := Aside0.mk ((by rw [hg]; exact Nat.ne_of_lt (blk_lt (g := gb115) (o := .cells #[.int .i64 t107, .slice Ao23 t108.length co23] 26 (0, 0)) (kz BK115.out)) : gb115 ≠ gb129)); have NB129_115 := Aside0.mk ((by rw [hg]; exact Nat.ne_of_gt (blk_lt (g := gb115) (o := .cells #[.int .i64 t107, .slice Ao23 t108.length co23] 26 (0, 0)) (kz BK115.out)) : gb129 ≠ gb115)); replace BK115 := Aside0.mk (blk_below (g := gb115) (o := .cells #[.int .i64 t107, .slice Ao23 t108.length co23] 26 (0, 0)) (kz BK115.out) hb); have NB120_129 := Aside0.mk ((by rw [hg]; exact Nat.ne_of_lt (blk_lt (g := gb120) (o := .cells #[.int .i64 t116, .slice Ao30 t117.length co30] 26 (0, 0)) (kz BK120.out)) : gb120 ≠ gb129)); have NB129_120 := Aside0.mk ((by rw [hg]; exact Nat.ne_of_gt (blk_lt (g := gb120) (o := .cells #[.int .i64 t116, .slice Ao30 t117.length co30] 26 (0, 0)) (kz BK120.out)) : gb129 ≠ gb120)); replace BK120 := Aside0.mk (blk_below (g := gb120) (o := .cells #[.int .i64 t116, .slice Ao30 t117.length co30] 26 (0, 0)) (kz BK120.out) hb); clear hb hbox hg; have hnb33 := NB129_101.out; have hnc33 := NB101_129.out; have hnb34 := NB129_115.out; have hnc34 := NB115_129.out; have hnb35 := NB129_120.out; have hnc35 := NB120_129.out; have hcz36_0 : w32.cell? ⟨gb129, 0, none⟩ = some (.int .i64 0) := (blk_cell BK129.out 0).trans rfl; have hcz36_1 : w32.cell? ⟨gb129, 1, none⟩ = some (.slice none 0 0) := (blk_cell BK129.out 1).trans rfl; have hfz36_0 := blk_frozen BK129.out 0; have hfz36_1 := blk_frozen BK129.out 1; obtain ⟨Ao37, co37, eo37⟩ := Kd.R_slice HO124.out; subst eo37))
  (try simp only [Act.put, List.setIfInBounds_toArray, List.set_cons_zero, List.set_cons_succ])
  go_cut [55] (fun v55 wc => ∃ (kq : Nat) (x55_11 : Bool), v55 = .bool x55_11 ∧ Aside0 (laws_FnExactClockTick.j0 kq a1 t111 t114 t125 t128 x55_11 a0_0 l0_1 t107 t108 t116 t117 t121 t122 = some r) ∧ Aside0 (kq ≤ k) ∧ Aside0 (Kd.R (Kd.int .i64) 3 wc w.heap.size (fun k_ => some k_ ≠ (v126 : Value).ownBlock) v112 t111) ∧ Aside0 (Kd.R (Kd.int .i64) 3 wc w.heap.size (fun k_ => some k_ ≠ (v112 : Value).ownBlock) v126 t125) ∧ Aside0 (Kd.R k62 62 wc w.heap.size (fun k_ => some k_ ≠ ((.slice Ao30 t117.length co30) : Value).ownBlock ∧ some k_ ≠ ((.slice Ao37 t122.length co37) : Value).ownBlock) (.slice Ao23 t108.length co23) t108) ∧ Aside0 (Kd.R k62 62 wc w.heap.size (fun k_ => some k_ ≠ ((.slice Ao23 t108.length co23) : Value).ownBlock ∧ some k_ ≠ ((.slice Ao37 t122.length co37) : Value).ownBlock) (.slice Ao30 t117.length co30) t117) ∧ Aside0 (Kd.R k62 62 wc w.heap.size (fun k_ => some k_ ≠ ((.slice Ao23 t108.length co23) : Value).ownBlock ∧ some k_ ≠ ((.slice Ao30 t117.length co30) : Value).ownBlock) (.slice Ao37 t122.length co37) t122) ∧ Aside0 (wc.heap[gb101]? = some (.cells #[.int .i64 a0_0, (.slice A0_1 l0_1.length c0_1)] 38 (0, 0))) ∧ Aside0 (wc.heap[gb115]? = some (.cells #[.int .i64 t107, (.slice Ao23 t108.length co23)] 26 (0, 0))) ∧ Aside0 (wc.heap[gb120]? = some (.cells #[.int .i64 t116, (.slice Ao30 t117.length co30)] 26 (0, 0))) ∧ Aside0 (wc.heap[gb129]? = some (.cells #[.int .i64 t121, (.slice Ao37 t122.length co37)] 26 (0, 0))) ∧ Aside0 (Below w.heap.size w wc))
  case first =>
   have H := HC12.out
   clear HC12
   replace H := Option.bind_eq_some_iff.mp H
   obtain ⟨t130, A380, H⟩ := H
   have A38 := Aside0.mk A380
   clear A380
   by_cases c39 : t130 = true
   ·
    subst c39
    rw [if_pos rfl] at H
    replace H := Option.bind_eq_some_iff.mp H
    obtain ⟨t131, A400, H⟩ := H
    have A40 := Aside0.mk A400
    clear A400
    by_cases c41 : t131 = true
    ·
     subst c41
     rw [if_pos rfl] at H
     have H' := Aside0.mk H
     clear H
     have hnb42 := NB129_101.out
     have hnc42 := NB101_129.out
     have hnb43 := NB129_115.out
     have hnc43 := NB115_129.out
     have hnb44 := NB129_120.out
     have hnc44 := NB120_129.out
     have hcz45_0 : w32.cell? ⟨gb129, 0, none⟩ = some (.int .i64 0) := (blk_cell BK129.out 0).trans rfl
     have hcz45_1 : w32.cell? ⟨gb129, 1, none⟩ = some (.slice none 0 0) := (blk_cell BK129.out 1).trans rfl
     have hfz45_0 := blk_frozen BK129.out 0
     have hfz45_1 := blk_frozen BK129.out 1
     have hnb46 := NB115_101.out
     have hnc46 := NB101_115.out
     have hnb47 := NB115_120.out
     have hnc47 := NB120_115.out
     have hcz48_0 : w32.cell? ⟨gb115, 0, none⟩ = some (.int .i64 t107) := (blk_cell BK115.out 0).trans rfl
     have hcz48_1 : w32.cell? ⟨gb115, 1, none⟩ = some (.slice Ao23 t108.length co23) := (blk_cell BK115.out 1).trans rfl
     have hfz48_0 := blk_frozen BK115.out 0
     have hfz48_1 := blk_frozen BK115.out 1
     go_wp2_with (first | ((with_reducible refine gate_callee (f := 22) rfl ?_); refine goesL_ (some 43) rfl rfl Try.func22 zk rfl #[.agg #[.int .i64 t121, .slice Ao37 t122.length co37], .agg #[.int .i64 t107, .slice Ao23 t108.length co23]] rfl zm ?_; (with_reducible refine (laws_eqClock.calls k t121 _ _ t122 t107 _ _ t108 true _ ?side1 ?side2 ?side3 ?side4 A38.out).mono ?_); (case side1 => refine (Kd.R_reads' (e := 62) (base := w.heap.size) (ok := fun k_ => (((True ∧ some k_ ≠ (.slice Ao18 t104.length co18 : Value).ownBlock) ∧ some k_ ≠ (.slice Ao23 t108.length co23 : Value).ownBlock) ∧ some k_ ≠ (.slice Ao30 t117.length co30 : Value).ownBlock)) (n := t122.length) (c := co37) ?_).2.2; exact (by (with_reducible repeat (first | apply Kd.R_alloc | apply Kd.R_drewN | apply Kd.R_drew)); exact (Kd.R_mono (Kd.R_far (p := ⟨gb129, 1, none⟩) (Kd.R_far (p := ⟨gb129, 0, none⟩) (Kd.R_types HO124.out BK129.out (by decide)) (fun _ hk => hk.2) (.int .i64 t121)) (fun _ hk => hk.2) (.slice Ao37 t122.length co37)) (fun _ h_ => h_.1)))); (case side2 => exact (Kd.R_reads' HO124.out).2.1); (case side3 => refine (Kd.R_reads' (e := 62) (base := w.heap.size) (ok := fun k_ => (((True ∧ some k_ ≠ (.slice Ao18 t104.length co18 : Value).ownBlock) ∧ some k_ ≠ (.slice Ao30 t117.length co30 : Value).ownBlock) ∧ some k_ ≠ (.slice Ao37 t122.length co37 : Value).ownBlock)) (n := t108.length) (c := co23) ?_).2.2; exact (by (with_reducible repeat (first | apply Kd.R_alloc | apply Kd.R_drewN | apply Kd.R_drew)); exact (Kd.R_mono (Kd.R_far (p := ⟨gb129, 1, none⟩) (Kd.R_far (p := ⟨gb129, 0, none⟩) (Kd.R_types HO110.out BK129.out (by decide)) (fun _ hk => hk.2) (.int .i64 t121)) (fun _ hk => hk.2) (.slice Ao37 t122.length co37)) (fun _ h_ => h_.1)))); (case side4 => exact (Kd.R_reads' HO110.out).2.1); rintro e w49 ⟨rfl, hb⟩; refine ⟨_, rfl, ?_⟩; replace HO106 := Aside0.mk (Kd.R_below (by (with_reducible repeat (first | apply Kd.R_alloc | apply Kd.R_drewN | apply Kd.R_drew)); exact (Kd.R_mono (Kd.R_far (p := ⟨gb129, 1, none⟩) (Kd.R_far (p := ⟨gb129, 0, none⟩) (Kd.R_types HO106.out BK129.out (by decide)) (fun _ hk => hk.2) (.int .i64 t121)) (fun _ hk => hk.2) (.slice Ao37 t122.length co37)) (fun _ h_ => h_.1))) hb); replace HO110 := Aside0.mk (Kd.R_below (by (with_reducible repeat (first | apply Kd.R_alloc | apply Kd.R_drewN | apply Kd.R_drew)); exact (Kd.R_mono (Kd.R_far (p := ⟨gb129, 1, none⟩) (Kd.R_far (p := ⟨gb129, 0, none⟩) (Kd.R_types HO110.out BK129.out (by decide)) (fun _ hk => hk.2) (.int .i64 t121)) (fun _ hk => hk.2) (.slice Ao37 t122.length co37)) (fun _ h_ => h_.1))) hb); replace HO113 := Aside0.mk (Kd.R_below (by (with_reducible repeat (first | apply Kd.R_alloc | apply Kd.R_drewN | apply Kd.R_drew)); exact (Kd.R_mono (Kd.R_far (p := ⟨gb129, 1, none⟩) (Kd.R_far (p := ⟨gb129, 0, none⟩) (Kd.R_types HO113.out BK129.out (by decide)) (fun _ hk => hk.2) (.int .i64 t121)) (fun _ hk => hk.2) (.slice Ao37 t122.length co37)) (fun _ h_ => h_.1))) hb); replace HO119 := Aside0.mk (Kd.R_below (by (with_reducible repeat (first | apply Kd.R_alloc | apply Kd.R_drewN | apply Kd.R_drew)); exact (Kd.R_mono (Kd.R_far (p := ⟨gb129, 1, none⟩) (Kd.R_far (p := ⟨gb129, 0, none⟩) (Kd.R_types HO119.out BK129.out (by decide)) (fun _ hk => hk.2) (.int .i64 t121)) (fun _ hk => hk.2) (.slice Ao37 t122.length co37)) (fun _ h_ => h_.1))) hb); replace HO124 := Aside0.mk (Kd.R_below (by (with_reducible repeat (first | apply Kd.R_alloc | apply Kd.R_drewN | apply Kd.R_drew)); exact (Kd.R_mono (Kd.R_far (p := ⟨gb129, 1, none⟩) (Kd.R_far (p := ⟨gb129, 0, none⟩) (Kd.R_types HO124.out BK129.out (by decide)) (fun _ hk => hk.2) (.int .i64 t121)) (fun _ hk => hk.2) (.slice Ao37 t122.length co37)) (fun _ h_ => h_.1))) hb); replace HO127 := Aside0.mk (Kd.R_below (by (with_reducible repeat (first | apply Kd.R_alloc | apply Kd.R_drewN | apply Kd.R_drew)); exact (Kd.R_mono (Kd.R_far (p := ⟨gb129, 1, none⟩) (Kd.R_far (p := ⟨gb129, 0, none⟩) (Kd.R_types HO127.out BK129.out (by decide)) (fun _ hk => hk.2) (.int .i64 t121)) (fun _ hk => hk.2) (.slice Ao37 t122.length co37)) (fun _ h_ => h_.1))) hb); replace BK101 := Aside0.mk (blk_below (g := gb101) (o := .cells #[.int .i64 a0_0, .slice A0_1 l0_1.length c0_1] 38 (0, 0)) (by (with_reducible repeat (first | refine blk_drewN ?_ _ | refine blk_drew ?_ | refine blk_alloc ?_ _)); refine blk_far ?_ NB101_129.out _; (with_reducible repeat (first | refine blk_drewN ?_ _ | refine blk_drew ?_ | refine blk_alloc ?_ _)); refine blk_far ?_ NB101_129.out _; (with_reducible repeat (first | refine blk_drewN ?_ _ | refine blk_drew ?_ | refine blk_alloc ?_ _)); exact BK101.out) hb); replace BK115 := Aside0.mk (blk_below (g := gb115) (o := .cells #[.int .i64 t107, .slice Ao23 t108.length co23] 26 (0, 0)) (by (with_reducible repeat (first | refine blk_drewN ?_ _ | refine blk_drew ?_ | refine blk_alloc ?_ _)); refine blk_far ?_ NB115_129.out _; (with_reducible repeat (first | refine blk_drewN ?_ _ | refine blk_drew ?_ | refine blk_alloc ?_ _)); refine blk_far ?_ NB115_129.out _; (with_reducible repeat (first | refine blk_drewN ?_ _ | refine blk_drew ?_ | refine blk_alloc ?_ _)); exact BK115.out) hb); replace BK120 := Aside0.mk (blk_below (g := gb120) (o := .cells #[.int .i64 t116, .slice Ao30 t117.length co30] 26 (0, 0)) (by (with_reducible repeat (first | refine blk_drewN ?_ _ | refine blk_drew ?_ | refine blk_alloc ?_ _)); refine blk_far ?_ NB120_129.out _; (with_reducible repeat (first | refine blk_drewN ?_ _ | refine blk_drew ?_ | refine blk_alloc ?_ _)); refine blk_far ?_ NB120_129.out _; (with_reducible repeat (first | refine blk_drewN ?_ _ | refine blk_drew ?_ | refine blk_alloc ?_ _)); exact BK120.out) hb); replace BK129 := Aside0.mk (blk_below (g := gb129) (o := .cells #[.int .i64 t121, .slice Ao37 t122.length co37] 26 (0, 0)) (by (with_reducible repeat (first | refine blk_drewN ?_ _ | refine blk_drew ?_ | refine blk_alloc ?_ _)); refine blk_put (cs := #[.int .i64 t121, .slice none 0 0]) ?_ 1 _ rfl; (with_reducible repeat (first | refine blk_drewN ?_ _ | refine blk_drew ?_ | refine blk_alloc ?_ _)); refine blk_put (cs := #[.int .i64 0, .slice none 0 0]) ?_ 0 _ rfl; (with_reducible repeat (first | refine blk_drewN ?_ _ | refine blk_drew ?_ | refine blk_alloc ?_ _)); exact BK129.out) hb); replace HB := Aside0.mk (below_step (by repeat (first | (with_reducible first | exact HB.out | apply below_alloc | apply pw_below_drewN | apply below_drew1 | refine below_set ?_ GE101.out | refine below_set ?_ GE115.out | refine below_set ?_ GE120.out | refine below_set ?_ GE129.out) | exact HB.out)) hb); (try clear hb); obtain ⟨Ao50, co50, eo50⟩ := Kd.R_slice HO127.out; subst eo50; obtain ⟨Ao51, co51, eo51⟩ := Kd.R_slice HO113.out; subst eo51) | (go_at_call 40; (with_reducible refine (laws_eqIntS.calls k _ _ t125 _ _ t111 true _ ?side1 ?side2 ?side3 ?side4 A40.out).mono ?_); (case side1 => exact cz ((Kd.R_reads' HO127.out).2.2)); (case side2 => exact (Kd.R_reads' HO127.out).2.1); (case side3 => exact cz ((Kd.R_reads' HO113.out).2.2)); (case side4 => exact (Kd.R_reads' HO113.out).2.1); rintro e w' ⟨rfl, ⟨nd, rfl⟩⟩))
     go_meet
     case rel => exact ⟨_, ((t128 != t114)), zr, H', ⟨by first | omega | exact Nat.le_refl _⟩, ⟨by (with_reducible repeat (first | apply Kd.R_alloc | apply Kd.R_drewN | apply Kd.R_drew)); exact Kd.R_mono HO113.out (fun _ hk => hk.2)⟩, ⟨by (with_reducible repeat (first | apply Kd.R_alloc | apply Kd.R_drewN | apply Kd.R_drew)); exact Kd.R_mono HO127.out (fun _ hk => hk.2)⟩, ⟨by (with_reducible repeat (first | apply Kd.R_alloc | apply Kd.R_drewN | apply Kd.R_drew)); exact Kd.R_mono HO110.out (fun _ hk => ⟨hk.1.2, hk.2⟩)⟩, ⟨by (with_reducible repeat (first | apply Kd.R_alloc | apply Kd.R_drewN | apply Kd.R_drew)); exact Kd.R_mono HO119.out (fun _ hk => ⟨hk.1.2, hk.2⟩)⟩, ⟨by (with_reducible repeat (first | apply Kd.R_alloc | apply Kd.R_drewN | apply Kd.R_drew)); exact Kd.R_mono HO124.out (fun _ hk => ⟨hk.1.2, hk.2⟩)⟩, ⟨by (with_reducible repeat (first | refine blk_drewN ?_ _ | refine blk_drew ?_ | refine blk_alloc ?_ _)); exact BK101.out⟩, ⟨by (with_reducible repeat (first | refine blk_drewN ?_ _ | refine blk_drew ?_ | refine blk_alloc ?_ _)); exact BK115.out⟩, ⟨by (with_reducible repeat (first | refine blk_drewN ?_ _ | refine blk_drew ?_ | refine blk_alloc ?_ _)); exact BK120.out⟩, ⟨by (with_reducible repeat (first | refine blk_drewN ?_ _ | refine blk_drew ?_ | refine blk_alloc ?_ _)); exact BK129.out⟩, ⟨by repeat (first | (with_reducible first | exact HB.out | apply below_alloc | apply pw_below_drewN | apply below_drew1 | refine below_set ?_ GE101.out | refine below_set ?_ GE115.out | refine below_set ?_ GE120.out | refine below_set ?_ GE129.out) | exact HB.out)⟩⟩
    ·
     replace c41 := Bool.eq_false_iff.mpr c41
     subst c41
     rw [if_neg nf_] at H
     have H' := Aside0.mk H
     clear H
     have hnb52 := NB129_101.out
     have hnc52 := NB101_129.out
     have hnb53 := NB129_115.out
     have hnc53 := NB115_129.out
     have hnb54 := NB129_120.out
     have hnc54 := NB120_129.out
     have hcz55_0 : w32.cell? ⟨gb129, 0, none⟩ = some (.int .i64 0) := (blk_cell BK129.out 0).trans rfl
     have hcz55_1 : w32.cell? ⟨gb129, 1, none⟩ = some (.slice none 0 0) := (blk_cell BK129.out 1).trans rfl
     have hfz55_0 := blk_frozen BK129.out 0
     have hfz55_1 := blk_frozen BK129.out 1
     have hnb56 := NB115_101.out
     have hnc56 := NB101_115.out
     have hnb57 := NB115_120.out
     have hnc57 := NB120_115.out
     have hcz58_0 : w32.cell? ⟨gb115, 0, none⟩ = some (.int .i64 t107) := (blk_cell BK115.out 0).trans rfl
     have hcz58_1 : w32.cell? ⟨gb115, 1, none⟩ = some (.slice Ao23 t108.length co23) := (blk_cell BK115.out 1).trans rfl
     have hfz58_0 := blk_frozen BK115.out 0
     have hfz58_1 := blk_frozen BK115.out 1
     go_wp2_with (first | ((with_reducible refine gate_callee (f := 22) rfl ?_); refine goesL_ (some 43) rfl rfl Try.func22 zk rfl #[.agg #[.int .i64 t121, .slice Ao37 t122.length co37], .agg #[.int .i64 t107, .slice Ao23 t108.length co23]] rfl zm ?_; (with_reducible refine (laws_eqClock.calls k t121 _ _ t122 t107 _ _ t108 true _ ?side1 ?side2 ?side3 ?side4 A38.out).mono ?_); (case side1 => refine (Kd.R_reads' (e := 62) (base := w.heap.size) (ok := fun k_ => (((True ∧ some k_ ≠ (.slice Ao18 t104.length co18 : Value).ownBlock) ∧ some k_ ≠ (.slice Ao23 t108.length co23 : Value).ownBlock) ∧ some k_ ≠ (.slice Ao30 t117.length co30 : Value).ownBlock)) (n := t122.length) (c := co37) ?_).2.2; exact (by (with_reducible repeat (first | apply Kd.R_alloc | apply Kd.R_drewN | apply Kd.R_drew)); exact (Kd.R_mono (Kd.R_far (p := ⟨gb129, 1, none⟩) (Kd.R_far (p := ⟨gb129, 0, none⟩) (Kd.R_types HO124.out BK129.out (by decide)) (fun _ hk => hk.2) (.int .i64 t121)) (fun _ hk => hk.2) (.slice Ao37 t122.length co37)) (fun _ h_ => h_.1)))); (case side2 => exact (Kd.R_reads' HO124.out).2.1); (case side3 => refine (Kd.R_reads' (e := 62) (base := w.heap.size) (ok := fun k_ => (((True ∧ some k_ ≠ (.slice Ao18 t104.length co18 : Value).ownBlock) ∧ some k_ ≠ (.slice Ao30 t117.length co30 : Value).ownBlock) ∧ some k_ ≠ (.slice Ao37 t122.length co37 : Value).ownBlock)) (n := t108.length) (c := co23) ?_).2.2; exact (by (with_reducible repeat (first | apply Kd.R_alloc | apply Kd.R_drewN | apply Kd.R_drew)); exact (Kd.R_mono (Kd.R_far (p := ⟨gb129, 1, none⟩) (Kd.R_far (p := ⟨gb129, 0, none⟩) (Kd.R_types HO110.out BK129.out (by decide)) (fun _ hk => hk.2) (.int .i64 t121)) (fun _ hk => hk.2) (.slice Ao37 t122.length co37)) (fun _ h_ => h_.1)))); (case side4 => exact (Kd.R_reads' HO110.out).2.1); rintro e w59 ⟨rfl, hb⟩; refine ⟨_, rfl, ?_⟩; replace HO106 := Aside0.mk (Kd.R_below (by (with_reducible repeat (first | apply Kd.R_alloc | apply Kd.R_drewN | apply Kd.R_drew)); exact (Kd.R_mono (Kd.R_far (p := ⟨gb129, 1, none⟩) (Kd.R_far (p := ⟨gb129, 0, none⟩) (Kd.R_types HO106.out BK129.out (by decide)) (fun _ hk => hk.2) (.int .i64 t121)) (fun _ hk => hk.2) (.slice Ao37 t122.length co37)) (fun _ h_ => h_.1))) hb); replace HO110 := Aside0.mk (Kd.R_below (by (with_reducible repeat (first | apply Kd.R_alloc | apply Kd.R_drewN | apply Kd.R_drew)); exact (Kd.R_mono (Kd.R_far (p := ⟨gb129, 1, none⟩) (Kd.R_far (p := ⟨gb129, 0, none⟩) (Kd.R_types HO110.out BK129.out (by decide)) (fun _ hk => hk.2) (.int .i64 t121)) (fun _ hk => hk.2) (.slice Ao37 t122.length co37)) (fun _ h_ => h_.1))) hb); replace HO113 := Aside0.mk (Kd.R_below (by (with_reducible repeat (first | apply Kd.R_alloc | apply Kd.R_drewN | apply Kd.R_drew)); exact (Kd.R_mono (Kd.R_far (p := ⟨gb129, 1, none⟩) (Kd.R_far (p := ⟨gb129, 0, none⟩) (Kd.R_types HO113.out BK129.out (by decide)) (fun _ hk => hk.2) (.int .i64 t121)) (fun _ hk => hk.2) (.slice Ao37 t122.length co37)) (fun _ h_ => h_.1))) hb); replace HO119 := Aside0.mk (Kd.R_below (by (with_reducible repeat (first | apply Kd.R_alloc | apply Kd.R_drewN | apply Kd.R_drew)); exact (Kd.R_mono (Kd.R_far (p := ⟨gb129, 1, none⟩) (Kd.R_far (p := ⟨gb129, 0, none⟩) (Kd.R_types HO119.out BK129.out (by decide)) (fun _ hk => hk.2) (.int .i64 t121)) (fun _ hk => hk.2) (.slice Ao37 t122.length co37)) (fun _ h_ => h_.1))) hb); replace HO124 := Aside0.mk (Kd.R_below (by (with_reducible repeat (first | apply Kd.R_alloc | apply Kd.R_drewN | apply Kd.R_drew)); exact (Kd.R_mono (Kd.R_far (p := ⟨gb129, 1, none⟩) (Kd.R_far (p := ⟨gb129, 0, none⟩) (Kd.R_types HO124.out BK129.out (by decide)) (fun _ hk => hk.2) (.int .i64 t121)) (fun _ hk => hk.2) (.slice Ao37 t122.length co37)) (fun _ h_ => h_.1))) hb); replace HO127 := Aside0.mk (Kd.R_below (by (with_reducible repeat (first | apply Kd.R_alloc | apply Kd.R_drewN | apply Kd.R_drew)); exact (Kd.R_mono (Kd.R_far (p := ⟨gb129, 1, none⟩) (Kd.R_far (p := ⟨gb129, 0, none⟩) (Kd.R_types HO127.out BK129.out (by decide)) (fun _ hk => hk.2) (.int .i64 t121)) (fun _ hk => hk.2) (.slice Ao37 t122.length co37)) (fun _ h_ => h_.1))) hb); replace BK101 := Aside0.mk (blk_below (g := gb101) (o := .cells #[.int .i64 a0_0, .slice A0_1 l0_1.length c0_1] 38 (0, 0)) (by (with_reducible repeat (first | refine blk_drewN ?_ _ | refine blk_drew ?_ | refine blk_alloc ?_ _)); refine blk_far ?_ NB101_129.out _; (with_reducible repeat (first | refine blk_drewN ?_ _ | refine blk_drew ?_ | refine blk_alloc ?_ _)); refine blk_far ?_ NB101_129.out _; (with_reducible repeat (first | refine blk_drewN ?_ _ | refine blk_drew ?_ | refine blk_alloc ?_ _)); exact BK101.out) hb); replace BK115 := Aside0.mk (blk_below (g := gb115) (o := .cells #[.int .i64 t107, .slice Ao23 t108.length co23] 26 (0, 0)) (by (with_reducible repeat (first | refine blk_drewN ?_ _ | refine blk_drew ?_ | refine blk_alloc ?_ _)); refine blk_far ?_ NB115_129.out _; (with_reducible repeat (first | refine blk_drewN ?_ _ | refine blk_drew ?_ | refine blk_alloc ?_ _)); refine blk_far ?_ NB115_129.out _; (with_reducible repeat (first | refine blk_drewN ?_ _ | refine blk_drew ?_ | refine blk_alloc ?_ _)); exact BK115.out) hb); replace BK120 := Aside0.mk (blk_below (g := gb120) (o := .cells #[.int .i64 t116, .slice Ao30 t117.length co30] 26 (0, 0)) (by (with_reducible repeat (first | refine blk_drewN ?_ _ | refine blk_drew ?_ | refine blk_alloc ?_ _)); refine blk_far ?_ NB120_129.out _; (with_reducible repeat (first | refine blk_drewN ?_ _ | refine blk_drew ?_ | refine blk_alloc ?_ _)); refine blk_far ?_ NB120_129.out _; (with_reducible repeat (first | refine blk_drewN ?_ _ | refine blk_drew ?_ | refine blk_alloc ?_ _)); exact BK120.out) hb); replace BK129 := Aside0.mk (blk_below (g := gb129) (o := .cells #[.int .i64 t121, .slice Ao37 t122.length co37] 26 (0, 0)) (by (with_reducible repeat (first | refine blk_drewN ?_ _ | refine blk_drew ?_ | refine blk_alloc ?_ _)); refine blk_put (cs := #[.int .i64 t121, .slice none 0 0]) ?_ 1 _ rfl; (with_reducible repeat (first | refine blk_drewN ?_ _ | refine blk_drew ?_ | refine blk_alloc ?_ _)); refine blk_put (cs := #[.int .i64 0, .slice none 0 0]) ?_ 0 _ rfl; (with_reducible repeat (first | refine blk_drewN ?_ _ | refine blk_drew ?_ | refine blk_alloc ?_ _)); exact BK129.out) hb); replace HB := Aside0.mk (below_step (by repeat (first | (with_reducible first | exact HB.out | apply below_alloc | apply pw_below_drewN | apply below_drew1 | refine below_set ?_ GE101.out | refine below_set ?_ GE115.out | refine below_set ?_ GE120.out | refine below_set ?_ GE129.out) | exact HB.out)) hb); (try clear hb); obtain ⟨Ao60, co60, eo60⟩ := Kd.R_slice HO127.out; subst eo60; obtain ⟨Ao61, co61, eo61⟩ := Kd.R_slice HO113.out; subst eo61) | (go_at_call 40; (with_reducible refine (laws_eqIntS.calls k _ _ t125 _ _ t111 false _ ?side1 ?side2 ?side3 ?side4 A40.out).mono ?_); (case side1 => exact cz ((Kd.R_reads' HO127.out).2.2)); (case side2 => exact (Kd.R_reads' HO127.out).2.1); (case side3 => exact cz ((Kd.R_reads' HO113.out).2.2)); (case side4 => exact (Kd.R_reads' HO113.out).2.1); rintro e w' ⟨rfl, ⟨nd, rfl⟩⟩))
     go_meet
     case rel => exact ⟨_, (true), zr, H', ⟨by first | omega | exact Nat.le_refl _⟩, ⟨by (with_reducible repeat (first | apply Kd.R_alloc | apply Kd.R_drewN | apply Kd.R_drew)); exact Kd.R_mono HO113.out (fun _ hk => hk.2)⟩, ⟨by (with_reducible repeat (first | apply Kd.R_alloc | apply Kd.R_drewN | apply Kd.R_drew)); exact Kd.R_mono HO127.out (fun _ hk => hk.2)⟩, ⟨by (with_reducible repeat (first | apply Kd.R_alloc | apply Kd.R_drewN | apply Kd.R_drew)); exact Kd.R_mono HO110.out (fun _ hk => ⟨hk.1.2, hk.2⟩)⟩, ⟨by (with_reducible repeat (first | apply Kd.R_alloc | apply Kd.R_drewN | apply Kd.R_drew)); exact Kd.R_mono HO119.out (fun _ hk => ⟨hk.1.2, hk.2⟩)⟩, ⟨by (with_reducible repeat (first | apply Kd.R_alloc | apply Kd.R_drewN | apply Kd.R_drew)); exact Kd.R_mono HO124.out (fun _ hk => ⟨hk.1.2, hk.2⟩)⟩, ⟨by (with_reducible repeat (first | refine blk_drewN ?_ _ | refine blk_drew ?_ | refine blk_alloc ?_ _)); exact BK101.out⟩, ⟨by (with_reducible repeat (first | refine blk_drewN ?_ _ | refine blk_drew ?_ | refine blk_alloc ?_ _)); exact BK115.out⟩, ⟨by (with_reducible repeat (first | refine blk_drewN ?_ _ | refine blk_drew ?_ | refine blk_alloc ?_ _)); exact BK120.out⟩, ⟨by (with_reducible repeat (first | refine blk_drewN ?_ _ | refine blk_drew ?_ | refine blk_alloc ?_ _)); exact BK129.out⟩, ⟨by repeat (first | (with_reducible first | exact HB.out | apply below_alloc | apply pw_below_drewN | apply below_drew1 | refine below_set ?_ GE101.out | refine below_set ?_ GE115.out | refine below_set ?_ GE120.out | refine below_set ?_ GE129.out) | exact HB.out)⟩⟩
   ·
    replace c39 := Bool.eq_false_iff.mpr c39
    subst c39
    rw [if_neg nf_] at H
    have H' := Aside0.mk H
    clear H
    have hnb62 := NB129_101.out
    have hnc62 := NB101_129.out
    have hnb63 := NB129_115.out
    have hnc63 := NB115_129.out
    have hnb64 := NB129_120.out
    have hnc64 := NB120_129.out
    have hcz65_0 : w32.cell? ⟨gb129, 0, none⟩ = some (.int .i64 0) := (blk_cell BK129.out 0).trans rfl
    have hcz65_1 : w32.cell? ⟨gb129, 1, none⟩ = some (.slice none 0 0) := (blk_cell BK129.out 1).trans rfl
    have hfz65_0 := blk_frozen BK129.out 0
    have hfz65_1 := blk_frozen BK129.out 1
    have hnb66 := NB115_101.out
    have hnc66 := NB101_115.out
    have hnb67 := NB115_120.out
    have hnc67 := NB120_115.out
    have hcz68_0 : w32.cell? ⟨gb115, 0, none⟩ = some (.int .i64 t107) := (blk_cell BK115.out 0).trans rfl
    have hcz68_1 : w32.cell? ⟨gb115, 1, none⟩ = some (.slice Ao23 t108.length co23) := (blk_cell BK115.out 1).trans rfl
    have hfz68_0 := blk_frozen BK115.out 0
    have hfz68_1 := blk_frozen BK115.out 1
    go_wp2_with (first | ((with_reducible refine gate_callee (f := 22) rfl ?_); refine goesL_ (some 43) rfl rfl Try.func22 zk rfl #[.agg #[.int .i64 t121, .slice Ao37 t122.length co37], .agg #[.int .i64 t107, .slice Ao23 t108.length co23]] rfl zm ?_; (with_reducible refine (laws_eqClock.calls k t121 _ _ t122 t107 _ _ t108 false _ ?side1 ?side2 ?side3 ?side4 A38.out).mono ?_); (case side1 => refine (Kd.R_reads' (e := 62) (base := w.heap.size) (ok := fun k_ => (((True ∧ some k_ ≠ (.slice Ao18 t104.length co18 : Value).ownBlock) ∧ some k_ ≠ (.slice Ao23 t108.length co23 : Value).ownBlock) ∧ some k_ ≠ (.slice Ao30 t117.length co30 : Value).ownBlock)) (n := t122.length) (c := co37) ?_).2.2; exact (by (with_reducible repeat (first | apply Kd.R_alloc | apply Kd.R_drewN | apply Kd.R_drew)); exact (Kd.R_mono (Kd.R_far (p := ⟨gb129, 1, none⟩) (Kd.R_far (p := ⟨gb129, 0, none⟩) (Kd.R_types HO124.out BK129.out (by decide)) (fun _ hk => hk.2) (.int .i64 t121)) (fun _ hk => hk.2) (.slice Ao37 t122.length co37)) (fun _ h_ => h_.1)))); (case side2 => exact (Kd.R_reads' HO124.out).2.1); (case side3 => refine (Kd.R_reads' (e := 62) (base := w.heap.size) (ok := fun k_ => (((True ∧ some k_ ≠ (.slice Ao18 t104.length co18 : Value).ownBlock) ∧ some k_ ≠ (.slice Ao30 t117.length co30 : Value).ownBlock) ∧ some k_ ≠ (.slice Ao37 t122.length co37 : Value).ownBlock)) (n := t108.length) (c := co23) ?_).2.2; exact (by (with_reducible repeat (first | apply Kd.R_alloc | apply Kd.R_drewN | apply Kd.R_drew)); exact (Kd.R_mono (Kd.R_far (p := ⟨gb129, 1, none⟩) (Kd.R_far (p := ⟨gb129, 0, none⟩) (Kd.R_types HO110.out BK129.out (by decide)) (fun _ hk => hk.2) (.int .i64 t121)) (fun _ hk => hk.2) (.slice Ao37 t122.length co37)) (fun _ h_ => h_.1)))); (case side4 => exact (Kd.R_reads' HO110.out).2.1); rintro e w69 ⟨rfl, hb⟩; refine ⟨_, rfl, ?_⟩; replace HO106 := Aside0.mk (Kd.R_below (by (with_reducible repeat (first | apply Kd.R_alloc | apply Kd.R_drewN | apply Kd.R_drew)); exact (Kd.R_mono (Kd.R_far (p := ⟨gb129, 1, none⟩) (Kd.R_far (p := ⟨gb129, 0, none⟩) (Kd.R_types HO106.out BK129.out (by decide)) (fun _ hk => hk.2) (.int .i64 t121)) (fun _ hk => hk.2) (.slice Ao37 t122.length co37)) (fun _ h_ => h_.1))) hb); replace HO110 := Aside0.mk (Kd.R_below (by (with_reducible repeat (first | apply Kd.R_alloc | apply Kd.R_drewN | apply Kd.R_drew)); exact (Kd.R_mono (Kd.R_far (p := ⟨gb129, 1, none⟩) (Kd.R_far (p := ⟨gb129, 0, none⟩) (Kd.R_types HO110.out BK129.out (by decide)) (fun _ hk => hk.2) (.int .i64 t121)) (fun _ hk => hk.2) (.slice Ao37 t122.length co37)) (fun _ h_ => h_.1))) hb); replace HO113 := Aside0.mk (Kd.R_below (by (with_reducible repeat (first | apply Kd.R_alloc | apply Kd.R_drewN | apply Kd.R_drew)); exact (Kd.R_mono (Kd.R_far (p := ⟨gb129, 1, none⟩) (Kd.R_far (p := ⟨gb129, 0, none⟩) (Kd.R_types HO113.out BK129.out (by decide)) (fun _ hk => hk.2) (.int .i64 t121)) (fun _ hk => hk.2) (.slice Ao37 t122.length co37)) (fun _ h_ => h_.1))) hb); replace HO119 := Aside0.mk (Kd.R_below (by (with_reducible repeat (first | apply Kd.R_alloc | apply Kd.R_drewN | apply Kd.R_drew)); exact (Kd.R_mono (Kd.R_far (p := ⟨gb129, 1, none⟩) (Kd.R_far (p := ⟨gb129, 0, none⟩) (Kd.R_types HO119.out BK129.out (by decide)) (fun _ hk => hk.2) (.int .i64 t121)) (fun _ hk => hk.2) (.slice Ao37 t122.length co37)) (fun _ h_ => h_.1))) hb); replace HO124 := Aside0.mk (Kd.R_below (by (with_reducible repeat (first | apply Kd.R_alloc | apply Kd.R_drewN | apply Kd.R_drew)); exact (Kd.R_mono (Kd.R_far (p := ⟨gb129, 1, none⟩) (Kd.R_far (p := ⟨gb129, 0, none⟩) (Kd.R_types HO124.out BK129.out (by decide)) (fun _ hk => hk.2) (.int .i64 t121)) (fun _ hk => hk.2) (.slice Ao37 t122.length co37)) (fun _ h_ => h_.1))) hb); replace HO127 := Aside0.mk (Kd.R_below (by (with_reducible repeat (first | apply Kd.R_alloc | apply Kd.R_drewN | apply Kd.R_drew)); exact (Kd.R_mono (Kd.R_far (p := ⟨gb129, 1, none⟩) (Kd.R_far (p := ⟨gb129, 0, none⟩) (Kd.R_types HO127.out BK129.out (by decide)) (fun _ hk => hk.2) (.int .i64 t121)) (fun _ hk => hk.2) (.slice Ao37 t122.length co37)) (fun _ h_ => h_.1))) hb); replace BK101 := Aside0.mk (blk_below (g := gb101) (o := .cells #[.int .i64 a0_0, .slice A0_1 l0_1.length c0_1] 38 (0, 0)) (by (with_reducible repeat (first | refine blk_drewN ?_ _ | refine blk_drew ?_ | refine blk_alloc ?_ _)); refine blk_far ?_ NB101_129.out _; (with_reducible repeat (first | refine blk_drewN ?_ _ | refine blk_drew ?_ | refine blk_alloc ?_ _)); refine blk_far ?_ NB101_129.out _; (with_reducible repeat (first | refine blk_drewN ?_ _ | refine blk_drew ?_ | refine blk_alloc ?_ _)); exact BK101.out) hb); replace BK115 := Aside0.mk (blk_below (g := gb115) (o := .cells #[.int .i64 t107, .slice Ao23 t108.length co23] 26 (0, 0)) (by (with_reducible repeat (first | refine blk_drewN ?_ _ | refine blk_drew ?_ | refine blk_alloc ?_ _)); refine blk_far ?_ NB115_129.out _; (with_reducible repeat (first | refine blk_drewN ?_ _ | refine blk_drew ?_ | refine blk_alloc ?_ _)); refine blk_far ?_ NB115_129.out _; (with_reducible repeat (first | refine blk_drewN ?_ _ | refine blk_drew ?_ | refine blk_alloc ?_ _)); exact BK115.out) hb); replace BK120 := Aside0.mk (blk_below (g := gb120) (o := .cells #[.int .i64 t116, .slice Ao30 t117.length co30] 26 (0, 0)) (by (with_reducible repeat (first | refine blk_drewN ?_ _ | refine blk_drew ?_ | refine blk_alloc ?_ _)); refine blk_far ?_ NB120_129.out _; (with_reducible repeat (first | refine blk_drewN ?_ _ | refine blk_drew ?_ | refine blk_alloc ?_ _)); refine blk_far ?_ NB120_129.out _; (with_reducible repeat (first | refine blk_drewN ?_ _ | refine blk_drew ?_ | refine blk_alloc ?_ _)); exact BK120.out) hb); replace BK129 := Aside0.mk (blk_below (g := gb129) (o := .cells #[.int .i64 t121, .slice Ao37 t122.length co37] 26 (0, 0)) (by (with_reducible repeat (first | refine blk_drewN ?_ _ | refine blk_drew ?_ | refine blk_alloc ?_ _)); refine blk_put (cs := #[.int .i64 t121, .slice none 0 0]) ?_ 1 _ rfl; (with_reducible repeat (first | refine blk_drewN ?_ _ | refine blk_drew ?_ | refine blk_alloc ?_ _)); refine blk_put (cs := #[.int .i64 0, .slice none 0 0]) ?_ 0 _ rfl; (with_reducible repeat (first | refine blk_drewN ?_ _ | refine blk_drew ?_ | refine blk_alloc ?_ _)); exact BK129.out) hb); replace HB := Aside0.mk (below_step (by repeat (first | (with_reducible first | exact HB.out | apply below_alloc | apply pw_below_drewN | apply below_drew1 | refine below_set ?_ GE101.out | refine below_set ?_ GE115.out | refine below_set ?_ GE120.out | refine below_set ?_ GE129.out) | exact HB.out)) hb); (try clear hb)))
    go_meet
    case rel => exact ⟨_, (true), zr, H', ⟨by first | omega | exact Nat.le_refl _⟩, ⟨by (with_reducible repeat (first | apply Kd.R_alloc | apply Kd.R_drewN | apply Kd.R_drew)); exact Kd.R_mono HO113.out (fun _ hk => hk.2)⟩, ⟨by (with_reducible repeat (first | apply Kd.R_alloc | apply Kd.R_drewN | apply Kd.R_drew)); exact Kd.R_mono HO127.out (fun _ hk => hk.2)⟩, ⟨by (with_reducible repeat (first | apply Kd.R_alloc | apply Kd.R_drewN | apply Kd.R_drew)); exact Kd.R_mono HO110.out (fun _ hk => ⟨hk.1.2, hk.2⟩)⟩, ⟨by (with_reducible repeat (first | apply Kd.R_alloc | apply Kd.R_drewN | apply Kd.R_drew)); exact Kd.R_mono HO119.out (fun _ hk => ⟨hk.1.2, hk.2⟩)⟩, ⟨by (with_reducible repeat (first | apply Kd.R_alloc | apply Kd.R_drewN | apply Kd.R_drew)); exact Kd.R_mono HO124.out (fun _ hk => ⟨hk.1.2, hk.2⟩)⟩, ⟨by (with_reducible repeat (first | refine blk_drewN ?_ _ | refine blk_drew ?_ | refine blk_alloc ?_ _)); exact BK101.out⟩, ⟨by (with_reducible repeat (first | refine blk_drewN ?_ _ | refine blk_drew ?_ | refine blk_alloc ?_ _)); exact BK115.out⟩, ⟨by (with_reducible repeat (first | refine blk_drewN ?_ _ | refine blk_drew ?_ | refine blk_alloc ?_ _)); exact BK120.out⟩, ⟨by (with_reducible repeat (first | refine blk_drewN ?_ _ | refine blk_drew ?_ | refine blk_alloc ?_ _)); exact BK129.out⟩, ⟨by repeat (first | (with_reducible first | exact HB.out | apply below_alloc | apply pw_below_drewN | apply below_drew1 | refine below_set ?_ GE101.out | refine below_set ?_ GE115.out | refine below_set ?_ GE120.out | refine below_set ?_ GE129.out) | exact HB.out)⟩⟩
  case rest =>
   clear HC12
   try clear c1
   try clear c2
   try clear p2
   try clear c3
   try clear c4
   try clear c4b0
   try clear c5
   try clear c6
   try clear c15
   try clear c21
   try clear c22
   try clear c25
   try clear c27
   try clear c28
   try clear c32
   try clear c33
   try clear c34
   try clear c35
   try clear c36
   try clear c39
   try clear c41
   try clear c42
   try clear c43
   try clear c44
   try clear c46
   try clear c47
   try clear c52
   try clear c53
   try clear c54
   try clear c56
   try clear c57
   try clear c62
   try clear c63
   try clear c64
   try clear c66
   try clear c67
   try clear hcz14_0
   try clear hcz14_1
   try clear hcz16_0
   try clear hcz16_1
   try clear hcz22_0
   try clear hcz22_1
   try clear hcz24_0
   try clear hcz24_1
   try clear hcz29_0
   try clear hcz29_1
   try clear hcz36_0
   try clear hcz36_1
   try clear hcz45_0
   try clear hcz45_1
   try clear hcz48_0
   try clear hcz48_1
   try clear hcz55_0
   try clear hcz55_1
   try clear hcz58_0
   try clear hcz58_1
   try clear hcz65_0
   try clear hcz65_1
   try clear hcz68_0
   try clear hcz68_1
   try clear hcz6_0
   try clear hcz6_1
   try clear hfz14_0
   try clear hfz14_1
   try clear hfz16_0
   try clear hfz16_1
   try clear hfz22_0
   try clear hfz22_1
   try clear hfz24_0
   try clear hfz24_1
   try clear hfz29_0
   try clear hfz29_1
   try clear hfz36_0
   try clear hfz36_1
   try clear hfz45_0
   try clear hfz45_1
   try clear hfz48_0
   try clear hfz48_1
   try clear hfz55_0
   try clear hfz55_1
   try clear hfz58_0
   try clear hfz58_1
   try clear hfz65_0
   try clear hfz65_1
   try clear hfz68_0
   try clear hfz68_1
   try clear hfz6_0
   try clear hfz6_1
   obtain ⟨kq, x55_11, rfl, HA, HJ11, HO_7, HO_11, HO_116001, HO_121001, HO_130001, BK101, BK115, BK120, BK129, HB⟩ := hcut
   cases kq with
   | zero => exact absurd HA.out (by simp [laws_FnExactClockTick.j0])
   | succ kj11 =>
    have H := HA.out
    clear HA
    simp only [laws_FnExactClockTick.j0] at H
    by_cases c70 : x55_11 = true
    ·
     subst c70
     rw [if_pos rfl] at H
     obtain rfl := Option.some.inj H
     go_wp2
     go_ret
     exact ⟨ze, by repeat (first | (with_reducible first | exact HB.out | apply below_alloc | apply pw_below_drewN | apply below_drew1 | refine below_set ?_ GE101.out | refine below_set ?_ GE115.out | refine below_set ?_ GE120.out | refine below_set ?_ GE129.out) | exact HB.out)⟩
    ·
     replace c70 := Bool.eq_false_iff.mpr c70
     subst c70
     rw [if_neg nf_] at H
     replace H := Option.bind_eq_some_iff.mp H
     obtain ⟨⟨t132, t133⟩, A710, H⟩ := H
     replace H : ((laws_eqClock.f kj11 t116 t117 t132 t133).bind fun t136 => (if t136 = true then ((laws_markClock.f kj11 t116 t117 1).bind fun bt137 => (if bt137.1 < 0 then (laws_FnExactClockTick.j1 kj11 a1 t111 t114 t125 true a0_0 l0_1 t107 t108 t121 t122) else ((laws_eqClock.f kj11 t121 t122 t107 t108).bind fun t139 => (if t139 = true then ((laws_eqIntS.f kj11 t125 t111).bind fun t140 => (if t140 = true then (laws_FnExactClockTick.j1 kj11 a1 t111 t114 t125 (t128 != t114) a0_0 l0_1 t107 t108 t121 t122) else (laws_FnExactClockTick.j1 kj11 a1 t111 t114 t125 true a0_0 l0_1 t107 t108 t121 t122))) else (laws_FnExactClockTick.j1 kj11 a1 t111 t114 t125 true a0_0 l0_1 t107 t108 t121 t122))))) else (some false))) = some r := H
     have A71 := Aside0.mk A710
     clear A710
     replace H := Option.bind_eq_some_iff.mp H
     obtain ⟨t136, A720, H⟩ := H
     have A72 := Aside0.mk A720
     clear A720
     by_cases c73 : t136 = true
     ·
      subst c73
      rw [if_pos rfl] at H
      replace H := Option.bind_eq_some_iff.mp H
      obtain ⟨⟨t137, t138⟩, A740, H⟩ := H
      replace H : (if t137 < 0 then (laws_FnExactClockTick.j1 kj11 a1 t111 t114 t125 true a0_0 l0_1 t107 t108 t121 t122) else ((laws_eqClock.f kj11 t121 t122 t107 t108).bind fun t139 => (if t139 = true then ((laws_eqIntS.f kj11 t125 t111).bind fun t140 => (if t140 = true then (laws_FnExactClockTick.j1 kj11 a1 t111 t114 t125 (t128 != t114) a0_0 l0_1 t107 t108 t121 t122) else (laws_FnExactClockTick.j1 kj11 a1 t111 t114 t125 true a0_0 l0_1 t107 t108 t121 t122))) else (laws_FnExactClockTick.j1 kj11 a1 t111 t114 t125 true a0_0 l0_1 t107 t108 t121 t122)))) = some r := H
      have A74 := Aside0.mk A740
      clear A740
      have HC75 := Aside0.mk H
      clear H
      try go_wp2
      replace HO_7 := Aside0.mk (Kd.R_drew HO_7.out)
      replace HO_11 := Aside0.mk (Kd.R_drew HO_11.out)
      replace HO_116001 := Aside0.mk (Kd.R_drew HO_116001.out)
      replace HO_121001 := Aside0.mk (Kd.R_drew HO_121001.out)
      replace HO_130001 := Aside0.mk (Kd.R_drew HO_130001.out)
      replace BK101 := Aside0.mk (blk_drew BK101.out)
      replace BK115 := Aside0.mk (blk_drew BK115.out)
      replace BK120 := Aside0.mk (blk_drew BK120.out)
      replace BK129 := Aside0.mk (blk_drew BK129.out)
      replace HB := Aside0.mk (below_drew1 HB.out)
      refine start_ (n := 5) (S := fun w' => w'.cell? ⟨gb120, 0, none⟩ = some (.int .i64 t116) ∧ w'.cell? ⟨gb120, 1, none⟩ = some (.slice Ao30 t117.length co30) ∧ w'.cell? ⟨gb101, 0, none⟩ = some (.int .i64 a0_0) ∧ w'.cell? ⟨gb101, 1, none⟩ = some (.slice A0_1 l0_1.length c0_1)) (ds := []) (lb 5 0) zk rfl rfl ⟨(blk_cell BK120.out 0).trans rfl, (blk_cell BK120.out 1).trans rfl, (blk_cell BK101.out 0).trans rfl, (blk_cell BK101.out 1).trans rfl⟩ (fun hHeld => ?_)
      generalize wc.drew = w76 at HO_7 HO_11 HO_116001 HO_121001 HO_130001 BK101 BK115 BK120 BK129 HB hHeld ⊢
      refine take_ (i := 0) (N := some 56) (v := ?_) (a' := ?_) (lb 5 1) rfl rfl zk (fun _ _ _ h => h) (Or.inl ⟨by rfl, ?_⟩) hHeld ?_ ?_; rotate_left; (rintro w' ⟨s0, s1, s2, s3⟩; go_simp; with_reducible rfl); rotate_left; (simp only [Act.put, List.setIfInBounds_toArray, List.set_cons_zero, List.set_cons_succ, i64_w, i32_w]; rfl)
      refine take_ (i := 1) (N := some 57) (v := ?_) (a' := ?_) (lb 5 3) rfl rfl zk (fun _ _ _ h => h) (Or.inl ⟨by rfl, ?_⟩) hHeld ?_ ?_; rotate_left; (rintro w' ⟨s0, s1, s2, s3⟩; go_simp; with_reducible rfl); rotate_left; (simp only [Act.put, List.setIfInBounds_toArray, List.set_cons_zero, List.set_cons_succ, i64_w, i32_w]; rfl)
      refine one_ (i := 2) (N := some 58) (lb 5 7) rfl rfl zk (by decide) (fun K hK => ?_)
      refine goes_ Try.func27 zk rfl #[.agg #[.int .i64 a0_0, .slice A0_1 l0_1.length c0_1]] (by rfl) rfl rfl zm ?_
      with_reducible refine (laws_toClock.calls kj11 a0_0 _ _ l0_1 t132 t133 _ ?side1 ?side2 A71.out).mono ?_
      (case side1 => exact cz (Kd.C_below HR0_1.out HB.out))
      (case side2 => exact HC0_1.out)
      rintro e w77 ⟨v134, rfl, ho0, hb⟩
      refine ⟨_, rfl, ?_⟩
      replace HO_7 := Aside0.mk (Kd.R_below (rz HO_7.out) hb)
      replace HO_11 := Aside0.mk (Kd.R_below (rz HO_11.out) hb)
      have HO135 := Aside0.mk (Kd.R_lower (Kd.R_new' (Kd.R_new' (Kd.R_new' ho0 (Kd.R_lt (rz HO_116001.out))) (Kd.R_lt (rz HO_121001.out))) (Kd.R_lt (rz HO_130001.out))) (below_size (by repeat (first | (with_reducible first | exact HB.out | apply below_alloc | apply pw_below_drewN | apply below_drew1 | refine below_set ?_ GE101.out | refine below_set ?_ GE115.out | refine below_set ?_ GE120.out | refine below_set ?_ GE129.out) | exact HB.out))))
      replace HO_116001 := Aside0.mk (Kd.R_elder' (rz HO_116001.out) (Kd.R_base ho0) hb)
      replace HO_121001 := Aside0.mk (Kd.R_elder' (rz HO_121001.out) (Kd.R_base ho0) hb)
      replace HO_130001 := Aside0.mk (Kd.R_elder' (rz HO_130001.out) (Kd.R_base ho0) hb)
      replace BK101 := Aside0.mk (blk_below (g := gb101) (o := .cells #[.int .i64 a0_0, .slice A0_1 l0_1.length c0_1] 38 (0, 0)) (kz BK101.out) hb)
      replace BK115 := Aside0.mk (blk_below (g := gb115) (o := .cells #[.int .i64 t107, .slice Ao23 t108.length co23] 26 (0, 0)) (kz BK115.out) hb)
      replace BK120 := Aside0.mk (blk_below (g := gb120) (o := .cells #[.int .i64 t116, .slice Ao30 t117.length co30] 26 (0, 0)) (kz BK120.out) hb)
      replace BK129 := Aside0.mk (blk_below (g := gb129) (o := .cells #[.int .i64 t121, .slice Ao37 t122.length co37] 26 (0, 0)) (kz BK129.out) hb)
      replace HB := Aside0.mk (below_step (by repeat (first | (with_reducible first | exact HB.out | apply below_alloc | apply pw_below_drewN | apply below_drew1 | refine below_set ?_ GE101.out | refine below_set ?_ GE115.out | refine below_set ?_ GE120.out | refine below_set ?_ GE129.out) | exact HB.out)) hb)
      (try clear hb)
      (try clear ho0)
      obtain ⟨Ao78, co78, eo78⟩ := Kd.R_slice HO135.out
      (first | subst eo78 | (injection eo78 with f1_ f2_ f3_; have f4_ := f1_.symm; have f5_ := f3_.symm; clear f1_ f2_ f3_; subst f4_; subst f5_))
      refine hK.out _ _ ⟨(blk_cell BK120.out 0).trans rfl, (blk_cell BK120.out 1).trans rfl, (blk_cell BK101.out 0).trans rfl, (blk_cell BK101.out 1).trans rfl⟩ (fun hHeld => ?_)
      clear hK K
      refine norm_ (a' := ?_) ?_ ?_
      rotate_left
      ·
       show Act.put _ (some 58) _ = _
       simp only [Act.put, List.setIfInBounds_toArray, List.set_cons_zero, List.set_cons_succ, i64_w, i32_w]
       rfl
      refine one_ (i := 3) (N := some 59) (lb 5 15) rfl rfl zk (by decide) (fun K hK => ?_)
      refine goes_ Try.func22 zk rfl #[.agg #[.int .i64 t116, .slice Ao30 t117.length co30], .agg #[.int .i64 t132, .slice Ao78 t133.length co78]] (by rfl) rfl rfl zm ?_
      with_reducible refine (laws_eqClock.calls kj11 t116 _ _ t117 t132 _ _ t133 true _ ?side1 ?side2 ?side3 ?side4 A72.out).mono ?_
      (case side1 => exact cz ((Kd.R_reads' HO_121001.out).2.2))
      (case side2 => exact (Kd.R_reads' HO_121001.out).2.1)
      (case side3 => exact cz ((Kd.R_reads' HO135.out).2.2))
      (case side4 => exact (Kd.R_reads' HO135.out).2.1)
      rintro e w79 ⟨rfl, hb⟩
      refine ⟨_, rfl, ?_⟩
      replace HO_7 := Aside0.mk (Kd.R_below (rz HO_7.out) hb)
      replace HO_11 := Aside0.mk (Kd.R_below (rz HO_11.out) hb)
      replace HO_116001 := Aside0.mk (Kd.R_below (rz HO_116001.out) hb)
      replace HO_121001 := Aside0.mk (Kd.R_below (rz HO_121001.out) hb)
      replace HO_130001 := Aside0.mk (Kd.R_below (rz HO_130001.out) hb)
      replace HO135 := Aside0.mk (Kd.R_below (rz HO135.out) hb)
      replace BK101 := Aside0.mk (blk_below (g := gb101) (o := .cells #[.int .i64 a0_0, .slice A0_1 l0_1.length c0_1] 38 (0, 0)) (kz BK101.out) hb)
      replace BK115 := Aside0.mk (blk_below (g := gb115) (o := .cells #[.int .i64 t107, .slice Ao23 t108.length co23] 26 (0, 0)) (kz BK115.out) hb)
      replace BK120 := Aside0.mk (blk_below (g := gb120) (o := .cells #[.int .i64 t116, .slice Ao30 t117.length co30] 26 (0, 0)) (kz BK120.out) hb)
      replace BK129 := Aside0.mk (blk_below (g := gb129) (o := .cells #[.int .i64 t121, .slice Ao37 t122.length co37] 26 (0, 0)) (kz BK129.out) hb)
      replace HB := Aside0.mk (below_step (by repeat (first | (with_reducible first | exact HB.out | apply below_alloc | apply pw_below_drewN | apply below_drew1 | refine below_set ?_ GE101.out | refine below_set ?_ GE115.out | refine below_set ?_ GE120.out | refine below_set ?_ GE129.out) | exact HB.out)) hb)
      (try clear hb)
      refine hK.out _ _ ⟨(blk_cell BK120.out 0).trans rfl, (blk_cell BK120.out 1).trans rfl, (blk_cell BK101.out 0).trans rfl, (blk_cell BK101.out 1).trans rfl⟩ (fun hHeld => ?_)
      clear hK K
      refine norm_ (a' := ?_) ?_ ?_
      rotate_left
      ·
       show Act.put _ (some 59) _ = _
       simp only [Act.put, List.setIfInBounds_toArray, List.set_cons_zero, List.set_cons_succ, i64_w, i32_w]
       rfl
      refine pure_ (i := 4) (N := some 60) (v := ?_) (a' := ?_) (lb 5 31) rfl rfl zk (fun _ _ _ h => h) (Or.inl ⟨by rfl, ?_⟩) ?_ ?_; rotate_left; (intro w'; go_simp; with_reducible rfl); rotate_left; (simp only [Act.put, List.setIfInBounds_toArray, List.set_cons_zero, List.set_cons_succ, i64_w, i32_w]; rfl)
      refine done_ zk ?_
      have hnb80 := NB120_101.out
      have hnc80 := NB101_120.out
      have hnb81 := NB120_115.out
      have hnc81 := NB115_120.out
      have hnb82 := NB120_129.out
      have hnc82 := NB129_120.out
      have hcz83_0 : w79.cell? ⟨gb120, 0, none⟩ = some (.int .i64 t116) := (blk_cell BK120.out 0).trans rfl
      have hcz83_1 : w79.cell? ⟨gb120, 1, none⟩ = some (.slice Ao30 t117.length co30) := (blk_cell BK120.out 1).trans rfl
      have hfz83_0 := blk_frozen BK120.out 0
      have hfz83_1 := blk_frozen BK120.out 1
      go_upto_region 14 with (first | ((with_reducible refine gate_callee (f := 23) rfl ?_); refine goesL_ (some 63) rfl rfl Try.func23 zk rfl #[.agg #[.int .i64 t116, .slice Ao30 t117.length co30], .int .i64 1] rfl zm ?_; (with_reducible refine (laws_markClock.calls kj11 t116 (fun k_ => some k_ = (.slice Ao30 t117.length co30 : Value).ownBlock) (.slice Ao30 t117.length co30) t117 1 t137 t138 w _ ?side1 ?side2 A74.out).mono ?_); (case side1 => repeat (first | (with_reducible first | exact HB.out | apply below_alloc | apply pw_below_drewN | apply below_drew1 | refine below_set ?_ GE101.out | refine below_set ?_ GE115.out | refine below_set ?_ GE120.out | refine below_set ?_ GE129.out) | exact HB.out)); (case side2 => exact Kd.R_tight rfl HO_121001.out); rintro e w84 ⟨rfl, hy0, hb, hkp⟩; refine ⟨_, rfl, ?_⟩; replace HO_7 := Aside0.mk (Kd.R_mono (ok' := fun k_ => some k_ ≠ (v126 : Value).ownBlock) (Kd.R_keptB ((Kd.R_apart' HO_7.out (Kd.R_typed HO_121001.out) (by decide))) hkp (fun k_ hk_ hs_ => (hk_.2) hs_)) (fun k_ hk_ => hk_.1.1)); replace HO_11 := Aside0.mk (Kd.R_mono (ok' := fun k_ => some k_ ≠ (v112 : Value).ownBlock) (Kd.R_keptB ((Kd.R_apart' HO_11.out (Kd.R_typed HO_121001.out) (by decide))) hkp (fun k_ hk_ hs_ => (hk_.2) hs_)) (fun k_ hk_ => hk_.1.1)); replace HO_116001 := Aside0.mk (Kd.R_mono (ok' := fun k_ => some k_ ≠ (.slice Ao30 t117.length co30 : Value).ownBlock ∧ some k_ ≠ (.slice Ao37 t122.length co37 : Value).ownBlock ∧ some k_ ≠ (.slice Ao78 t133.length co78 : Value).ownBlock) (Kd.R_keptB (HO_116001.out) hkp (fun k_ hk_ hs_ => (hk_.1.1) hs_)) (fun k_ hk_ => ⟨hk_.1.1.1, hk_.1.1.2, hk_.1.2⟩)); replace HO_130001 := Aside0.mk (Kd.R_mono (ok' := fun k_ => some k_ ≠ (.slice Ao23 t108.length co23 : Value).ownBlock ∧ some k_ ≠ (.slice Ao30 t117.length co30 : Value).ownBlock ∧ some k_ ≠ (.slice Ao78 t133.length co78 : Value).ownBlock) (Kd.R_keptB (HO_130001.out) hkp (fun k_ hk_ hs_ => (hk_.1.2) hs_)) (fun k_ hk_ => ⟨hk_.1.1.1, hk_.1.1.2, hk_.1.2⟩)); replace BK101 := Aside0.mk (blk_kept (kz BK101.out) hkp (fun hs_ => (fun e_ => (Kd.R_ne HO_121001.out BK101.out (by decide)) e_) hs_)); replace BK115 := Aside0.mk (blk_kept (kz BK115.out) hkp (fun hs_ => (fun e_ => (Kd.R_ne HO_121001.out BK115.out (by decide)) e_) hs_)); replace BK120 := Aside0.mk (blk_kept (kz BK120.out) hkp (fun hs_ => (fun e_ => (Kd.R_ne HO_121001.out BK120.out (by decide)) e_) hs_)); replace BK129 := Aside0.mk (blk_kept (kz BK129.out) hkp (fun hs_ => (fun e_ => (Kd.R_ne HO_121001.out BK129.out (by decide)) e_) hs_)); replace HO_121001 := Aside0.mk (Kd.R_reok rfl hy0 (fun k_ e_ => HO_121001.out.1 k_ e_)); replace HO135 := Aside0.mk (Kd.R_mono (ok' := fun k_ => some k_ ≠ (.slice Ao23 t108.length co23 : Value).ownBlock ∧ some k_ ≠ (.slice Ao30 t117.length co30 : Value).ownBlock ∧ some k_ ≠ (.slice Ao37 t122.length co37 : Value).ownBlock) (Kd.R_keptB (HO135.out) hkp (fun k_ hk_ hs_ => (hk_.1.2) hs_)) (fun k_ hk_ => ⟨hk_.1.1.1.2, hk_.1.1.2, hk_.1.2⟩)); replace HB := Aside0.mk (hb); (try clear hb); (try clear hkp); (try clear hy0)))
      (try simp only [Act.put, List.setIfInBounds_toArray, List.set_cons_zero, List.set_cons_succ])
      go_cut [82] (fun v82 wc => ∃ (kq : Nat) (x82_74 : Bool), v82 = .bool x82_74 ∧ Aside0 (laws_FnExactClockTick.j1 kq a1 t111 t114 t125 x82_74 a0_0 l0_1 t107 t108 t121 t122 = some r) ∧ Aside0 (kq ≤ kj11) ∧ Aside0 (Kd.R (Kd.int .i64) 3 wc w.heap.size (fun k_ => some k_ ≠ (v126 : Value).ownBlock) v112 t111) ∧ Aside0 (Kd.R (Kd.int .i64) 3 wc w.heap.size (fun k_ => some k_ ≠ (v112 : Value).ownBlock) v126 t125) ∧ Aside0 (Kd.R k62 62 wc w.heap.size (fun k_ => some k_ ≠ ((.slice Ao30 t117.length co30) : Value).ownBlock ∧ some k_ ≠ ((.slice Ao37 t122.length co37) : Value).ownBlock) (.slice Ao23 t108.length co23) t108) ∧ Aside0 (Kd.R k62 62 wc w.heap.size (fun k_ => some k_ ≠ ((.slice Ao23 t108.length co23) : Value).ownBlock ∧ some k_ ≠ ((.slice Ao37 t122.length co37) : Value).ownBlock) (.slice Ao30 t117.length co30) t138) ∧ Aside0 (Kd.R k62 62 wc w.heap.size (fun k_ => some k_ ≠ ((.slice Ao23 t108.length co23) : Value).ownBlock ∧ some k_ ≠ ((.slice Ao30 t117.length co30) : Value).ownBlock) (.slice Ao37 t122.length co37) t122) ∧ Aside0 (wc.heap[gb101]? = some (.cells #[.int .i64 a0_0, (.slice A0_1 l0_1.length c0_1)] 38 (0, 0))) ∧ Aside0 (wc.heap[gb115]? = some (.cells #[.int .i64 t107, (.slice Ao23 t108.length co23)] 26 (0, 0))) ∧ Aside0 (wc.heap[gb120]? = some (.cells #[.int .i64 t116, (.slice Ao30 t117.length co30)] 26 (0, 0))) ∧ Aside0 (wc.heap[gb129]? = some (.cells #[.int .i64 t121, (.slice Ao37 t122.length co37)] 26 (0, 0))) ∧ Aside0 (Below w.heap.size w wc))
      case first =>
       have H := HC75.out
       clear HC75
       by_cases c85 : t137 < 0
       ·
        rw [if_pos c85] at H
        have c85b0 : decide (t137 < 0) = true := decide_eq_true c85
        clear c85
        (first | rw [c85b0] | (simp only [i64_w, i32_w]; rw [c85b0]) | skip)
        have H' := Aside0.mk H
        clear H
        go_wp2
        go_meet
        case rel => exact ⟨_, (true), zr, H', ⟨by have := HJ11.out; first | omega | exact Nat.le_refl _⟩, ⟨by (with_reducible repeat (first | apply Kd.R_alloc | apply Kd.R_drewN | apply Kd.R_drew)); exact HO_7.out⟩, ⟨by (with_reducible repeat (first | apply Kd.R_alloc | apply Kd.R_drewN | apply Kd.R_drew)); exact HO_11.out⟩, ⟨by (with_reducible repeat (first | apply Kd.R_alloc | apply Kd.R_drewN | apply Kd.R_drew)); exact Kd.R_mono HO_116001.out (fun _ hk => ⟨hk.1, hk.2.1⟩)⟩, ⟨by (with_reducible repeat (first | apply Kd.R_alloc | apply Kd.R_drewN | apply Kd.R_drew)); exact Kd.R_mono HO_121001.out (fun _ hk => ⟨hk.1.1, hk.1.2⟩)⟩, ⟨by (with_reducible repeat (first | apply Kd.R_alloc | apply Kd.R_drewN | apply Kd.R_drew)); exact Kd.R_mono HO_130001.out (fun _ hk => ⟨hk.1, hk.2.1⟩)⟩, ⟨by (with_reducible repeat (first | refine blk_drewN ?_ _ | refine blk_drew ?_ | refine blk_alloc ?_ _)); exact BK101.out⟩, ⟨by (with_reducible repeat (first | refine blk_drewN ?_ _ | refine blk_drew ?_ | refine blk_alloc ?_ _)); exact BK115.out⟩, ⟨by (with_reducible repeat (first | refine blk_drewN ?_ _ | refine blk_drew ?_ | refine blk_alloc ?_ _)); exact BK120.out⟩, ⟨by (with_reducible repeat (first | refine blk_drewN ?_ _ | refine blk_drew ?_ | refine blk_alloc ?_ _)); exact BK129.out⟩, ⟨by repeat (first | (with_reducible first | exact HB.out | apply below_alloc | apply pw_below_drewN | apply below_drew1 | refine below_set ?_ GE101.out | refine below_set ?_ GE115.out | refine below_set ?_ GE120.out | refine below_set ?_ GE129.out) | exact HB.out)⟩⟩
       ·
        rw [if_neg c85] at H
        have c85b0 : decide (t137 < 0) = false := decide_eq_false c85
        clear c85
        (first | rw [c85b0] | (simp only [i64_w, i32_w]; rw [c85b0]) | skip)
        replace H := Option.bind_eq_some_iff.mp H
        obtain ⟨t139, A860, H⟩ := H
        have A86 := Aside0.mk A860
        clear A860
        by_cases c87 : t139 = true
        ·
         subst c87
         rw [if_pos rfl] at H
         replace H := Option.bind_eq_some_iff.mp H
         obtain ⟨t140, A880, H⟩ := H
         have A88 := Aside0.mk A880
         clear A880
         by_cases c89 : t140 = true
         ·
          subst c89
          rw [if_pos rfl] at H
          have H' := Aside0.mk H
          clear H
          have hnb90 := NB129_101.out
          have hnc90 := NB101_129.out
          have hnb91 := NB129_115.out
          have hnc91 := NB115_129.out
          have hnb92 := NB129_120.out
          have hnc92 := NB120_129.out
          have hcz93_0 : w84.cell? ⟨gb129, 0, none⟩ = some (.int .i64 t121) := (blk_cell BK129.out 0).trans rfl
          have hcz93_1 : w84.cell? ⟨gb129, 1, none⟩ = some (.slice Ao37 t122.length co37) := (blk_cell BK129.out 1).trans rfl
          have hfz93_0 := blk_frozen BK129.out 0
          have hfz93_1 := blk_frozen BK129.out 1
          have hnb94 := NB115_101.out
          have hnc94 := NB101_115.out
          have hnb95 := NB115_120.out
          have hnc95 := NB120_115.out
          have hcz96_0 : w84.cell? ⟨gb115, 0, none⟩ = some (.int .i64 t107) := (blk_cell BK115.out 0).trans rfl
          have hcz96_1 : w84.cell? ⟨gb115, 1, none⟩ = some (.slice Ao23 t108.length co23) := (blk_cell BK115.out 1).trans rfl
          have hfz96_0 := blk_frozen BK115.out 0
          have hfz96_1 := blk_frozen BK115.out 1
          go_wp2_with (first | (go_at_call 22; (with_reducible refine (laws_eqClock.calls kj11 t121 _ _ t122 t107 _ _ t108 true _ ?side1 ?side2 ?side3 ?side4 A86.out).mono ?_); (case side1 => exact cz ((Kd.R_reads' HO_130001.out).2.2)); (case side2 => exact (Kd.R_reads' HO_130001.out).2.1); (case side3 => exact cz ((Kd.R_reads' HO_116001.out).2.2)); (case side4 => exact (Kd.R_reads' HO_116001.out).2.1); rintro e w97 ⟨rfl, hb⟩; replace HO_7 := Aside0.mk (Kd.R_below (rz HO_7.out) hb); replace HO_11 := Aside0.mk (Kd.R_below (rz HO_11.out) hb); replace HO_116001 := Aside0.mk (Kd.R_below (rz HO_116001.out) hb); replace HO_121001 := Aside0.mk (Kd.R_below (rz HO_121001.out) hb); replace HO_130001 := Aside0.mk (Kd.R_below (rz HO_130001.out) hb); replace HO135 := Aside0.mk (Kd.R_below (rz HO135.out) hb); replace BK101 := Aside0.mk (blk_below (g := gb101) (o := .cells #[.int .i64 a0_0, .slice A0_1 l0_1.length c0_1] 38 (0, 0)) (kz BK101.out) hb); replace BK115 := Aside0.mk (blk_below (g := gb115) (o := .cells #[.int .i64 t107, .slice Ao23 t108.length co23] 26 (0, 0)) (kz BK115.out) hb); replace BK120 := Aside0.mk (blk_below (g := gb120) (o := .cells #[.int .i64 t116, .slice Ao30 t117.length co30] 26 (0, 0)) (kz BK120.out) hb); replace BK129 := Aside0.mk (blk_below (g := gb129) (o := .cells #[.int .i64 t121, .slice Ao37 t122.length co37] 26 (0, 0)) (kz BK129.out) hb); replace HB := Aside0.mk (below_step (by repeat (first | (with_reducible first | exact HB.out | apply below_alloc | apply pw_below_drewN | apply below_drew1 | refine below_set ?_ GE101.out | refine below_set ?_ GE115.out | refine below_set ?_ GE120.out | refine below_set ?_ GE129.out) | exact HB.out)) hb); (try clear hb); obtain ⟨Ao98, co98, eo98⟩ := Kd.R_slice HO_11.out; subst eo98; obtain ⟨Ao99, co99, eo99⟩ := Kd.R_slice HO_7.out; subst eo99) | (go_at_call 40; (with_reducible refine (laws_eqIntS.calls kj11 _ _ t125 _ _ t111 true _ ?side1 ?side2 ?side3 ?side4 A88.out).mono ?_); (case side1 => exact cz ((Kd.R_reads' HO_11.out).2.2)); (case side2 => exact (Kd.R_reads' HO_11.out).2.1); (case side3 => exact cz ((Kd.R_reads' HO_7.out).2.2)); (case side4 => exact (Kd.R_reads' HO_7.out).2.1); rintro e w' ⟨rfl, ⟨nd, rfl⟩⟩))
          go_meet
          case rel => exact ⟨_, ((t128 != t114)), zr, H', ⟨by have := HJ11.out; first | omega | exact Nat.le_refl _⟩, ⟨by (with_reducible repeat (first | apply Kd.R_alloc | apply Kd.R_drewN | apply Kd.R_drew)); exact HO_7.out⟩, ⟨by (with_reducible repeat (first | apply Kd.R_alloc | apply Kd.R_drewN | apply Kd.R_drew)); exact HO_11.out⟩, ⟨by (with_reducible repeat (first | apply Kd.R_alloc | apply Kd.R_drewN | apply Kd.R_drew)); exact Kd.R_mono HO_116001.out (fun _ hk => ⟨hk.1, hk.2.1⟩)⟩, ⟨by (with_reducible repeat (first | apply Kd.R_alloc | apply Kd.R_drewN | apply Kd.R_drew)); exact Kd.R_mono HO_121001.out (fun _ hk => ⟨hk.1.1, hk.1.2⟩)⟩, ⟨by (with_reducible repeat (first | apply Kd.R_alloc | apply Kd.R_drewN | apply Kd.R_drew)); exact Kd.R_mono HO_130001.out (fun _ hk => ⟨hk.1, hk.2.1⟩)⟩, ⟨by (with_reducible repeat (first | refine blk_drewN ?_ _ | refine blk_drew ?_ | refine blk_alloc ?_ _)); exact BK101.out⟩, ⟨by (with_reducible repeat (first | refine blk_drewN ?_ _ | refine blk_drew ?_ | refine blk_alloc ?_ _)); exact BK115.out⟩, ⟨by (with_reducible repeat (first | refine blk_drewN ?_ _ | refine blk_drew ?_ | refine blk_alloc ?_ _)); exact BK120.out⟩, ⟨by (with_reducible repeat (first | refine blk_drewN ?_ _ | refine blk_drew ?_ | refine blk_alloc ?_ _)); exact BK129.out⟩, ⟨by repeat (first | (with_reducible first | exact HB.out | apply below_alloc | apply pw_below_drewN | apply below_drew1 | refine below_set ?_ GE101.out | refine below_set ?_ GE115.out | refine below_set ?_ GE120.out | refine below_set ?_ GE129.out) | exact HB.out)⟩⟩
         ·
          replace c89 := Bool.eq_false_iff.mpr c89
          subst c89
          rw [if_neg nf_] at H
          have H' := Aside0.mk H
          clear H
          have hnb100 := NB129_101.out
          have hnc100 := NB101_129.out
          have hnb101 := NB129_115.out
          have hnc101 := NB115_129.out
          have hnb102 := NB129_120.out
          have hnc102 := NB120_129.out
          have hcz103_0 : w84.cell? ⟨gb129, 0, none⟩ = some (.int .i64 t121) := (blk_cell BK129.out 0).trans rfl
          have hcz103_1 : w84.cell? ⟨gb129, 1, none⟩ = some (.slice Ao37 t122.length co37) := (blk_cell BK129.out 1).trans rfl
          have hfz103_0 := blk_frozen BK129.out 0
          have hfz103_1 := blk_frozen BK129.out 1
          have hnb104 := NB115_101.out
          have hnc104 := NB101_115.out
          have hnb105 := NB115_120.out
          have hnc105 := NB120_115.out
          have hcz106_0 : w84.cell? ⟨gb115, 0, none⟩ = some (.int .i64 t107) := (blk_cell BK115.out 0).trans rfl
          have hcz106_1 : w84.cell? ⟨gb115, 1, none⟩ = some (.slice Ao23 t108.length co23) := (blk_cell BK115.out 1).trans rfl
          have hfz106_0 := blk_frozen BK115.out 0
          have hfz106_1 := blk_frozen BK115.out 1
          go_wp2_with (first | (go_at_call 22; (with_reducible refine (laws_eqClock.calls kj11 t121 _ _ t122 t107 _ _ t108 true _ ?side1 ?side2 ?side3 ?side4 A86.out).mono ?_); (case side1 => exact cz ((Kd.R_reads' HO_130001.out).2.2)); (case side2 => exact (Kd.R_reads' HO_130001.out).2.1); (case side3 => exact cz ((Kd.R_reads' HO_116001.out).2.2)); (case side4 => exact (Kd.R_reads' HO_116001.out).2.1); rintro e w107 ⟨rfl, hb⟩; replace HO_7 := Aside0.mk (Kd.R_below (rz HO_7.out) hb); replace HO_11 := Aside0.mk (Kd.R_below (rz HO_11.out) hb); replace HO_116001 := Aside0.mk (Kd.R_below (rz HO_116001.out) hb); replace HO_121001 := Aside0.mk (Kd.R_below (rz HO_121001.out) hb); replace HO_130001 := Aside0.mk (Kd.R_below (rz HO_130001.out) hb); replace HO135 := Aside0.mk (Kd.R_below (rz HO135.out) hb); replace BK101 := Aside0.mk (blk_below (g := gb101) (o := .cells #[.int .i64 a0_0, .slice A0_1 l0_1.length c0_1] 38 (0, 0)) (kz BK101.out) hb); replace BK115 := Aside0.mk (blk_below (g := gb115) (o := .cells #[.int .i64 t107, .slice Ao23 t108.length co23] 26 (0, 0)) (kz BK115.out) hb); replace BK120 := Aside0.mk (blk_below (g := gb120) (o := .cells #[.int .i64 t116, .slice Ao30 t117.length co30] 26 (0, 0)) (kz BK120.out) hb); replace BK129 := Aside0.mk (blk_below (g := gb129) (o := .cells #[.int .i64 t121, .slice Ao37 t122.length co37] 26 (0, 0)) (kz BK129.out) hb); replace HB := Aside0.mk (below_step (by repeat (first | (with_reducible first | exact HB.out | apply below_alloc | apply pw_below_drewN | apply below_drew1 | refine below_set ?_ GE101.out | refine below_set ?_ GE115.out | refine below_set ?_ GE120.out | refine below_set ?_ GE129.out) | exact HB.out)) hb); (try clear hb); obtain ⟨Ao108, co108, eo108⟩ := Kd.R_slice HO_11.out; subst eo108; obtain ⟨Ao109, co109, eo109⟩ := Kd.R_slice HO_7.out; subst eo109) | (go_at_call 40; (with_reducible refine (laws_eqIntS.calls kj11 _ _ t125 _ _ t111 false _ ?side1 ?side2 ?side3 ?side4 A88.out).mono ?_); (case side1 => exact cz ((Kd.R_reads' HO_11.out).2.2)); (case side2 => exact (Kd.R_reads' HO_11.out).2.1); (case side3 => exact cz ((Kd.R_reads' HO_7.out).2.2)); (case side4 => exact (Kd.R_reads' HO_7.out).2.1); rintro e w' ⟨rfl, ⟨nd, rfl⟩⟩))
          go_meet
          case rel => exact ⟨_, (true), zr, H', ⟨by have := HJ11.out; first | omega | exact Nat.le_refl _⟩, ⟨by (with_reducible repeat (first | apply Kd.R_alloc | apply Kd.R_drewN | apply Kd.R_drew)); exact HO_7.out⟩, ⟨by (with_reducible repeat (first | apply Kd.R_alloc | apply Kd.R_drewN | apply Kd.R_drew)); exact HO_11.out⟩, ⟨by (with_reducible repeat (first | apply Kd.R_alloc | apply Kd.R_drewN | apply Kd.R_drew)); exact Kd.R_mono HO_116001.out (fun _ hk => ⟨hk.1, hk.2.1⟩)⟩, ⟨by (with_reducible repeat (first | apply Kd.R_alloc | apply Kd.R_drewN | apply Kd.R_drew)); exact Kd.R_mono HO_121001.out (fun _ hk => ⟨hk.1.1, hk.1.2⟩)⟩, ⟨by (with_reducible repeat (first | apply Kd.R_alloc | apply Kd.R_drewN | apply Kd.R_drew)); exact Kd.R_mono HO_130001.out (fun _ hk => ⟨hk.1, hk.2.1⟩)⟩, ⟨by (with_reducible repeat (first | refine blk_drewN ?_ _ | refine blk_drew ?_ | refine blk_alloc ?_ _)); exact BK101.out⟩, ⟨by (with_reducible repeat (first | refine blk_drewN ?_ _ | refine blk_drew ?_ | refine blk_alloc ?_ _)); exact BK115.out⟩, ⟨by (with_reducible repeat (first | refine blk_drewN ?_ _ | refine blk_drew ?_ | refine blk_alloc ?_ _)); exact BK120.out⟩, ⟨by (with_reducible repeat (first | refine blk_drewN ?_ _ | refine blk_drew ?_ | refine blk_alloc ?_ _)); exact BK129.out⟩, ⟨by repeat (first | (with_reducible first | exact HB.out | apply below_alloc | apply pw_below_drewN | apply below_drew1 | refine below_set ?_ GE101.out | refine below_set ?_ GE115.out | refine below_set ?_ GE120.out | refine below_set ?_ GE129.out) | exact HB.out)⟩⟩
        ·
         replace c87 := Bool.eq_false_iff.mpr c87
         subst c87
         rw [if_neg nf_] at H
         have H' := Aside0.mk H
         clear H
         have hnb110 := NB129_101.out
         have hnc110 := NB101_129.out
         have hnb111 := NB129_115.out
         have hnc111 := NB115_129.out
         have hnb112 := NB129_120.out
         have hnc112 := NB120_129.out
         have hcz113_0 : w84.cell? ⟨gb129, 0, none⟩ = some (.int .i64 t121) := (blk_cell BK129.out 0).trans rfl
         have hcz113_1 : w84.cell? ⟨gb129, 1, none⟩ = some (.slice Ao37 t122.length co37) := (blk_cell BK129.out 1).trans rfl
         have hfz113_0 := blk_frozen BK129.out 0
         have hfz113_1 := blk_frozen BK129.out 1
         have hnb114 := NB115_101.out
         have hnc114 := NB101_115.out
         have hnb115 := NB115_120.out
         have hnc115 := NB120_115.out
         have hcz116_0 : w84.cell? ⟨gb115, 0, none⟩ = some (.int .i64 t107) := (blk_cell BK115.out 0).trans rfl
         have hcz116_1 : w84.cell? ⟨gb115, 1, none⟩ = some (.slice Ao23 t108.length co23) := (blk_cell BK115.out 1).trans rfl
         have hfz116_0 := blk_frozen BK115.out 0
         have hfz116_1 := blk_frozen BK115.out 1
         go_wp2_with (first | (go_at_call 22; (with_reducible refine (laws_eqClock.calls kj11 t121 _ _ t122 t107 _ _ t108 false _ ?side1 ?side2 ?side3 ?side4 A86.out).mono ?_); (case side1 => exact cz ((Kd.R_reads' HO_130001.out).2.2)); (case side2 => exact (Kd.R_reads' HO_130001.out).2.1); (case side3 => exact cz ((Kd.R_reads' HO_116001.out).2.2)); (case side4 => exact (Kd.R_reads' HO_116001.out).2.1); rintro e w117 ⟨rfl, hb⟩; replace HO_7 := Aside0.mk (Kd.R_below (rz HO_7.out) hb); replace HO_11 := Aside0.mk (Kd.R_below (rz HO_11.out) hb); replace HO_116001 := Aside0.mk (Kd.R_below (rz HO_116001.out) hb); replace HO_121001 := Aside0.mk (Kd.R_below (rz HO_121001.out) hb); replace HO_130001 := Aside0.mk (Kd.R_below (rz HO_130001.out) hb); replace HO135 := Aside0.mk (Kd.R_below (rz HO135.out) hb); replace BK101 := Aside0.mk (blk_below (g := gb101) (o := .cells #[.int .i64 a0_0, .slice A0_1 l0_1.length c0_1] 38 (0, 0)) (kz BK101.out) hb); replace BK115 := Aside0.mk (blk_below (g := gb115) (o := .cells #[.int .i64 t107, .slice Ao23 t108.length co23] 26 (0, 0)) (kz BK115.out) hb); replace BK120 := Aside0.mk (blk_below (g := gb120) (o := .cells #[.int .i64 t116, .slice Ao30 t117.length co30] 26 (0, 0)) (kz BK120.out) hb); replace BK129 := Aside0.mk (blk_below (g := gb129) (o := .cells #[.int .i64 t121, .slice Ao37 t122.length co37] 26 (0, 0)) (kz BK129.out) hb); replace HB := Aside0.mk (below_step (by repeat (first | (with_reducible first | exact HB.out | apply below_alloc | apply pw_below_drewN | apply below_drew1 | refine below_set ?_ GE101.out | refine below_set ?_ GE115.out | refine below_set ?_ GE120.out | refine below_set ?_ GE129.out) | exact HB.out)) hb); (try clear hb)))
         go_meet
         case rel => exact ⟨_, (true), zr, H', ⟨by have := HJ11.out; first | omega | exact Nat.le_refl _⟩, ⟨by (with_reducible repeat (first | apply Kd.R_alloc | apply Kd.R_drewN | apply Kd.R_drew)); exact HO_7.out⟩, ⟨by (with_reducible repeat (first | apply Kd.R_alloc | apply Kd.R_drewN | apply Kd.R_drew)); exact HO_11.out⟩, ⟨by (with_reducible repeat (first | apply Kd.R_alloc | apply Kd.R_drewN | apply Kd.R_drew)); exact Kd.R_mono HO_116001.out (fun _ hk => ⟨hk.1, hk.2.1⟩)⟩, ⟨by (with_reducible repeat (first | apply Kd.R_alloc | apply Kd.R_drewN | apply Kd.R_drew)); exact Kd.R_mono HO_121001.out (fun _ hk => ⟨hk.1.1, hk.1.2⟩)⟩, ⟨by (with_reducible repeat (first | apply Kd.R_alloc | apply Kd.R_drewN | apply Kd.R_drew)); exact Kd.R_mono HO_130001.out (fun _ hk => ⟨hk.1, hk.2.1⟩)⟩, ⟨by (with_reducible repeat (first | refine blk_drewN ?_ _ | refine blk_drew ?_ | refine blk_alloc ?_ _)); exact BK101.out⟩, ⟨by (with_reducible repeat (first | refine blk_drewN ?_ _ | refine blk_drew ?_ | refine blk_alloc ?_ _)); exact BK115.out⟩, ⟨by (with_reducible repeat (first | refine blk_drewN ?_ _ | refine blk_drew ?_ | refine blk_alloc ?_ _)); exact BK120.out⟩, ⟨by (with_reducible repeat (first | refine blk_drewN ?_ _ | refine blk_drew ?_ | refine blk_alloc ?_ _)); exact BK129.out⟩, ⟨by repeat (first | (with_reducible first | exact HB.out | apply below_alloc | apply pw_below_drewN | apply below_drew1 | refine below_set ?_ GE101.out | refine below_set ?_ GE115.out | refine below_set ?_ GE120.out | refine below_set ?_ GE129.out) | exact HB.out)⟩⟩
      case rest =>
       clear HC75
       try clear c1
       try clear c2
       try clear p2
       try clear c3
       try clear c4
       try clear c4b0
       try clear c5
       try clear c6
       try clear c7
       try clear c8
       try clear c9
       try clear c10
       try clear c11
       try clear c15
       try clear c21
       try clear c22
       try clear c23
       try clear c25
       try clear c27
       try clear c28
       try clear c32
       try clear c33
       try clear c34
       try clear c35
       try clear c36
       try clear c39
       try clear c41
       try clear c42
       try clear c43
       try clear c44
       try clear c46
       try clear c47
       try clear c52
       try clear c53
       try clear c54
       try clear c56
       try clear c57
       try clear c62
       try clear c63
       try clear c64
       try clear c66
       try clear c67
       try clear c70
       try clear c73
       try clear c80
       try clear c81
       try clear c82
       try clear c85
       try clear c85b0
       try clear c87
       try clear c89
       try clear c90
       try clear c91
       try clear c92
       try clear c94
       try clear c95
       try clear c100
       try clear c101
       try clear c102
       try clear c104
       try clear c105
       try clear c110
       try clear c111
       try clear c112
       try clear c114
       try clear c115
       try clear hcz103_0
       try clear hcz103_1
       try clear hcz106_0
       try clear hcz106_1
       try clear hcz113_0
       try clear hcz113_1
       try clear hcz116_0
       try clear hcz116_1
       try clear hcz14_0
       try clear hcz14_1
       try clear hcz16_0
       try clear hcz16_1
       try clear hcz22_0
       try clear hcz22_1
       try clear hcz24_0
       try clear hcz24_1
       try clear hcz29_0
       try clear hcz29_1
       try clear hcz36_0
       try clear hcz36_1
       try clear hcz45_0
       try clear hcz45_1
       try clear hcz48_0
       try clear hcz48_1
       try clear hcz55_0
       try clear hcz55_1
       try clear hcz58_0
       try clear hcz58_1
       try clear hcz65_0
       try clear hcz65_1
       try clear hcz68_0
       try clear hcz68_1
       try clear hcz6_0
       try clear hcz6_1
       try clear hcz83_0
       try clear hcz83_1
       try clear hcz93_0
       try clear hcz93_1
       try clear hcz96_0
       try clear hcz96_1
       try clear hfz103_0
       try clear hfz103_1
       try clear hfz106_0
       try clear hfz106_1
       try clear hfz113_0
       try clear hfz113_1
       try clear hfz116_0
       try clear hfz116_1
       try clear hfz14_0
       try clear hfz14_1
       try clear hfz16_0
       try clear hfz16_1
       try clear hfz22_0
       try clear hfz22_1
       try clear hfz24_0
       try clear hfz24_1
       try clear hfz29_0
       try clear hfz29_1
       try clear hfz36_0
       try clear hfz36_1
       try clear hfz45_0
       try clear hfz45_1
       try clear hfz48_0
       try clear hfz48_1
       try clear hfz55_0
       try clear hfz55_1
       try clear hfz58_0
       try clear hfz58_1
       try clear hfz65_0
       try clear hfz65_1
       try clear hfz68_0
       try clear hfz68_1
       try clear hfz6_0
       try clear hfz6_1
       try clear hfz83_0
       try clear hfz83_1
       try clear hfz93_0
       try clear hfz93_1
       try clear hfz96_0
       try clear hfz96_1
       try clear p2
       obtain ⟨kq, x82_74, rfl, HA, HJ74, HO_7, HO_11, HO_116001, HO_121001, HO_130001, BK101, BK115, BK120, BK129, HB⟩ := hcut
       have hl121001_74 := (Kd.R_reads' HO_121001.out).1
       rw [hl121001_74] at HO_121001
       (try simp only [hl121001_74])
       (try simp only [hl121001_74] at BK101)
       (try simp only [hl121001_74] at BK115)
       (try simp only [hl121001_74] at BK120)
       (try simp only [hl121001_74] at BK129)
       (try simp only [hl121001_74] at HO_7)
       (try simp only [hl121001_74] at HO_11)
       (try simp only [hl121001_74] at HO_116001)
       (try simp only [hl121001_74] at HO_130001)
       cases kq with
       | zero => exact absurd HA.out (by simp [laws_FnExactClockTick.j1])
       | succ kj74 =>
        have H := HA.out
        clear HA
        simp only [laws_FnExactClockTick.j1] at H
        by_cases c118 : x82_74 = true
        ·
         subst c118
         rw [if_pos rfl] at H
         obtain rfl := Option.some.inj H
         go_wp2
         go_ret
         exact ⟨ze, by repeat (first | (with_reducible first | exact HB.out | apply below_alloc | apply pw_below_drewN | apply below_drew1 | refine below_set ?_ GE101.out | refine below_set ?_ GE115.out | refine below_set ?_ GE120.out | refine below_set ?_ GE129.out) | exact HB.out)⟩
        ·
         replace c118 := Bool.eq_false_iff.mpr c118
         subst c118
         rw [if_neg nf_] at H
         replace H := Option.bind_eq_some_iff.mp H
         obtain ⟨⟨t141, t142⟩, A1190, H⟩ := H
         replace H : ((laws_markIntS.f kj74 t125 t141).bind fun bt143 => ((laws_heldClock.f kj74 t121 t142 1).bind fun t145 => (if t145 < 0 then (some false) else ((laws_heldIntS.f kj74 bt143.2 t145).bind fun t146 => (if t146 < 0 then (some false) else (if t146 = bt143.1 then ((laws_toClock.f kj74 a0_0 l0_1).bind fun bt147 => ((impl_ClockTick.f kj74 bt147.1 bt147.2 a1).bind fun bt151 => ((laws_eqClock.f kj74 bt151.1 bt151.2.1 t107 t108).bind fun t160 => (if t160 = true then ((laws_eqIntS.f kj74 bt151.2.2.1 t111).bind fun t161 => (if t161 = true then (laws_FnExactClockTick.j2 kj74 bt143.2 bt143.1 (bt151.2.2.2 != t114) t121 t142) else (laws_FnExactClockTick.j2 kj74 bt143.2 bt143.1 true t121 t142))) else (laws_FnExactClockTick.j2 kj74 bt143.2 bt143.1 true t121 t142))))) else (some false))))))) = some r := H
         have A119 := Aside0.mk A1190
         clear A1190
         replace H := Option.bind_eq_some_iff.mp H
         obtain ⟨⟨t143, t144⟩, A1200, H⟩ := H
         replace H : ((laws_heldClock.f kj74 t121 t142 1).bind fun t145 => (if t145 < 0 then (some false) else ((laws_heldIntS.f kj74 t144 t145).bind fun t146 => (if t146 < 0 then (some false) else (if t146 = t143 then ((laws_toClock.f kj74 a0_0 l0_1).bind fun bt147 => ((impl_ClockTick.f kj74 bt147.1 bt147.2 a1).bind fun bt151 => ((laws_eqClock.f kj74 bt151.1 bt151.2.1 t107 t108).bind fun t160 => (if t160 = true then ((laws_eqIntS.f kj74 bt151.2.2.1 t111).bind fun t161 => (if t161 = true then (laws_FnExactClockTick.j2 kj74 t144 t143 (bt151.2.2.2 != t114) t121 t142) else (laws_FnExactClockTick.j2 kj74 t144 t143 true t121 t142))) else (laws_FnExactClockTick.j2 kj74 t144 t143 true t121 t142))))) else (some false)))))) = some r := H
         have A120 := Aside0.mk A1200
         clear A1200
         replace H := Option.bind_eq_some_iff.mp H
         obtain ⟨t145, A1210, H⟩ := H
         have A121 := Aside0.mk A1210
         clear A1210
         by_cases c122 : t145 < 0
         ·
          rw [if_pos c122] at H
          have c122b0 : decide (t145 < 0) = true := decide_eq_true c122
          clear c122
          obtain rfl := Option.some.inj H
          have hnb123 := NB129_101.out
          have hnc123 := NB101_129.out
          have hnb124 := NB129_115.out
          have hnc124 := NB115_129.out
          have hnb125 := NB129_120.out
          have hnc125 := NB120_129.out
          have hcz126_0 : wc.cell? ⟨gb129, 0, none⟩ = some (.int .i64 t121) := (blk_cell BK129.out 0).trans rfl
          have hcz126_1 : wc.cell? ⟨gb129, 1, none⟩ = some (.slice Ao37 t122.length co37) := (blk_cell BK129.out 1).trans rfl
          have hfz126_0 := blk_frozen BK129.out 0
          have hfz126_1 := blk_frozen BK129.out 1
          go_wp2_with (first | ((with_reducible refine gate_callee (f := 23) rfl ?_); refine goesL_ (some 85) rfl rfl Try.func23 zk rfl #[.agg #[.int .i64 t121, .slice Ao37 t122.length co37], .int .i64 1] rfl zm ?_; (with_reducible refine (laws_markClock.calls kj74 t121 (fun k_ => some k_ = (.slice Ao37 t122.length co37 : Value).ownBlock) (.slice Ao37 t122.length co37) t122 1 t141 t142 w _ ?side1 ?side2 A119.out).mono ?_); (case side1 => repeat (first | (with_reducible first | exact HB.out | apply below_alloc | apply pw_below_drewN | apply below_drew1 | refine below_set ?_ GE101.out | refine below_set ?_ GE115.out | refine below_set ?_ GE120.out | refine below_set ?_ GE129.out) | exact HB.out)); (case side2 => exact Kd.R_tight rfl HO_130001.out); rintro e w127 ⟨rfl, hy0, hb, hkp⟩; refine ⟨_, rfl, ?_⟩; replace HO_7 := Aside0.mk (Kd.R_mono (ok' := fun k_ => some k_ ≠ (v126 : Value).ownBlock) (Kd.R_keptB ((Kd.R_apart' HO_7.out (Kd.R_typed HO_130001.out) (by decide))) hkp (fun k_ hk_ hs_ => (hk_.2) hs_)) (fun k_ hk_ => hk_.1.1)); replace HO_11 := Aside0.mk (Kd.R_mono (ok' := fun k_ => some k_ ≠ (v112 : Value).ownBlock) (Kd.R_keptB ((Kd.R_apart' HO_11.out (Kd.R_typed HO_130001.out) (by decide))) hkp (fun k_ hk_ hs_ => (hk_.2) hs_)) (fun k_ hk_ => hk_.1.1)); replace HO_116001 := Aside0.mk (Kd.R_mono (ok' := fun k_ => some k_ ≠ (.slice Ao30 t138.length co30 : Value).ownBlock ∧ some k_ ≠ (.slice Ao37 t122.length co37 : Value).ownBlock) (Kd.R_keptB (HO_116001.out) hkp (fun k_ hk_ hs_ => (hk_.2) hs_)) (fun k_ hk_ => ⟨hk_.1.1, hk_.1.2⟩)); replace HO_121001 := Aside0.mk (Kd.R_mono (ok' := fun k_ => some k_ ≠ (.slice Ao23 t108.length co23 : Value).ownBlock ∧ some k_ ≠ (.slice Ao37 t122.length co37 : Value).ownBlock) (Kd.R_keptB (HO_121001.out) hkp (fun k_ hk_ hs_ => (hk_.2) hs_)) (fun k_ hk_ => ⟨hk_.1.1, hk_.1.2⟩)); replace BK101 := Aside0.mk (blk_kept (kz BK101.out) hkp (fun hs_ => (fun e_ => (Kd.R_ne HO_130001.out BK101.out (by decide)) e_) hs_)); replace BK115 := Aside0.mk (blk_kept (kz BK115.out) hkp (fun hs_ => (fun e_ => (Kd.R_ne HO_130001.out BK115.out (by decide)) e_) hs_)); replace BK120 := Aside0.mk (blk_kept (kz BK120.out) hkp (fun hs_ => (fun e_ => (Kd.R_ne HO_130001.out BK120.out (by decide)) e_) hs_)); replace BK129 := Aside0.mk (blk_kept (kz BK129.out) hkp (fun hs_ => (fun e_ => (Kd.R_ne HO_130001.out BK129.out (by decide)) e_) hs_)); replace HO_130001 := Aside0.mk (Kd.R_reok rfl hy0 (fun k_ e_ => HO_130001.out.1 k_ e_)); replace HB := Aside0.mk (hb); (try clear hb); (try clear hkp); (try clear hy0); obtain ⟨Ao128, co128, eo128⟩ := Kd.R_slice HO_11.out; subst eo128) | ((with_reducible refine gate_callee (f := 41) rfl ?_); refine goesL_ (some 88) rfl rfl Try.func41 zk rfl #[.slice Ao128 t125.length co128, .int .i64 t141] rfl zm ?_; (with_reducible refine (laws_markIntS.calls kj74 (fun k_ => some k_ = (.slice Ao128 t125.length co128 : Value).ownBlock) (.slice Ao128 t125.length co128) t125 t141 t143 t144 w _ ?side1 ?side2 A120.out).mono ?_); (case side1 => repeat (first | (with_reducible first | exact HB.out | apply below_alloc | apply pw_below_drewN | apply below_drew1 | refine below_set ?_ GE101.out | refine below_set ?_ GE115.out | refine below_set ?_ GE120.out | refine below_set ?_ GE129.out) | exact HB.out)); (case side2 => exact Kd.R_tight rfl HO_11.out); rintro e w129 ⟨rfl, hy0, hb, hkp⟩; refine ⟨_, rfl, ?_⟩; replace HO_7 := Aside0.mk (Kd.R_mono (ok' := fun k_ => some k_ ≠ (.slice Ao128 t125.length co128 : Value).ownBlock) (Kd.R_keptB (HO_7.out) hkp (fun k_ hk_ hs_ => (hk_) hs_)) (fun k_ hk_ => hk_.1)); replace HO_116001 := Aside0.mk (Kd.R_mono (ok' := fun k_ => some k_ ≠ (.slice Ao30 t138.length co30 : Value).ownBlock ∧ some k_ ≠ (.slice Ao37 t122.length co37 : Value).ownBlock) (Kd.R_keptB ((Kd.R_apart' HO_116001.out (Kd.R_typed HO_11.out) (by decide))) hkp (fun k_ hk_ hs_ => (hk_.2) hs_)) (fun k_ hk_ => ⟨hk_.1.1.1, hk_.1.1.2⟩)); replace HO_121001 := Aside0.mk (Kd.R_mono (ok' := fun k_ => some k_ ≠ (.slice Ao23 t108.length co23 : Value).ownBlock ∧ some k_ ≠ (.slice Ao37 t122.length co37 : Value).ownBlock) (Kd.R_keptB ((Kd.R_apart' HO_121001.out (Kd.R_typed HO_11.out) (by decide))) hkp (fun k_ hk_ hs_ => (hk_.2) hs_)) (fun k_ hk_ => ⟨hk_.1.1.1, hk_.1.1.2⟩)); replace HO_130001 := Aside0.mk (Kd.R_mono (ok' := fun k_ => some k_ ≠ (.slice Ao23 t108.length co23 : Value).ownBlock ∧ some k_ ≠ (.slice Ao30 t138.length co30 : Value).ownBlock) (Kd.R_keptB ((Kd.R_apart' HO_130001.out (Kd.R_typed HO_11.out) (by decide))) hkp (fun k_ hk_ hs_ => (hk_.2) hs_)) (fun k_ hk_ => ⟨hk_.1.1.1, hk_.1.1.2⟩)); replace BK101 := Aside0.mk (blk_kept (kz BK101.out) hkp (fun hs_ => (fun e_ => (Kd.R_ne HO_11.out BK101.out (by decide)) e_) hs_)); replace BK115 := Aside0.mk (blk_kept (kz BK115.out) hkp (fun hs_ => (fun e_ => (Kd.R_ne HO_11.out BK115.out (by decide)) e_) hs_)); replace BK120 := Aside0.mk (blk_kept (kz BK120.out) hkp (fun hs_ => (fun e_ => (Kd.R_ne HO_11.out BK120.out (by decide)) e_) hs_)); replace BK129 := Aside0.mk (blk_kept (kz BK129.out) hkp (fun hs_ => (fun e_ => (Kd.R_ne HO_11.out BK129.out (by decide)) e_) hs_)); replace HO_11 := Aside0.mk (Kd.R_reok rfl hy0 (fun k_ e_ => HO_11.out.1 k_ e_)); replace HB := Aside0.mk (hb); (try clear hb); (try clear hkp); (try clear hy0); have hcz130_0 : w129.cell? ⟨gb129, 0, none⟩ = some (.int .i64 t121) := (blk_cell BK129.out 0).trans rfl; have hcz130_1 : w129.cell? ⟨gb129, 1, none⟩ = some (.slice Ao37 t122.length co37) := (blk_cell BK129.out 1).trans rfl; have hfz130_0 := blk_frozen BK129.out 0; have hfz130_1 := blk_frozen BK129.out 1) | ((with_reducible refine gate_callee (f := 24) rfl ?_); refine goesL_ (some 91) rfl rfl Try.func24 zk rfl #[.agg #[.int .i64 t121, .slice Ao37 t142.length co37], .int .i64 1] rfl (by (try simp only [List.map_toArray, List.map_cons, List.map_nil]); first | done | (rw [show t142.length = t122.length from (Kd.R_reads' HO_130001.out).1.symm] <;> rfl) | rfl | (simp only [List.length_drop, List.length_take]; rfl)) ?_; (with_reducible refine (laws_heldClock.calls kj74 t121 _ _ t142 1 t145 _ ?side1 ?side2 A121.out).mono ?_); (case side1 => exact cz ((Kd.R_reads' HO_130001.out).2.2)); (case side2 => rw [show t142.length = t122.length from (Kd.R_reads' HO_130001.out).1.symm]; exact (Kd.R_reads' HO_130001.out).2.1); rintro e w131 ⟨rfl, hb⟩; refine ⟨_, rfl, ?_⟩; replace HO_7 := Aside0.mk (Kd.R_below (rz HO_7.out) hb); replace HO_11 := Aside0.mk (Kd.R_below (rz HO_11.out) hb); replace HO_116001 := Aside0.mk (Kd.R_below (rz HO_116001.out) hb); replace HO_121001 := Aside0.mk (Kd.R_below (rz HO_121001.out) hb); replace HO_130001 := Aside0.mk (Kd.R_below (rz HO_130001.out) hb); replace BK101 := Aside0.mk (blk_below (g := gb101) (o := .cells #[.int .i64 a0_0, .slice A0_1 l0_1.length c0_1] 38 (0, 0)) (kz BK101.out) hb); replace BK115 := Aside0.mk (blk_below (g := gb115) (o := .cells #[.int .i64 t107, .slice Ao23 t108.length co23] 26 (0, 0)) (kz BK115.out) hb); replace BK120 := Aside0.mk (blk_below (g := gb120) (o := .cells #[.int .i64 t116, .slice Ao30 t138.length co30] 26 (0, 0)) (kz BK120.out) hb); replace BK129 := Aside0.mk (blk_below (g := gb129) (o := .cells #[.int .i64 t121, .slice Ao37 t122.length co37] 26 (0, 0)) (kz BK129.out) hb); replace HB := Aside0.mk (below_step (by repeat (first | (with_reducible first | exact HB.out | apply below_alloc | apply pw_below_drewN | apply below_drew1 | refine below_set ?_ GE101.out | refine below_set ?_ GE115.out | refine below_set ?_ GE120.out | refine below_set ?_ GE129.out) | exact HB.out)) hb); (try clear hb)))
          go_ret
          exact ⟨ze, by repeat (first | (with_reducible first | exact HB.out | apply below_alloc | apply pw_below_drewN | apply below_drew1 | refine below_set ?_ GE101.out | refine below_set ?_ GE115.out | refine below_set ?_ GE120.out | refine below_set ?_ GE129.out) | exact HB.out)⟩
         ·
          rw [if_neg c122] at H
          have c122b0 : decide (t145 < 0) = false := decide_eq_false c122
          clear c122
          replace H := Option.bind_eq_some_iff.mp H
          obtain ⟨t146, A1320, H⟩ := H
          have A132 := Aside0.mk A1320
          clear A1320
          by_cases c133 : t146 < 0
          ·
           rw [if_pos c133] at H
           have c133b0 : decide (t146 < 0) = true := decide_eq_true c133
           clear c133
           obtain rfl := Option.some.inj H
           have hnb134 := NB129_101.out
           have hnc134 := NB101_129.out
           have hnb135 := NB129_115.out
           have hnc135 := NB115_129.out
           have hnb136 := NB129_120.out
           have hnc136 := NB120_129.out
           have hcz137_0 : wc.cell? ⟨gb129, 0, none⟩ = some (.int .i64 t121) := (blk_cell BK129.out 0).trans rfl
           have hcz137_1 : wc.cell? ⟨gb129, 1, none⟩ = some (.slice Ao37 t122.length co37) := (blk_cell BK129.out 1).trans rfl
           have hfz137_0 := blk_frozen BK129.out 0
           have hfz137_1 := blk_frozen BK129.out 1
           go_wp2_with (first | ((with_reducible refine gate_callee (f := 23) rfl ?_); refine goesL_ (some 85) rfl rfl Try.func23 zk rfl #[.agg #[.int .i64 t121, .slice Ao37 t122.length co37], .int .i64 1] rfl zm ?_; (with_reducible refine (laws_markClock.calls kj74 t121 (fun k_ => some k_ = (.slice Ao37 t122.length co37 : Value).ownBlock) (.slice Ao37 t122.length co37) t122 1 t141 t142 w _ ?side1 ?side2 A119.out).mono ?_); (case side1 => repeat (first | (with_reducible first | exact HB.out | apply below_alloc | apply pw_below_drewN | apply below_drew1 | refine below_set ?_ GE101.out | refine below_set ?_ GE115.out | refine below_set ?_ GE120.out | refine below_set ?_ GE129.out) | exact HB.out)); (case side2 => exact Kd.R_tight rfl HO_130001.out); rintro e w138 ⟨rfl, hy0, hb, hkp⟩; refine ⟨_, rfl, ?_⟩; replace HO_7 := Aside0.mk (Kd.R_mono (ok' := fun k_ => some k_ ≠ (v126 : Value).ownBlock) (Kd.R_keptB ((Kd.R_apart' HO_7.out (Kd.R_typed HO_130001.out) (by decide))) hkp (fun k_ hk_ hs_ => (hk_.2) hs_)) (fun k_ hk_ => hk_.1.1)); replace HO_11 := Aside0.mk (Kd.R_mono (ok' := fun k_ => some k_ ≠ (v112 : Value).ownBlock) (Kd.R_keptB ((Kd.R_apart' HO_11.out (Kd.R_typed HO_130001.out) (by decide))) hkp (fun k_ hk_ hs_ => (hk_.2) hs_)) (fun k_ hk_ => hk_.1.1)); replace HO_116001 := Aside0.mk (Kd.R_mono (ok' := fun k_ => some k_ ≠ (.slice Ao30 t138.length co30 : Value).ownBlock ∧ some k_ ≠ (.slice Ao37 t122.length co37 : Value).ownBlock) (Kd.R_keptB (HO_116001.out) hkp (fun k_ hk_ hs_ => (hk_.2) hs_)) (fun k_ hk_ => ⟨hk_.1.1, hk_.1.2⟩)); replace HO_121001 := Aside0.mk (Kd.R_mono (ok' := fun k_ => some k_ ≠ (.slice Ao23 t108.length co23 : Value).ownBlock ∧ some k_ ≠ (.slice Ao37 t122.length co37 : Value).ownBlock) (Kd.R_keptB (HO_121001.out) hkp (fun k_ hk_ hs_ => (hk_.2) hs_)) (fun k_ hk_ => ⟨hk_.1.1, hk_.1.2⟩)); replace BK101 := Aside0.mk (blk_kept (kz BK101.out) hkp (fun hs_ => (fun e_ => (Kd.R_ne HO_130001.out BK101.out (by decide)) e_) hs_)); replace BK115 := Aside0.mk (blk_kept (kz BK115.out) hkp (fun hs_ => (fun e_ => (Kd.R_ne HO_130001.out BK115.out (by decide)) e_) hs_)); replace BK120 := Aside0.mk (blk_kept (kz BK120.out) hkp (fun hs_ => (fun e_ => (Kd.R_ne HO_130001.out BK120.out (by decide)) e_) hs_)); replace BK129 := Aside0.mk (blk_kept (kz BK129.out) hkp (fun hs_ => (fun e_ => (Kd.R_ne HO_130001.out BK129.out (by decide)) e_) hs_)); replace HO_130001 := Aside0.mk (Kd.R_reok rfl hy0 (fun k_ e_ => HO_130001.out.1 k_ e_)); replace HB := Aside0.mk (hb); (try clear hb); (try clear hkp); (try clear hy0); obtain ⟨Ao139, co139, eo139⟩ := Kd.R_slice HO_11.out; subst eo139) | ((with_reducible refine gate_callee (f := 41) rfl ?_); refine goesL_ (some 88) rfl rfl Try.func41 zk rfl #[.slice Ao139 t125.length co139, .int .i64 t141] rfl zm ?_; (with_reducible refine (laws_markIntS.calls kj74 (fun k_ => some k_ = (.slice Ao139 t125.length co139 : Value).ownBlock) (.slice Ao139 t125.length co139) t125 t141 t143 t144 w _ ?side1 ?side2 A120.out).mono ?_); (case side1 => repeat (first | (with_reducible first | exact HB.out | apply below_alloc | apply pw_below_drewN | apply below_drew1 | refine below_set ?_ GE101.out | refine below_set ?_ GE115.out | refine below_set ?_ GE120.out | refine below_set ?_ GE129.out) | exact HB.out)); (case side2 => exact Kd.R_tight rfl HO_11.out); rintro e w140 ⟨rfl, hy0, hb, hkp⟩; refine ⟨_, rfl, ?_⟩; replace HO_7 := Aside0.mk (Kd.R_mono (ok' := fun k_ => some k_ ≠ (.slice Ao139 t125.length co139 : Value).ownBlock) (Kd.R_keptB (HO_7.out) hkp (fun k_ hk_ hs_ => (hk_) hs_)) (fun k_ hk_ => hk_.1)); replace HO_116001 := Aside0.mk (Kd.R_mono (ok' := fun k_ => some k_ ≠ (.slice Ao30 t138.length co30 : Value).ownBlock ∧ some k_ ≠ (.slice Ao37 t122.length co37 : Value).ownBlock) (Kd.R_keptB ((Kd.R_apart' HO_116001.out (Kd.R_typed HO_11.out) (by decide))) hkp (fun k_ hk_ hs_ => (hk_.2) hs_)) (fun k_ hk_ => ⟨hk_.1.1.1, hk_.1.1.2⟩)); replace HO_121001 := Aside0.mk (Kd.R_mono (ok' := fun k_ => some k_ ≠ (.slice Ao23 t108.length co23 : Value).ownBlock ∧ some k_ ≠ (.slice Ao37 t122.length co37 : Value).ownBlock) (Kd.R_keptB ((Kd.R_apart' HO_121001.out (Kd.R_typed HO_11.out) (by decide))) hkp (fun k_ hk_ hs_ => (hk_.2) hs_)) (fun k_ hk_ => ⟨hk_.1.1.1, hk_.1.1.2⟩)); replace HO_130001 := Aside0.mk (Kd.R_mono (ok' := fun k_ => some k_ ≠ (.slice Ao23 t108.length co23 : Value).ownBlock ∧ some k_ ≠ (.slice Ao30 t138.length co30 : Value).ownBlock) (Kd.R_keptB ((Kd.R_apart' HO_130001.out (Kd.R_typed HO_11.out) (by decide))) hkp (fun k_ hk_ hs_ => (hk_.2) hs_)) (fun k_ hk_ => ⟨hk_.1.1.1, hk_.1.1.2⟩)); replace BK101 := Aside0.mk (blk_kept (kz BK101.out) hkp (fun hs_ => (fun e_ => (Kd.R_ne HO_11.out BK101.out (by decide)) e_) hs_)); replace BK115 := Aside0.mk (blk_kept (kz BK115.out) hkp (fun hs_ => (fun e_ => (Kd.R_ne HO_11.out BK115.out (by decide)) e_) hs_)); replace BK120 := Aside0.mk (blk_kept (kz BK120.out) hkp (fun hs_ => (fun e_ => (Kd.R_ne HO_11.out BK120.out (by decide)) e_) hs_)); replace BK129 := Aside0.mk (blk_kept (kz BK129.out) hkp (fun hs_ => (fun e_ => (Kd.R_ne HO_11.out BK129.out (by decide)) e_) hs_)); replace HO_11 := Aside0.mk (Kd.R_reok rfl hy0 (fun k_ e_ => HO_11.out.1 k_ e_)); replace HB := Aside0.mk (hb); (try clear hb); (try clear hkp); (try clear hy0); have hcz141_0 : w140.cell? ⟨gb129, 0, none⟩ = some (.int .i64 t121) := (blk_cell BK129.out 0).trans rfl; have hcz141_1 : w140.cell? ⟨gb129, 1, none⟩ = some (.slice Ao37 t122.length co37) := (blk_cell BK129.out 1).trans rfl; have hfz141_0 := blk_frozen BK129.out 0; have hfz141_1 := blk_frozen BK129.out 1) | ((with_reducible refine gate_callee (f := 24) rfl ?_); refine goesL_ (some 91) rfl rfl Try.func24 zk rfl #[.agg #[.int .i64 t121, .slice Ao37 t142.length co37], .int .i64 1] rfl (by (try simp only [List.map_toArray, List.map_cons, List.map_nil]); first | done | (rw [show t142.length = t122.length from (Kd.R_reads' HO_130001.out).1.symm] <;> rfl) | rfl | (simp only [List.length_drop, List.length_take]; rfl)) ?_; (with_reducible refine (laws_heldClock.calls kj74 t121 _ _ t142 1 t145 _ ?side1 ?side2 A121.out).mono ?_); (case side1 => exact cz ((Kd.R_reads' HO_130001.out).2.2)); (case side2 => rw [show t142.length = t122.length from (Kd.R_reads' HO_130001.out).1.symm]; exact (Kd.R_reads' HO_130001.out).2.1); rintro e w142 ⟨rfl, hb⟩; refine ⟨_, rfl, ?_⟩; replace HO_7 := Aside0.mk (Kd.R_below (rz HO_7.out) hb); replace HO_11 := Aside0.mk (Kd.R_below (rz HO_11.out) hb); replace HO_116001 := Aside0.mk (Kd.R_below (rz HO_116001.out) hb); replace HO_121001 := Aside0.mk (Kd.R_below (rz HO_121001.out) hb); replace HO_130001 := Aside0.mk (Kd.R_below (rz HO_130001.out) hb); replace BK101 := Aside0.mk (blk_below (g := gb101) (o := .cells #[.int .i64 a0_0, .slice A0_1 l0_1.length c0_1] 38 (0, 0)) (kz BK101.out) hb); replace BK115 := Aside0.mk (blk_below (g := gb115) (o := .cells #[.int .i64 t107, .slice Ao23 t108.length co23] 26 (0, 0)) (kz BK115.out) hb); replace BK120 := Aside0.mk (blk_below (g := gb120) (o := .cells #[.int .i64 t116, .slice Ao30 t138.length co30] 26 (0, 0)) (kz BK120.out) hb); replace BK129 := Aside0.mk (blk_below (g := gb129) (o := .cells #[.int .i64 t121, .slice Ao37 t122.length co37] 26 (0, 0)) (kz BK129.out) hb); replace HB := Aside0.mk (below_step (by repeat (first | (with_reducible first | exact HB.out | apply below_alloc | apply pw_below_drewN | apply below_drew1 | refine below_set ?_ GE101.out | refine below_set ?_ GE115.out | refine below_set ?_ GE120.out | refine below_set ?_ GE129.out) | exact HB.out)) hb); (try clear hb)) | ((with_reducible refine gate_callee (f := 42) rfl ?_); refine goesL_ (some 96) rfl rfl Try.func42 zk rfl #[.slice Ao139 t144.length co139, .int .i64 t145] rfl (by (try simp only [List.map_toArray, List.map_cons, List.map_nil]); first | done | (rw [show t144.length = t125.length from (Kd.R_reads' HO_11.out).1.symm] <;> rfl) | rfl | (simp only [List.length_drop, List.length_take]; rfl)) ?_; (with_reducible refine (laws_heldIntS.calls kj74 _ _ t144 t145 t146 _ ?side1 ?side2 A132.out).mono ?_); (case side1 => exact cz ((Kd.R_reads' HO_11.out).2.2)); (case side2 => rw [show t144.length = t125.length from (Kd.R_reads' HO_11.out).1.symm]; exact (Kd.R_reads' HO_11.out).2.1); rintro e w' ⟨rfl, ⟨nd, rfl⟩⟩; refine ⟨_, rfl, ?_⟩))
           go_ret
           exact ⟨ze, by repeat (first | (with_reducible first | exact HB.out | apply below_alloc | apply pw_below_drewN | apply below_drew1 | refine below_set ?_ GE101.out | refine below_set ?_ GE115.out | refine below_set ?_ GE120.out | refine below_set ?_ GE129.out) | exact HB.out)⟩
          ·
           rw [if_neg c133] at H
           have c133b0 : decide (t146 < 0) = false := decide_eq_false c133
           clear c133
           by_cases c143 : t146 = t143
           ·
            rw [if_pos c143] at H
            have c143b0 : (t146 == t143) = true := beq_iff_eq.mpr c143
            have c143b1 : (t146 != t143) = false := bne_eq_false_iff_eq.mpr c143
            clear c143
            replace H := Option.bind_eq_some_iff.mp H
            obtain ⟨⟨t147, t148⟩, A1440, H⟩ := H
            replace H : ((impl_ClockTick.f kj74 t147 t148 a1).bind fun bt151 => ((laws_eqClock.f kj74 bt151.1 bt151.2.1 t107 t108).bind fun t160 => (if t160 = true then ((laws_eqIntS.f kj74 bt151.2.2.1 t111).bind fun t161 => (if t161 = true then (laws_FnExactClockTick.j2 kj74 t144 t143 (bt151.2.2.2 != t114) t121 t142) else (laws_FnExactClockTick.j2 kj74 t144 t143 true t121 t142))) else (laws_FnExactClockTick.j2 kj74 t144 t143 true t121 t142)))) = some r := H
            have A144 := Aside0.mk A1440
            clear A1440
            replace H := Option.bind_eq_some_iff.mp H
            obtain ⟨⟨t151, t152, t155, t158⟩, A1450, H⟩ := H
            replace H : ((laws_eqClock.f kj74 t151 t152 t107 t108).bind fun t160 => (if t160 = true then ((laws_eqIntS.f kj74 t155 t111).bind fun t161 => (if t161 = true then (laws_FnExactClockTick.j2 kj74 t144 t143 (t158 != t114) t121 t142) else (laws_FnExactClockTick.j2 kj74 t144 t143 true t121 t142))) else (laws_FnExactClockTick.j2 kj74 t144 t143 true t121 t142))) = some r := H
            have A145 := Aside0.mk A1450
            clear A1450
            have HC146 := Aside0.mk H
            clear H
            have hnb147 := NB129_101.out
            have hnc147 := NB101_129.out
            have hnb148 := NB129_115.out
            have hnc148 := NB115_129.out
            have hnb149 := NB129_120.out
            have hnc149 := NB120_129.out
            have hcz150_0 : wc.cell? ⟨gb129, 0, none⟩ = some (.int .i64 t121) := (blk_cell BK129.out 0).trans rfl
            have hcz150_1 : wc.cell? ⟨gb129, 1, none⟩ = some (.slice Ao37 t122.length co37) := (blk_cell BK129.out 1).trans rfl
            have hfz150_0 := blk_frozen BK129.out 0
            have hfz150_1 := blk_frozen BK129.out 1
            go_upto_region 29 with (first | ((with_reducible refine gate_callee (f := 23) rfl ?_); refine goesL_ (some 85) rfl rfl Try.func23 zk rfl #[.agg #[.int .i64 t121, .slice Ao37 t122.length co37], .int .i64 1] rfl zm ?_; (with_reducible refine (laws_markClock.calls kj74 t121 (fun k_ => some k_ = (.slice Ao37 t122.length co37 : Value).ownBlock) (.slice Ao37 t122.length co37) t122 1 t141 t142 w _ ?side1 ?side2 A119.out).mono ?_); (case side1 => repeat (first | (with_reducible first | exact HB.out | apply below_alloc | apply pw_below_drewN | apply below_drew1 | refine below_set ?_ GE101.out | refine below_set ?_ GE115.out | refine below_set ?_ GE120.out | refine below_set ?_ GE129.out) | exact HB.out)); (case side2 => exact Kd.R_tight rfl HO_130001.out); rintro e w151 ⟨rfl, hy0, hb, hkp⟩; refine ⟨_, rfl, ?_⟩; replace HO_7 := Aside0.mk (Kd.R_mono (ok' := fun k_ => some k_ ≠ (v126 : Value).ownBlock) (Kd.R_keptB ((Kd.R_apart' HO_7.out (Kd.R_typed HO_130001.out) (by decide))) hkp (fun k_ hk_ hs_ => (hk_.2) hs_)) (fun k_ hk_ => hk_.1.1)); replace HO_11 := Aside0.mk (Kd.R_mono (ok' := fun k_ => some k_ ≠ (v112 : Value).ownBlock) (Kd.R_keptB ((Kd.R_apart' HO_11.out (Kd.R_typed HO_130001.out) (by decide))) hkp (fun k_ hk_ hs_ => (hk_.2) hs_)) (fun k_ hk_ => hk_.1.1)); replace HO_116001 := Aside0.mk (Kd.R_mono (ok' := fun k_ => some k_ ≠ (.slice Ao30 t138.length co30 : Value).ownBlock ∧ some k_ ≠ (.slice Ao37 t122.length co37 : Value).ownBlock) (Kd.R_keptB (HO_116001.out) hkp (fun k_ hk_ hs_ => (hk_.2) hs_)) (fun k_ hk_ => ⟨hk_.1.1, hk_.1.2⟩)); replace HO_121001 := Aside0.mk (Kd.R_mono (ok' := fun k_ => some k_ ≠ (.slice Ao23 t108.length co23 : Value).ownBlock ∧ some k_ ≠ (.slice Ao37 t122.length co37 : Value).ownBlock) (Kd.R_keptB (HO_121001.out) hkp (fun k_ hk_ hs_ => (hk_.2) hs_)) (fun k_ hk_ => ⟨hk_.1.1, hk_.1.2⟩)); replace BK101 := Aside0.mk (blk_kept (kz BK101.out) hkp (fun hs_ => (fun e_ => (Kd.R_ne HO_130001.out BK101.out (by decide)) e_) hs_)); replace BK115 := Aside0.mk (blk_kept (kz BK115.out) hkp (fun hs_ => (fun e_ => (Kd.R_ne HO_130001.out BK115.out (by decide)) e_) hs_)); replace BK120 := Aside0.mk (blk_kept (kz BK120.out) hkp (fun hs_ => (fun e_ => (Kd.R_ne HO_130001.out BK120.out (by decide)) e_) hs_)); replace BK129 := Aside0.mk (blk_kept (kz BK129.out) hkp (fun hs_ => (fun e_ => (Kd.R_ne HO_130001.out BK129.out (by decide)) e_) hs_)); replace HO_130001 := Aside0.mk (Kd.R_reok rfl hy0 (fun k_ e_ => HO_130001.out.1 k_ e_)); replace HB := Aside0.mk (hb); (try clear hb); (try clear hkp); (try clear hy0); obtain ⟨Ao152, co152, eo152⟩ := Kd.R_slice HO_11.out; subst eo152) | ((with_reducible refine gate_callee (f := 41) rfl ?_); refine goesL_ (some 88) rfl rfl Try.func41 zk rfl #[.slice Ao152 t125.length co152, .int .i64 t141] rfl zm ?_; (with_reducible refine (laws_markIntS.calls kj74 (fun k_ => some k_ = (.slice Ao152 t125.length co152 : Value).ownBlock) (.slice Ao152 t125.length co152) t125 t141 t143 t144 w _ ?side1 ?side2 A120.out).mono ?_); (case side1 => repeat (first | (with_reducible first | exact HB.out | apply below_alloc | apply pw_below_drewN | apply below_drew1 | refine below_set ?_ GE101.out | refine below_set ?_ GE115.out | refine below_set ?_ GE120.out | refine below_set ?_ GE129.out) | exact HB.out)); (case side2 => exact Kd.R_tight rfl HO_11.out); rintro e w153 ⟨rfl, hy0, hb, hkp⟩; refine ⟨_, rfl, ?_⟩; replace HO_7 := Aside0.mk (Kd.R_mono (ok' := fun k_ => some k_ ≠ (.slice Ao152 t125.length co152 : Value).ownBlock) (Kd.R_keptB (HO_7.out) hkp (fun k_ hk_ hs_ => (hk_) hs_)) (fun k_ hk_ => hk_.1)); replace HO_116001 := Aside0.mk (Kd.R_mono (ok' := fun k_ => some k_ ≠ (.slice Ao30 t138.length co30 : Value).ownBlock ∧ some k_ ≠ (.slice Ao37 t122.length co37 : Value).ownBlock) (Kd.R_keptB ((Kd.R_apart' HO_116001.out (Kd.R_typed HO_11.out) (by decide))) hkp (fun k_ hk_ hs_ => (hk_.2) hs_)) (fun k_ hk_ => ⟨hk_.1.1.1, hk_.1.1.2⟩)); replace HO_121001 := Aside0.mk (Kd.R_mono (ok' := fun k_ => some k_ ≠ (.slice Ao23 t108.length co23 : Value).ownBlock ∧ some k_ ≠ (.slice Ao37 t122.length co37 : Value).ownBlock) (Kd.R_keptB ((Kd.R_apart' HO_121001.out (Kd.R_typed HO_11.out) (by decide))) hkp (fun k_ hk_ hs_ => (hk_.2) hs_)) (fun k_ hk_ => ⟨hk_.1.1.1, hk_.1.1.2⟩)); replace HO_130001 := Aside0.mk (Kd.R_mono (ok' := fun k_ => some k_ ≠ (.slice Ao23 t108.length co23 : Value).ownBlock ∧ some k_ ≠ (.slice Ao30 t138.length co30 : Value).ownBlock) (Kd.R_keptB ((Kd.R_apart' HO_130001.out (Kd.R_typed HO_11.out) (by decide))) hkp (fun k_ hk_ hs_ => (hk_.2) hs_)) (fun k_ hk_ => ⟨hk_.1.1.1, hk_.1.1.2⟩)); replace BK101 := Aside0.mk (blk_kept (kz BK101.out) hkp (fun hs_ => (fun e_ => (Kd.R_ne HO_11.out BK101.out (by decide)) e_) hs_)); replace BK115 := Aside0.mk (blk_kept (kz BK115.out) hkp (fun hs_ => (fun e_ => (Kd.R_ne HO_11.out BK115.out (by decide)) e_) hs_)); replace BK120 := Aside0.mk (blk_kept (kz BK120.out) hkp (fun hs_ => (fun e_ => (Kd.R_ne HO_11.out BK120.out (by decide)) e_) hs_)); replace BK129 := Aside0.mk (blk_kept (kz BK129.out) hkp (fun hs_ => (fun e_ => (Kd.R_ne HO_11.out BK129.out (by decide)) e_) hs_)); replace HO_11 := Aside0.mk (Kd.R_reok rfl hy0 (fun k_ e_ => HO_11.out.1 k_ e_)); replace HB := Aside0.mk (hb); (try clear hb); (try clear hkp); (try clear hy0); have hcz154_0 : w153.cell? ⟨gb129, 0, none⟩ = some (.int .i64 t121) := (blk_cell BK129.out 0).trans rfl; have hcz154_1 : w153.cell? ⟨gb129, 1, none⟩ = some (.slice Ao37 t122.length co37) := (blk_cell BK129.out 1).trans rfl; have hfz154_0 := blk_frozen BK129.out 0; have hfz154_1 := blk_frozen BK129.out 1) | ((with_reducible refine gate_callee (f := 24) rfl ?_); refine goesL_ (some 91) rfl rfl Try.func24 zk rfl #[.agg #[.int .i64 t121, .slice Ao37 t142.length co37], .int .i64 1] rfl (by (try simp only [List.map_toArray, List.map_cons, List.map_nil]); first | done | (rw [show t142.length = t122.length from (Kd.R_reads' HO_130001.out).1.symm] <;> rfl) | rfl | (simp only [List.length_drop, List.length_take]; rfl)) ?_; (with_reducible refine (laws_heldClock.calls kj74 t121 _ _ t142 1 t145 _ ?side1 ?side2 A121.out).mono ?_); (case side1 => exact cz ((Kd.R_reads' HO_130001.out).2.2)); (case side2 => rw [show t142.length = t122.length from (Kd.R_reads' HO_130001.out).1.symm]; exact (Kd.R_reads' HO_130001.out).2.1); rintro e w155 ⟨rfl, hb⟩; refine ⟨_, rfl, ?_⟩; replace HO_7 := Aside0.mk (Kd.R_below (rz HO_7.out) hb); replace HO_11 := Aside0.mk (Kd.R_below (rz HO_11.out) hb); replace HO_116001 := Aside0.mk (Kd.R_below (rz HO_116001.out) hb); replace HO_121001 := Aside0.mk (Kd.R_below (rz HO_121001.out) hb); replace HO_130001 := Aside0.mk (Kd.R_below (rz HO_130001.out) hb); replace BK101 := Aside0.mk (blk_below (g := gb101) (o := .cells #[.int .i64 a0_0, .slice A0_1 l0_1.length c0_1] 38 (0, 0)) (kz BK101.out) hb); replace BK115 := Aside0.mk (blk_below (g := gb115) (o := .cells #[.int .i64 t107, .slice Ao23 t108.length co23] 26 (0, 0)) (kz BK115.out) hb); replace BK120 := Aside0.mk (blk_below (g := gb120) (o := .cells #[.int .i64 t116, .slice Ao30 t138.length co30] 26 (0, 0)) (kz BK120.out) hb); replace BK129 := Aside0.mk (blk_below (g := gb129) (o := .cells #[.int .i64 t121, .slice Ao37 t122.length co37] 26 (0, 0)) (kz BK129.out) hb); replace HB := Aside0.mk (below_step (by repeat (first | (with_reducible first | exact HB.out | apply below_alloc | apply pw_below_drewN | apply below_drew1 | refine below_set ?_ GE101.out | refine below_set ?_ GE115.out | refine below_set ?_ GE120.out | refine below_set ?_ GE129.out) | exact HB.out)) hb); (try clear hb)) | ((with_reducible refine gate_callee (f := 42) rfl ?_); refine goesL_ (some 96) rfl rfl Try.func42 zk rfl #[.slice Ao152 t144.length co152, .int .i64 t145] rfl (by (try simp only [List.map_toArray, List.map_cons, List.map_nil]); first | done | (rw [show t144.length = t125.length from (Kd.R_reads' HO_11.out).1.symm] <;> rfl) | rfl | (simp only [List.length_drop, List.length_take]; rfl)) ?_; (with_reducible refine (laws_heldIntS.calls kj74 _ _ t144 t145 t146 _ ?side1 ?side2 A132.out).mono ?_); (case side1 => exact cz ((Kd.R_reads' HO_11.out).2.2)); (case side2 => rw [show t144.length = t125.length from (Kd.R_reads' HO_11.out).1.symm]; exact (Kd.R_reads' HO_11.out).2.1); rintro e w' ⟨rfl, ⟨nd, rfl⟩⟩; refine ⟨_, rfl, ?_⟩; (try (rw [drewN_self w155]; generalize hq_ : World.drewN w155 _ = w155; have n0_ : Aside0 (Kd.R (Kd.int .i64) 3 w155 w.heap.size (fun k_ => some k_ ≠ (v112 : Value).ownBlock) (.slice Ao152 t125.length co152) t144) := ⟨by rw [← hq_]; exact (rz HO_11.out)⟩; have n1_ : Aside0 (Kd.R k62 62 w155 w.heap.size (fun k_ => some k_ ≠ (.slice Ao30 t138.length co30 : Value).ownBlock ∧ some k_ ≠ (.slice Ao37 t122.length co37 : Value).ownBlock) (.slice Ao23 t108.length co23) t108) := ⟨by rw [← hq_]; exact (rz HO_116001.out)⟩; have n2_ : Aside0 (Kd.R k62 62 w155 w.heap.size (fun k_ => some k_ ≠ (.slice Ao23 t108.length co23 : Value).ownBlock ∧ some k_ ≠ (.slice Ao37 t122.length co37 : Value).ownBlock) (.slice Ao30 t138.length co30) t138) := ⟨by rw [← hq_]; exact (rz HO_121001.out)⟩; have n3_ : Aside0 (Kd.R k62 62 w155 w.heap.size (fun k_ => some k_ ≠ (.slice Ao23 t108.length co23 : Value).ownBlock ∧ some k_ ≠ (.slice Ao30 t138.length co30 : Value).ownBlock) (.slice Ao37 t122.length co37) t142) := ⟨by rw [← hq_]; exact (rz HO_130001.out)⟩; have n4_ : Aside0 (Kd.R (Kd.int .i64) 3 w155 w.heap.size (fun k_ => some k_ ≠ (.slice Ao152 t125.length co152 : Value).ownBlock) v112 t111) := ⟨by rw [← hq_]; exact (rz HO_7.out)⟩; have n5_ : Aside0 (w155.heap[gb101]? = some (.cells #[.int .i64 a0_0, .slice A0_1 l0_1.length c0_1] 38 (0, 0))) := ⟨by rw [← hq_]; exact (kz BK101.out)⟩; have n6_ : Aside0 (w155.heap[gb115]? = some (.cells #[.int .i64 t107, .slice Ao23 t108.length co23] 26 (0, 0))) := ⟨by rw [← hq_]; exact (kz BK115.out)⟩; have n7_ : Aside0 (w155.heap[gb120]? = some (.cells #[.int .i64 t116, .slice Ao30 t138.length co30] 26 (0, 0))) := ⟨by rw [← hq_]; exact (kz BK120.out)⟩; have n8_ : Aside0 (w155.heap[gb129]? = some (.cells #[.int .i64 t121, .slice Ao37 t122.length co37] 26 (0, 0))) := ⟨by rw [← hq_]; exact (kz BK129.out)⟩; have n9_ : Aside0 (Below w.heap.size w w155) := ⟨by rw [← hq_]; exact (by repeat (first | (with_reducible first | exact HB.out | apply below_alloc | apply pw_below_drewN | apply below_drew1 | refine below_set ?_ GE101.out | refine below_set ?_ GE115.out | refine below_set ?_ GE120.out | refine below_set ?_ GE129.out) | exact HB.out))⟩; clear HO_11 HO_116001 HO_121001 HO_130001 HO_7 BK101 BK115 BK120 BK129 HB hq_; have HO_11 := n0_; have HO_116001 := n1_; have HO_121001 := n2_; have HO_130001 := n3_; have HO_7 := n4_; have BK101 := n5_; have BK115 := n6_; have BK120 := n7_; have BK129 := n8_; have HB := n9_; clear n0_ n1_ n2_ n3_ n4_ n5_ n6_ n7_ n8_ n9_)); have hnb156 := NB101_115.out; have hnc156 := NB115_101.out; have hnb157 := NB101_120.out; have hnc157 := NB120_101.out; have hcz158_0 : w155.cell? ⟨gb101, 0, none⟩ = some (.int .i64 a0_0) := (blk_cell BK101.out 0).trans rfl; have hcz158_1 : w155.cell? ⟨gb101, 1, none⟩ = some (.slice A0_1 l0_1.length c0_1) := (blk_cell BK101.out 1).trans rfl; have hfz158_0 := blk_frozen BK101.out 0; have hfz158_1 := blk_frozen BK101.out 1) | ((with_reducible refine gate_callee (f := 27) rfl ?_); refine goesL_ (some 104) rfl rfl Try.func27 zk rfl #[.agg #[.int .i64 a0_0, .slice A0_1 l0_1.length c0_1]] rfl zm ?_; (with_reducible refine (laws_toClock.calls kj74 a0_0 _ _ l0_1 t147 t148 _ ?side1 ?side2 A144.out).mono ?_); (case side1 => exact cz (Kd.C_below HR0_1.out HB.out)); (case side2 => exact HC0_1.out); rintro e w159 ⟨v149, rfl, ho0, hb⟩; refine ⟨_, rfl, ?_⟩; replace HO_7 := Aside0.mk (Kd.R_below (rz HO_7.out) hb); replace HO_11 := Aside0.mk (Kd.R_below (rz HO_11.out) hb); have HO150 := Aside0.mk (Kd.R_lower (Kd.R_new' (Kd.R_new' (Kd.R_new' ho0 (Kd.R_lt (rz HO_116001.out))) (Kd.R_lt (rz HO_121001.out))) (Kd.R_lt (rz HO_130001.out))) (below_size (by repeat (first | (with_reducible first | exact HB.out | apply below_alloc | apply pw_below_drewN | apply below_drew1 | refine below_set ?_ GE101.out | refine below_set ?_ GE115.out | refine below_set ?_ GE120.out | refine below_set ?_ GE129.out) | exact HB.out)))); replace HO_116001 := Aside0.mk (Kd.R_elder' (rz HO_116001.out) (Kd.R_base ho0) hb); replace HO_121001 := Aside0.mk (Kd.R_elder' (rz HO_121001.out) (Kd.R_base ho0) hb); replace HO_130001 := Aside0.mk (Kd.R_elder' (rz HO_130001.out) (Kd.R_base ho0) hb); replace BK101 := Aside0.mk (blk_below (g := gb101) (o := .cells #[.int .i64 a0_0, .slice A0_1 l0_1.length c0_1] 38 (0, 0)) (kz BK101.out) hb); replace BK115 := Aside0.mk (blk_below (g := gb115) (o := .cells #[.int .i64 t107, .slice Ao23 t108.length co23] 26 (0, 0)) (kz BK115.out) hb); replace BK120 := Aside0.mk (blk_below (g := gb120) (o := .cells #[.int .i64 t116, .slice Ao30 t138.length co30] 26 (0, 0)) (kz BK120.out) hb); replace BK129 := Aside0.mk (blk_below (g := gb129) (o := .cells #[.int .i64 t121, .slice Ao37 t122.length co37] 26 (0, 0)) (kz BK129.out) hb); replace HB := Aside0.mk (below_step (by repeat (first | (with_reducible first | exact HB.out | apply below_alloc | apply pw_below_drewN | apply below_drew1 | refine below_set ?_ GE101.out | refine below_set ?_ GE115.out | refine below_set ?_ GE120.out | refine below_set ?_ GE129.out) | exact HB.out)) hb); (try clear hb); (try clear ho0); obtain ⟨Ao160, co160, eo160⟩ := Kd.R_slice HO150.out; subst eo160) | ((with_reducible refine gate_callee (f := 32) rfl ?_); refine goesL_ (some 106) rfl rfl Try.func32 zk rfl #[.agg #[.int .i64 t147, .slice Ao160 t148.length co160], .int .i64 a1] rfl zm ?_; (with_reducible refine (impl_ClockTick.calls kj74 t147 _ _ t148 a1 t151 t152 t155 t158 _ ?side1 ?side2 A145.out).mono ?_); (case side1 => exact cz ((Kd.R_reads' HO150.out).2.2)); (case side2 => exact (Kd.R_reads' HO150.out).2.1); rintro e w161 ⟨v153, v156, rfl, ho0, ho1, hb⟩; refine ⟨_, rfl, ?_⟩; have HO154 := Aside0.mk (Kd.R_lower (Kd.R_new' (Kd.R_new' (Kd.R_new' (Kd.R_new' ho0 (Kd.R_lt (rz HO_116001.out))) (Kd.R_lt (rz HO_121001.out))) (Kd.R_lt (rz HO_130001.out))) (Kd.R_lt (rz HO150.out))) (below_size (by repeat (first | (with_reducible first | exact HB.out | apply below_alloc | apply pw_below_drewN | apply below_drew1 | refine below_set ?_ GE101.out | refine below_set ?_ GE115.out | refine below_set ?_ GE120.out | refine below_set ?_ GE129.out) | exact HB.out)))); replace HO_116001 := Aside0.mk (Kd.R_elder' (rz HO_116001.out) (Kd.R_base ho0) hb); replace HO_121001 := Aside0.mk (Kd.R_elder' (rz HO_121001.out) (Kd.R_base ho0) hb); replace HO_130001 := Aside0.mk (Kd.R_elder' (rz HO_130001.out) (Kd.R_base ho0) hb); replace HO150 := Aside0.mk (Kd.R_elder' (rz HO150.out) (Kd.R_base ho0) hb); have HO157 := Aside0.mk (Kd.R_lower (Kd.R_new' (Kd.R_new' ho1 (Kd.R_lt (rz HO_7.out))) (Kd.R_lt (rz HO_11.out))) (below_size (by repeat (first | (with_reducible first | exact HB.out | apply below_alloc | apply pw_below_drewN | apply below_drew1 | refine below_set ?_ GE101.out | refine below_set ?_ GE115.out | refine below_set ?_ GE120.out | refine below_set ?_ GE129.out) | exact HB.out)))); replace HO_7 := Aside0.mk (Kd.R_elder' (rz HO_7.out) (Kd.R_base ho1) hb); replace HO_11 := Aside0.mk (Kd.R_elder' (rz HO_11.out) (Kd.R_base ho1) hb); replace BK101 := Aside0.mk (blk_below (g := gb101) (o := .cells #[.int .i64 a0_0, .slice A0_1 l0_1.length c0_1] 38 (0, 0)) (kz BK101.out) hb); replace BK115 := Aside0.mk (blk_below (g := gb115) (o := .cells #[.int .i64 t107, .slice Ao23 t108.length co23] 26 (0, 0)) (kz BK115.out) hb); replace BK120 := Aside0.mk (blk_below (g := gb120) (o := .cells #[.int .i64 t116, .slice Ao30 t138.length co30] 26 (0, 0)) (kz BK120.out) hb); replace BK129 := Aside0.mk (blk_below (g := gb129) (o := .cells #[.int .i64 t121, .slice Ao37 t122.length co37] 26 (0, 0)) (kz BK129.out) hb); replace HB := Aside0.mk (below_step (by repeat (first | (with_reducible first | exact HB.out | apply below_alloc | apply pw_below_drewN | apply below_drew1 | refine below_set ?_ GE101.out | refine below_set ?_ GE115.out | refine below_set ?_ GE120.out | refine below_set ?_ GE129.out) | exact HB.out)) hb); (try clear hb); (try clear ho0); (try clear ho1)) | ((with_reducible refine gate_dst (N := 16) rfl ?_); refine box_event ?hg (N := 16) ?hd (cs := #[.int .i64 0, .slice none 0 0]) (t := 26) ?hr ?_; (case hd => rfl); (case hg => rfl); (case hr => first | (go_simp; done) | (go_simp; rfl)); intro gb159 hg w162 hbox hb; replace HO_7 := Aside0.mk (Kd.R_below (rz HO_7.out) hb); replace HO_11 := Aside0.mk (Kd.R_below (rz HO_11.out) hb); replace HO_116001 := Aside0.mk (Kd.R_below (rz HO_116001.out) hb); replace HO_121001 := Aside0.mk (Kd.R_below (rz HO_121001.out) hb); replace HO_130001 := Aside0.mk (Kd.R_below (rz HO_130001.out) hb); replace HO150 := Aside0.mk (Kd.R_below (rz HO150.out) hb); replace HO154 := Aside0.mk (Kd.R_below (rz HO154.out) hb); replace HO157 := Aside0.mk (Kd.R_below (rz HO157.out) hb); have BK159 := Aside0.mk (hbox); have GW159 := Aside0.mk ((by rw [hg]; exact (below_size (by repeat (first | (with_reducible first | exact HB.out | apply below_alloc | apply pw_below_drewN | apply below_drew1 | refine below_set ?_ GE101.out | refine below_set ?_ GE115.out | refine below_set ?_ GE120.out | refine below_set ?_ GE129.out) | exact HB.out))) : w.heap.size ≤ gb159)); have GE159 := Aside0.mk ((by rw [hg]; exact (below_size (by repeat (first | (with_reducible first | exact HB.out | apply below_alloc | apply pw_below_drewN | apply below_drew1 | refine below_set ?_ GE101.out | refine below_set ?_ GE115.out | refine below_set ?_ GE120.out | refine below_set ?_ GE129.out) | exact HB.out))) : w.heap.size ≤ gb159)); replace HB := Aside0.mk (below_step (by repeat (first | (with_reducible first | exact HB.out | apply below_alloc | apply pw_below_drewN | apply below_drew1 | refine below_set ?_ GE101.out | refine below_set ?_ GE115.out | refine below_set ?_ GE120.out | refine below_set ?_ GE129.out) | exact HB.out)) hb); have NB101_159 := Aside0.mk ((by rw [hg]; exact Nat.ne_of_lt (blk_lt (g := gb101) (o := .cells #[.int .i64 a0_0, .slice A0_1 l0_1.length c0_1] 38 (0, 0)) (kz BK101.out)) : gb101 ≠ gb159)); have NB159_101 := Aside0.mk ((by rw [hg]; exact Nat.ne_of_gt (blk_lt (g := gb101) (o := .cells #[.int .i64 a0_0, .slice A0_1 l0_1.length c0_1] 38 (0, 0)) (kz BK101.out)) : gb159 ≠ gb101)); replace BK101 := Aside0.mk (blk_below (g := gb101) (o := .cells #[.int .i64 a0_0, .slice A0_1 l0_1.length c0_1] 38 (0, 0)) (kz BK101.out) hb); have NB115_159 := Aside0.mk ((by rw [hg]; exact Nat.ne_of_lt (blk_lt (g := gb115) (o := .cells #[.int .i64 t107, .slice Ao23 t108.length co23] 26 (0, 0)) (kz BK115.out)) : gb115 ≠ gb159)); have NB159_115 := Aside0.mk ((by rw [hg]; exact Nat.ne_of_gt (blk_lt (g := gb115) (o := .cells #[.int .i64 t107, .slice Ao23 t108.length co23] 26 (0, 0)) (kz BK115.out)) : gb159 ≠ gb115)); replace BK115 := Aside0.mk (blk_below (g := gb115) (o := .cells #[.int .i64 t107, .slice Ao23 t108.length co23] 26 (0, 0)) (kz BK115.out) hb); have NB120_159 := Aside0.mk ((by rw [hg]; exact Nat.ne_of_lt (blk_lt (g := gb120) (o := .cells #[.int .i64 t116, .slice Ao30 t138.length co30] 26 (0, 0)) (kz BK120.out)) : gb120 ≠ gb159)); have NB159_120 := Aside0.mk ((by rw [hg]; exact Nat.ne_of_gt (blk_lt (g := gb120) (o := .cells #[.int .i64 t116, .slice Ao30 t138.length co30] 26 (0, 0)) (kz BK120.out)) : gb159 ≠ gb120)); replace BK120 := Aside0.mk (blk_below (g := gb120) (o := .cells #[.int .i64 t116, .slice Ao30 t138.length co30] 26 (0, 0)) (kz BK120.out) hb); have NB129_159 := Aside0.mk ((by rw [hg]; exact Nat.ne_of_lt (blk_lt (g := gb129) (o := .cells #[.int .i64 t121, .slice Ao37 t122.length co37] 26 (0, 0)) (kz BK129.out)) : gb129 ≠ gb159)); have NB159_129 := Aside0.mk ((by rw [hg]; exact Nat.ne_of_gt (blk_lt (g := gb129) (o := .cells #[.int .i64 t121, .slice Ao37 t122.length co37] 26 (0, 0)) (kz BK129.out)) : gb159 ≠ gb129)); replace BK129 := Aside0.mk (blk_below (g := gb129) (o := .cells #[.int .i64 t121, .slice Ao37 t122.length co37] 26 (0, 0)) (kz BK129.out) hb); clear hb hbox hg; have hnb163 := NB159_101.out; have hnc163 := NB101_159.out; have hnb164 := NB159_115.out; have hnc164 := NB115_159.out; have hnb165 := NB159_120.out; have hnc165 := NB120_159.out; have hnb166 := NB159_129.out; have hnc166 := NB129_159.out; have hcz167_0 : w162.cell? ⟨gb159, 0, none⟩ = some (.int .i64 0) := (blk_cell BK159.out 0).trans rfl; have hcz167_1 : w162.cell? ⟨gb159, 1, none⟩ = some (.slice none 0 0) := (blk_cell BK159.out 1).trans rfl; have hfz167_0 := blk_frozen BK159.out 0; have hfz167_1 := blk_frozen BK159.out 1; obtain ⟨Ao168, co168, eo168⟩ := Kd.R_slice HO154.out; subst eo168))
            (try simp only [Act.put, List.setIfInBounds_toArray, List.set_cons_zero, List.set_cons_succ])
            go_cut [124] (fun v124 wc => ∃ (kq : Nat) (x124_145 : Bool), v124 = .bool x124_145 ∧ Aside0 (laws_FnExactClockTick.j2 kq t144 t143 x124_145 t121 t142 = some r) ∧ Aside0 (kq ≤ kj74) ∧ Aside0 (Kd.R (Kd.int .i64) 3 wc w.heap.size (fun _ => True) (.slice Ao152 t125.length co152) t144) ∧ Aside0 (Kd.R k62 62 wc w.heap.size (fun k_ => some k_ ≠ ((.slice Ao30 t138.length co30) : Value).ownBlock ∧ some k_ ≠ ((.slice Ao37 t122.length co37) : Value).ownBlock ∧ some k_ ≠ ((.slice Ao168 t152.length co168) : Value).ownBlock) (.slice Ao23 t108.length co23) t108) ∧ Aside0 (Kd.R k62 62 wc w.heap.size (fun k_ => some k_ ≠ ((.slice Ao23 t108.length co23) : Value).ownBlock ∧ some k_ ≠ ((.slice Ao37 t122.length co37) : Value).ownBlock ∧ some k_ ≠ ((.slice Ao168 t152.length co168) : Value).ownBlock) (.slice Ao30 t138.length co30) t138) ∧ Aside0 (Kd.R k62 62 wc w.heap.size (fun k_ => some k_ ≠ ((.slice Ao23 t108.length co23) : Value).ownBlock ∧ some k_ ≠ ((.slice Ao30 t138.length co30) : Value).ownBlock ∧ some k_ ≠ ((.slice Ao168 t152.length co168) : Value).ownBlock) (.slice Ao37 t122.length co37) t142) ∧ Aside0 (Kd.R k62 62 wc w.heap.size (fun k_ => some k_ ≠ ((.slice Ao23 t108.length co23) : Value).ownBlock ∧ some k_ ≠ ((.slice Ao30 t138.length co30) : Value).ownBlock ∧ some k_ ≠ ((.slice Ao37 t122.length co37) : Value).ownBlock) (.slice Ao168 t152.length co168) t152) ∧ Aside0 (wc.heap[gb101]? = some (.cells #[.int .i64 a0_0, (.slice A0_1 l0_1.length c0_1)] 38 (0, 0))) ∧ Aside0 (wc.heap[gb115]? = some (.cells #[.int .i64 t107, (.slice Ao23 t108.length co23)] 26 (0, 0))) ∧ Aside0 (wc.heap[gb120]? = some (.cells #[.int .i64 t116, (.slice Ao30 t138.length co30)] 26 (0, 0))) ∧ Aside0 (wc.heap[gb129]? = some (.cells #[.int .i64 t121, (.slice Ao37 t122.length co37)] 26 (0, 0))) ∧ Aside0 (wc.heap[gb159]? = some (.cells #[.int .i64 t151, (.slice Ao168 t152.length co168)] 26 (0, 0))) ∧ Aside0 (Below w.heap.size w wc))
            case first =>
             have H := HC146.out
             clear HC146
             replace H := Option.bind_eq_some_iff.mp H
             obtain ⟨t160, A1690, H⟩ := H
             have A169 := Aside0.mk A1690
             clear A1690
             by_cases c170 : t160 = true
             ·
              subst c170
              rw [if_pos rfl] at H
              replace H := Option.bind_eq_some_iff.mp H
              obtain ⟨t161, A1710, H⟩ := H
              have A171 := Aside0.mk A1710
              clear A1710
              by_cases c172 : t161 = true
              ·
               subst c172
               rw [if_pos rfl] at H
               have H' := Aside0.mk H
               clear H
               have hnb173 := NB159_101.out
               have hnc173 := NB101_159.out
               have hnb174 := NB159_115.out
               have hnc174 := NB115_159.out
               have hnb175 := NB159_120.out
               have hnc175 := NB120_159.out
               have hnb176 := NB159_129.out
               have hnc176 := NB129_159.out
               have hcz177_0 : w162.cell? ⟨gb159, 0, none⟩ = some (.int .i64 0) := (blk_cell BK159.out 0).trans rfl
               have hcz177_1 : w162.cell? ⟨gb159, 1, none⟩ = some (.slice none 0 0) := (blk_cell BK159.out 1).trans rfl
               have hfz177_0 := blk_frozen BK159.out 0
               have hfz177_1 := blk_frozen BK159.out 1
               have hnb178 := NB115_101.out
               have hnc178 := NB101_115.out
               have hnb179 := NB115_120.out
               have hnc179 := NB120_115.out
               have hnb180 := NB115_129.out
               have hnc180 := NB129_115.out
               have hcz181_0 : w162.cell? ⟨gb115, 0, none⟩ = some (.int .i64 t107) := (blk_cell BK115.out 0).trans rfl
               have hcz181_1 : w162.cell? ⟨gb115, 1, none⟩ = some (.slice Ao23 t108.length co23) := (blk_cell BK115.out 1).trans rfl
               have hfz181_0 := blk_frozen BK115.out 0
               have hfz181_1 := blk_frozen BK115.out 1
               go_wp2_with (first | ((with_reducible refine gate_callee (f := 22) rfl ?_); refine goesL_ (some 112) rfl rfl Try.func22 zk rfl #[.agg #[.int .i64 t151, .slice Ao168 t152.length co168], .agg #[.int .i64 t107, .slice Ao23 t108.length co23]] rfl zm ?_; (with_reducible refine (laws_eqClock.calls kj74 t151 _ _ t152 t107 _ _ t108 true _ ?side1 ?side2 ?side3 ?side4 A169.out).mono ?_); (case side1 => refine (Kd.R_reads' (e := 62) (base := w.heap.size) (ok := fun k_ => ((((True ∧ some k_ ≠ (.slice Ao23 t108.length co23 : Value).ownBlock) ∧ some k_ ≠ (.slice Ao30 t138.length co30 : Value).ownBlock) ∧ some k_ ≠ (.slice Ao37 t122.length co37 : Value).ownBlock) ∧ some k_ ≠ (.slice Ao160 t148.length co160 : Value).ownBlock)) (n := t152.length) (c := co168) ?_).2.2; exact (by (with_reducible repeat (first | apply Kd.R_alloc | apply Kd.R_drewN | apply Kd.R_drew)); exact (Kd.R_mono (Kd.R_far (p := ⟨gb159, 1, none⟩) (Kd.R_far (p := ⟨gb159, 0, none⟩) (Kd.R_types HO154.out BK159.out (by decide)) (fun _ hk => hk.2) (.int .i64 t151)) (fun _ hk => hk.2) (.slice Ao168 t152.length co168)) (fun _ h_ => h_.1)))); (case side2 => exact (Kd.R_reads' HO154.out).2.1); (case side3 => refine (Kd.R_reads' (e := 62) (base := w.heap.size) (ok := fun k_ => (((some k_ ≠ (.slice Ao30 t138.length co30 : Value).ownBlock ∧ some k_ ≠ (.slice Ao37 t122.length co37 : Value).ownBlock) ∧ some k_ ≠ (.slice Ao160 t148.length co160 : Value).ownBlock) ∧ some k_ ≠ (.slice Ao168 t152.length co168 : Value).ownBlock)) (n := t108.length) (c := co23) ?_).2.2; exact (by (with_reducible repeat (first | apply Kd.R_alloc | apply Kd.R_drewN | apply Kd.R_drew)); exact (Kd.R_mono (Kd.R_far (p := ⟨gb159, 1, none⟩) (Kd.R_far (p := ⟨gb159, 0, none⟩) (Kd.R_types HO_116001.out BK159.out (by decide)) (fun _ hk => hk.2) (.int .i64 t151)) (fun _ hk => hk.2) (.slice Ao168 t152.length co168)) (fun _ h_ => h_.1)))); (case side4 => exact (Kd.R_reads' HO_116001.out).2.1); rintro e w182 ⟨rfl, hb⟩; refine ⟨_, rfl, ?_⟩; replace HO_7 := Aside0.mk (Kd.R_below (by (with_reducible repeat (first | apply Kd.R_alloc | apply Kd.R_drewN | apply Kd.R_drew)); exact (Kd.R_mono (Kd.R_far (p := ⟨gb159, 1, none⟩) (Kd.R_far (p := ⟨gb159, 0, none⟩) (Kd.R_types HO_7.out BK159.out (by decide)) (fun _ hk => hk.2) (.int .i64 t151)) (fun _ hk => hk.2) (.slice Ao168 t152.length co168)) (fun _ h_ => h_.1))) hb); replace HO_11 := Aside0.mk (Kd.R_below (by (with_reducible repeat (first | apply Kd.R_alloc | apply Kd.R_drewN | apply Kd.R_drew)); exact (Kd.R_mono (Kd.R_far (p := ⟨gb159, 1, none⟩) (Kd.R_far (p := ⟨gb159, 0, none⟩) (Kd.R_types HO_11.out BK159.out (by decide)) (fun _ hk => hk.2) (.int .i64 t151)) (fun _ hk => hk.2) (.slice Ao168 t152.length co168)) (fun _ h_ => h_.1))) hb); replace HO_116001 := Aside0.mk (Kd.R_below (by (with_reducible repeat (first | apply Kd.R_alloc | apply Kd.R_drewN | apply Kd.R_drew)); exact (Kd.R_mono (Kd.R_far (p := ⟨gb159, 1, none⟩) (Kd.R_far (p := ⟨gb159, 0, none⟩) (Kd.R_types HO_116001.out BK159.out (by decide)) (fun _ hk => hk.2) (.int .i64 t151)) (fun _ hk => hk.2) (.slice Ao168 t152.length co168)) (fun _ h_ => h_.1))) hb); replace HO_121001 := Aside0.mk (Kd.R_below (by (with_reducible repeat (first | apply Kd.R_alloc | apply Kd.R_drewN | apply Kd.R_drew)); exact (Kd.R_mono (Kd.R_far (p := ⟨gb159, 1, none⟩) (Kd.R_far (p := ⟨gb159, 0, none⟩) (Kd.R_types HO_121001.out BK159.out (by decide)) (fun _ hk => hk.2) (.int .i64 t151)) (fun _ hk => hk.2) (.slice Ao168 t152.length co168)) (fun _ h_ => h_.1))) hb); replace HO_130001 := Aside0.mk (Kd.R_below (by (with_reducible repeat (first | apply Kd.R_alloc | apply Kd.R_drewN | apply Kd.R_drew)); exact (Kd.R_mono (Kd.R_far (p := ⟨gb159, 1, none⟩) (Kd.R_far (p := ⟨gb159, 0, none⟩) (Kd.R_types HO_130001.out BK159.out (by decide)) (fun _ hk => hk.2) (.int .i64 t151)) (fun _ hk => hk.2) (.slice Ao168 t152.length co168)) (fun _ h_ => h_.1))) hb); replace HO150 := Aside0.mk (Kd.R_below (by (with_reducible repeat (first | apply Kd.R_alloc | apply Kd.R_drewN | apply Kd.R_drew)); exact (Kd.R_mono (Kd.R_far (p := ⟨gb159, 1, none⟩) (Kd.R_far (p := ⟨gb159, 0, none⟩) (Kd.R_types HO150.out BK159.out (by decide)) (fun _ hk => hk.2) (.int .i64 t151)) (fun _ hk => hk.2) (.slice Ao168 t152.length co168)) (fun _ h_ => h_.1))) hb); replace HO154 := Aside0.mk (Kd.R_below (by (with_reducible repeat (first | apply Kd.R_alloc | apply Kd.R_drewN | apply Kd.R_drew)); exact (Kd.R_mono (Kd.R_far (p := ⟨gb159, 1, none⟩) (Kd.R_far (p := ⟨gb159, 0, none⟩) (Kd.R_types HO154.out BK159.out (by decide)) (fun _ hk => hk.2) (.int .i64 t151)) (fun _ hk => hk.2) (.slice Ao168 t152.length co168)) (fun _ h_ => h_.1))) hb); replace HO157 := Aside0.mk (Kd.R_below (by (with_reducible repeat (first | apply Kd.R_alloc | apply Kd.R_drewN | apply Kd.R_drew)); exact (Kd.R_mono (Kd.R_far (p := ⟨gb159, 1, none⟩) (Kd.R_far (p := ⟨gb159, 0, none⟩) (Kd.R_types HO157.out BK159.out (by decide)) (fun _ hk => hk.2) (.int .i64 t151)) (fun _ hk => hk.2) (.slice Ao168 t152.length co168)) (fun _ h_ => h_.1))) hb); replace BK101 := Aside0.mk (blk_below (g := gb101) (o := .cells #[.int .i64 a0_0, .slice A0_1 l0_1.length c0_1] 38 (0, 0)) (by (with_reducible repeat (first | refine blk_drewN ?_ _ | refine blk_drew ?_ | refine blk_alloc ?_ _)); refine blk_far ?_ NB101_159.out _; (with_reducible repeat (first | refine blk_drewN ?_ _ | refine blk_drew ?_ | refine blk_alloc ?_ _)); refine blk_far ?_ NB101_159.out _; (with_reducible repeat (first | refine blk_drewN ?_ _ | refine blk_drew ?_ | refine blk_alloc ?_ _)); exact BK101.out) hb); replace BK115 := Aside0.mk (blk_below (g := gb115) (o := .cells #[.int .i64 t107, .slice Ao23 t108.length co23] 26 (0, 0)) (by (with_reducible repeat (first | refine blk_drewN ?_ _ | refine blk_drew ?_ | refine blk_alloc ?_ _)); refine blk_far ?_ NB115_159.out _; (with_reducible repeat (first | refine blk_drewN ?_ _ | refine blk_drew ?_ | refine blk_alloc ?_ _)); refine blk_far ?_ NB115_159.out _; (with_reducible repeat (first | refine blk_drewN ?_ _ | refine blk_drew ?_ | refine blk_alloc ?_ _)); exact BK115.out) hb); replace BK120 := Aside0.mk (blk_below (g := gb120) (o := .cells #[.int .i64 t116, .slice Ao30 t138.length co30] 26 (0, 0)) (by (with_reducible repeat (first | refine blk_drewN ?_ _ | refine blk_drew ?_ | refine blk_alloc ?_ _)); refine blk_far ?_ NB120_159.out _; (with_reducible repeat (first | refine blk_drewN ?_ _ | refine blk_drew ?_ | refine blk_alloc ?_ _)); refine blk_far ?_ NB120_159.out _; (with_reducible repeat (first | refine blk_drewN ?_ _ | refine blk_drew ?_ | refine blk_alloc ?_ _)); exact BK120.out) hb); replace BK129 := Aside0.mk (blk_below (g := gb129) (o := .cells #[.int .i64 t121, .slice Ao37 t122.length co37] 26 (0, 0)) (by (with_reducible repeat (first | refine blk_drewN ?_ _ | refine blk_drew ?_ | refine blk_alloc ?_ _)); refine blk_far ?_ NB129_159.out _; (with_reducible repeat (first | refine blk_drewN ?_ _ | refine blk_drew ?_ | refine blk_alloc ?_ _)); refine blk_far ?_ NB129_159.out _; (with_reducible repeat (first | refine blk_drewN ?_ _ | refine blk_drew ?_ | refine blk_alloc ?_ _)); exact BK129.out) hb); replace BK159 := Aside0.mk (blk_below (g := gb159) (o := .cells #[.int .i64 t151, .slice Ao168 t152.length co168] 26 (0, 0)) (by (with_reducible repeat (first | refine blk_drewN ?_ _ | refine blk_drew ?_ | refine blk_alloc ?_ _)); refine blk_put (cs := #[.int .i64 t151, .slice none 0 0]) ?_ 1 _ rfl; (with_reducible repeat (first | refine blk_drewN ?_ _ | refine blk_drew ?_ | refine blk_alloc ?_ _)); refine blk_put (cs := #[.int .i64 0, .slice none 0 0]) ?_ 0 _ rfl; (with_reducible repeat (first | refine blk_drewN ?_ _ | refine blk_drew ?_ | refine blk_alloc ?_ _)); exact BK159.out) hb); replace HB := Aside0.mk (below_step (by repeat (first | (with_reducible first | exact HB.out | apply below_alloc | apply pw_below_drewN | apply below_drew1 | refine below_set ?_ GE101.out | refine below_set ?_ GE115.out | refine below_set ?_ GE120.out | refine below_set ?_ GE129.out | refine below_set ?_ GE159.out) | exact HB.out)) hb); (try clear hb); obtain ⟨Ao183, co183, eo183⟩ := Kd.R_slice HO157.out; subst eo183; obtain ⟨Ao184, co184, eo184⟩ := Kd.R_slice HO_7.out; subst eo184) | (go_at_call 40; (with_reducible refine (laws_eqIntS.calls kj74 _ _ t155 _ _ t111 true _ ?side1 ?side2 ?side3 ?side4 A171.out).mono ?_); (case side1 => exact cz ((Kd.R_reads' HO157.out).2.2)); (case side2 => exact (Kd.R_reads' HO157.out).2.1); (case side3 => exact cz ((Kd.R_reads' HO_7.out).2.2)); (case side4 => exact (Kd.R_reads' HO_7.out).2.1); rintro e w' ⟨rfl, ⟨nd, rfl⟩⟩))
               go_meet
               case rel => exact ⟨_, ((t158 != t114)), zr, H', ⟨by have := HJ11.out; have := HJ74.out; first | omega | exact Nat.le_refl _⟩, ⟨by (try simp only [hl121001_74]); (with_reducible repeat (first | apply Kd.R_alloc | apply Kd.R_drewN | apply Kd.R_drew)); exact Kd.R_mono HO_11.out (fun _ hk => trivial)⟩, ⟨by (try simp only [hl121001_74]); (with_reducible repeat (first | apply Kd.R_alloc | apply Kd.R_drewN | apply Kd.R_drew)); exact Kd.R_mono HO_116001.out (fun _ hk => ⟨hk.1.1.1, ⟨hk.1.1.2, hk.2⟩⟩)⟩, ⟨by (try simp only [hl121001_74]); (with_reducible repeat (first | apply Kd.R_alloc | apply Kd.R_drewN | apply Kd.R_drew)); exact Kd.R_mono HO_121001.out (fun _ hk => ⟨hk.1.1.1, ⟨hk.1.1.2, hk.2⟩⟩)⟩, ⟨by (try simp only [hl121001_74]); (with_reducible repeat (first | apply Kd.R_alloc | apply Kd.R_drewN | apply Kd.R_drew)); exact Kd.R_mono HO_130001.out (fun _ hk => ⟨hk.1.1.1, ⟨hk.1.1.2, hk.2⟩⟩)⟩, ⟨by (try simp only [hl121001_74]); (with_reducible repeat (first | apply Kd.R_alloc | apply Kd.R_drewN | apply Kd.R_drew)); exact Kd.R_mono HO154.out (fun _ hk => ⟨hk.1.1.1.2, ⟨hk.1.1.2, hk.1.2⟩⟩)⟩, ⟨by (try simp only [hl121001_74]); (with_reducible repeat (first | refine blk_drewN ?_ _ | refine blk_drew ?_ | refine blk_alloc ?_ _)); exact BK101.out⟩, ⟨by (try simp only [hl121001_74]); (with_reducible repeat (first | refine blk_drewN ?_ _ | refine blk_drew ?_ | refine blk_alloc ?_ _)); exact BK115.out⟩, ⟨by (try simp only [hl121001_74]); (with_reducible repeat (first | refine blk_drewN ?_ _ | refine blk_drew ?_ | refine blk_alloc ?_ _)); exact BK120.out⟩, ⟨by (try simp only [hl121001_74]); (with_reducible repeat (first | refine blk_drewN ?_ _ | refine blk_drew ?_ | refine blk_alloc ?_ _)); exact BK129.out⟩, ⟨by (try simp only [hl121001_74]); (with_reducible repeat (first | refine blk_drewN ?_ _ | refine blk_drew ?_ | refine blk_alloc ?_ _)); exact BK159.out⟩, ⟨by repeat (first | (with_reducible first | exact HB.out | apply below_alloc | apply pw_below_drewN | apply below_drew1 | refine below_set ?_ GE101.out | refine below_set ?_ GE115.out | refine below_set ?_ GE120.out | refine below_set ?_ GE129.out | refine below_set ?_ GE159.out) | exact HB.out)⟩⟩
              ·
               replace c172 := Bool.eq_false_iff.mpr c172
               subst c172
               rw [if_neg nf_] at H
               have H' := Aside0.mk H
               clear H
               have hnb185 := NB159_101.out
               have hnc185 := NB101_159.out
               have hnb186 := NB159_115.out
               have hnc186 := NB115_159.out
               have hnb187 := NB159_120.out
               have hnc187 := NB120_159.out
               have hnb188 := NB159_129.out
               have hnc188 := NB129_159.out
               have hcz189_0 : w162.cell? ⟨gb159, 0, none⟩ = some (.int .i64 0) := (blk_cell BK159.out 0).trans rfl
               have hcz189_1 : w162.cell? ⟨gb159, 1, none⟩ = some (.slice none 0 0) := (blk_cell BK159.out 1).trans rfl
               have hfz189_0 := blk_frozen BK159.out 0
               have hfz189_1 := blk_frozen BK159.out 1
               have hnb190 := NB115_101.out
               have hnc190 := NB101_115.out
               have hnb191 := NB115_120.out
               have hnc191 := NB120_115.out
               have hnb192 := NB115_129.out
               have hnc192 := NB129_115.out
               have hcz193_0 : w162.cell? ⟨gb115, 0, none⟩ = some (.int .i64 t107) := (blk_cell BK115.out 0).trans rfl
               have hcz193_1 : w162.cell? ⟨gb115, 1, none⟩ = some (.slice Ao23 t108.length co23) := (blk_cell BK115.out 1).trans rfl
               have hfz193_0 := blk_frozen BK115.out 0
               have hfz193_1 := blk_frozen BK115.out 1
               go_wp2_with (first | ((with_reducible refine gate_callee (f := 22) rfl ?_); refine goesL_ (some 112) rfl rfl Try.func22 zk rfl #[.agg #[.int .i64 t151, .slice Ao168 t152.length co168], .agg #[.int .i64 t107, .slice Ao23 t108.length co23]] rfl zm ?_; (with_reducible refine (laws_eqClock.calls kj74 t151 _ _ t152 t107 _ _ t108 true _ ?side1 ?side2 ?side3 ?side4 A169.out).mono ?_); (case side1 => refine (Kd.R_reads' (e := 62) (base := w.heap.size) (ok := fun k_ => ((((True ∧ some k_ ≠ (.slice Ao23 t108.length co23 : Value).ownBlock) ∧ some k_ ≠ (.slice Ao30 t138.length co30 : Value).ownBlock) ∧ some k_ ≠ (.slice Ao37 t122.length co37 : Value).ownBlock) ∧ some k_ ≠ (.slice Ao160 t148.length co160 : Value).ownBlock)) (n := t152.length) (c := co168) ?_).2.2; exact (by (with_reducible repeat (first | apply Kd.R_alloc | apply Kd.R_drewN | apply Kd.R_drew)); exact (Kd.R_mono (Kd.R_far (p := ⟨gb159, 1, none⟩) (Kd.R_far (p := ⟨gb159, 0, none⟩) (Kd.R_types HO154.out BK159.out (by decide)) (fun _ hk => hk.2) (.int .i64 t151)) (fun _ hk => hk.2) (.slice Ao168 t152.length co168)) (fun _ h_ => h_.1)))); (case side2 => exact (Kd.R_reads' HO154.out).2.1); (case side3 => refine (Kd.R_reads' (e := 62) (base := w.heap.size) (ok := fun k_ => (((some k_ ≠ (.slice Ao30 t138.length co30 : Value).ownBlock ∧ some k_ ≠ (.slice Ao37 t122.length co37 : Value).ownBlock) ∧ some k_ ≠ (.slice Ao160 t148.length co160 : Value).ownBlock) ∧ some k_ ≠ (.slice Ao168 t152.length co168 : Value).ownBlock)) (n := t108.length) (c := co23) ?_).2.2; exact (by (with_reducible repeat (first | apply Kd.R_alloc | apply Kd.R_drewN | apply Kd.R_drew)); exact (Kd.R_mono (Kd.R_far (p := ⟨gb159, 1, none⟩) (Kd.R_far (p := ⟨gb159, 0, none⟩) (Kd.R_types HO_116001.out BK159.out (by decide)) (fun _ hk => hk.2) (.int .i64 t151)) (fun _ hk => hk.2) (.slice Ao168 t152.length co168)) (fun _ h_ => h_.1)))); (case side4 => exact (Kd.R_reads' HO_116001.out).2.1); rintro e w194 ⟨rfl, hb⟩; refine ⟨_, rfl, ?_⟩; replace HO_7 := Aside0.mk (Kd.R_below (by (with_reducible repeat (first | apply Kd.R_alloc | apply Kd.R_drewN | apply Kd.R_drew)); exact (Kd.R_mono (Kd.R_far (p := ⟨gb159, 1, none⟩) (Kd.R_far (p := ⟨gb159, 0, none⟩) (Kd.R_types HO_7.out BK159.out (by decide)) (fun _ hk => hk.2) (.int .i64 t151)) (fun _ hk => hk.2) (.slice Ao168 t152.length co168)) (fun _ h_ => h_.1))) hb); replace HO_11 := Aside0.mk (Kd.R_below (by (with_reducible repeat (first | apply Kd.R_alloc | apply Kd.R_drewN | apply Kd.R_drew)); exact (Kd.R_mono (Kd.R_far (p := ⟨gb159, 1, none⟩) (Kd.R_far (p := ⟨gb159, 0, none⟩) (Kd.R_types HO_11.out BK159.out (by decide)) (fun _ hk => hk.2) (.int .i64 t151)) (fun _ hk => hk.2) (.slice Ao168 t152.length co168)) (fun _ h_ => h_.1))) hb); replace HO_116001 := Aside0.mk (Kd.R_below (by (with_reducible repeat (first | apply Kd.R_alloc | apply Kd.R_drewN | apply Kd.R_drew)); exact (Kd.R_mono (Kd.R_far (p := ⟨gb159, 1, none⟩) (Kd.R_far (p := ⟨gb159, 0, none⟩) (Kd.R_types HO_116001.out BK159.out (by decide)) (fun _ hk => hk.2) (.int .i64 t151)) (fun _ hk => hk.2) (.slice Ao168 t152.length co168)) (fun _ h_ => h_.1))) hb); replace HO_121001 := Aside0.mk (Kd.R_below (by (with_reducible repeat (first | apply Kd.R_alloc | apply Kd.R_drewN | apply Kd.R_drew)); exact (Kd.R_mono (Kd.R_far (p := ⟨gb159, 1, none⟩) (Kd.R_far (p := ⟨gb159, 0, none⟩) (Kd.R_types HO_121001.out BK159.out (by decide)) (fun _ hk => hk.2) (.int .i64 t151)) (fun _ hk => hk.2) (.slice Ao168 t152.length co168)) (fun _ h_ => h_.1))) hb); replace HO_130001 := Aside0.mk (Kd.R_below (by (with_reducible repeat (first | apply Kd.R_alloc | apply Kd.R_drewN | apply Kd.R_drew)); exact (Kd.R_mono (Kd.R_far (p := ⟨gb159, 1, none⟩) (Kd.R_far (p := ⟨gb159, 0, none⟩) (Kd.R_types HO_130001.out BK159.out (by decide)) (fun _ hk => hk.2) (.int .i64 t151)) (fun _ hk => hk.2) (.slice Ao168 t152.length co168)) (fun _ h_ => h_.1))) hb); replace HO150 := Aside0.mk (Kd.R_below (by (with_reducible repeat (first | apply Kd.R_alloc | apply Kd.R_drewN | apply Kd.R_drew)); exact (Kd.R_mono (Kd.R_far (p := ⟨gb159, 1, none⟩) (Kd.R_far (p := ⟨gb159, 0, none⟩) (Kd.R_types HO150.out BK159.out (by decide)) (fun _ hk => hk.2) (.int .i64 t151)) (fun _ hk => hk.2) (.slice Ao168 t152.length co168)) (fun _ h_ => h_.1))) hb); replace HO154 := Aside0.mk (Kd.R_below (by (with_reducible repeat (first | apply Kd.R_alloc | apply Kd.R_drewN | apply Kd.R_drew)); exact (Kd.R_mono (Kd.R_far (p := ⟨gb159, 1, none⟩) (Kd.R_far (p := ⟨gb159, 0, none⟩) (Kd.R_types HO154.out BK159.out (by decide)) (fun _ hk => hk.2) (.int .i64 t151)) (fun _ hk => hk.2) (.slice Ao168 t152.length co168)) (fun _ h_ => h_.1))) hb); replace HO157 := Aside0.mk (Kd.R_below (by (with_reducible repeat (first | apply Kd.R_alloc | apply Kd.R_drewN | apply Kd.R_drew)); exact (Kd.R_mono (Kd.R_far (p := ⟨gb159, 1, none⟩) (Kd.R_far (p := ⟨gb159, 0, none⟩) (Kd.R_types HO157.out BK159.out (by decide)) (fun _ hk => hk.2) (.int .i64 t151)) (fun _ hk => hk.2) (.slice Ao168 t152.length co168)) (fun _ h_ => h_.1))) hb); replace BK101 := Aside0.mk (blk_below (g := gb101) (o := .cells #[.int .i64 a0_0, .slice A0_1 l0_1.length c0_1] 38 (0, 0)) (by (with_reducible repeat (first | refine blk_drewN ?_ _ | refine blk_drew ?_ | refine blk_alloc ?_ _)); refine blk_far ?_ NB101_159.out _; (with_reducible repeat (first | refine blk_drewN ?_ _ | refine blk_drew ?_ | refine blk_alloc ?_ _)); refine blk_far ?_ NB101_159.out _; (with_reducible repeat (first | refine blk_drewN ?_ _ | refine blk_drew ?_ | refine blk_alloc ?_ _)); exact BK101.out) hb); replace BK115 := Aside0.mk (blk_below (g := gb115) (o := .cells #[.int .i64 t107, .slice Ao23 t108.length co23] 26 (0, 0)) (by (with_reducible repeat (first | refine blk_drewN ?_ _ | refine blk_drew ?_ | refine blk_alloc ?_ _)); refine blk_far ?_ NB115_159.out _; (with_reducible repeat (first | refine blk_drewN ?_ _ | refine blk_drew ?_ | refine blk_alloc ?_ _)); refine blk_far ?_ NB115_159.out _; (with_reducible repeat (first | refine blk_drewN ?_ _ | refine blk_drew ?_ | refine blk_alloc ?_ _)); exact BK115.out) hb); replace BK120 := Aside0.mk (blk_below (g := gb120) (o := .cells #[.int .i64 t116, .slice Ao30 t138.length co30] 26 (0, 0)) (by (with_reducible repeat (first | refine blk_drewN ?_ _ | refine blk_drew ?_ | refine blk_alloc ?_ _)); refine blk_far ?_ NB120_159.out _; (with_reducible repeat (first | refine blk_drewN ?_ _ | refine blk_drew ?_ | refine blk_alloc ?_ _)); refine blk_far ?_ NB120_159.out _; (with_reducible repeat (first | refine blk_drewN ?_ _ | refine blk_drew ?_ | refine blk_alloc ?_ _)); exact BK120.out) hb); replace BK129 := Aside0.mk (blk_below (g := gb129) (o := .cells #[.int .i64 t121, .slice Ao37 t122.length co37] 26 (0, 0)) (by (with_reducible repeat (first | refine blk_drewN ?_ _ | refine blk_drew ?_ | refine blk_alloc ?_ _)); refine blk_far ?_ NB129_159.out _; (with_reducible repeat (first | refine blk_drewN ?_ _ | refine blk_drew ?_ | refine blk_alloc ?_ _)); refine blk_far ?_ NB129_159.out _; (with_reducible repeat (first | refine blk_drewN ?_ _ | refine blk_drew ?_ | refine blk_alloc ?_ _)); exact BK129.out) hb); replace BK159 := Aside0.mk (blk_below (g := gb159) (o := .cells #[.int .i64 t151, .slice Ao168 t152.length co168] 26 (0, 0)) (by (with_reducible repeat (first | refine blk_drewN ?_ _ | refine blk_drew ?_ | refine blk_alloc ?_ _)); refine blk_put (cs := #[.int .i64 t151, .slice none 0 0]) ?_ 1 _ rfl; (with_reducible repeat (first | refine blk_drewN ?_ _ | refine blk_drew ?_ | refine blk_alloc ?_ _)); refine blk_put (cs := #[.int .i64 0, .slice none 0 0]) ?_ 0 _ rfl; (with_reducible repeat (first | refine blk_drewN ?_ _ | refine blk_drew ?_ | refine blk_alloc ?_ _)); exact BK159.out) hb); replace HB := Aside0.mk (below_step (by repeat (first | (with_reducible first | exact HB.out | apply below_alloc | apply pw_below_drewN | apply below_drew1 | refine below_set ?_ GE101.out | refine below_set ?_ GE115.out | refine below_set ?_ GE120.out | refine below_set ?_ GE129.out | refine below_set ?_ GE159.out) | exact HB.out)) hb); (try clear hb); obtain ⟨Ao195, co195, eo195⟩ := Kd.R_slice HO157.out; subst eo195; obtain ⟨Ao196, co196, eo196⟩ := Kd.R_slice HO_7.out; subst eo196) | (go_at_call 40; (with_reducible refine (laws_eqIntS.calls kj74 _ _ t155 _ _ t111 false _ ?side1 ?side2 ?side3 ?side4 A171.out).mono ?_); (case side1 => exact cz ((Kd.R_reads' HO157.out).2.2)); (case side2 => exact (Kd.R_reads' HO157.out).2.1); (case side3 => exact cz ((Kd.R_reads' HO_7.out).2.2)); (case side4 => exact (Kd.R_reads' HO_7.out).2.1); rintro e w' ⟨rfl, ⟨nd, rfl⟩⟩))
               go_meet
               case rel => exact ⟨_, (true), zr, H', ⟨by have := HJ11.out; have := HJ74.out; first | omega | exact Nat.le_refl _⟩, ⟨by (try simp only [hl121001_74]); (with_reducible repeat (first | apply Kd.R_alloc | apply Kd.R_drewN | apply Kd.R_drew)); exact Kd.R_mono HO_11.out (fun _ hk => trivial)⟩, ⟨by (try simp only [hl121001_74]); (with_reducible repeat (first | apply Kd.R_alloc | apply Kd.R_drewN | apply Kd.R_drew)); exact Kd.R_mono HO_116001.out (fun _ hk => ⟨hk.1.1.1, ⟨hk.1.1.2, hk.2⟩⟩)⟩, ⟨by (try simp only [hl121001_74]); (with_reducible repeat (first | apply Kd.R_alloc | apply Kd.R_drewN | apply Kd.R_drew)); exact Kd.R_mono HO_121001.out (fun _ hk => ⟨hk.1.1.1, ⟨hk.1.1.2, hk.2⟩⟩)⟩, ⟨by (try simp only [hl121001_74]); (with_reducible repeat (first | apply Kd.R_alloc | apply Kd.R_drewN | apply Kd.R_drew)); exact Kd.R_mono HO_130001.out (fun _ hk => ⟨hk.1.1.1, ⟨hk.1.1.2, hk.2⟩⟩)⟩, ⟨by (try simp only [hl121001_74]); (with_reducible repeat (first | apply Kd.R_alloc | apply Kd.R_drewN | apply Kd.R_drew)); exact Kd.R_mono HO154.out (fun _ hk => ⟨hk.1.1.1.2, ⟨hk.1.1.2, hk.1.2⟩⟩)⟩, ⟨by (try simp only [hl121001_74]); (with_reducible repeat (first | refine blk_drewN ?_ _ | refine blk_drew ?_ | refine blk_alloc ?_ _)); exact BK101.out⟩, ⟨by (try simp only [hl121001_74]); (with_reducible repeat (first | refine blk_drewN ?_ _ | refine blk_drew ?_ | refine blk_alloc ?_ _)); exact BK115.out⟩, ⟨by (try simp only [hl121001_74]); (with_reducible repeat (first | refine blk_drewN ?_ _ | refine blk_drew ?_ | refine blk_alloc ?_ _)); exact BK120.out⟩, ⟨by (try simp only [hl121001_74]); (with_reducible repeat (first | refine blk_drewN ?_ _ | refine blk_drew ?_ | refine blk_alloc ?_ _)); exact BK129.out⟩, ⟨by (try simp only [hl121001_74]); (with_reducible repeat (first | refine blk_drewN ?_ _ | refine blk_drew ?_ | refine blk_alloc ?_ _)); exact BK159.out⟩, ⟨by repeat (first | (with_reducible first | exact HB.out | apply below_alloc | apply pw_below_drewN | apply below_drew1 | refine below_set ?_ GE101.out | refine below_set ?_ GE115.out | refine below_set ?_ GE120.out | refine below_set ?_ GE129.out | refine below_set ?_ GE159.out) | exact HB.out)⟩⟩
             ·
              replace c170 := Bool.eq_false_iff.mpr c170
              subst c170
              rw [if_neg nf_] at H
              have H' := Aside0.mk H
              clear H
              have hnb197 := NB159_101.out
              have hnc197 := NB101_159.out
              have hnb198 := NB159_115.out
              have hnc198 := NB115_159.out
              have hnb199 := NB159_120.out
              have hnc199 := NB120_159.out
              have hnb200 := NB159_129.out
              have hnc200 := NB129_159.out
              have hcz201_0 : w162.cell? ⟨gb159, 0, none⟩ = some (.int .i64 0) := (blk_cell BK159.out 0).trans rfl
              have hcz201_1 : w162.cell? ⟨gb159, 1, none⟩ = some (.slice none 0 0) := (blk_cell BK159.out 1).trans rfl
              have hfz201_0 := blk_frozen BK159.out 0
              have hfz201_1 := blk_frozen BK159.out 1
              have hnb202 := NB115_101.out
              have hnc202 := NB101_115.out
              have hnb203 := NB115_120.out
              have hnc203 := NB120_115.out
              have hnb204 := NB115_129.out
              have hnc204 := NB129_115.out
              have hcz205_0 : w162.cell? ⟨gb115, 0, none⟩ = some (.int .i64 t107) := (blk_cell BK115.out 0).trans rfl
              have hcz205_1 : w162.cell? ⟨gb115, 1, none⟩ = some (.slice Ao23 t108.length co23) := (blk_cell BK115.out 1).trans rfl
              have hfz205_0 := blk_frozen BK115.out 0
              have hfz205_1 := blk_frozen BK115.out 1
              go_wp2_with (first | ((with_reducible refine gate_callee (f := 22) rfl ?_); refine goesL_ (some 112) rfl rfl Try.func22 zk rfl #[.agg #[.int .i64 t151, .slice Ao168 t152.length co168], .agg #[.int .i64 t107, .slice Ao23 t108.length co23]] rfl zm ?_; (with_reducible refine (laws_eqClock.calls kj74 t151 _ _ t152 t107 _ _ t108 false _ ?side1 ?side2 ?side3 ?side4 A169.out).mono ?_); (case side1 => refine (Kd.R_reads' (e := 62) (base := w.heap.size) (ok := fun k_ => ((((True ∧ some k_ ≠ (.slice Ao23 t108.length co23 : Value).ownBlock) ∧ some k_ ≠ (.slice Ao30 t138.length co30 : Value).ownBlock) ∧ some k_ ≠ (.slice Ao37 t122.length co37 : Value).ownBlock) ∧ some k_ ≠ (.slice Ao160 t148.length co160 : Value).ownBlock)) (n := t152.length) (c := co168) ?_).2.2; exact (by (with_reducible repeat (first | apply Kd.R_alloc | apply Kd.R_drewN | apply Kd.R_drew)); exact (Kd.R_mono (Kd.R_far (p := ⟨gb159, 1, none⟩) (Kd.R_far (p := ⟨gb159, 0, none⟩) (Kd.R_types HO154.out BK159.out (by decide)) (fun _ hk => hk.2) (.int .i64 t151)) (fun _ hk => hk.2) (.slice Ao168 t152.length co168)) (fun _ h_ => h_.1)))); (case side2 => exact (Kd.R_reads' HO154.out).2.1); (case side3 => refine (Kd.R_reads' (e := 62) (base := w.heap.size) (ok := fun k_ => (((some k_ ≠ (.slice Ao30 t138.length co30 : Value).ownBlock ∧ some k_ ≠ (.slice Ao37 t122.length co37 : Value).ownBlock) ∧ some k_ ≠ (.slice Ao160 t148.length co160 : Value).ownBlock) ∧ some k_ ≠ (.slice Ao168 t152.length co168 : Value).ownBlock)) (n := t108.length) (c := co23) ?_).2.2; exact (by (with_reducible repeat (first | apply Kd.R_alloc | apply Kd.R_drewN | apply Kd.R_drew)); exact (Kd.R_mono (Kd.R_far (p := ⟨gb159, 1, none⟩) (Kd.R_far (p := ⟨gb159, 0, none⟩) (Kd.R_types HO_116001.out BK159.out (by decide)) (fun _ hk => hk.2) (.int .i64 t151)) (fun _ hk => hk.2) (.slice Ao168 t152.length co168)) (fun _ h_ => h_.1)))); (case side4 => exact (Kd.R_reads' HO_116001.out).2.1); rintro e w206 ⟨rfl, hb⟩; refine ⟨_, rfl, ?_⟩; replace HO_7 := Aside0.mk (Kd.R_below (by (with_reducible repeat (first | apply Kd.R_alloc | apply Kd.R_drewN | apply Kd.R_drew)); exact (Kd.R_mono (Kd.R_far (p := ⟨gb159, 1, none⟩) (Kd.R_far (p := ⟨gb159, 0, none⟩) (Kd.R_types HO_7.out BK159.out (by decide)) (fun _ hk => hk.2) (.int .i64 t151)) (fun _ hk => hk.2) (.slice Ao168 t152.length co168)) (fun _ h_ => h_.1))) hb); replace HO_11 := Aside0.mk (Kd.R_below (by (with_reducible repeat (first | apply Kd.R_alloc | apply Kd.R_drewN | apply Kd.R_drew)); exact (Kd.R_mono (Kd.R_far (p := ⟨gb159, 1, none⟩) (Kd.R_far (p := ⟨gb159, 0, none⟩) (Kd.R_types HO_11.out BK159.out (by decide)) (fun _ hk => hk.2) (.int .i64 t151)) (fun _ hk => hk.2) (.slice Ao168 t152.length co168)) (fun _ h_ => h_.1))) hb); replace HO_116001 := Aside0.mk (Kd.R_below (by (with_reducible repeat (first | apply Kd.R_alloc | apply Kd.R_drewN | apply Kd.R_drew)); exact (Kd.R_mono (Kd.R_far (p := ⟨gb159, 1, none⟩) (Kd.R_far (p := ⟨gb159, 0, none⟩) (Kd.R_types HO_116001.out BK159.out (by decide)) (fun _ hk => hk.2) (.int .i64 t151)) (fun _ hk => hk.2) (.slice Ao168 t152.length co168)) (fun _ h_ => h_.1))) hb); replace HO_121001 := Aside0.mk (Kd.R_below (by (with_reducible repeat (first | apply Kd.R_alloc | apply Kd.R_drewN | apply Kd.R_drew)); exact (Kd.R_mono (Kd.R_far (p := ⟨gb159, 1, none⟩) (Kd.R_far (p := ⟨gb159, 0, none⟩) (Kd.R_types HO_121001.out BK159.out (by decide)) (fun _ hk => hk.2) (.int .i64 t151)) (fun _ hk => hk.2) (.slice Ao168 t152.length co168)) (fun _ h_ => h_.1))) hb); replace HO_130001 := Aside0.mk (Kd.R_below (by (with_reducible repeat (first | apply Kd.R_alloc | apply Kd.R_drewN | apply Kd.R_drew)); exact (Kd.R_mono (Kd.R_far (p := ⟨gb159, 1, none⟩) (Kd.R_far (p := ⟨gb159, 0, none⟩) (Kd.R_types HO_130001.out BK159.out (by decide)) (fun _ hk => hk.2) (.int .i64 t151)) (fun _ hk => hk.2) (.slice Ao168 t152.length co168)) (fun _ h_ => h_.1))) hb); replace HO150 := Aside0.mk (Kd.R_below (by (with_reducible repeat (first | apply Kd.R_alloc | apply Kd.R_drewN | apply Kd.R_drew)); exact (Kd.R_mono (Kd.R_far (p := ⟨gb159, 1, none⟩) (Kd.R_far (p := ⟨gb159, 0, none⟩) (Kd.R_types HO150.out BK159.out (by decide)) (fun _ hk => hk.2) (.int .i64 t151)) (fun _ hk => hk.2) (.slice Ao168 t152.length co168)) (fun _ h_ => h_.1))) hb); replace HO154 := Aside0.mk (Kd.R_below (by (with_reducible repeat (first | apply Kd.R_alloc | apply Kd.R_drewN | apply Kd.R_drew)); exact (Kd.R_mono (Kd.R_far (p := ⟨gb159, 1, none⟩) (Kd.R_far (p := ⟨gb159, 0, none⟩) (Kd.R_types HO154.out BK159.out (by decide)) (fun _ hk => hk.2) (.int .i64 t151)) (fun _ hk => hk.2) (.slice Ao168 t152.length co168)) (fun _ h_ => h_.1))) hb); replace HO157 := Aside0.mk (Kd.R_below (by (with_reducible repeat (first | apply Kd.R_alloc | apply Kd.R_drewN | apply Kd.R_drew)); exact (Kd.R_mono (Kd.R_far (p := ⟨gb159, 1, none⟩) (Kd.R_far (p := ⟨gb159, 0, none⟩) (Kd.R_types HO157.out BK159.out (by decide)) (fun _ hk => hk.2) (.int .i64 t151)) (fun _ hk => hk.2) (.slice Ao168 t152.length co168)) (fun _ h_ => h_.1))) hb); replace BK101 := Aside0.mk (blk_below (g := gb101) (o := .cells #[.int .i64 a0_0, .slice A0_1 l0_1.length c0_1] 38 (0, 0)) (by (with_reducible repeat (first | refine blk_drewN ?_ _ | refine blk_drew ?_ | refine blk_alloc ?_ _)); refine blk_far ?_ NB101_159.out _; (with_reducible repeat (first | refine blk_drewN ?_ _ | refine blk_drew ?_ | refine blk_alloc ?_ _)); refine blk_far ?_ NB101_159.out _; (with_reducible repeat (first | refine blk_drewN ?_ _ | refine blk_drew ?_ | refine blk_alloc ?_ _)); exact BK101.out) hb); replace BK115 := Aside0.mk (blk_below (g := gb115) (o := .cells #[.int .i64 t107, .slice Ao23 t108.length co23] 26 (0, 0)) (by (with_reducible repeat (first | refine blk_drewN ?_ _ | refine blk_drew ?_ | refine blk_alloc ?_ _)); refine blk_far ?_ NB115_159.out _; (with_reducible repeat (first | refine blk_drewN ?_ _ | refine blk_drew ?_ | refine blk_alloc ?_ _)); refine blk_far ?_ NB115_159.out _; (with_reducible repeat (first | refine blk_drewN ?_ _ | refine blk_drew ?_ | refine blk_alloc ?_ _)); exact BK115.out) hb); replace BK120 := Aside0.mk (blk_below (g := gb120) (o := .cells #[.int .i64 t116, .slice Ao30 t138.length co30] 26 (0, 0)) (by (with_reducible repeat (first | refine blk_drewN ?_ _ | refine blk_drew ?_ | refine blk_alloc ?_ _)); refine blk_far ?_ NB120_159.out _; (with_reducible repeat (first | refine blk_drewN ?_ _ | refine blk_drew ?_ | refine blk_alloc ?_ _)); refine blk_far ?_ NB120_159.out _; (with_reducible repeat (first | refine blk_drewN ?_ _ | refine blk_drew ?_ | refine blk_alloc ?_ _)); exact BK120.out) hb); replace BK129 := Aside0.mk (blk_below (g := gb129) (o := .cells #[.int .i64 t121, .slice Ao37 t122.length co37] 26 (0, 0)) (by (with_reducible repeat (first | refine blk_drewN ?_ _ | refine blk_drew ?_ | refine blk_alloc ?_ _)); refine blk_far ?_ NB129_159.out _; (with_reducible repeat (first | refine blk_drewN ?_ _ | refine blk_drew ?_ | refine blk_alloc ?_ _)); refine blk_far ?_ NB129_159.out _; (with_reducible repeat (first | refine blk_drewN ?_ _ | refine blk_drew ?_ | refine blk_alloc ?_ _)); exact BK129.out) hb); replace BK159 := Aside0.mk (blk_below (g := gb159) (o := .cells #[.int .i64 t151, .slice Ao168 t152.length co168] 26 (0, 0)) (by (with_reducible repeat (first | refine blk_drewN ?_ _ | refine blk_drew ?_ | refine blk_alloc ?_ _)); refine blk_put (cs := #[.int .i64 t151, .slice none 0 0]) ?_ 1 _ rfl; (with_reducible repeat (first | refine blk_drewN ?_ _ | refine blk_drew ?_ | refine blk_alloc ?_ _)); refine blk_put (cs := #[.int .i64 0, .slice none 0 0]) ?_ 0 _ rfl; (with_reducible repeat (first | refine blk_drewN ?_ _ | refine blk_drew ?_ | refine blk_alloc ?_ _)); exact BK159.out) hb); replace HB := Aside0.mk (below_step (by repeat (first | (with_reducible first | exact HB.out | apply below_alloc | apply pw_below_drewN | apply below_drew1 | refine below_set ?_ GE101.out | refine below_set ?_ GE115.out | refine below_set ?_ GE120.out | refine below_set ?_ GE129.out | refine below_set ?_ GE159.out) | exact HB.out)) hb); (try clear hb)))
              go_meet
              case rel => exact ⟨_, (true), zr, H', ⟨by have := HJ11.out; have := HJ74.out; first | omega | exact Nat.le_refl _⟩, ⟨by (try simp only [hl121001_74]); (with_reducible repeat (first | apply Kd.R_alloc | apply Kd.R_drewN | apply Kd.R_drew)); exact Kd.R_mono HO_11.out (fun _ hk => trivial)⟩, ⟨by (try simp only [hl121001_74]); (with_reducible repeat (first | apply Kd.R_alloc | apply Kd.R_drewN | apply Kd.R_drew)); exact Kd.R_mono HO_116001.out (fun _ hk => ⟨hk.1.1.1, ⟨hk.1.1.2, hk.2⟩⟩)⟩, ⟨by (try simp only [hl121001_74]); (with_reducible repeat (first | apply Kd.R_alloc | apply Kd.R_drewN | apply Kd.R_drew)); exact Kd.R_mono HO_121001.out (fun _ hk => ⟨hk.1.1.1, ⟨hk.1.1.2, hk.2⟩⟩)⟩, ⟨by (try simp only [hl121001_74]); (with_reducible repeat (first | apply Kd.R_alloc | apply Kd.R_drewN | apply Kd.R_drew)); exact Kd.R_mono HO_130001.out (fun _ hk => ⟨hk.1.1.1, ⟨hk.1.1.2, hk.2⟩⟩)⟩, ⟨by (try simp only [hl121001_74]); (with_reducible repeat (first | apply Kd.R_alloc | apply Kd.R_drewN | apply Kd.R_drew)); exact Kd.R_mono HO154.out (fun _ hk => ⟨hk.1.1.1.2, ⟨hk.1.1.2, hk.1.2⟩⟩)⟩, ⟨by (try simp only [hl121001_74]); (with_reducible repeat (first | refine blk_drewN ?_ _ | refine blk_drew ?_ | refine blk_alloc ?_ _)); exact BK101.out⟩, ⟨by (try simp only [hl121001_74]); (with_reducible repeat (first | refine blk_drewN ?_ _ | refine blk_drew ?_ | refine blk_alloc ?_ _)); exact BK115.out⟩, ⟨by (try simp only [hl121001_74]); (with_reducible repeat (first | refine blk_drewN ?_ _ | refine blk_drew ?_ | refine blk_alloc ?_ _)); exact BK120.out⟩, ⟨by (try simp only [hl121001_74]); (with_reducible repeat (first | refine blk_drewN ?_ _ | refine blk_drew ?_ | refine blk_alloc ?_ _)); exact BK129.out⟩, ⟨by (try simp only [hl121001_74]); (with_reducible repeat (first | refine blk_drewN ?_ _ | refine blk_drew ?_ | refine blk_alloc ?_ _)); exact BK159.out⟩, ⟨by repeat (first | (with_reducible first | exact HB.out | apply below_alloc | apply pw_below_drewN | apply below_drew1 | refine below_set ?_ GE101.out | refine below_set ?_ GE115.out | refine below_set ?_ GE120.out | refine below_set ?_ GE129.out | refine below_set ?_ GE159.out) | exact HB.out)⟩⟩
            case rest =>
             clear HC146
             try clear c1
             try clear c2
             try clear p2
             try clear c3
             try clear c4
             try clear c4b0
             try clear c5
             try clear c6
             try clear c7
             try clear c8
             try clear c9
             try clear c10
             try clear c11
             try clear c12
             try clear c13
             try clear c14
             try clear c15
             try clear c16
             try clear c17
             try clear c18
             try clear c19
             try clear c20
             try clear c21
             try clear c22
             try clear c23
             try clear c24
             try clear c25
             try clear c27
             try clear c28
             try clear c32
             try clear c33
             try clear c34
             try clear c35
             try clear c36
             try clear c39
             try clear c41
             try clear c42
             try clear c43
             try clear c44
             try clear c46
             try clear c47
             try clear c52
             try clear c53
             try clear c54
             try clear c56
             try clear c57
             try clear c62
             try clear c63
             try clear c64
             try clear c66
             try clear c67
             try clear c70
             try clear c73
             try clear c80
             try clear c81
             try clear c82
             try clear c85
             try clear c85b0
             try clear c87
             try clear c89
             try clear c90
             try clear c91
             try clear c92
             try clear c94
             try clear c95
             try clear c100
             try clear c101
             try clear c102
             try clear c104
             try clear c105
             try clear c110
             try clear c111
             try clear c112
             try clear c114
             try clear c115
             try clear c118
             try clear c122
             try clear c122b0
             try clear c123
             try clear c124
             try clear c125
             try clear c133
             try clear c133b0
             try clear c134
             try clear c135
             try clear c136
             try clear c143
             try clear c143b0
             try clear c143b1
             try clear c147
             try clear c148
             try clear c149
             try clear c156
             try clear c157
             try clear c163
             try clear c164
             try clear c165
             try clear c166
             try clear c170
             try clear c172
             try clear c173
             try clear c174
             try clear c175
             try clear c176
             try clear c178
             try clear c179
             try clear c180
             try clear c185
             try clear c186
             try clear c187
             try clear c188
             try clear c190
             try clear c191
             try clear c192
             try clear c197
             try clear c198
             try clear c199
             try clear c200
             try clear c202
             try clear c203
             try clear c204
             try clear hcz103_0
             try clear hcz103_1
             try clear hcz106_0
             try clear hcz106_1
             try clear hcz113_0
             try clear hcz113_1
             try clear hcz116_0
             try clear hcz116_1
             try clear hcz126_0
             try clear hcz126_1
             try clear hcz130_0
             try clear hcz130_1
             try clear hcz137_0
             try clear hcz137_1
             try clear hcz141_0
             try clear hcz141_1
             try clear hcz14_0
             try clear hcz14_1
             try clear hcz150_0
             try clear hcz150_1
             try clear hcz154_0
             try clear hcz154_1
             try clear hcz158_0
             try clear hcz158_1
             try clear hcz167_0
             try clear hcz167_1
             try clear hcz16_0
             try clear hcz16_1
             try clear hcz177_0
             try clear hcz177_1
             try clear hcz181_0
             try clear hcz181_1
             try clear hcz189_0
             try clear hcz189_1
             try clear hcz193_0
             try clear hcz193_1
             try clear hcz201_0
             try clear hcz201_1
             try clear hcz205_0
             try clear hcz205_1
             try clear hcz22_0
             try clear hcz22_1
             try clear hcz24_0
             try clear hcz24_1
             try clear hcz29_0
             try clear hcz29_1
             try clear hcz36_0
             try clear hcz36_1
             try clear hcz45_0
             try clear hcz45_1
             try clear hcz48_0
             try clear hcz48_1
             try clear hcz55_0
             try clear hcz55_1
             try clear hcz58_0
             try clear hcz58_1
             try clear hcz65_0
             try clear hcz65_1
             try clear hcz68_0
             try clear hcz68_1
             try clear hcz6_0
             try clear hcz6_1
             try clear hcz83_0
             try clear hcz83_1
             try clear hcz93_0
             try clear hcz93_1
             try clear hcz96_0
             try clear hcz96_1
             try clear hfz103_0
             try clear hfz103_1
             try clear hfz106_0
             try clear hfz106_1
             try clear hfz113_0
             try clear hfz113_1
             try clear hfz116_0
             try clear hfz116_1
             try clear hfz126_0
             try clear hfz126_1
             try clear hfz130_0
             try clear hfz130_1
             try clear hfz137_0
             try clear hfz137_1
             try clear hfz141_0
             try clear hfz141_1
             try clear hfz14_0
             try clear hfz14_1
             try clear hfz150_0
             try clear hfz150_1
             try clear hfz154_0
             try clear hfz154_1
             try clear hfz158_0
             try clear hfz158_1
             try clear hfz167_0
             try clear hfz167_1
             try clear hfz16_0
             try clear hfz16_1
             try clear hfz177_0
             try clear hfz177_1
             try clear hfz181_0
             try clear hfz181_1
             try clear hfz189_0
             try clear hfz189_1
             try clear hfz193_0
             try clear hfz193_1
             try clear hfz201_0
             try clear hfz201_1
             try clear hfz205_0
             try clear hfz205_1
             try clear hfz22_0
             try clear hfz22_1
             try clear hfz24_0
             try clear hfz24_1
             try clear hfz29_0
             try clear hfz29_1
             try clear hfz36_0
             try clear hfz36_1
             try clear hfz45_0
             try clear hfz45_1
             try clear hfz48_0
             try clear hfz48_1
             try clear hfz55_0
             try clear hfz55_1
             try clear hfz58_0
             try clear hfz58_1
             try clear hfz65_0
             try clear hfz65_1
             try clear hfz68_0
             try clear hfz68_1
             try clear hfz6_0
             try clear hfz6_1
             try clear hfz83_0
             try clear hfz83_1
             try clear hfz93_0
             try clear hfz93_1
             try clear hfz96_0
             try clear hfz96_1
             try clear p2
             obtain ⟨kq, x124_145, rfl, HA, HJ145, HO_11, HO_116001, HO_121001, HO_130001, HO_160001, BK101, BK115, BK120, BK129, BK159, HB⟩ := hcut
             have hl11_145 := (Kd.R_reads' HO_11.out).1
             rw [hl11_145] at HO_11
             (try simp only [hl11_145])
             (try simp only [hl11_145] at BK101)
             (try simp only [hl11_145] at BK115)
             (try simp only [hl11_145] at BK120)
             (try simp only [hl11_145] at BK129)
             (try simp only [hl11_145] at BK159)
             (try simp only [hl11_145] at HO_116001)
             (try simp only [hl11_145] at HO_121001)
             (try simp only [hl11_145] at HO_130001)
             (try simp only [hl11_145] at HO_160001)
             have hl130001_145 := (Kd.R_reads' HO_130001.out).1
             rw [hl130001_145] at HO_130001
             (try simp only [hl130001_145])
             (try simp only [hl130001_145] at BK101)
             (try simp only [hl130001_145] at BK115)
             (try simp only [hl130001_145] at BK120)
             (try simp only [hl130001_145] at BK129)
             (try simp only [hl130001_145] at BK159)
             (try simp only [hl130001_145] at HO_11)
             (try simp only [hl130001_145] at HO_116001)
             (try simp only [hl130001_145] at HO_121001)
             (try simp only [hl130001_145] at HO_160001)
             cases kq with
             | zero => exact absurd HA.out (by simp [laws_FnExactClockTick.j2])
             | succ kj145 =>
              have H := HA.out
              clear HA
              simp only [laws_FnExactClockTick.j2] at H
              by_cases c207 : x124_145 = true
              ·
               subst c207
               rw [if_pos rfl] at H
               obtain rfl := Option.some.inj H
               go_wp2
               go_ret
               exact ⟨ze, by repeat (first | (with_reducible first | exact HB.out | apply below_alloc | apply pw_below_drewN | apply below_drew1 | refine below_set ?_ GE101.out | refine below_set ?_ GE115.out | refine below_set ?_ GE120.out | refine below_set ?_ GE129.out | refine below_set ?_ GE159.out) | exact HB.out)⟩
              ·
               replace c207 := Bool.eq_false_iff.mpr c207
               subst c207
               rw [if_neg nf_] at H
               replace H := Option.bind_eq_some_iff.mp H
               obtain ⟨t162, A2080, H⟩ := H
               have A208 := Aside0.mk A2080
               clear A2080
               by_cases c209 : t162 < 0
               ·
                rw [if_pos c209] at H
                have c209b0 : decide (t162 < 0) = true := decide_eq_true c209
                clear c209
                obtain rfl := Option.some.inj H
                have hnb210 := NB129_101.out
                have hnc210 := NB101_129.out
                have hnb211 := NB129_115.out
                have hnc211 := NB115_129.out
                have hnb212 := NB129_120.out
                have hnc212 := NB120_129.out
                have hnb213 := NB129_159.out
                have hnc213 := NB159_129.out
                have hcz214_0 : wc.cell? ⟨gb129, 0, none⟩ = some (.int .i64 t121) := (blk_cell BK129.out 0).trans rfl
                have hcz214_1 : wc.cell? ⟨gb129, 1, none⟩ = some (.slice Ao37 t142.length co37) := (blk_cell BK129.out 1).trans rfl
                have hfz214_0 := blk_frozen BK129.out 0
                have hfz214_1 := blk_frozen BK129.out 1
                go_wp2_with (first | ((with_reducible refine gate_callee (f := 24) rfl ?_); refine goesL_ (some 127) rfl rfl Try.func24 zk rfl #[.agg #[.int .i64 t121, .slice Ao37 t142.length co37], .int .i64 1] rfl zm ?_; (with_reducible refine (laws_heldClock.calls kj145 t121 _ _ t142 1 t162 _ ?side1 ?side2 A208.out).mono ?_); (case side1 => exact cz ((Kd.R_reads' HO_130001.out).2.2)); (case side2 => exact (Kd.R_reads' HO_130001.out).2.1); rintro e w215 ⟨rfl, hb⟩; refine ⟨_, rfl, ?_⟩; replace HO_11 := Aside0.mk (Kd.R_below (rz HO_11.out) hb); replace HO_116001 := Aside0.mk (Kd.R_below (rz HO_116001.out) hb); replace HO_121001 := Aside0.mk (Kd.R_below (rz HO_121001.out) hb); replace HO_130001 := Aside0.mk (Kd.R_below (rz HO_130001.out) hb); replace HO_160001 := Aside0.mk (Kd.R_below (rz HO_160001.out) hb); replace BK101 := Aside0.mk (blk_below (g := gb101) (o := .cells #[.int .i64 a0_0, .slice A0_1 l0_1.length c0_1] 38 (0, 0)) (kz BK101.out) hb); replace BK115 := Aside0.mk (blk_below (g := gb115) (o := .cells #[.int .i64 t107, .slice Ao23 t108.length co23] 26 (0, 0)) (kz BK115.out) hb); replace BK120 := Aside0.mk (blk_below (g := gb120) (o := .cells #[.int .i64 t116, .slice Ao30 t138.length co30] 26 (0, 0)) (kz BK120.out) hb); replace BK129 := Aside0.mk (blk_below (g := gb129) (o := .cells #[.int .i64 t121, .slice Ao37 t142.length co37] 26 (0, 0)) (kz BK129.out) hb); replace BK159 := Aside0.mk (blk_below (g := gb159) (o := .cells #[.int .i64 t151, .slice Ao168 t152.length co168] 26 (0, 0)) (kz BK159.out) hb); replace HB := Aside0.mk (below_step (by repeat (first | (with_reducible first | exact HB.out | apply below_alloc | apply pw_below_drewN | apply below_drew1 | refine below_set ?_ GE101.out | refine below_set ?_ GE115.out | refine below_set ?_ GE120.out | refine below_set ?_ GE129.out | refine below_set ?_ GE159.out) | exact HB.out)) hb); (try clear hb)))
                go_ret
                exact ⟨ze, by repeat (first | (with_reducible first | exact HB.out | apply below_alloc | apply pw_below_drewN | apply below_drew1 | refine below_set ?_ GE101.out | refine below_set ?_ GE115.out | refine below_set ?_ GE120.out | refine below_set ?_ GE129.out | refine below_set ?_ GE159.out) | exact HB.out)⟩
               ·
                rw [if_neg c209] at H
                have c209b0 : decide (t162 < 0) = false := decide_eq_false c209
                clear c209
                replace H := Option.bind_eq_some_iff.mp H
                obtain ⟨t163, A2160, H⟩ := H
                have A216 := Aside0.mk A2160
                clear A2160
                by_cases c217 : t163 < 0
                ·
                 rw [if_pos c217] at H
                 have c217b0 : decide (t163 < 0) = true := decide_eq_true c217
                 clear c217
                 obtain rfl := Option.some.inj H
                 have hnb218 := NB129_101.out
                 have hnc218 := NB101_129.out
                 have hnb219 := NB129_115.out
                 have hnc219 := NB115_129.out
                 have hnb220 := NB129_120.out
                 have hnc220 := NB120_129.out
                 have hnb221 := NB129_159.out
                 have hnc221 := NB159_129.out
                 have hcz222_0 : wc.cell? ⟨gb129, 0, none⟩ = some (.int .i64 t121) := (blk_cell BK129.out 0).trans rfl
                 have hcz222_1 : wc.cell? ⟨gb129, 1, none⟩ = some (.slice Ao37 t142.length co37) := (blk_cell BK129.out 1).trans rfl
                 have hfz222_0 := blk_frozen BK129.out 0
                 have hfz222_1 := blk_frozen BK129.out 1
                 go_wp2_with (first | ((with_reducible refine gate_callee (f := 24) rfl ?_); refine goesL_ (some 127) rfl rfl Try.func24 zk rfl #[.agg #[.int .i64 t121, .slice Ao37 t142.length co37], .int .i64 1] rfl zm ?_; (with_reducible refine (laws_heldClock.calls kj145 t121 _ _ t142 1 t162 _ ?side1 ?side2 A208.out).mono ?_); (case side1 => exact cz ((Kd.R_reads' HO_130001.out).2.2)); (case side2 => exact (Kd.R_reads' HO_130001.out).2.1); rintro e w223 ⟨rfl, hb⟩; refine ⟨_, rfl, ?_⟩; replace HO_11 := Aside0.mk (Kd.R_below (rz HO_11.out) hb); replace HO_116001 := Aside0.mk (Kd.R_below (rz HO_116001.out) hb); replace HO_121001 := Aside0.mk (Kd.R_below (rz HO_121001.out) hb); replace HO_130001 := Aside0.mk (Kd.R_below (rz HO_130001.out) hb); replace HO_160001 := Aside0.mk (Kd.R_below (rz HO_160001.out) hb); replace BK101 := Aside0.mk (blk_below (g := gb101) (o := .cells #[.int .i64 a0_0, .slice A0_1 l0_1.length c0_1] 38 (0, 0)) (kz BK101.out) hb); replace BK115 := Aside0.mk (blk_below (g := gb115) (o := .cells #[.int .i64 t107, .slice Ao23 t108.length co23] 26 (0, 0)) (kz BK115.out) hb); replace BK120 := Aside0.mk (blk_below (g := gb120) (o := .cells #[.int .i64 t116, .slice Ao30 t138.length co30] 26 (0, 0)) (kz BK120.out) hb); replace BK129 := Aside0.mk (blk_below (g := gb129) (o := .cells #[.int .i64 t121, .slice Ao37 t142.length co37] 26 (0, 0)) (kz BK129.out) hb); replace BK159 := Aside0.mk (blk_below (g := gb159) (o := .cells #[.int .i64 t151, .slice Ao168 t152.length co168] 26 (0, 0)) (kz BK159.out) hb); replace HB := Aside0.mk (below_step (by repeat (first | (with_reducible first | exact HB.out | apply below_alloc | apply pw_below_drewN | apply below_drew1 | refine below_set ?_ GE101.out | refine below_set ?_ GE115.out | refine below_set ?_ GE120.out | refine below_set ?_ GE129.out | refine below_set ?_ GE159.out) | exact HB.out)) hb); (try clear hb)) | ((with_reducible refine gate_callee (f := 42) rfl ?_); refine goesL_ (some 132) rfl rfl Try.func42 zk rfl #[.slice Ao152 t144.length co152, .int .i64 t162] rfl zm ?_; (with_reducible refine (laws_heldIntS.calls kj145 _ _ t144 t162 t163 _ ?side1 ?side2 A216.out).mono ?_); (case side1 => exact cz ((Kd.R_reads' HO_11.out).2.2)); (case side2 => exact (Kd.R_reads' HO_11.out).2.1); rintro e w' ⟨rfl, ⟨nd, rfl⟩⟩; refine ⟨_, rfl, ?_⟩))
                 go_ret
                 exact ⟨ze, by repeat (first | (with_reducible first | exact HB.out | apply below_alloc | apply pw_below_drewN | apply below_drew1 | refine below_set ?_ GE101.out | refine below_set ?_ GE115.out | refine below_set ?_ GE120.out | refine below_set ?_ GE129.out | refine below_set ?_ GE159.out) | exact HB.out)⟩
                ·
                 rw [if_neg c217] at H
                 have c217b0 : decide (t163 < 0) = false := decide_eq_false c217
                 clear c217
                 by_cases c224 : t163 = t143
                 ·
                  rw [if_pos c224] at H
                  have c224b0 : (t163 == t143) = true := beq_iff_eq.mpr c224
                  have c224b1 : (t163 != t143) = false := bne_eq_false_iff_eq.mpr c224
                  clear c224
                  obtain rfl := Option.some.inj H
                  have hnb225 := NB129_101.out
                  have hnc225 := NB101_129.out
                  have hnb226 := NB129_115.out
                  have hnc226 := NB115_129.out
                  have hnb227 := NB129_120.out
                  have hnc227 := NB120_129.out
                  have hnb228 := NB129_159.out
                  have hnc228 := NB159_129.out
                  have hcz229_0 : wc.cell? ⟨gb129, 0, none⟩ = some (.int .i64 t121) := (blk_cell BK129.out 0).trans rfl
                  have hcz229_1 : wc.cell? ⟨gb129, 1, none⟩ = some (.slice Ao37 t142.length co37) := (blk_cell BK129.out 1).trans rfl
                  have hfz229_0 := blk_frozen BK129.out 0
                  have hfz229_1 := blk_frozen BK129.out 1
                  go_wp2_with (first | ((with_reducible refine gate_callee (f := 24) rfl ?_); refine goesL_ (some 127) rfl rfl Try.func24 zk rfl #[.agg #[.int .i64 t121, .slice Ao37 t142.length co37], .int .i64 1] rfl zm ?_; (with_reducible refine (laws_heldClock.calls kj145 t121 _ _ t142 1 t162 _ ?side1 ?side2 A208.out).mono ?_); (case side1 => exact cz ((Kd.R_reads' HO_130001.out).2.2)); (case side2 => exact (Kd.R_reads' HO_130001.out).2.1); rintro e w230 ⟨rfl, hb⟩; refine ⟨_, rfl, ?_⟩; replace HO_11 := Aside0.mk (Kd.R_below (rz HO_11.out) hb); replace HO_116001 := Aside0.mk (Kd.R_below (rz HO_116001.out) hb); replace HO_121001 := Aside0.mk (Kd.R_below (rz HO_121001.out) hb); replace HO_130001 := Aside0.mk (Kd.R_below (rz HO_130001.out) hb); replace HO_160001 := Aside0.mk (Kd.R_below (rz HO_160001.out) hb); replace BK101 := Aside0.mk (blk_below (g := gb101) (o := .cells #[.int .i64 a0_0, .slice A0_1 l0_1.length c0_1] 38 (0, 0)) (kz BK101.out) hb); replace BK115 := Aside0.mk (blk_below (g := gb115) (o := .cells #[.int .i64 t107, .slice Ao23 t108.length co23] 26 (0, 0)) (kz BK115.out) hb); replace BK120 := Aside0.mk (blk_below (g := gb120) (o := .cells #[.int .i64 t116, .slice Ao30 t138.length co30] 26 (0, 0)) (kz BK120.out) hb); replace BK129 := Aside0.mk (blk_below (g := gb129) (o := .cells #[.int .i64 t121, .slice Ao37 t142.length co37] 26 (0, 0)) (kz BK129.out) hb); replace BK159 := Aside0.mk (blk_below (g := gb159) (o := .cells #[.int .i64 t151, .slice Ao168 t152.length co168] 26 (0, 0)) (kz BK159.out) hb); replace HB := Aside0.mk (below_step (by repeat (first | (with_reducible first | exact HB.out | apply below_alloc | apply pw_below_drewN | apply below_drew1 | refine below_set ?_ GE101.out | refine below_set ?_ GE115.out | refine below_set ?_ GE120.out | refine below_set ?_ GE129.out | refine below_set ?_ GE159.out) | exact HB.out)) hb); (try clear hb)) | ((with_reducible refine gate_callee (f := 42) rfl ?_); refine goesL_ (some 132) rfl rfl Try.func42 zk rfl #[.slice Ao152 t144.length co152, .int .i64 t162] rfl zm ?_; (with_reducible refine (laws_heldIntS.calls kj145 _ _ t144 t162 t163 _ ?side1 ?side2 A216.out).mono ?_); (case side1 => exact cz ((Kd.R_reads' HO_11.out).2.2)); (case side2 => exact (Kd.R_reads' HO_11.out).2.1); rintro e w' ⟨rfl, ⟨nd, rfl⟩⟩; refine ⟨_, rfl, ?_⟩))
                  go_ret
                  exact ⟨ze, by repeat (first | (with_reducible first | exact HB.out | apply below_alloc | apply pw_below_drewN | apply below_drew1 | refine below_set ?_ GE101.out | refine below_set ?_ GE115.out | refine below_set ?_ GE120.out | refine below_set ?_ GE129.out | refine below_set ?_ GE159.out) | exact HB.out)⟩
                 ·
                  rw [if_neg c224] at H
                  have c224b0 : (t163 == t143) = false := beq_eq_false_iff_ne.mpr c224
                  have c224b1 : (t163 != t143) = true := bne_iff_ne.mpr c224
                  obtain rfl := Option.some.inj H
                  have hnb231 := NB129_101.out
                  have hnc231 := NB101_129.out
                  have hnb232 := NB129_115.out
                  have hnc232 := NB115_129.out
                  have hnb233 := NB129_120.out
                  have hnc233 := NB120_129.out
                  have hnb234 := NB129_159.out
                  have hnc234 := NB159_129.out
                  have hcz235_0 : wc.cell? ⟨gb129, 0, none⟩ = some (.int .i64 t121) := (blk_cell BK129.out 0).trans rfl
                  have hcz235_1 : wc.cell? ⟨gb129, 1, none⟩ = some (.slice Ao37 t142.length co37) := (blk_cell BK129.out 1).trans rfl
                  have hfz235_0 := blk_frozen BK129.out 0
                  have hfz235_1 := blk_frozen BK129.out 1
                  go_wp2_with (first | ((with_reducible refine gate_callee (f := 24) rfl ?_); refine goesL_ (some 127) rfl rfl Try.func24 zk rfl #[.agg #[.int .i64 t121, .slice Ao37 t142.length co37], .int .i64 1] rfl zm ?_; (with_reducible refine (laws_heldClock.calls kj145 t121 _ _ t142 1 t162 _ ?side1 ?side2 A208.out).mono ?_); (case side1 => exact cz ((Kd.R_reads' HO_130001.out).2.2)); (case side2 => exact (Kd.R_reads' HO_130001.out).2.1); rintro e w236 ⟨rfl, hb⟩; refine ⟨_, rfl, ?_⟩; replace HO_11 := Aside0.mk (Kd.R_below (rz HO_11.out) hb); replace HO_116001 := Aside0.mk (Kd.R_below (rz HO_116001.out) hb); replace HO_121001 := Aside0.mk (Kd.R_below (rz HO_121001.out) hb); replace HO_130001 := Aside0.mk (Kd.R_below (rz HO_130001.out) hb); replace HO_160001 := Aside0.mk (Kd.R_below (rz HO_160001.out) hb); replace BK101 := Aside0.mk (blk_below (g := gb101) (o := .cells #[.int .i64 a0_0, .slice A0_1 l0_1.length c0_1] 38 (0, 0)) (kz BK101.out) hb); replace BK115 := Aside0.mk (blk_below (g := gb115) (o := .cells #[.int .i64 t107, .slice Ao23 t108.length co23] 26 (0, 0)) (kz BK115.out) hb); replace BK120 := Aside0.mk (blk_below (g := gb120) (o := .cells #[.int .i64 t116, .slice Ao30 t138.length co30] 26 (0, 0)) (kz BK120.out) hb); replace BK129 := Aside0.mk (blk_below (g := gb129) (o := .cells #[.int .i64 t121, .slice Ao37 t142.length co37] 26 (0, 0)) (kz BK129.out) hb); replace BK159 := Aside0.mk (blk_below (g := gb159) (o := .cells #[.int .i64 t151, .slice Ao168 t152.length co168] 26 (0, 0)) (kz BK159.out) hb); replace HB := Aside0.mk (below_step (by repeat (first | (with_reducible first | exact HB.out | apply below_alloc | apply pw_below_drewN | apply below_drew1 | refine below_set ?_ GE101.out | refine below_set ?_ GE115.out | refine below_set ?_ GE120.out | refine below_set ?_ GE129.out | refine below_set ?_ GE159.out) | exact HB.out)) hb); (try clear hb)) | ((with_reducible refine gate_callee (f := 42) rfl ?_); refine goesL_ (some 132) rfl rfl Try.func42 zk rfl #[.slice Ao152 t144.length co152, .int .i64 t162] rfl zm ?_; (with_reducible refine (laws_heldIntS.calls kj145 _ _ t144 t162 t163 _ ?side1 ?side2 A216.out).mono ?_); (case side1 => exact cz ((Kd.R_reads' HO_11.out).2.2)); (case side2 => exact (Kd.R_reads' HO_11.out).2.1); rintro e w' ⟨rfl, ⟨nd, rfl⟩⟩; refine ⟨_, rfl, ?_⟩))
                  go_ret
                  exact ⟨ze, by repeat (first | (with_reducible first | exact HB.out | apply below_alloc | apply pw_below_drewN | apply below_drew1 | refine below_set ?_ GE101.out | refine below_set ?_ GE115.out | refine below_set ?_ GE120.out | refine below_set ?_ GE129.out | refine below_set ?_ GE159.out) | exact HB.out)⟩
           ·
            rw [if_neg c143] at H
            have c143b0 : (t146 == t143) = false := beq_eq_false_iff_ne.mpr c143
            have c143b1 : (t146 != t143) = true := bne_iff_ne.mpr c143
            obtain rfl := Option.some.inj H
            have hnb237 := NB129_101.out
            have hnc237 := NB101_129.out
            have hnb238 := NB129_115.out
            have hnc238 := NB115_129.out
            have hnb239 := NB129_120.out
            have hnc239 := NB120_129.out
            have hcz240_0 : wc.cell? ⟨gb129, 0, none⟩ = some (.int .i64 t121) := (blk_cell BK129.out 0).trans rfl
            have hcz240_1 : wc.cell? ⟨gb129, 1, none⟩ = some (.slice Ao37 t122.length co37) := (blk_cell BK129.out 1).trans rfl
            have hfz240_0 := blk_frozen BK129.out 0
            have hfz240_1 := blk_frozen BK129.out 1
            go_wp2_with (first | ((with_reducible refine gate_callee (f := 23) rfl ?_); refine goesL_ (some 85) rfl rfl Try.func23 zk rfl #[.agg #[.int .i64 t121, .slice Ao37 t122.length co37], .int .i64 1] rfl zm ?_; (with_reducible refine (laws_markClock.calls kj74 t121 (fun k_ => some k_ = (.slice Ao37 t122.length co37 : Value).ownBlock) (.slice Ao37 t122.length co37) t122 1 t141 t142 w _ ?side1 ?side2 A119.out).mono ?_); (case side1 => repeat (first | (with_reducible first | exact HB.out | apply below_alloc | apply pw_below_drewN | apply below_drew1 | refine below_set ?_ GE101.out | refine below_set ?_ GE115.out | refine below_set ?_ GE120.out | refine below_set ?_ GE129.out) | exact HB.out)); (case side2 => exact Kd.R_tight rfl HO_130001.out); rintro e w241 ⟨rfl, hy0, hb, hkp⟩; refine ⟨_, rfl, ?_⟩; replace HO_7 := Aside0.mk (Kd.R_mono (ok' := fun k_ => some k_ ≠ (v126 : Value).ownBlock) (Kd.R_keptB ((Kd.R_apart' HO_7.out (Kd.R_typed HO_130001.out) (by decide))) hkp (fun k_ hk_ hs_ => (hk_.2) hs_)) (fun k_ hk_ => hk_.1.1)); replace HO_11 := Aside0.mk (Kd.R_mono (ok' := fun k_ => some k_ ≠ (v112 : Value).ownBlock) (Kd.R_keptB ((Kd.R_apart' HO_11.out (Kd.R_typed HO_130001.out) (by decide))) hkp (fun k_ hk_ hs_ => (hk_.2) hs_)) (fun k_ hk_ => hk_.1.1)); replace HO_116001 := Aside0.mk (Kd.R_mono (ok' := fun k_ => some k_ ≠ (.slice Ao30 t138.length co30 : Value).ownBlock ∧ some k_ ≠ (.slice Ao37 t122.length co37 : Value).ownBlock) (Kd.R_keptB (HO_116001.out) hkp (fun k_ hk_ hs_ => (hk_.2) hs_)) (fun k_ hk_ => ⟨hk_.1.1, hk_.1.2⟩)); replace HO_121001 := Aside0.mk (Kd.R_mono (ok' := fun k_ => some k_ ≠ (.slice Ao23 t108.length co23 : Value).ownBlock ∧ some k_ ≠ (.slice Ao37 t122.length co37 : Value).ownBlock) (Kd.R_keptB (HO_121001.out) hkp (fun k_ hk_ hs_ => (hk_.2) hs_)) (fun k_ hk_ => ⟨hk_.1.1, hk_.1.2⟩)); replace BK101 := Aside0.mk (blk_kept (kz BK101.out) hkp (fun hs_ => (fun e_ => (Kd.R_ne HO_130001.out BK101.out (by decide)) e_) hs_)); replace BK115 := Aside0.mk (blk_kept (kz BK115.out) hkp (fun hs_ => (fun e_ => (Kd.R_ne HO_130001.out BK115.out (by decide)) e_) hs_)); replace BK120 := Aside0.mk (blk_kept (kz BK120.out) hkp (fun hs_ => (fun e_ => (Kd.R_ne HO_130001.out BK120.out (by decide)) e_) hs_)); replace BK129 := Aside0.mk (blk_kept (kz BK129.out) hkp (fun hs_ => (fun e_ => (Kd.R_ne HO_130001.out BK129.out (by decide)) e_) hs_)); replace HO_130001 := Aside0.mk (Kd.R_reok rfl hy0 (fun k_ e_ => HO_130001.out.1 k_ e_)); replace HB := Aside0.mk (hb); (try clear hb); (try clear hkp); (try clear hy0); obtain ⟨Ao242, co242, eo242⟩ := Kd.R_slice HO_11.out; subst eo242) | ((with_reducible refine gate_callee (f := 41) rfl ?_); refine goesL_ (some 88) rfl rfl Try.func41 zk rfl #[.slice Ao242 t125.length co242, .int .i64 t141] rfl zm ?_; (with_reducible refine (laws_markIntS.calls kj74 (fun k_ => some k_ = (.slice Ao242 t125.length co242 : Value).ownBlock) (.slice Ao242 t125.length co242) t125 t141 t143 t144 w _ ?side1 ?side2 A120.out).mono ?_); (case side1 => repeat (first | (with_reducible first | exact HB.out | apply below_alloc | apply pw_below_drewN | apply below_drew1 | refine below_set ?_ GE101.out | refine below_set ?_ GE115.out | refine below_set ?_ GE120.out | refine below_set ?_ GE129.out) | exact HB.out)); (case side2 => exact Kd.R_tight rfl HO_11.out); rintro e w243 ⟨rfl, hy0, hb, hkp⟩; refine ⟨_, rfl, ?_⟩; replace HO_7 := Aside0.mk (Kd.R_mono (ok' := fun k_ => some k_ ≠ (.slice Ao242 t125.length co242 : Value).ownBlock) (Kd.R_keptB (HO_7.out) hkp (fun k_ hk_ hs_ => (hk_) hs_)) (fun k_ hk_ => hk_.1)); replace HO_116001 := Aside0.mk (Kd.R_mono (ok' := fun k_ => some k_ ≠ (.slice Ao30 t138.length co30 : Value).ownBlock ∧ some k_ ≠ (.slice Ao37 t122.length co37 : Value).ownBlock) (Kd.R_keptB ((Kd.R_apart' HO_116001.out (Kd.R_typed HO_11.out) (by decide))) hkp (fun k_ hk_ hs_ => (hk_.2) hs_)) (fun k_ hk_ => ⟨hk_.1.1.1, hk_.1.1.2⟩)); replace HO_121001 := Aside0.mk (Kd.R_mono (ok' := fun k_ => some k_ ≠ (.slice Ao23 t108.length co23 : Value).ownBlock ∧ some k_ ≠ (.slice Ao37 t122.length co37 : Value).ownBlock) (Kd.R_keptB ((Kd.R_apart' HO_121001.out (Kd.R_typed HO_11.out) (by decide))) hkp (fun k_ hk_ hs_ => (hk_.2) hs_)) (fun k_ hk_ => ⟨hk_.1.1.1, hk_.1.1.2⟩)); replace HO_130001 := Aside0.mk (Kd.R_mono (ok' := fun k_ => some k_ ≠ (.slice Ao23 t108.length co23 : Value).ownBlock ∧ some k_ ≠ (.slice Ao30 t138.length co30 : Value).ownBlock) (Kd.R_keptB ((Kd.R_apart' HO_130001.out (Kd.R_typed HO_11.out) (by decide))) hkp (fun k_ hk_ hs_ => (hk_.2) hs_)) (fun k_ hk_ => ⟨hk_.1.1.1, hk_.1.1.2⟩)); replace BK101 := Aside0.mk (blk_kept (kz BK101.out) hkp (fun hs_ => (fun e_ => (Kd.R_ne HO_11.out BK101.out (by decide)) e_) hs_)); replace BK115 := Aside0.mk (blk_kept (kz BK115.out) hkp (fun hs_ => (fun e_ => (Kd.R_ne HO_11.out BK115.out (by decide)) e_) hs_)); replace BK120 := Aside0.mk (blk_kept (kz BK120.out) hkp (fun hs_ => (fun e_ => (Kd.R_ne HO_11.out BK120.out (by decide)) e_) hs_)); replace BK129 := Aside0.mk (blk_kept (kz BK129.out) hkp (fun hs_ => (fun e_ => (Kd.R_ne HO_11.out BK129.out (by decide)) e_) hs_)); replace HO_11 := Aside0.mk (Kd.R_reok rfl hy0 (fun k_ e_ => HO_11.out.1 k_ e_)); replace HB := Aside0.mk (hb); (try clear hb); (try clear hkp); (try clear hy0); have hcz244_0 : w243.cell? ⟨gb129, 0, none⟩ = some (.int .i64 t121) := (blk_cell BK129.out 0).trans rfl; have hcz244_1 : w243.cell? ⟨gb129, 1, none⟩ = some (.slice Ao37 t122.length co37) := (blk_cell BK129.out 1).trans rfl; have hfz244_0 := blk_frozen BK129.out 0; have hfz244_1 := blk_frozen BK129.out 1) | ((with_reducible refine gate_callee (f := 24) rfl ?_); refine goesL_ (some 91) rfl rfl Try.func24 zk rfl #[.agg #[.int .i64 t121, .slice Ao37 t142.length co37], .int .i64 1] rfl (by (try simp only [List.map_toArray, List.map_cons, List.map_nil]); first | done | (rw [show t142.length = t122.length from (Kd.R_reads' HO_130001.out).1.symm] <;> rfl) | rfl | (simp only [List.length_drop, List.length_take]; rfl)) ?_; (with_reducible refine (laws_heldClock.calls kj74 t121 _ _ t142 1 t145 _ ?side1 ?side2 A121.out).mono ?_); (case side1 => exact cz ((Kd.R_reads' HO_130001.out).2.2)); (case side2 => rw [show t142.length = t122.length from (Kd.R_reads' HO_130001.out).1.symm]; exact (Kd.R_reads' HO_130001.out).2.1); rintro e w245 ⟨rfl, hb⟩; refine ⟨_, rfl, ?_⟩; replace HO_7 := Aside0.mk (Kd.R_below (rz HO_7.out) hb); replace HO_11 := Aside0.mk (Kd.R_below (rz HO_11.out) hb); replace HO_116001 := Aside0.mk (Kd.R_below (rz HO_116001.out) hb); replace HO_121001 := Aside0.mk (Kd.R_below (rz HO_121001.out) hb); replace HO_130001 := Aside0.mk (Kd.R_below (rz HO_130001.out) hb); replace BK101 := Aside0.mk (blk_below (g := gb101) (o := .cells #[.int .i64 a0_0, .slice A0_1 l0_1.length c0_1] 38 (0, 0)) (kz BK101.out) hb); replace BK115 := Aside0.mk (blk_below (g := gb115) (o := .cells #[.int .i64 t107, .slice Ao23 t108.length co23] 26 (0, 0)) (kz BK115.out) hb); replace BK120 := Aside0.mk (blk_below (g := gb120) (o := .cells #[.int .i64 t116, .slice Ao30 t138.length co30] 26 (0, 0)) (kz BK120.out) hb); replace BK129 := Aside0.mk (blk_below (g := gb129) (o := .cells #[.int .i64 t121, .slice Ao37 t122.length co37] 26 (0, 0)) (kz BK129.out) hb); replace HB := Aside0.mk (below_step (by repeat (first | (with_reducible first | exact HB.out | apply below_alloc | apply pw_below_drewN | apply below_drew1 | refine below_set ?_ GE101.out | refine below_set ?_ GE115.out | refine below_set ?_ GE120.out | refine below_set ?_ GE129.out) | exact HB.out)) hb); (try clear hb)) | ((with_reducible refine gate_callee (f := 42) rfl ?_); refine goesL_ (some 96) rfl rfl Try.func42 zk rfl #[.slice Ao242 t144.length co242, .int .i64 t145] rfl (by (try simp only [List.map_toArray, List.map_cons, List.map_nil]); first | done | (rw [show t144.length = t125.length from (Kd.R_reads' HO_11.out).1.symm] <;> rfl) | rfl | (simp only [List.length_drop, List.length_take]; rfl)) ?_; (with_reducible refine (laws_heldIntS.calls kj74 _ _ t144 t145 t146 _ ?side1 ?side2 A132.out).mono ?_); (case side1 => exact cz ((Kd.R_reads' HO_11.out).2.2)); (case side2 => rw [show t144.length = t125.length from (Kd.R_reads' HO_11.out).1.symm]; exact (Kd.R_reads' HO_11.out).2.1); rintro e w' ⟨rfl, ⟨nd, rfl⟩⟩; refine ⟨_, rfl, ?_⟩))
            go_ret
            exact ⟨ze, by repeat (first | (with_reducible first | exact HB.out | apply below_alloc | apply pw_below_drewN | apply below_drew1 | refine below_set ?_ GE101.out | refine below_set ?_ GE115.out | refine below_set ?_ GE120.out | refine below_set ?_ GE129.out) | exact HB.out)⟩
     ·
      replace c73 := Bool.eq_false_iff.mpr c73
      subst c73
      rw [if_neg nf_] at H
      obtain rfl := Option.some.inj H
      try go_wp2
      replace HO_7 := Aside0.mk (Kd.R_drew HO_7.out)
      replace HO_11 := Aside0.mk (Kd.R_drew HO_11.out)
      replace HO_116001 := Aside0.mk (Kd.R_drew HO_116001.out)
      replace HO_121001 := Aside0.mk (Kd.R_drew HO_121001.out)
      replace HO_130001 := Aside0.mk (Kd.R_drew HO_130001.out)
      replace BK101 := Aside0.mk (blk_drew BK101.out)
      replace BK115 := Aside0.mk (blk_drew BK115.out)
      replace BK120 := Aside0.mk (blk_drew BK120.out)
      replace BK129 := Aside0.mk (blk_drew BK129.out)
      replace HB := Aside0.mk (below_drew1 HB.out)
      refine start_ (n := 5) (S := fun w' => w'.cell? ⟨gb120, 0, none⟩ = some (.int .i64 t116) ∧ w'.cell? ⟨gb120, 1, none⟩ = some (.slice Ao30 t117.length co30) ∧ w'.cell? ⟨gb101, 0, none⟩ = some (.int .i64 a0_0) ∧ w'.cell? ⟨gb101, 1, none⟩ = some (.slice A0_1 l0_1.length c0_1)) (ds := []) (lb 5 0) zk rfl rfl ⟨(blk_cell BK120.out 0).trans rfl, (blk_cell BK120.out 1).trans rfl, (blk_cell BK101.out 0).trans rfl, (blk_cell BK101.out 1).trans rfl⟩ (fun hHeld => ?_)
      generalize wc.drew = w246 at HO_7 HO_11 HO_116001 HO_121001 HO_130001 BK101 BK115 BK120 BK129 HB hHeld ⊢
      refine take_ (i := 0) (N := some 56) (v := ?_) (a' := ?_) (lb 5 1) rfl rfl zk (fun _ _ _ h => h) (Or.inl ⟨by rfl, ?_⟩) hHeld ?_ ?_; rotate_left; (rintro w' ⟨s0, s1, s2, s3⟩; go_simp; with_reducible rfl); rotate_left; (simp only [Act.put, List.setIfInBounds_toArray, List.set_cons_zero, List.set_cons_succ, i64_w, i32_w]; rfl)
      refine take_ (i := 1) (N := some 57) (v := ?_) (a' := ?_) (lb 5 3) rfl rfl zk (fun _ _ _ h => h) (Or.inl ⟨by rfl, ?_⟩) hHeld ?_ ?_; rotate_left; (rintro w' ⟨s0, s1, s2, s3⟩; go_simp; with_reducible rfl); rotate_left; (simp only [Act.put, List.setIfInBounds_toArray, List.set_cons_zero, List.set_cons_succ, i64_w, i32_w]; rfl)
      refine one_ (i := 2) (N := some 58) (lb 5 7) rfl rfl zk (by decide) (fun K hK => ?_)
      refine goes_ Try.func27 zk rfl #[.agg #[.int .i64 a0_0, .slice A0_1 l0_1.length c0_1]] (by rfl) rfl rfl zm ?_
      with_reducible refine (laws_toClock.calls kj11 a0_0 _ _ l0_1 t132 t133 _ ?side1 ?side2 A71.out).mono ?_
      (case side1 => exact cz (Kd.C_below HR0_1.out HB.out))
      (case side2 => exact HC0_1.out)
      rintro e w247 ⟨v134, rfl, ho0, hb⟩
      refine ⟨_, rfl, ?_⟩
      replace HO_7 := Aside0.mk (Kd.R_below (rz HO_7.out) hb)
      replace HO_11 := Aside0.mk (Kd.R_below (rz HO_11.out) hb)
      have HO135 := Aside0.mk (Kd.R_lower (Kd.R_new' (Kd.R_new' (Kd.R_new' ho0 (Kd.R_lt (rz HO_116001.out))) (Kd.R_lt (rz HO_121001.out))) (Kd.R_lt (rz HO_130001.out))) (below_size (by repeat (first | (with_reducible first | exact HB.out | apply below_alloc | apply pw_below_drewN | apply below_drew1 | refine below_set ?_ GE101.out | refine below_set ?_ GE115.out | refine below_set ?_ GE120.out | refine below_set ?_ GE129.out) | exact HB.out))))
      replace HO_116001 := Aside0.mk (Kd.R_elder' (rz HO_116001.out) (Kd.R_base ho0) hb)
      replace HO_121001 := Aside0.mk (Kd.R_elder' (rz HO_121001.out) (Kd.R_base ho0) hb)
      replace HO_130001 := Aside0.mk (Kd.R_elder' (rz HO_130001.out) (Kd.R_base ho0) hb)
      replace BK101 := Aside0.mk (blk_below (g := gb101) (o := .cells #[.int .i64 a0_0, .slice A0_1 l0_1.length c0_1] 38 (0, 0)) (kz BK101.out) hb)
      replace BK115 := Aside0.mk (blk_below (g := gb115) (o := .cells #[.int .i64 t107, .slice Ao23 t108.length co23] 26 (0, 0)) (kz BK115.out) hb)
      replace BK120 := Aside0.mk (blk_below (g := gb120) (o := .cells #[.int .i64 t116, .slice Ao30 t117.length co30] 26 (0, 0)) (kz BK120.out) hb)
      replace BK129 := Aside0.mk (blk_below (g := gb129) (o := .cells #[.int .i64 t121, .slice Ao37 t122.length co37] 26 (0, 0)) (kz BK129.out) hb)
      replace HB := Aside0.mk (below_step (by repeat (first | (with_reducible first | exact HB.out | apply below_alloc | apply pw_below_drewN | apply below_drew1 | refine below_set ?_ GE101.out | refine below_set ?_ GE115.out | refine below_set ?_ GE120.out | refine below_set ?_ GE129.out) | exact HB.out)) hb)
      (try clear hb)
      (try clear ho0)
      obtain ⟨Ao248, co248, eo248⟩ := Kd.R_slice HO135.out
      (first | subst eo248 | (injection eo248 with f1_ f2_ f3_; have f4_ := f1_.symm; have f5_ := f3_.symm; clear f1_ f2_ f3_; subst f4_; subst f5_))
      refine hK.out _ _ ⟨(blk_cell BK120.out 0).trans rfl, (blk_cell BK120.out 1).trans rfl, (blk_cell BK101.out 0).trans rfl, (blk_cell BK101.out 1).trans rfl⟩ (fun hHeld => ?_)
      clear hK K
      refine norm_ (a' := ?_) ?_ ?_
      rotate_left
      ·
       show Act.put _ (some 58) _ = _
       simp only [Act.put, List.setIfInBounds_toArray, List.set_cons_zero, List.set_cons_succ, i64_w, i32_w]
       rfl
      refine one_ (i := 3) (N := some 59) (lb 5 15) rfl rfl zk (by decide) (fun K hK => ?_)
      refine goes_ Try.func22 zk rfl #[.agg #[.int .i64 t116, .slice Ao30 t117.length co30], .agg #[.int .i64 t132, .slice Ao248 t133.length co248]] (by rfl) rfl rfl zm ?_
      with_reducible refine (laws_eqClock.calls kj11 t116 _ _ t117 t132 _ _ t133 false _ ?side1 ?side2 ?side3 ?side4 A72.out).mono ?_
      (case side1 => exact cz ((Kd.R_reads' HO_121001.out).2.2))
      (case side2 => exact (Kd.R_reads' HO_121001.out).2.1)
      (case side3 => exact cz ((Kd.R_reads' HO135.out).2.2))
      (case side4 => exact (Kd.R_reads' HO135.out).2.1)
      rintro e w249 ⟨rfl, hb⟩
      refine ⟨_, rfl, ?_⟩
      replace HO_7 := Aside0.mk (Kd.R_below (rz HO_7.out) hb)
      replace HO_11 := Aside0.mk (Kd.R_below (rz HO_11.out) hb)
      replace HO_116001 := Aside0.mk (Kd.R_below (rz HO_116001.out) hb)
      replace HO_121001 := Aside0.mk (Kd.R_below (rz HO_121001.out) hb)
      replace HO_130001 := Aside0.mk (Kd.R_below (rz HO_130001.out) hb)
      replace HO135 := Aside0.mk (Kd.R_below (rz HO135.out) hb)
      replace BK101 := Aside0.mk (blk_below (g := gb101) (o := .cells #[.int .i64 a0_0, .slice A0_1 l0_1.length c0_1] 38 (0, 0)) (kz BK101.out) hb)
      replace BK115 := Aside0.mk (blk_below (g := gb115) (o := .cells #[.int .i64 t107, .slice Ao23 t108.length co23] 26 (0, 0)) (kz BK115.out) hb)
      replace BK120 := Aside0.mk (blk_below (g := gb120) (o := .cells #[.int .i64 t116, .slice Ao30 t117.length co30] 26 (0, 0)) (kz BK120.out) hb)
      replace BK129 := Aside0.mk (blk_below (g := gb129) (o := .cells #[.int .i64 t121, .slice Ao37 t122.length co37] 26 (0, 0)) (kz BK129.out) hb)
      replace HB := Aside0.mk (below_step (by repeat (first | (with_reducible first | exact HB.out | apply below_alloc | apply pw_below_drewN | apply below_drew1 | refine below_set ?_ GE101.out | refine below_set ?_ GE115.out | refine below_set ?_ GE120.out | refine below_set ?_ GE129.out) | exact HB.out)) hb)
      (try clear hb)
      refine hK.out _ _ ⟨(blk_cell BK120.out 0).trans rfl, (blk_cell BK120.out 1).trans rfl, (blk_cell BK101.out 0).trans rfl, (blk_cell BK101.out 1).trans rfl⟩ (fun hHeld => ?_)
      clear hK K
      refine norm_ (a' := ?_) ?_ ?_
      rotate_left
      ·
       show Act.put _ (some 59) _ = _
       simp only [Act.put, List.setIfInBounds_toArray, List.set_cons_zero, List.set_cons_succ, i64_w, i32_w]
       rfl
      refine pure_ (i := 4) (N := some 60) (v := ?_) (a' := ?_) (lb 5 31) rfl rfl zk (fun _ _ _ h => h) (Or.inl ⟨by rfl, ?_⟩) ?_ ?_; rotate_left; (intro w'; go_simp; with_reducible rfl); rotate_left; (simp only [Act.put, List.setIfInBounds_toArray, List.set_cons_zero, List.set_cons_succ, i64_w, i32_w]; rfl)
      refine done_ zk ?_
      try go_wp2
      go_ret
      exact ⟨ze, by repeat (first | (with_reducible first | exact HB.out | apply below_alloc | apply pw_below_drewN | apply below_drew1 | refine below_set ?_ GE101.out | refine below_set ?_ GE115.out | refine below_set ?_ GE120.out | refine below_set ?_ GE129.out) | exact HB.out)⟩

end Go.Proofs.Ytlejcgnfpcngbaa.P
