-- printed by wip/qd.py
import Derived.Test.YtgjlbghjjjlhmaaPf0
import Derived.Test.YtgjlbghjjjlhmaaPfimplHoldok
import Derived.Test.YtgjlbghjjjlhmaaPfimplHeldclashes
import Derived.Test.YtgjlbghjjjlhmaaPfimplHeldround
namespace Go.Proofs.Ytgjlbghjjjlhmaa.P
open Go.RowKit Go.Proofs.YtgjlbghjjjlhmaaW.PrintWords Go.Proofs.YtgjlbghjjjlhmaaW.PrintLast Go.Proofs.YtgjlbghjjjlhmaaW.PrintMore
attribute [local go_sem] max2_int min2_int max_two min_two max_three min_three max_four min_four Q.cell_set_map
set_option linter.unusedVariables false
set_option linter.unusedSimpArgs false

/-! ### impl_HeldOk: function 13 -/
mutual
def impl_HeldOk.l0 : Nat → List (S40) → Int → Int → List (S40) → List (S40) → Option (Bool)
 | 0, _, _, _, _, _ => none
 | k + 1, x9, x10, x11, x102000, x102001 => if x11 < x10 then (if 0 ≤ x11 then (if x11 < (x9.length : Int) then ((impl_Hold_ok.f ((rd_T40 x9 x11).f0) ((rd_T40 x9 x11).f1) ((rd_T40 x9 x11).f2) ((rd_T40 x9 x11).f3)).bind fun t104 => (if t104 = true then ((impl_Held_clashes.f k x102000 x102001 ((rd_T40 x9 x11).f0) ((rd_T40 x9 x11).f1) ((rd_T40 x9 x11).f2) ((rd_T40 x9 x11).f3)).bind fun t105 => (impl_HeldOk.j1 k x11 x9 x10 x11 (decide ((t105.length : Int) > 0)) x102000 x102001 ((rd_T40 x9 x11).f0) ((rd_T40 x9 x11).f1) ((rd_T40 x9 x11).f2) ((rd_T40 x9 x11).f3))) else (impl_HeldOk.j1 k x11 x9 x10 x11 true x102000 x102001 ((rd_T40 x9 x11).f0) ((rd_T40 x9 x11).f1) ((rd_T40 x9 x11).f2) ((rd_T40 x9 x11).f3)))) else (none)) else (none)) else (impl_HeldOk.l1 k x102001 (x102001.length : Int) 0 x102000 x102001)
def impl_HeldOk.j1 : Nat → Int → List (S40) → Int → Int → Bool → List (S40) → List (S40) → Int → Int → Int → Bool → Option (Bool)
 | 0, _, _, _, _, _, _, _, _, _, _, _ => none
 | k + 1, x3, x9, x10, x11, x25, x102000, x102001, x104000, x104001, x104002, x104003 => if x25 = true then (some false) else (if x3 = 0 then (impl_HeldOk.l0 k x9 x10 (wrap64 (x11 + 1)) x102000 x102001) else (if 0 ≤ (wrap64 (x3 - 1)) then (if (wrap64 (x3 - 1)) < (x102000.length : Int) then (if ((rd_T40 x102000 (wrap64 (x3 - 1))).f0) > x104000 then (some false) else (if ((rd_T40 x102000 (wrap64 (x3 - 1))).f0) = x104000 then (if ((rd_T40 x102000 (wrap64 (x3 - 1))).f1) ≥ x104001 then (some false) else (if ((rd_T40 x102000 (wrap64 (x3 - 1))).f2) ≥ x104001 then (some false) else (if (((rd_T40 x102000 (wrap64 (x3 - 1))).f3) == x104003) = true then (if (wrap64 (((rd_T40 x102000 (wrap64 (x3 - 1))).f2) + 1)) = x104001 then (some false) else (impl_HeldOk.l0 k x9 x10 (wrap64 (x11 + 1)) x102000 x102001)) else (impl_HeldOk.l0 k x9 x10 (wrap64 (x11 + 1)) x102000 x102001)))) else (impl_HeldOk.l0 k x9 x10 (wrap64 (x11 + 1)) x102000 x102001))) else (none)) else (none)))
def impl_HeldOk.l1 : Nat → List (S40) → Int → Int → List (S40) → List (S40) → Option (Bool)
 | 0, _, _, _, _, _ => none
 | k + 1, x77, x78, x79, x102000, x102001 => if x79 < x78 then (if 0 ≤ x79 then (if x79 < (x77.length : Int) then ((impl_Hold_ok.f ((rd_T40 x77 x79).f0) ((rd_T40 x77 x79).f1) ((rd_T40 x77 x79).f2) ((rd_T40 x77 x79).f3)).bind fun t113 => (if t113 = true then ((impl_Held_clashes.f k x102000 x102001 ((rd_T40 x77 x79).f0) ((rd_T40 x77 x79).f1) ((rd_T40 x77 x79).f2) ((rd_T40 x77 x79).f3)).bind fun t114 => (if (t114.length : Int) = 0 then (some false) else (if x79 > 0 then (if 0 ≤ (wrap64 (x79 - 1)) then (if (wrap64 (x79 - 1)) < (x102001.length : Int) then (if ((rd_T40 x102001 (wrap64 (x79 - 1))).f0) ≥ ((rd_T40 x77 x79).f0) then (some false) else (impl_HeldOk.l1 k x77 x78 (wrap64 (x79 + 1)) x102000 x102001)) else (none)) else (none)) else (impl_HeldOk.l1 k x77 x78 (wrap64 (x79 + 1)) x102000 x102001)))) else (some false))) else (none)) else (none)) else ((impl_Held_round.f k x102000 x102001).bind fun t110 => (some (!t110)))
end
def impl_HeldOk.f (k : Nat) (l0_0 : List (S40)) (l0_1 : List (S40)) : Option (Bool) := impl_HeldOk.l0 k l0_0 (l0_0.length : Int) 0 l0_0 l0_1
theorem impl_HeldOk.mono_l : ∀ k, (∀ y0 y1 y2 y3 y4, LeO (impl_HeldOk.l0 k y0 y1 y2 y3 y4) (impl_HeldOk.l0 (k + 1) y0 y1 y2 y3 y4)) ∧ (∀ y0 y1 y2 y3 y4 y5 y6 y7 y8 y9 y10, LeO (impl_HeldOk.j1 k y0 y1 y2 y3 y4 y5 y6 y7 y8 y9 y10) (impl_HeldOk.j1 (k + 1) y0 y1 y2 y3 y4 y5 y6 y7 y8 y9 y10)) ∧ (∀ y0 y1 y2 y3 y4, LeO (impl_HeldOk.l1 k y0 y1 y2 y3 y4) (impl_HeldOk.l1 (k + 1) y0 y1 y2 y3 y4))
 | 0 => ⟨fun _ _ _ _ _ r h => by simp [impl_HeldOk.l0] at h, fun _ _ _ _ _ _ _ _ _ _ _ r h => by simp [impl_HeldOk.j1] at h, fun _ _ _ _ _ r h => by simp [impl_HeldOk.l1] at h⟩
 | k + 1 => by
  obtain ⟨ih0, ih1, ih2⟩ := impl_HeldOk.mono_l k
  refine ⟨?_, ?_, ?_⟩
  ·
   intro y0 y1 y2 y3 y4
   unfold impl_HeldOk.l0
   repeat' first
   | (with_reducible exact ih0 _ _ _ _ _)
   | (with_reducible exact ih1 _ _ _ _ _ _ _ _ _ _ _)
   | (with_reducible exact ih2 _ _ _ _ _)
   | (with_reducible exact impl_Held_clashes.mono _ _ _ _ _ _ _)
   | (with_reducible exact impl_Held_round.mono _ _ _)
   | (with_reducible exact LeO.refl _)
   | (with_reducible exact LeO.none _)
   | (with_reducible refine LeO.ite ?_ ?_)
   | (with_reducible refine LeO.bind ?_ (fun _ => ?_))
   | exact ih0 _ _ _ _ _
   | exact ih1 _ _ _ _ _ _ _ _ _ _ _
   | exact ih2 _ _ _ _ _
   | exact impl_Held_clashes.mono _ _ _ _ _ _ _
   | exact impl_Held_round.mono _ _ _
   | exact LeO.none _
   | refine LeO.ite ?_ ?_
   | refine LeO.bind ?_ (fun _ => ?_)
  ·
   intro y0 y1 y2 y3 y4 y5 y6 y7 y8 y9 y10
   unfold impl_HeldOk.j1
   repeat' first
   | (with_reducible exact ih0 _ _ _ _ _)
   | (with_reducible exact ih1 _ _ _ _ _ _ _ _ _ _ _)
   | (with_reducible exact ih2 _ _ _ _ _)
   | (with_reducible exact impl_Held_clashes.mono _ _ _ _ _ _ _)
   | (with_reducible exact impl_Held_round.mono _ _ _)
   | (with_reducible exact LeO.refl _)
   | (with_reducible exact LeO.none _)
   | (with_reducible refine LeO.ite ?_ ?_)
   | (with_reducible refine LeO.bind ?_ (fun _ => ?_))
   | exact ih0 _ _ _ _ _
   | exact ih1 _ _ _ _ _ _ _ _ _ _ _
   | exact ih2 _ _ _ _ _
   | exact impl_Held_clashes.mono _ _ _ _ _ _ _
   | exact impl_Held_round.mono _ _ _
   | exact LeO.none _
   | refine LeO.ite ?_ ?_
   | refine LeO.bind ?_ (fun _ => ?_)
  ·
   intro y0 y1 y2 y3 y4
   unfold impl_HeldOk.l1
   repeat' first
   | (with_reducible exact ih0 _ _ _ _ _)
   | (with_reducible exact ih1 _ _ _ _ _ _ _ _ _ _ _)
   | (with_reducible exact ih2 _ _ _ _ _)
   | (with_reducible exact impl_Held_clashes.mono _ _ _ _ _ _ _)
   | (with_reducible exact impl_Held_round.mono _ _ _)
   | (with_reducible exact LeO.refl _)
   | (with_reducible exact LeO.none _)
   | (with_reducible refine LeO.ite ?_ ?_)
   | (with_reducible refine LeO.bind ?_ (fun _ => ?_))
   | exact ih0 _ _ _ _ _
   | exact ih1 _ _ _ _ _ _ _ _ _ _ _
   | exact ih2 _ _ _ _ _
   | exact impl_Held_clashes.mono _ _ _ _ _ _ _
   | exact impl_Held_round.mono _ _ _
   | exact LeO.none _
   | refine LeO.ite ?_ ?_
   | refine LeO.bind ?_ (fun _ => ?_)
theorem impl_HeldOk.mono : ∀ a0 a1 k, LeO (impl_HeldOk.f k a0 a1) (impl_HeldOk.f (k + 1) a0 a1) := by
 intro a0 a1 k
 obtain ⟨ih0, ih1, ih2⟩ := impl_HeldOk.mono_l k
 unfold impl_HeldOk.f
 repeat' first
   | (with_reducible exact ih0 _ _ _ _ _)
   | (with_reducible exact ih1 _ _ _ _ _ _ _ _ _ _ _)
   | (with_reducible exact ih2 _ _ _ _ _)
   | (with_reducible exact impl_Held_clashes.mono _ _ _ _ _ _ _)
   | (with_reducible exact impl_Held_round.mono _ _ _)
   | (with_reducible exact LeO.refl _)
   | (with_reducible exact LeO.none _)
   | (with_reducible refine LeO.ite ?_ ?_)
   | (with_reducible refine LeO.bind ?_ (fun _ => ?_))
   | exact ih0 _ _ _ _ _
   | exact ih1 _ _ _ _ _ _ _ _ _ _ _
   | exact ih2 _ _ _ _ _
   | exact impl_Held_clashes.mono _ _ _ _ _ _ _
   | exact impl_Held_round.mono _ _ _
   | exact LeO.none _
   | refine LeO.ite ?_ ?_
   | refine LeO.bind ?_ (fun _ => ?_)
def impl_HeldOk.T14 : Bool × List (List Nat × List Nat) := (true, [([], []), ([0], [0]), ([1], [1]), ([2, 1], [2]), ([3], [3]), ([3], [3]), ([4, 5, 3, 3], [3, 4, 5]), ([6, 3], [3, 6]), ([7, 3], [3, 7]), ([3, 8], [3, 8]), ([9, 6], [9]), ([10], [10]), ([11, 10], [10, 11]), ([12, 10, 10], [10, 12]), ([13], [13]), ([14, 13], [13, 14]), ([13], [13]), ([16, 13], [13, 16]), ([15, 17, 13], [13, 15, 17]), ([18, 13], [13, 18]), ([19, 13], [13, 19]), ([13], [13]), ([21, 13], [13, 21]), ([20, 22, 13], [13, 20, 22]), ([13, 23, 10], [10, 13, 23]), ([10, 24], [10, 24])])
def impl_HeldOk.B14 : List Nat := [0, 1, 3, 7, 15, 15, 63, 127, 255, 511, 1023, 2047, 4095, 8191, 16383, 32767, 16383, 81919, 262143, 524287, 1048575, 16383, 2113535, 8388607, 16777215, 33554431]
theorem impl_HeldOk.tab14 : rtab .any (opsOf Try.f13 14) = impl_HeldOk.T14 := by kernel_rfl
theorem impl_HeldOk.bits14 : waitsOk impl_HeldOk.T14.2 impl_HeldOk.B14 = true := by kernel_rfl
set_option maxHeartbeats 8000000 in
set_option maxRecDepth 100000 in
theorem impl_HeldOk.calls (k : Nat) (A0_0 : Option Addr) (c0_0 : Nat) (l0_0 : List (S40)) (A0_1 : Option Addr) (c0_1 : Nat) (l0_1 : List (S40)) (r : Bool) (w : World) (hr0_0 : Kd.C k40 w A0_0 l0_0.length l0_0) (hc0_0 : l0_0.length ≤ c0_0) (hr0_1 : Kd.C k40 w A0_1 l0_1.length l0_1) (hc0_1 : l0_1.length ≤ c0_1) (h : impl_HeldOk.f k l0_0 l0_1 = some r) :
  Calls Try.prog 13 #[.agg #[.slice A0_0 l0_0.length c0_0, .slice A0_1 l0_1.length c0_1]] w fun e w' => e = .returned (.bool r) ∧ Below w.heap.size w w' := by
 have hu29 := Try.underlying29; have hu40 := Try.underlying40; have HR0_0 := Aside0.mk hr0_0; have HC0_0 := Aside0.mk hc0_0; clear hr0_0 hc0_0; have HR0_1 := Aside0.mk hr0_1; have HC0_1 := Aside0.mk hc0_1; clear hr0_1 hc0_1; have HB := Aside0.mk (Below.refl w.heap.size w); have H : (impl_HeldOk.l0 k l0_0 (l0_0.length : Int) 0 l0_0 l0_1) = some r := h; clear h; have H' := Aside0.mk H; clear H
 go_enter Try.func13, Try.ntmps13
 go_wp2_with (first | ((with_reducible refine gate_dst (N := 1) rfl ?_); (try (refine gate_guard (by rfl) ?_; dsimp only)); refine box_event ?hg (N := 1) ?hd (cs := #[.slice A0_0 l0_0.length c0_0, .slice A0_1 l0_1.length c0_1]) (t := 29) ?hr ?_; (case hd => rfl); (case hg => rfl); (case hr => first | (go_simp; done) | (go_simp; rfl)); intro gb101 hg w2 hbox hb; have BK101 := Aside0.mk (hbox); have GW101 := Aside0.mk ((by rw [hg]; exact (below_size (bz HB.out)) : w.heap.size ≤ gb101)); have GE101 := GW101; replace HB := Aside0.mk (below_step (bz HB.out) hb); clear hb hbox hg; obtain ⟨hcz3_0, hcz3_1⟩ := cz2 BK101.out; obtain ⟨hfz3_0, hfz3_1⟩ := fz2 BK101.out))
 go_loopg [11] k (fun kq v11 w' => ∃ (x11_1 : Int), v11 = .int .i64 x11_1 ∧ Aside0 (impl_HeldOk.l0 kq l0_0 (l0_0.length : Int) x11_1 l0_0 l0_1 = some r) ∧ Aside0 (kq ≤ k) ∧ Aside0 (w'.heap[gb101]? = some (.cells #[(.slice A0_0 l0_0.length c0_0), (.slice A0_1 l0_1.length c0_1)] 29 (0, 0))) ∧ Aside0 (Below w.heap.size w w'))
 case atStart => exact ⟨(0), zr, H', ⟨Nat.le_refl _⟩, ⟨kz (BK101.out)⟩, ⟨bs HB.out GE101.out⟩⟩
 case round =>
  clear H'
  try clear c1
  try clear p2
  try clear hcz3_0
  try clear hcz3_1
  try clear hfz3_0
  try clear hfz3_1
  obtain ⟨x11_1, rfl, HA, HK1, BK101, HB⟩ := hrel
  cases gk with
  | zero => exact absurd HA.out (by simp [impl_HeldOk.l0])
  | succ k1 =>
   have H := HA.out; clear HA; simp only [impl_HeldOk.l0] at H
   by_cases c4 : x11_1 < (l0_0.length : Int)
   ·
    rw [if_pos c4] at H; have c4b0 : decide (x11_1 < (l0_0.length : Int)) = true := decide_eq_true c4; clear c4
    by_cases c5 : 0 ≤ x11_1
    ·
     rw [if_pos c5] at H; have c5b0 : decide (0 ≤ x11_1) = true := decide_eq_true c5; clear c5
     by_cases c6 : x11_1 < (l0_0.length : Int)
     ·
      rw [if_pos c6] at H; have c6b0 : decide (x11_1 < (l0_0.length : Int)) = true := decide_eq_true c6; clear c6; have HC7 := Aside0.mk H; clear H; have p102 : 0 ≤ (x11_1 : Int) := of_decide_eq_true zs; have q102 : x11_1 < (l0_0.length : Int) := of_decide_eq_true zs; obtain ⟨ad102, e102, hx102_0, hx102_1, hx102_2, hx102_3⟩ := at_T40 HR0_0.out x11_1 p102 q102; cases e102; replace hx102_0 := pw_cell_below HB.out hx102_0; replace hx102_1 := pw_cell_below HB.out hx102_1; replace hx102_2 := pw_cell_below HB.out hx102_2; replace hx102_3 := pw_cell_below HB.out hx102_3; replace p102 := eq_true p102; replace q102 := eq_true q102
      go_upto_region 4 with (first | ((with_reducible refine gate_dst (N := 4) rfl ?_); (try (refine gate_guard (by rfl) ?_; dsimp only)); refine box_event ?hg (N := 4) ?hd (cs := #[.int .i64 0, .int .i64 0, .int .i64 0, .bool false]) (t := 40) ?hr ?_; (case hd => rfl); (case hg => rfl); (case hr => first | (go_simp; done) | (go_simp; rfl)); intro gb103 hg w8 hbox hb; have BK103 := Aside0.mk (hbox); have GW103 := Aside0.mk ((by rw [hg]; exact (below_size (bs HB.out GE101.out)) : w.heap.size ≤ gb103)); have GE103 := GW103; replace HB := Aside0.mk (below_step (bs HB.out GE101.out) hb); have NB101_103 := Aside0.mk ((by rw [hg]; exact Nat.ne_of_lt (blk_lt (kz BK101.out)) : gb101 ≠ gb103)); have NB103_101 := Aside0.mk NB101_103.out.symm; replace BK101 := Aside0.mk (blk_below (kz BK101.out) hb); clear hb hbox hg; have hnb9 := NB103_101.out; have hnc9 := NB101_103.out; obtain ⟨hcz10_0, hcz10_1, hcz10_2, hcz10_3⟩ := cz4 BK103.out; obtain ⟨hfz10_0, hfz10_1, hfz10_2, hfz10_3⟩ := fz4 BK103.out))
      (try simp only [Act.put, List.setIfInBounds_toArray, List.set_cons_zero, List.set_cons_succ])
      go_cut [25] (fun v25 wc => ∃ (kq : Nat) (x25_6 : Bool), v25 = .bool x25_6 ∧ Aside0 (impl_HeldOk.j1 kq x11_1 l0_0 (l0_0.length : Int) x11_1 x25_6 l0_0 l0_1 ((rd_T40 l0_0 x11_1).f0) ((rd_T40 l0_0 x11_1).f1) ((rd_T40 l0_0 x11_1).f2) ((rd_T40 l0_0 x11_1).f3) = some r) ∧ Aside0 (kq ≤ k1) ∧ Aside0 (wc.heap[gb101]? = some (.cells #[(.slice (some ad102) l0_0.length c0_0), (.slice A0_1 l0_1.length c0_1)] 29 (0, 0))) ∧ Aside0 (wc.heap[gb103]? = some (.cells #[.int .i64 ((rd_T40 l0_0 x11_1).f0), .int .i64 ((rd_T40 l0_0 x11_1).f1), .int .i64 ((rd_T40 l0_0 x11_1).f2), .bool ((rd_T40 l0_0 x11_1).f3)] 40 (0, 0))) ∧ Aside0 (Below w.heap.size w wc))
      case first =>
       have H := HC7.out; clear HC7; replace H := Option.bind_eq_some_iff.mp H; obtain ⟨t104, A110, H⟩ := H; have A11 := Aside0.mk A110; clear A110
       by_cases c12 : t104 = true
       ·
        subst c12; rw [if_pos rfl] at H; replace H := Option.bind_eq_some_iff.mp H; obtain ⟨t105, A130, H⟩ := H; have A13 := Aside0.mk A130; clear A130; have H' := Aside0.mk H; clear H; have hnb14 := NB103_101.out; have hnc14 := NB101_103.out; obtain ⟨hcz15_0, hcz15_1, hcz15_2, hcz15_3⟩ := cz4 BK103.out; obtain ⟨hfz15_0, hfz15_1, hfz15_2, hfz15_3⟩ := fz4 BK103.out
        go_wp2_with (first | ((with_reducible refine gate_callee (f := 39) rfl ?_); refine goesL_ (some 17) rfl rfl Try.func39 zk rfl #[.agg #[.int .i64 ((rd_T40 l0_0 x11_1).f0), .int .i64 ((rd_T40 l0_0 x11_1).f1), .int .i64 ((rd_T40 l0_0 x11_1).f2), .bool ((rd_T40 l0_0 x11_1).f3)]] rfl zm ?_; (with_reducible refine (impl_Hold_ok.calls ((rd_T40 l0_0 x11_1).f0) ((rd_T40 l0_0 x11_1).f1) ((rd_T40 l0_0 x11_1).f2) ((rd_T40 l0_0 x11_1).f3) true _ A11.out).mono ?_); rintro e w16 ⟨rfl, hb⟩; refine ⟨_, rfl, ?_⟩; replace BK101 := Aside0.mk (blk_below (g := gb101) (o := .cells #[.slice (some ad102) l0_0.length c0_0, .slice A0_1 l0_1.length c0_1] 29 (0, 0)) (by (with_reducible repeat (first | refine blk_drewN ?_ _ | refine blk_drew ?_ | refine blk_alloc ?_ _ | refine blk_far ?_ NB101_103.out _)); exact BK101.out) hb); replace BK103 := Aside0.mk (blk_below (g := gb103) (o := .cells #[.int .i64 ((rd_T40 l0_0 x11_1).f0), .int .i64 ((rd_T40 l0_0 x11_1).f1), .int .i64 ((rd_T40 l0_0 x11_1).f2), .bool ((rd_T40 l0_0 x11_1).f3)] 40 (0, 0)) (by (with_reducible repeat (first | refine blk_drewN ?_ _ | refine blk_drew ?_ | refine blk_alloc ?_ _)); refine blk_put (cs := #[.int .i64 ((rd_T40 l0_0 x11_1).f0), .int .i64 ((rd_T40 l0_0 x11_1).f1), .int .i64 ((rd_T40 l0_0 x11_1).f2), .bool false]) ?_ 3 _ rfl; (with_reducible repeat (first | refine blk_drewN ?_ _ | refine blk_drew ?_ | refine blk_alloc ?_ _)); refine blk_put (cs := #[.int .i64 ((rd_T40 l0_0 x11_1).f0), .int .i64 ((rd_T40 l0_0 x11_1).f1), .int .i64 0, .bool false]) ?_ 2 _ rfl; (with_reducible repeat (first | refine blk_drewN ?_ _ | refine blk_drew ?_ | refine blk_alloc ?_ _)); refine blk_put (cs := #[.int .i64 ((rd_T40 l0_0 x11_1).f0), .int .i64 0, .int .i64 0, .bool false]) ?_ 1 _ rfl; (with_reducible repeat (first | refine blk_drewN ?_ _ | refine blk_drew ?_ | refine blk_alloc ?_ _)); refine blk_put (cs := #[.int .i64 0, .int .i64 0, .int .i64 0, .bool false]) ?_ 0 _ rfl; (with_reducible repeat (first | refine blk_drewN ?_ _ | refine blk_drew ?_ | refine blk_alloc ?_ _)); exact BK103.out) hb); replace HB := Aside0.mk (below_step (bs2 HB.out GE101.out GE103.out) hb); (try clear hb); obtain ⟨hcz17_0, hcz17_1⟩ := cz2 BK101.out; obtain ⟨hfz17_0, hfz17_1⟩ := fz2 BK101.out; obtain ⟨hcz18_0, hcz18_1, hcz18_2, hcz18_3⟩ := cz4 BK103.out; obtain ⟨hfz18_0, hfz18_1, hfz18_2, hfz18_3⟩ := fz4 BK103.out) | (go_at_call 40; (with_reducible refine (impl_Held_clashes.calls k1 _ _ l0_0 _ _ l0_1 ((rd_T40 l0_0 x11_1).f0) ((rd_T40 l0_0 x11_1).f1) ((rd_T40 l0_0 x11_1).f2) ((rd_T40 l0_0 x11_1).f3) t105 _ ?side1 ?side2 ?side3 ?side4 A13.out).mono ?_); (case side1 => exact cz (Kd.C_below HR0_0.out HB.out)); (case side2 => exact HC0_0.out); (case side3 => exact cz (Kd.C_below HR0_1.out HB.out)); (case side4 => exact HC0_1.out); rintro e w19 ⟨v106, rfl, ho0, hb⟩; have HO107 := Aside0.mk (Kd.R_lower ho0 (below_size (bs2 HB.out GE101.out GE103.out))); replace BK101 := Aside0.mk (blk_below (kz BK101.out) hb); replace BK103 := Aside0.mk (blk_below (kz BK103.out) hb); replace HB := Aside0.mk (below_step (bs2 HB.out GE101.out GE103.out) hb); (try clear hb); (try clear ho0); obtain ⟨Ao20, co20, eo20⟩ := Kd.R_slice HO107.out; subst eo20))
        go_meet
        case rel => exact ⟨_, (decide ((t105.length : Int) > 0)), zr, H', ⟨by have := HK1.out; first | omega | exact Nat.le_refl _⟩, ⟨kz (BK101.out)⟩, ⟨kz (BK103.out)⟩, ⟨bs2 HB.out GE101.out GE103.out⟩⟩
       ·
        replace c12 := Bool.eq_false_iff.mpr c12; subst c12; rw [if_neg nf_] at H; have H' := Aside0.mk H; clear H; have hnb21 := NB103_101.out; have hnc21 := NB101_103.out; obtain ⟨hcz22_0, hcz22_1, hcz22_2, hcz22_3⟩ := cz4 BK103.out; obtain ⟨hfz22_0, hfz22_1, hfz22_2, hfz22_3⟩ := fz4 BK103.out
        go_wp2_with (first | ((with_reducible refine gate_callee (f := 39) rfl ?_); refine goesL_ (some 17) rfl rfl Try.func39 zk rfl #[.agg #[.int .i64 ((rd_T40 l0_0 x11_1).f0), .int .i64 ((rd_T40 l0_0 x11_1).f1), .int .i64 ((rd_T40 l0_0 x11_1).f2), .bool ((rd_T40 l0_0 x11_1).f3)]] rfl zm ?_; (with_reducible refine (impl_Hold_ok.calls ((rd_T40 l0_0 x11_1).f0) ((rd_T40 l0_0 x11_1).f1) ((rd_T40 l0_0 x11_1).f2) ((rd_T40 l0_0 x11_1).f3) false _ A11.out).mono ?_); rintro e w23 ⟨rfl, hb⟩; refine ⟨_, rfl, ?_⟩; replace BK101 := Aside0.mk (blk_below (g := gb101) (o := .cells #[.slice (some ad102) l0_0.length c0_0, .slice A0_1 l0_1.length c0_1] 29 (0, 0)) (by (with_reducible repeat (first | refine blk_drewN ?_ _ | refine blk_drew ?_ | refine blk_alloc ?_ _ | refine blk_far ?_ NB101_103.out _)); exact BK101.out) hb); replace BK103 := Aside0.mk (blk_below (g := gb103) (o := .cells #[.int .i64 ((rd_T40 l0_0 x11_1).f0), .int .i64 ((rd_T40 l0_0 x11_1).f1), .int .i64 ((rd_T40 l0_0 x11_1).f2), .bool ((rd_T40 l0_0 x11_1).f3)] 40 (0, 0)) (by (with_reducible repeat (first | refine blk_drewN ?_ _ | refine blk_drew ?_ | refine blk_alloc ?_ _)); refine blk_put (cs := #[.int .i64 ((rd_T40 l0_0 x11_1).f0), .int .i64 ((rd_T40 l0_0 x11_1).f1), .int .i64 ((rd_T40 l0_0 x11_1).f2), .bool false]) ?_ 3 _ rfl; (with_reducible repeat (first | refine blk_drewN ?_ _ | refine blk_drew ?_ | refine blk_alloc ?_ _)); refine blk_put (cs := #[.int .i64 ((rd_T40 l0_0 x11_1).f0), .int .i64 ((rd_T40 l0_0 x11_1).f1), .int .i64 0, .bool false]) ?_ 2 _ rfl; (with_reducible repeat (first | refine blk_drewN ?_ _ | refine blk_drew ?_ | refine blk_alloc ?_ _)); refine blk_put (cs := #[.int .i64 ((rd_T40 l0_0 x11_1).f0), .int .i64 0, .int .i64 0, .bool false]) ?_ 1 _ rfl; (with_reducible repeat (first | refine blk_drewN ?_ _ | refine blk_drew ?_ | refine blk_alloc ?_ _)); refine blk_put (cs := #[.int .i64 0, .int .i64 0, .int .i64 0, .bool false]) ?_ 0 _ rfl; (with_reducible repeat (first | refine blk_drewN ?_ _ | refine blk_drew ?_ | refine blk_alloc ?_ _)); exact BK103.out) hb); replace HB := Aside0.mk (below_step (bs2 HB.out GE101.out GE103.out) hb); (try clear hb)))
        go_meet
        case rel => exact ⟨_, (true), zr, H', ⟨by have := HK1.out; first | omega | exact Nat.le_refl _⟩, ⟨kz (BK101.out)⟩, ⟨kz (BK103.out)⟩, ⟨bs2 HB.out GE101.out GE103.out⟩⟩
      case rest =>
       clear HC7
       try clear c1
       try clear p1
       try clear q1
       try clear hx1
       try clear c2
       try clear p2
       try clear c3
       try clear c4
       try clear c4b0
       try clear c5
       try clear c5b0
       try clear c6
       try clear c6b0
       try clear c9
       try clear p10
       try clear q10
       try clear hx10
       try clear c12
       try clear c13
       try clear c14
       try clear c21
       try clear hcz10_0
       try clear hcz10_1
       try clear hcz10_2
       try clear hcz10_3
       try clear hcz15_0
       try clear hcz15_1
       try clear hcz15_2
       try clear hcz15_3
       try clear hcz17_0
       try clear hcz17_1
       try clear hcz18_0
       try clear hcz18_1
       try clear hcz18_2
       try clear hcz18_3
       try clear hcz22_0
       try clear hcz22_1
       try clear hcz22_2
       try clear hcz22_3
       try clear hcz3_0
       try clear hcz3_1
       try clear hfz10_0
       try clear hfz10_1
       try clear hfz10_2
       try clear hfz10_3
       try clear hfz15_0
       try clear hfz15_1
       try clear hfz15_2
       try clear hfz15_3
       try clear hfz17_0
       try clear hfz17_1
       try clear hfz18_0
       try clear hfz18_1
       try clear hfz18_2
       try clear hfz18_3
       try clear hfz22_0
       try clear hfz22_1
       try clear hfz22_2
       try clear hfz22_3
       try clear hfz3_0
       try clear hfz3_1
       try clear hx102_0
       try clear hx102_1
       try clear hx102_2
       try clear hx102_3
       try clear p102
       try clear p2
       try clear q102
       obtain ⟨kq, x25_6, rfl, HA, HJ6, BK101, BK103, HB⟩ := hcut
       cases kq with
       | zero => exact absurd HA.out (by simp [impl_HeldOk.j1])
       | succ kj6 =>
        have H := HA.out; clear HA; simp only [impl_HeldOk.j1] at H
        by_cases c24 : x25_6 = true
        ·
         subst c24; rw [if_pos rfl] at H; obtain rfl := Option.some.inj H
         go_wp2
         go_ret
         exact ⟨ze, bs2 HB.out GE101.out GE103.out⟩
        ·
         replace c24 := Bool.eq_false_iff.mpr c24; subst c24; rw [if_neg nf_] at H
         by_cases c25 : x11_1 = 0
         ·
          rw [if_pos c25] at H; have c25b0 : (x11_1 == 0) = true := beq_iff_eq.mpr c25; have c25b1 : (x11_1 != 0) = false := bne_eq_false_iff_eq.mpr c25; clear c25; have H' := Aside0.mk H; clear H
          go_wp2
          go_roundg kj6
          case measure => have := HK1.out; have := HJ6.out; omega
          case rel => exact ⟨(wrap64 (x11_1 + 1)), zr, H', ⟨by have := HK1.out; have := HJ6.out; omega⟩, ⟨kz (BK101.out)⟩, ⟨bs2 HB.out GE101.out GE103.out⟩⟩
         ·
          rw [if_neg c25] at H; have c25b0 : (x11_1 == 0) = false := beq_eq_false_iff_ne.mpr c25; have c25b1 : (x11_1 != 0) = true := bne_iff_ne.mpr c25; obtain ⟨ji26, hji26⟩ : ∃ j_ : Int, (wrap64 (x11_1 - 1)) = j_ := ⟨_, rfl⟩
          replace H : (if 0 ≤ (ji26) then (if (ji26) < (l0_0.length : Int) then (if ((rd_T40 l0_0 (ji26)).f0) > ((rd_T40 l0_0 x11_1).f0) then (some false) else (if ((rd_T40 l0_0 (ji26)).f0) = ((rd_T40 l0_0 x11_1).f0) then (if ((rd_T40 l0_0 (ji26)).f1) ≥ ((rd_T40 l0_0 x11_1).f1) then (some false) else (if ((rd_T40 l0_0 (ji26)).f2) ≥ ((rd_T40 l0_0 x11_1).f1) then (some false) else (if (((rd_T40 l0_0 (ji26)).f3) == ((rd_T40 l0_0 x11_1).f3)) = true then (if (wrap64 (((rd_T40 l0_0 (ji26)).f2) + 1)) = ((rd_T40 l0_0 x11_1).f1) then (some false) else (impl_HeldOk.l0 kj6 l0_0 (l0_0.length : Int) (wrap64 (x11_1 + 1)) l0_0 l0_1)) else (impl_HeldOk.l0 kj6 l0_0 (l0_0.length : Int) (wrap64 (x11_1 + 1)) l0_0 l0_1)))) else (impl_HeldOk.l0 kj6 l0_0 (l0_0.length : Int) (wrap64 (x11_1 + 1)) l0_0 l0_1))) else (none)) else (none)) = some r := by first | (rw [hji26] at H; exact H) | (simp only [hji26] at H ⊢; exact H)
          have hji26w : (IntKind.i64.wrap (x11_1 - 1)) = ji26 := (i64_w _).trans hji26
          by_cases c27 : 0 ≤ (ji26)
          ·
           rw [if_pos c27] at H; have c27b0 : decide (0 ≤ (ji26)) = true := decide_eq_true c27; clear c27
           by_cases c28 : (ji26) < (l0_0.length : Int)
           ·
            rw [if_pos c28] at H; have c28b0 : decide ((ji26) < (l0_0.length : Int)) = true := decide_eq_true c28; clear c28
            by_cases c29 : ((rd_T40 l0_0 (ji26)).f0) > ((rd_T40 l0_0 x11_1).f0)
            ·
             rw [if_pos c29] at H; have c29b0 : decide (((rd_T40 l0_0 x11_1).f0) < ((rd_T40 l0_0 (ji26)).f0)) = true := decide_eq_true c29; clear c29; obtain rfl := Option.some.inj H; have hnb30 := NB101_103.out; have hnc30 := NB103_101.out; obtain ⟨hcz31_0, hcz31_1⟩ := cz2 BK101.out; obtain ⟨hfz31_0, hfz31_1⟩ := fz2 BK101.out; have p108 : 0 ≤ ((ji26) : Int) := of_decide_eq_true zs; have q108 : (ji26) < (l0_0.length : Int) := of_decide_eq_true zs; obtain ⟨ad108, e108, hx108_0, hx108_1, hx108_2, hx108_3⟩ := at_T40 HR0_0.out (ji26) p108 q108; obtain rfl : ad102 = ad108 := (by injection e108); replace hx108_0 := pw_cell_below HB.out hx108_0; replace hx108_1 := pw_cell_below HB.out hx108_1; replace hx108_2 := pw_cell_below HB.out hx108_2; replace hx108_3 := pw_cell_below HB.out hx108_3; replace p108 := eq_true p108; replace q108 := eq_true q108
             go_wp2_with (first | ((with_reducible refine gate_dst (N := 5) rfl ?_); (try (refine gate_guard (by rfl) ?_; dsimp only)); refine box_event ?hg (N := 5) ?hd (cs := #[.int .i64 0, .int .i64 0, .int .i64 0, .bool false]) (t := 40) ?hr ?_; (case hd => rfl); (case hg => rfl); (case hr => first | (go_simp; done) | (go_simp; rfl)); intro gb109 hg w32 hbox hb; have BK109 := Aside0.mk (hbox); have GW109 := Aside0.mk ((by rw [hg]; exact (below_size (bs2 HB.out GE101.out GE103.out)) : w.heap.size ≤ gb109)); have GE109 := GW109; replace HB := Aside0.mk (below_step (bs2 HB.out GE101.out GE103.out) hb); have NB101_109 := Aside0.mk ((by rw [hg]; exact Nat.ne_of_lt (blk_lt (kz BK101.out)) : gb101 ≠ gb109)); have NB109_101 := Aside0.mk NB101_109.out.symm; replace BK101 := Aside0.mk (blk_below (kz BK101.out) hb); have NB103_109 := Aside0.mk ((by rw [hg]; exact Nat.ne_of_lt (blk_lt (kz BK103.out)) : gb103 ≠ gb109)); have NB109_103 := Aside0.mk NB103_109.out.symm; replace BK103 := Aside0.mk (blk_below (kz BK103.out) hb); clear hb hbox hg; have hnb33 := NB109_101.out; have hnc33 := NB101_109.out; have hnb34 := NB109_103.out; have hnc34 := NB103_109.out; obtain ⟨hcz35_0, hcz35_1, hcz35_2, hcz35_3⟩ := cz4 BK109.out; obtain ⟨hfz35_0, hfz35_1, hfz35_2, hfz35_3⟩ := fz4 BK109.out; obtain ⟨hcz36_0, hcz36_1, hcz36_2, hcz36_3⟩ := cz4 BK103.out; obtain ⟨hfz36_0, hfz36_1, hfz36_2, hfz36_3⟩ := fz4 BK103.out))
             go_ret
             exact ⟨by first | rfl | (simp [errW_none, errW_some] <;> rfl) | (simp only [← hji26]; first | rfl | (simp [errW_none, errW_some] <;> rfl)) | (simp [*, errW_none, errW_some] <;> rfl), by repeat (first | (with_reducible first | exact HB.out | apply below_alloc | apply pw_below_drewN | apply below_drew1 | refine below_set ?_ GE101.out | refine below_set ?_ GE103.out | refine below_set ?_ GE109.out) | exact HB.out)⟩
            ·
             rw [if_neg c29] at H; have c29b0 : decide (((rd_T40 l0_0 x11_1).f0) < ((rd_T40 l0_0 (ji26)).f0)) = false := decide_eq_false c29; clear c29
             by_cases c37 : ((rd_T40 l0_0 (ji26)).f0) = ((rd_T40 l0_0 x11_1).f0)
             ·
              rw [if_pos c37] at H; have c37b0 : (((rd_T40 l0_0 (ji26)).f0) == ((rd_T40 l0_0 x11_1).f0)) = true := beq_iff_eq.mpr c37; have c37b1 : (((rd_T40 l0_0 (ji26)).f0) != ((rd_T40 l0_0 x11_1).f0)) = false := bne_eq_false_iff_eq.mpr c37; clear c37
              by_cases c38 : ((rd_T40 l0_0 (ji26)).f1) ≥ ((rd_T40 l0_0 x11_1).f1)
              ·
               rw [if_pos c38] at H; have c38b0 : decide (((rd_T40 l0_0 x11_1).f1) ≤ ((rd_T40 l0_0 (ji26)).f1)) = true := decide_eq_true c38; clear c38; obtain rfl := Option.some.inj H; have hnb39 := NB101_103.out; have hnc39 := NB103_101.out; obtain ⟨hcz40_0, hcz40_1⟩ := cz2 BK101.out; obtain ⟨hfz40_0, hfz40_1⟩ := fz2 BK101.out; have p108 : 0 ≤ ((ji26) : Int) := of_decide_eq_true zs; have q108 : (ji26) < (l0_0.length : Int) := of_decide_eq_true zs; obtain ⟨ad108, e108, hx108_0, hx108_1, hx108_2, hx108_3⟩ := at_T40 HR0_0.out (ji26) p108 q108; obtain rfl : ad102 = ad108 := (by injection e108); replace hx108_0 := pw_cell_below HB.out hx108_0; replace hx108_1 := pw_cell_below HB.out hx108_1; replace hx108_2 := pw_cell_below HB.out hx108_2; replace hx108_3 := pw_cell_below HB.out hx108_3; replace p108 := eq_true p108; replace q108 := eq_true q108
               go_wp2_with (first | ((with_reducible refine gate_dst (N := 5) rfl ?_); (try (refine gate_guard (by rfl) ?_; dsimp only)); refine box_event ?hg (N := 5) ?hd (cs := #[.int .i64 0, .int .i64 0, .int .i64 0, .bool false]) (t := 40) ?hr ?_; (case hd => rfl); (case hg => rfl); (case hr => first | (go_simp; done) | (go_simp; rfl)); intro gb109 hg w41 hbox hb; have BK109 := Aside0.mk (hbox); have GW109 := Aside0.mk ((by rw [hg]; exact (below_size (bs2 HB.out GE101.out GE103.out)) : w.heap.size ≤ gb109)); have GE109 := GW109; replace HB := Aside0.mk (below_step (bs2 HB.out GE101.out GE103.out) hb); have NB101_109 := Aside0.mk ((by rw [hg]; exact Nat.ne_of_lt (blk_lt (kz BK101.out)) : gb101 ≠ gb109)); have NB109_101 := Aside0.mk NB101_109.out.symm; replace BK101 := Aside0.mk (blk_below (kz BK101.out) hb); have NB103_109 := Aside0.mk ((by rw [hg]; exact Nat.ne_of_lt (blk_lt (kz BK103.out)) : gb103 ≠ gb109)); have NB109_103 := Aside0.mk NB103_109.out.symm; replace BK103 := Aside0.mk (blk_below (kz BK103.out) hb); clear hb hbox hg; have hnb42 := NB109_101.out; have hnc42 := NB101_109.out; have hnb43 := NB109_103.out; have hnc43 := NB103_109.out; obtain ⟨hcz44_0, hcz44_1, hcz44_2, hcz44_3⟩ := cz4 BK109.out; obtain ⟨hfz44_0, hfz44_1, hfz44_2, hfz44_3⟩ := fz4 BK109.out; obtain ⟨hcz45_0, hcz45_1, hcz45_2, hcz45_3⟩ := cz4 BK103.out; obtain ⟨hfz45_0, hfz45_1, hfz45_2, hfz45_3⟩ := fz4 BK103.out))
               go_ret
               exact ⟨by first | rfl | (simp [errW_none, errW_some] <;> rfl) | (simp only [← hji26]; first | rfl | (simp [errW_none, errW_some] <;> rfl)) | (simp [*, errW_none, errW_some] <;> rfl), by repeat (first | (with_reducible first | exact HB.out | apply below_alloc | apply pw_below_drewN | apply below_drew1 | refine below_set ?_ GE101.out | refine below_set ?_ GE103.out | refine below_set ?_ GE109.out) | exact HB.out)⟩
              ·
               rw [if_neg c38] at H; have c38b0 : decide (((rd_T40 l0_0 x11_1).f1) ≤ ((rd_T40 l0_0 (ji26)).f1)) = false := decide_eq_false c38; clear c38
               by_cases c46 : ((rd_T40 l0_0 (ji26)).f2) ≥ ((rd_T40 l0_0 x11_1).f1)
               ·
                rw [if_pos c46] at H; have c46b0 : decide (((rd_T40 l0_0 x11_1).f1) ≤ ((rd_T40 l0_0 (ji26)).f2)) = true := decide_eq_true c46; clear c46; obtain rfl := Option.some.inj H; have hnb47 := NB101_103.out; have hnc47 := NB103_101.out; obtain ⟨hcz48_0, hcz48_1⟩ := cz2 BK101.out; obtain ⟨hfz48_0, hfz48_1⟩ := fz2 BK101.out; have p108 : 0 ≤ ((ji26) : Int) := of_decide_eq_true zs; have q108 : (ji26) < (l0_0.length : Int) := of_decide_eq_true zs; obtain ⟨ad108, e108, hx108_0, hx108_1, hx108_2, hx108_3⟩ := at_T40 HR0_0.out (ji26) p108 q108; obtain rfl : ad102 = ad108 := (by injection e108); replace hx108_0 := pw_cell_below HB.out hx108_0; replace hx108_1 := pw_cell_below HB.out hx108_1; replace hx108_2 := pw_cell_below HB.out hx108_2; replace hx108_3 := pw_cell_below HB.out hx108_3; replace p108 := eq_true p108; replace q108 := eq_true q108
                go_wp2_with (first | ((with_reducible refine gate_dst (N := 5) rfl ?_); (try (refine gate_guard (by rfl) ?_; dsimp only)); refine box_event ?hg (N := 5) ?hd (cs := #[.int .i64 0, .int .i64 0, .int .i64 0, .bool false]) (t := 40) ?hr ?_; (case hd => rfl); (case hg => rfl); (case hr => first | (go_simp; done) | (go_simp; rfl)); intro gb109 hg w49 hbox hb; have BK109 := Aside0.mk (hbox); have GW109 := Aside0.mk ((by rw [hg]; exact (below_size (bs2 HB.out GE101.out GE103.out)) : w.heap.size ≤ gb109)); have GE109 := GW109; replace HB := Aside0.mk (below_step (bs2 HB.out GE101.out GE103.out) hb); have NB101_109 := Aside0.mk ((by rw [hg]; exact Nat.ne_of_lt (blk_lt (kz BK101.out)) : gb101 ≠ gb109)); have NB109_101 := Aside0.mk NB101_109.out.symm; replace BK101 := Aside0.mk (blk_below (kz BK101.out) hb); have NB103_109 := Aside0.mk ((by rw [hg]; exact Nat.ne_of_lt (blk_lt (kz BK103.out)) : gb103 ≠ gb109)); have NB109_103 := Aside0.mk NB103_109.out.symm; replace BK103 := Aside0.mk (blk_below (kz BK103.out) hb); clear hb hbox hg; have hnb50 := NB109_101.out; have hnc50 := NB101_109.out; have hnb51 := NB109_103.out; have hnc51 := NB103_109.out; obtain ⟨hcz52_0, hcz52_1, hcz52_2, hcz52_3⟩ := cz4 BK109.out; obtain ⟨hfz52_0, hfz52_1, hfz52_2, hfz52_3⟩ := fz4 BK109.out; obtain ⟨hcz53_0, hcz53_1, hcz53_2, hcz53_3⟩ := cz4 BK103.out; obtain ⟨hfz53_0, hfz53_1, hfz53_2, hfz53_3⟩ := fz4 BK103.out))
                go_ret
                exact ⟨by first | rfl | (simp [errW_none, errW_some] <;> rfl) | (simp only [← hji26]; first | rfl | (simp [errW_none, errW_some] <;> rfl)) | (simp [*, errW_none, errW_some] <;> rfl), by repeat (first | (with_reducible first | exact HB.out | apply below_alloc | apply pw_below_drewN | apply below_drew1 | refine below_set ?_ GE101.out | refine below_set ?_ GE103.out | refine below_set ?_ GE109.out) | exact HB.out)⟩
               ·
                rw [if_neg c46] at H; have c46b0 : decide (((rd_T40 l0_0 x11_1).f1) ≤ ((rd_T40 l0_0 (ji26)).f2)) = false := decide_eq_false c46; clear c46
                by_cases c54 : (((rd_T40 l0_0 (ji26)).f3) == ((rd_T40 l0_0 x11_1).f3)) = true
                ·
                 rw [if_pos c54] at H; have c54b0 : (((rd_T40 l0_0 (ji26)).f3) == ((rd_T40 l0_0 x11_1).f3)) = true := c54; (try (have c54b1 : decide (((rd_T40 l0_0 (ji26)).f3) = ((rd_T40 l0_0 x11_1).f3)) = true := by simpa using c54)); (try (have c54b2 : (((rd_T40 l0_0 (ji26)).f3) == ((rd_T40 l0_0 x11_1).f3)) = true := by simpa using c54)); clear c54
                 by_cases c55 : (wrap64 (((rd_T40 l0_0 (ji26)).f2) + 1)) = ((rd_T40 l0_0 x11_1).f1)
                 ·
                  rw [if_pos c55] at H; have c55b0 : ((wrap64 (((rd_T40 l0_0 (ji26)).f2) + 1)) == ((rd_T40 l0_0 x11_1).f1)) = true := beq_iff_eq.mpr c55; have c55b1 : ((wrap64 (((rd_T40 l0_0 (ji26)).f2) + 1)) != ((rd_T40 l0_0 x11_1).f1)) = false := bne_eq_false_iff_eq.mpr c55; clear c55; obtain rfl := Option.some.inj H; have hnb56 := NB101_103.out; have hnc56 := NB103_101.out; obtain ⟨hcz57_0, hcz57_1⟩ := cz2 BK101.out; obtain ⟨hfz57_0, hfz57_1⟩ := fz2 BK101.out; have p108 : 0 ≤ ((ji26) : Int) := of_decide_eq_true zs; have q108 : (ji26) < (l0_0.length : Int) := of_decide_eq_true zs; obtain ⟨ad108, e108, hx108_0, hx108_1, hx108_2, hx108_3⟩ := at_T40 HR0_0.out (ji26) p108 q108; obtain rfl : ad102 = ad108 := (by injection e108); replace hx108_0 := pw_cell_below HB.out hx108_0; replace hx108_1 := pw_cell_below HB.out hx108_1; replace hx108_2 := pw_cell_below HB.out hx108_2; replace hx108_3 := pw_cell_below HB.out hx108_3; replace p108 := eq_true p108; replace q108 := eq_true q108
                  go_wp2_with (first | ((with_reducible refine gate_dst (N := 5) rfl ?_); (try (refine gate_guard (by rfl) ?_; dsimp only)); refine box_event ?hg (N := 5) ?hd (cs := #[.int .i64 0, .int .i64 0, .int .i64 0, .bool false]) (t := 40) ?hr ?_; (case hd => rfl); (case hg => rfl); (case hr => first | (go_simp; done) | (go_simp; rfl)); intro gb109 hg w58 hbox hb; have BK109 := Aside0.mk (hbox); have GW109 := Aside0.mk ((by rw [hg]; exact (below_size (bs2 HB.out GE101.out GE103.out)) : w.heap.size ≤ gb109)); have GE109 := GW109; replace HB := Aside0.mk (below_step (bs2 HB.out GE101.out GE103.out) hb); have NB101_109 := Aside0.mk ((by rw [hg]; exact Nat.ne_of_lt (blk_lt (kz BK101.out)) : gb101 ≠ gb109)); have NB109_101 := Aside0.mk NB101_109.out.symm; replace BK101 := Aside0.mk (blk_below (kz BK101.out) hb); have NB103_109 := Aside0.mk ((by rw [hg]; exact Nat.ne_of_lt (blk_lt (kz BK103.out)) : gb103 ≠ gb109)); have NB109_103 := Aside0.mk NB103_109.out.symm; replace BK103 := Aside0.mk (blk_below (kz BK103.out) hb); clear hb hbox hg; have hnb59 := NB109_101.out; have hnc59 := NB101_109.out; have hnb60 := NB109_103.out; have hnc60 := NB103_109.out; obtain ⟨hcz61_0, hcz61_1, hcz61_2, hcz61_3⟩ := cz4 BK109.out; obtain ⟨hfz61_0, hfz61_1, hfz61_2, hfz61_3⟩ := fz4 BK109.out; obtain ⟨hcz62_0, hcz62_1, hcz62_2, hcz62_3⟩ := cz4 BK103.out; obtain ⟨hfz62_0, hfz62_1, hfz62_2, hfz62_3⟩ := fz4 BK103.out))
                  go_ret
                  exact ⟨by first | rfl | (simp [errW_none, errW_some] <;> rfl) | (simp only [← hji26]; first | rfl | (simp [errW_none, errW_some] <;> rfl)) | (simp [*, errW_none, errW_some] <;> rfl), by repeat (first | (with_reducible first | exact HB.out | apply below_alloc | apply pw_below_drewN | apply below_drew1 | refine below_set ?_ GE101.out | refine below_set ?_ GE103.out | refine below_set ?_ GE109.out) | exact HB.out)⟩
                 ·
                  rw [if_neg c55] at H; have c55b0 : ((wrap64 (((rd_T40 l0_0 (ji26)).f2) + 1)) == ((rd_T40 l0_0 x11_1).f1)) = false := beq_eq_false_iff_ne.mpr c55; have c55b1 : ((wrap64 (((rd_T40 l0_0 (ji26)).f2) + 1)) != ((rd_T40 l0_0 x11_1).f1)) = true := bne_iff_ne.mpr c55; have H' := Aside0.mk H; clear H; have hnb63 := NB101_103.out; have hnc63 := NB103_101.out; obtain ⟨hcz64_0, hcz64_1⟩ := cz2 BK101.out; obtain ⟨hfz64_0, hfz64_1⟩ := fz2 BK101.out; have p108 : 0 ≤ ((ji26) : Int) := of_decide_eq_true zs; have q108 : (ji26) < (l0_0.length : Int) := of_decide_eq_true zs; obtain ⟨ad108, e108, hx108_0, hx108_1, hx108_2, hx108_3⟩ := at_T40 HR0_0.out (ji26) p108 q108; obtain rfl : ad102 = ad108 := (by injection e108); replace hx108_0 := pw_cell_below HB.out hx108_0; replace hx108_1 := pw_cell_below HB.out hx108_1; replace hx108_2 := pw_cell_below HB.out hx108_2; replace hx108_3 := pw_cell_below HB.out hx108_3; replace p108 := eq_true p108; replace q108 := eq_true q108
                  go_wp2_with (first | ((with_reducible refine gate_dst (N := 5) rfl ?_); (try (refine gate_guard (by rfl) ?_; dsimp only)); refine box_event ?hg (N := 5) ?hd (cs := #[.int .i64 0, .int .i64 0, .int .i64 0, .bool false]) (t := 40) ?hr ?_; (case hd => rfl); (case hg => rfl); (case hr => first | (go_simp; done) | (go_simp; rfl)); intro gb109 hg w65 hbox hb; have BK109 := Aside0.mk (hbox); have GW109 := Aside0.mk ((by rw [hg]; exact (below_size (bs2 HB.out GE101.out GE103.out)) : w.heap.size ≤ gb109)); have GE109 := GW109; replace HB := Aside0.mk (below_step (bs2 HB.out GE101.out GE103.out) hb); have NB101_109 := Aside0.mk ((by rw [hg]; exact Nat.ne_of_lt (blk_lt (kz BK101.out)) : gb101 ≠ gb109)); have NB109_101 := Aside0.mk NB101_109.out.symm; replace BK101 := Aside0.mk (blk_below (kz BK101.out) hb); have NB103_109 := Aside0.mk ((by rw [hg]; exact Nat.ne_of_lt (blk_lt (kz BK103.out)) : gb103 ≠ gb109)); have NB109_103 := Aside0.mk NB103_109.out.symm; replace BK103 := Aside0.mk (blk_below (kz BK103.out) hb); clear hb hbox hg; have hnb66 := NB109_101.out; have hnc66 := NB101_109.out; have hnb67 := NB109_103.out; have hnc67 := NB103_109.out; obtain ⟨hcz68_0, hcz68_1, hcz68_2, hcz68_3⟩ := cz4 BK109.out; obtain ⟨hfz68_0, hfz68_1, hfz68_2, hfz68_3⟩ := fz4 BK109.out; obtain ⟨hcz69_0, hcz69_1, hcz69_2, hcz69_3⟩ := cz4 BK103.out; obtain ⟨hfz69_0, hfz69_1, hfz69_2, hfz69_3⟩ := fz4 BK103.out))
                  go_roundg kj6
                  case measure => have := HK1.out; have := HJ6.out; omega
                  case rel => exact ⟨(wrap64 (x11_1 + 1)), zr, H', ⟨by have := HK1.out; have := HJ6.out; omega⟩, ⟨by (with_reducible repeat (first | refine blk_drewN ?_ _ | refine blk_drew ?_ | refine blk_alloc ?_ _ | refine blk_far ?_ NB101_109.out _)); exact BK101.out⟩, ⟨by repeat (first | (with_reducible first | exact HB.out | apply below_alloc | apply pw_below_drewN | apply below_drew1 | refine below_set ?_ GE101.out | refine below_set ?_ GE103.out | refine below_set ?_ GE109.out) | exact HB.out)⟩⟩
                ·
                 rw [if_neg c54] at H
                 have c54b0 : (((rd_T40 l0_0 (ji26)).f3) == ((rd_T40 l0_0 x11_1).f3)) = false := by simpa using c54
                 (try (have c54b1 : decide (((rd_T40 l0_0 (ji26)).f3) = ((rd_T40 l0_0 x11_1).f3)) = false := by simpa using c54)); (try (have c54b2 : (((rd_T40 l0_0 (ji26)).f3) == ((rd_T40 l0_0 x11_1).f3)) = false := by simpa using c54)); (try (have c54b3 : ¬ (((rd_T40 l0_0 (ji26)).f3) = ((rd_T40 l0_0 x11_1).f3)) := by simpa using c54)); clear c54; have H' := Aside0.mk H; clear H; have hnb70 := NB101_103.out; have hnc70 := NB103_101.out; obtain ⟨hcz71_0, hcz71_1⟩ := cz2 BK101.out; obtain ⟨hfz71_0, hfz71_1⟩ := fz2 BK101.out; have p108 : 0 ≤ ((ji26) : Int) := of_decide_eq_true zs; have q108 : (ji26) < (l0_0.length : Int) := of_decide_eq_true zs; obtain ⟨ad108, e108, hx108_0, hx108_1, hx108_2, hx108_3⟩ := at_T40 HR0_0.out (ji26) p108 q108; obtain rfl : ad102 = ad108 := (by injection e108); replace hx108_0 := pw_cell_below HB.out hx108_0; replace hx108_1 := pw_cell_below HB.out hx108_1; replace hx108_2 := pw_cell_below HB.out hx108_2; replace hx108_3 := pw_cell_below HB.out hx108_3; replace p108 := eq_true p108; replace q108 := eq_true q108
                 go_wp2_with (first | ((with_reducible refine gate_dst (N := 5) rfl ?_); (try (refine gate_guard (by rfl) ?_; dsimp only)); refine box_event ?hg (N := 5) ?hd (cs := #[.int .i64 0, .int .i64 0, .int .i64 0, .bool false]) (t := 40) ?hr ?_; (case hd => rfl); (case hg => rfl); (case hr => first | (go_simp; done) | (go_simp; rfl)); intro gb109 hg w72 hbox hb; have BK109 := Aside0.mk (hbox); have GW109 := Aside0.mk ((by rw [hg]; exact (below_size (bs2 HB.out GE101.out GE103.out)) : w.heap.size ≤ gb109)); have GE109 := GW109; replace HB := Aside0.mk (below_step (bs2 HB.out GE101.out GE103.out) hb); have NB101_109 := Aside0.mk ((by rw [hg]; exact Nat.ne_of_lt (blk_lt (kz BK101.out)) : gb101 ≠ gb109)); have NB109_101 := Aside0.mk NB101_109.out.symm; replace BK101 := Aside0.mk (blk_below (kz BK101.out) hb); have NB103_109 := Aside0.mk ((by rw [hg]; exact Nat.ne_of_lt (blk_lt (kz BK103.out)) : gb103 ≠ gb109)); have NB109_103 := Aside0.mk NB103_109.out.symm; replace BK103 := Aside0.mk (blk_below (kz BK103.out) hb); clear hb hbox hg; have hnb73 := NB109_101.out; have hnc73 := NB101_109.out; have hnb74 := NB109_103.out; have hnc74 := NB103_109.out; obtain ⟨hcz75_0, hcz75_1, hcz75_2, hcz75_3⟩ := cz4 BK109.out; obtain ⟨hfz75_0, hfz75_1, hfz75_2, hfz75_3⟩ := fz4 BK109.out; obtain ⟨hcz76_0, hcz76_1, hcz76_2, hcz76_3⟩ := cz4 BK103.out; obtain ⟨hfz76_0, hfz76_1, hfz76_2, hfz76_3⟩ := fz4 BK103.out))
                 go_roundg kj6
                 case measure => have := HK1.out; have := HJ6.out; omega
                 case rel => exact ⟨(wrap64 (x11_1 + 1)), zr, H', ⟨by have := HK1.out; have := HJ6.out; omega⟩, ⟨by (with_reducible repeat (first | refine blk_drewN ?_ _ | refine blk_drew ?_ | refine blk_alloc ?_ _ | refine blk_far ?_ NB101_109.out _)); exact BK101.out⟩, ⟨by repeat (first | (with_reducible first | exact HB.out | apply below_alloc | apply pw_below_drewN | apply below_drew1 | refine below_set ?_ GE101.out | refine below_set ?_ GE103.out | refine below_set ?_ GE109.out) | exact HB.out)⟩⟩
             ·
              rw [if_neg c37] at H; have c37b0 : (((rd_T40 l0_0 (ji26)).f0) == ((rd_T40 l0_0 x11_1).f0)) = false := beq_eq_false_iff_ne.mpr c37; have c37b1 : (((rd_T40 l0_0 (ji26)).f0) != ((rd_T40 l0_0 x11_1).f0)) = true := bne_iff_ne.mpr c37; have H' := Aside0.mk H; clear H; have hnb77 := NB101_103.out; have hnc77 := NB103_101.out; obtain ⟨hcz78_0, hcz78_1⟩ := cz2 BK101.out; obtain ⟨hfz78_0, hfz78_1⟩ := fz2 BK101.out; have p108 : 0 ≤ ((ji26) : Int) := of_decide_eq_true zs; have q108 : (ji26) < (l0_0.length : Int) := of_decide_eq_true zs; obtain ⟨ad108, e108, hx108_0, hx108_1, hx108_2, hx108_3⟩ := at_T40 HR0_0.out (ji26) p108 q108; obtain rfl : ad102 = ad108 := (by injection e108); replace hx108_0 := pw_cell_below HB.out hx108_0; replace hx108_1 := pw_cell_below HB.out hx108_1; replace hx108_2 := pw_cell_below HB.out hx108_2; replace hx108_3 := pw_cell_below HB.out hx108_3; replace p108 := eq_true p108; replace q108 := eq_true q108
              go_wp2_with (first | ((with_reducible refine gate_dst (N := 5) rfl ?_); (try (refine gate_guard (by rfl) ?_; dsimp only)); refine box_event ?hg (N := 5) ?hd (cs := #[.int .i64 0, .int .i64 0, .int .i64 0, .bool false]) (t := 40) ?hr ?_; (case hd => rfl); (case hg => rfl); (case hr => first | (go_simp; done) | (go_simp; rfl)); intro gb109 hg w79 hbox hb; have BK109 := Aside0.mk (hbox); have GW109 := Aside0.mk ((by rw [hg]; exact (below_size (bs2 HB.out GE101.out GE103.out)) : w.heap.size ≤ gb109)); have GE109 := GW109; replace HB := Aside0.mk (below_step (bs2 HB.out GE101.out GE103.out) hb); have NB101_109 := Aside0.mk ((by rw [hg]; exact Nat.ne_of_lt (blk_lt (kz BK101.out)) : gb101 ≠ gb109)); have NB109_101 := Aside0.mk NB101_109.out.symm; replace BK101 := Aside0.mk (blk_below (kz BK101.out) hb); have NB103_109 := Aside0.mk ((by rw [hg]; exact Nat.ne_of_lt (blk_lt (kz BK103.out)) : gb103 ≠ gb109)); have NB109_103 := Aside0.mk NB103_109.out.symm; replace BK103 := Aside0.mk (blk_below (kz BK103.out) hb); clear hb hbox hg; have hnb80 := NB109_101.out; have hnc80 := NB101_109.out; have hnb81 := NB109_103.out; have hnc81 := NB103_109.out; obtain ⟨hcz82_0, hcz82_1, hcz82_2, hcz82_3⟩ := cz4 BK109.out; obtain ⟨hfz82_0, hfz82_1, hfz82_2, hfz82_3⟩ := fz4 BK109.out; obtain ⟨hcz83_0, hcz83_1, hcz83_2, hcz83_3⟩ := cz4 BK103.out; obtain ⟨hfz83_0, hfz83_1, hfz83_2, hfz83_3⟩ := fz4 BK103.out))
              go_roundg kj6
              case measure => have := HK1.out; have := HJ6.out; omega
              case rel => exact ⟨(wrap64 (x11_1 + 1)), zr, H', ⟨by have := HK1.out; have := HJ6.out; omega⟩, ⟨by (with_reducible repeat (first | refine blk_drewN ?_ _ | refine blk_drew ?_ | refine blk_alloc ?_ _ | refine blk_far ?_ NB101_109.out _)); exact BK101.out⟩, ⟨by repeat (first | (with_reducible first | exact HB.out | apply below_alloc | apply pw_below_drewN | apply below_drew1 | refine below_set ?_ GE101.out | refine below_set ?_ GE103.out | refine below_set ?_ GE109.out) | exact HB.out)⟩⟩
           ·
            rw [if_neg c28] at H
            exact absurd H (by simp)
          ·
           rw [if_neg c27] at H
           exact absurd H (by simp)
     ·
      rw [if_neg c6] at H
      exact absurd H (by simp)
    ·
     rw [if_neg c5] at H
     exact absurd H (by simp)
   ·
    rw [if_neg c4] at H; have c4b0 : decide (x11_1 < (l0_0.length : Int)) = false := decide_eq_false c4; clear c4; have H' := Aside0.mk H; clear H; obtain ⟨hcz84_0, hcz84_1⟩ := cz2 BK101.out; obtain ⟨hfz84_0, hfz84_1⟩ := fz2 BK101.out
    go_wp2
    go_loopg [79] k1 (fun kq v79 w' => ∃ (x79_2 : Int), v79 = .int .i64 x79_2 ∧ Aside0 (impl_HeldOk.l1 kq l0_1 (l0_1.length : Int) x79_2 l0_0 l0_1 = some r) ∧ Aside0 (kq ≤ k1) ∧ Aside0 (w'.heap[gb101]? = some (.cells #[(.slice A0_0 l0_0.length c0_0), (.slice A0_1 l0_1.length c0_1)] 29 (0, 0))) ∧ Aside0 (Below w.heap.size w w'))
    case atStart => exact ⟨(0), zr, H', ⟨Nat.le_refl _⟩, ⟨kz (BK101.out)⟩, ⟨bs HB.out GE101.out⟩⟩
    case round =>
     clear H'
     try clear c1
     try clear p1
     try clear q1
     try clear hx1
     try clear c2
     try clear p2
     try clear c3
     try clear c4
     try clear c4b0
     try clear c5
     try clear c5b0
     try clear c6
     try clear c6b0
     try clear p6
     try clear c7
     try clear c8
     try clear c9
     try clear p10
     try clear q10
     try clear hx10
     try clear c12
     try clear c13
     try clear c14
     try clear c21
     try clear c24
     try clear c25
     try clear c25b0
     try clear c25b1
     try clear c27
     try clear c27b0
     try clear c28
     try clear c28b0
     try clear c29
     try clear c29b0
     try clear c30
     try clear c33
     try clear c34
     try clear c37
     try clear c37b0
     try clear c37b1
     try clear c38
     try clear c38b0
     try clear c39
     try clear c42
     try clear c43
     try clear c46
     try clear c46b0
     try clear c47
     try clear c50
     try clear c51
     try clear c54
     try clear c54b0
     try clear c54b1
     try clear c54b2
     try clear c55
     try clear c55b0
     try clear c55b1
     try clear c56
     try clear c59
     try clear c60
     try clear c63
     try clear p64
     try clear c66
     try clear c67
     try clear c70
     try clear c73
     try clear c74
     try clear c77
     try clear c80
     try clear c81
     try clear hcz10_0
     try clear hcz10_1
     try clear hcz10_2
     try clear hcz10_3
     try clear hcz15_0
     try clear hcz15_1
     try clear hcz15_2
     try clear hcz15_3
     try clear hcz17_0
     try clear hcz17_1
     try clear hcz18_0
     try clear hcz18_1
     try clear hcz18_2
     try clear hcz18_3
     try clear hcz22_0
     try clear hcz22_1
     try clear hcz22_2
     try clear hcz22_3
     try clear hcz31_0
     try clear hcz31_1
     try clear hcz35_0
     try clear hcz35_1
     try clear hcz35_2
     try clear hcz35_3
     try clear hcz36_0
     try clear hcz36_1
     try clear hcz36_2
     try clear hcz36_3
     try clear hcz3_0
     try clear hcz3_1
     try clear hcz40_0
     try clear hcz40_1
     try clear hcz44_0
     try clear hcz44_1
     try clear hcz44_2
     try clear hcz44_3
     try clear hcz45_0
     try clear hcz45_1
     try clear hcz45_2
     try clear hcz45_3
     try clear hcz48_0
     try clear hcz48_1
     try clear hcz52_0
     try clear hcz52_1
     try clear hcz52_2
     try clear hcz52_3
     try clear hcz53_0
     try clear hcz53_1
     try clear hcz53_2
     try clear hcz53_3
     try clear hcz57_0
     try clear hcz57_1
     try clear hcz61_0
     try clear hcz61_1
     try clear hcz61_2
     try clear hcz61_3
     try clear hcz62_0
     try clear hcz62_1
     try clear hcz62_2
     try clear hcz62_3
     try clear hcz64_0
     try clear hcz64_1
     try clear hcz68_0
     try clear hcz68_1
     try clear hcz68_2
     try clear hcz68_3
     try clear hcz69_0
     try clear hcz69_1
     try clear hcz69_2
     try clear hcz69_3
     try clear hcz71_0
     try clear hcz71_1
     try clear hcz75_0
     try clear hcz75_1
     try clear hcz75_2
     try clear hcz75_3
     try clear hcz76_0
     try clear hcz76_1
     try clear hcz76_2
     try clear hcz76_3
     try clear hcz78_0
     try clear hcz78_1
     try clear hcz82_0
     try clear hcz82_1
     try clear hcz82_2
     try clear hcz82_3
     try clear hcz83_0
     try clear hcz83_1
     try clear hcz83_2
     try clear hcz83_3
     try clear hcz84_0
     try clear hcz84_1
     try clear hfz10_0
     try clear hfz10_1
     try clear hfz10_2
     try clear hfz10_3
     try clear hfz15_0
     try clear hfz15_1
     try clear hfz15_2
     try clear hfz15_3
     try clear hfz17_0
     try clear hfz17_1
     try clear hfz18_0
     try clear hfz18_1
     try clear hfz18_2
     try clear hfz18_3
     try clear hfz22_0
     try clear hfz22_1
     try clear hfz22_2
     try clear hfz22_3
     try clear hfz31_0
     try clear hfz31_1
     try clear hfz35_0
     try clear hfz35_1
     try clear hfz35_2
     try clear hfz35_3
     try clear hfz36_0
     try clear hfz36_1
     try clear hfz36_2
     try clear hfz36_3
     try clear hfz3_0
     try clear hfz3_1
     try clear hfz40_0
     try clear hfz40_1
     try clear hfz44_0
     try clear hfz44_1
     try clear hfz44_2
     try clear hfz44_3
     try clear hfz45_0
     try clear hfz45_1
     try clear hfz45_2
     try clear hfz45_3
     try clear hfz48_0
     try clear hfz48_1
     try clear hfz52_0
     try clear hfz52_1
     try clear hfz52_2
     try clear hfz52_3
     try clear hfz53_0
     try clear hfz53_1
     try clear hfz53_2
     try clear hfz53_3
     try clear hfz57_0
     try clear hfz57_1
     try clear hfz61_0
     try clear hfz61_1
     try clear hfz61_2
     try clear hfz61_3
     try clear hfz62_0
     try clear hfz62_1
     try clear hfz62_2
     try clear hfz62_3
     try clear hfz64_0
     try clear hfz64_1
     try clear hfz68_0
     try clear hfz68_1
     try clear hfz68_2
     try clear hfz68_3
     try clear hfz69_0
     try clear hfz69_1
     try clear hfz69_2
     try clear hfz69_3
     try clear hfz71_0
     try clear hfz71_1
     try clear hfz75_0
     try clear hfz75_1
     try clear hfz75_2
     try clear hfz75_3
     try clear hfz76_0
     try clear hfz76_1
     try clear hfz76_2
     try clear hfz76_3
     try clear hfz78_0
     try clear hfz78_1
     try clear hfz82_0
     try clear hfz82_1
     try clear hfz82_2
     try clear hfz82_3
     try clear hfz83_0
     try clear hfz83_1
     try clear hfz83_2
     try clear hfz83_3
     try clear hfz84_0
     try clear hfz84_1
     try clear hx102_0
     try clear hx102_1
     try clear hx102_2
     try clear hx102_3
     try clear hx108_0
     try clear hx108_1
     try clear hx108_2
     try clear hx108_3
     try clear p1
     try clear p10
     try clear p102
     try clear p108
     try clear p2
     try clear q1
     try clear q10
     try clear q102
     try clear q108
     obtain ⟨x79_2, rfl, HA, HK2, BK101, HB⟩ := hrel
     cases gk with
     | zero => exact absurd HA.out (by simp [impl_HeldOk.l1])
     | succ k2 =>
      have H := HA.out; clear HA; simp only [impl_HeldOk.l1] at H
      by_cases c85 : x79_2 < (l0_1.length : Int)
      ·
       rw [if_pos c85] at H; have c85b0 : decide (x79_2 < (l0_1.length : Int)) = true := decide_eq_true c85; clear c85
       by_cases c86 : 0 ≤ x79_2
       ·
        rw [if_pos c86] at H; have c86b0 : decide (0 ≤ x79_2) = true := decide_eq_true c86; clear c86
        by_cases c87 : x79_2 < (l0_1.length : Int)
        ·
         rw [if_pos c87] at H; have c87b0 : decide (x79_2 < (l0_1.length : Int)) = true := decide_eq_true c87; clear c87; replace H := Option.bind_eq_some_iff.mp H; obtain ⟨t113, A880, H⟩ := H; have A88 := Aside0.mk A880; clear A880
         by_cases c89 : t113 = true
         ·
          subst c89; rw [if_pos rfl] at H; replace H := Option.bind_eq_some_iff.mp H; obtain ⟨t114, A900, H⟩ := H; have A90 := Aside0.mk A900; clear A900
          by_cases c91 : (t114.length : Int) = 0
          ·
           rw [if_pos c91] at H; have c91b0 : ((t114.length : Int) == 0) = true := beq_iff_eq.mpr c91; have c91b1 : ((t114.length : Int) != 0) = false := bne_eq_false_iff_eq.mpr c91; clear c91; obtain rfl := Option.some.inj H; have p111 : 0 ≤ (x79_2 : Int) := of_decide_eq_true zs; have q111 : x79_2 < (l0_1.length : Int) := of_decide_eq_true zs; obtain ⟨ad111, e111, hx111_0, hx111_1, hx111_2, hx111_3⟩ := at_T40 HR0_1.out x79_2 p111 q111; cases e111; replace hx111_0 := pw_cell_below HB.out hx111_0; replace hx111_1 := pw_cell_below HB.out hx111_1; replace hx111_2 := pw_cell_below HB.out hx111_2; replace hx111_3 := pw_cell_below HB.out hx111_3; replace p111 := eq_true p111; replace q111 := eq_true q111
           try go_wp2_with (first | ((with_reducible refine gate_dst (N := 7) rfl ?_); (try (refine gate_guard (by rfl) ?_; dsimp only)); refine box_event ?hg (N := 7) ?hd (cs := #[.int .i64 0, .int .i64 0, .int .i64 0, .bool false]) (t := 40) ?hr ?_; (case hd => rfl); (case hg => rfl); (case hr => first | (go_simp; done) | (go_simp; rfl)); intro gb112 hg w92 hbox hb; have BK112 := Aside0.mk (hbox); have GW112 := Aside0.mk ((by rw [hg]; exact (below_size (bs HB.out GE101.out)) : w.heap.size ≤ gb112)); have GE112 := GW112; replace HB := Aside0.mk (below_step (bs HB.out GE101.out) hb); have NB101_112 := Aside0.mk ((by rw [hg]; exact Nat.ne_of_lt (blk_lt (kz BK101.out)) : gb101 ≠ gb112)); have NB112_101 := Aside0.mk NB101_112.out.symm; replace BK101 := Aside0.mk (blk_below (kz BK101.out) hb); clear hb hbox hg; have hnb93 := NB112_101.out; have hnc93 := NB101_112.out; obtain ⟨hcz94_0, hcz94_1, hcz94_2, hcz94_3⟩ := cz4 BK112.out; obtain ⟨hfz94_0, hfz94_1, hfz94_2, hfz94_3⟩ := fz4 BK112.out))
           have n0_ : Aside0 (((((w92.setCell ⟨gb112, 0, none⟩ (.int .i64 ((rd_T40 l0_1 x79_2).f0))).setCell ⟨gb112, 1, none⟩ (.int .i64 ((rd_T40 l0_1 x79_2).f1))).setCell ⟨gb112, 2, none⟩ (.int .i64 ((rd_T40 l0_1 x79_2).f2))).setCell ⟨gb112, 3, none⟩ (.bool ((rd_T40 l0_1 x79_2).f3))).heap[gb101]? = some (.cells #[.slice A0_0 l0_0.length c0_0, .slice (some ad111) l0_1.length c0_1] 29 (0, 0))) := ⟨by (with_reducible repeat (first | refine blk_drewN ?_ _ | refine blk_drew ?_ | refine blk_alloc ?_ _ | refine blk_far ?_ NB101_112.out _)); exact BK101.out⟩; have n1_ : Aside0 (((((w92.setCell ⟨gb112, 0, none⟩ (.int .i64 ((rd_T40 l0_1 x79_2).f0))).setCell ⟨gb112, 1, none⟩ (.int .i64 ((rd_T40 l0_1 x79_2).f1))).setCell ⟨gb112, 2, none⟩ (.int .i64 ((rd_T40 l0_1 x79_2).f2))).setCell ⟨gb112, 3, none⟩ (.bool ((rd_T40 l0_1 x79_2).f3))).heap[gb112]? = some (.cells #[.int .i64 ((rd_T40 l0_1 x79_2).f0), .int .i64 ((rd_T40 l0_1 x79_2).f1), .int .i64 ((rd_T40 l0_1 x79_2).f2), .bool ((rd_T40 l0_1 x79_2).f3)] 40 (0, 0))) := ⟨by (with_reducible repeat (first | refine blk_drewN ?_ _ | refine blk_drew ?_ | refine blk_alloc ?_ _)); refine blk_put (cs := #[.int .i64 ((rd_T40 l0_1 x79_2).f0), .int .i64 ((rd_T40 l0_1 x79_2).f1), .int .i64 ((rd_T40 l0_1 x79_2).f2), .bool false]) ?_ 3 _ rfl; (with_reducible repeat (first | refine blk_drewN ?_ _ | refine blk_drew ?_ | refine blk_alloc ?_ _)); refine blk_put (cs := #[.int .i64 ((rd_T40 l0_1 x79_2).f0), .int .i64 ((rd_T40 l0_1 x79_2).f1), .int .i64 0, .bool false]) ?_ 2 _ rfl; (with_reducible repeat (first | refine blk_drewN ?_ _ | refine blk_drew ?_ | refine blk_alloc ?_ _)); refine blk_put (cs := #[.int .i64 ((rd_T40 l0_1 x79_2).f0), .int .i64 0, .int .i64 0, .bool false]) ?_ 1 _ rfl; (with_reducible repeat (first | refine blk_drewN ?_ _ | refine blk_drew ?_ | refine blk_alloc ?_ _)); refine blk_put (cs := #[.int .i64 0, .int .i64 0, .int .i64 0, .bool false]) ?_ 0 _ rfl; (with_reducible repeat (first | refine blk_drewN ?_ _ | refine blk_drew ?_ | refine blk_alloc ?_ _)); exact BK112.out⟩; have n2_ : Aside0 (Below w.heap.size w ((((w92.setCell ⟨gb112, 0, none⟩ (.int .i64 ((rd_T40 l0_1 x79_2).f0))).setCell ⟨gb112, 1, none⟩ (.int .i64 ((rd_T40 l0_1 x79_2).f1))).setCell ⟨gb112, 2, none⟩ (.int .i64 ((rd_T40 l0_1 x79_2).f2))).setCell ⟨gb112, 3, none⟩ (.bool ((rd_T40 l0_1 x79_2).f3)))) := ⟨bs2 HB.out GE101.out GE112.out⟩; (try clear BK101); (try clear BK112); (try clear HB)
           generalize ((((w92.setCell ⟨gb112, 0, none⟩ (.int .i64 ((rd_T40 l0_1 x79_2).f0))).setCell ⟨gb112, 1, none⟩ (.int .i64 ((rd_T40 l0_1 x79_2).f1))).setCell ⟨gb112, 2, none⟩ (.int .i64 ((rd_T40 l0_1 x79_2).f2))).setCell ⟨gb112, 3, none⟩ (.bool ((rd_T40 l0_1 x79_2).f3))) = w95 at n0_ n1_ n2_ ⊢
           have BK101 := n0_; have BK112 := n1_; have HB := n2_; clear n0_ n1_ n2_; replace BK101 := Aside0.mk (blk_drew BK101.out); replace BK112 := Aside0.mk (blk_drew BK112.out); replace HB := Aside0.mk (below_drew1 HB.out); refine start_ (n := 26) (S := fun w' => w'.cell? ⟨gb112, 0, none⟩ = some (.int .i64 ((rd_T40 l0_1 x79_2).f0)) ∧ w'.cell? ⟨gb112, 1, none⟩ = some (.int .i64 ((rd_T40 l0_1 x79_2).f1)) ∧ w'.cell? ⟨gb112, 2, none⟩ = some (.int .i64 ((rd_T40 l0_1 x79_2).f2)) ∧ w'.cell? ⟨gb112, 3, none⟩ = some (.bool ((rd_T40 l0_1 x79_2).f3)) ∧ w'.cell? ⟨gb101, 0, none⟩ = some (.slice A0_0 l0_0.length c0_0) ∧ w'.cell? ⟨gb101, 1, none⟩ = some (.slice (some ad111) l0_1.length c0_1)) (ds := []) (lb 26 0) zk rfl rfl ⟨(blk_cell BK112.out 0).trans rfl, (blk_cell BK112.out 1).trans rfl, (blk_cell BK112.out 2).trans rfl, (blk_cell BK112.out 3).trans rfl, (blk_cell BK101.out 0).trans rfl, (blk_cell BK101.out 1).trans rfl⟩ (fun hHeld => ?_); refine with_tabW impl_HeldOk.tab14 impl_HeldOk.bits14 (fun HT_ HW_ => ?_)
           generalize w95.drew = w96 at BK101 BK112 HB hHeld ⊢
           refine tz 0 (some 84) (lb 26 1) rfl rfl HT_.out HW_.out hHeld ?_; refine one_ (i := 1) (N := some 85) (lb 26 3) rfl rfl (one_of HT_.out zk) (by decide) (fun K hK => ?_); refine goes_ Try.func39 zk rfl #[.agg #[.int .i64 ((rd_T40 l0_1 x79_2).f0), .int .i64 ((rd_T40 l0_1 x79_2).f1), .int .i64 ((rd_T40 l0_1 x79_2).f2), .bool ((rd_T40 l0_1 x79_2).f3)]] (by rfl) rfl rfl zm ?_; (with_reducible refine (impl_Hold_ok.calls ((rd_T40 l0_1 x79_2).f0) ((rd_T40 l0_1 x79_2).f1) ((rd_T40 l0_1 x79_2).f2) ((rd_T40 l0_1 x79_2).f3) true _ A88.out).mono ?_); rintro e w97 ⟨rfl, hb⟩; refine ⟨_, rfl, ?_⟩; replace BK101 := Aside0.mk (blk_below (kz BK101.out) hb); replace BK112 := Aside0.mk (blk_below (kz BK112.out) hb); replace HB := Aside0.mk (below_step (bs2 HB.out GE101.out GE112.out) hb); (try clear hb); refine hK.out _ _ ⟨(blk_cell BK112.out 0).trans rfl, (blk_cell BK112.out 1).trans rfl, (blk_cell BK112.out 2).trans rfl, (blk_cell BK112.out 3).trans rfl, (blk_cell BK101.out 0).trans rfl, (blk_cell BK101.out 1).trans rfl⟩ (fun hHeld => ?_); clear hK K; refine nm_ ?_; refine pz 2 (some 86) (lb 26 7) rfl rfl HT_.out ?_; refine pz 3 (some 87) (lb 26 15) rfl rfl HT_.out ?_; refine tz 4 (some 88) (lb 26 31) rfl rfl HT_.out HW_.out hHeld ?_; refine tz 5 (some 89) (lb 26 63) rfl rfl HT_.out HW_.out hHeld ?_; refine one_ (i := 6) (N := some 90) (lb 26 127) rfl rfl (one_of HT_.out zk) (by decide) (fun K hK => ?_); refine goes_ Try.func40 zk rfl #[.agg #[.slice A0_0 l0_0.length c0_0, .slice (some ad111) l0_1.length c0_1], .agg #[.int .i64 ((rd_T40 l0_1 x79_2).f0), .int .i64 ((rd_T40 l0_1 x79_2).f1), .int .i64 ((rd_T40 l0_1 x79_2).f2), .bool ((rd_T40 l0_1 x79_2).f3)]] (by rfl) rfl rfl zm ?_; (with_reducible refine (impl_Held_clashes.calls k2 _ _ l0_0 _ _ l0_1 ((rd_T40 l0_1 x79_2).f0) ((rd_T40 l0_1 x79_2).f1) ((rd_T40 l0_1 x79_2).f2) ((rd_T40 l0_1 x79_2).f3) t114 _ ?side1 ?side2 ?side3 ?side4 A90.out).mono ?_); (case side1 => exact cz (Kd.C_below HR0_0.out HB.out)); (case side2 => exact HC0_0.out); (case side3 => exact cz (Kd.C_below HR0_1.out HB.out)); (case side4 => exact HC0_1.out); rintro e w98 ⟨v115, rfl, ho0, hb⟩; refine ⟨_, rfl, ?_⟩; have HO116 := Aside0.mk (Kd.R_lower ho0 (below_size (bs2 HB.out GE101.out GE112.out))); replace BK101 := Aside0.mk (blk_below (kz BK101.out) hb); replace BK112 := Aside0.mk (blk_below (kz BK112.out) hb); replace HB := Aside0.mk (below_step (bs2 HB.out GE101.out GE112.out) hb); (try clear hb); (try clear ho0); obtain ⟨Ao99, co99, eo99⟩ := Kd.R_slice HO116.out
           (first | subst eo99 | (injection eo99 with f1_ f2_ f3_; have f4_ := f1_.symm; have f5_ := f3_.symm; clear f1_ f2_ f3_; subst f4_; subst f5_))
           refine hK.out _ _ ⟨(blk_cell BK112.out 0).trans rfl, (blk_cell BK112.out 1).trans rfl, (blk_cell BK112.out 2).trans rfl, (blk_cell BK112.out 3).trans rfl, (blk_cell BK101.out 0).trans rfl, (blk_cell BK101.out 1).trans rfl⟩ (fun hHeld => ?_); clear hK K; refine nm_ ?_; refine pz 7 (some 91) (lb 26 255) rfl rfl HT_.out ?_; refine pz 8 (some 92) (lb 26 511) rfl rfl HT_.out ?_; refine pz 9 (some 93) (lb 26 1023) rfl rfl HT_.out ?_; refine pz 10 (some 94) (lb 26 2047) rfl rfl HT_.out ?_; refine nz 11 (some 95) (lb 26 4095) rfl rfl HT_.out ?_; refine nz 12 (some 96) (lb 26 8191) rfl rfl HT_.out ?_; refine nz 13 (some 97) (lb 26 16383) rfl rfl HT_.out ?_; refine nz 14 (some 98) (lb 26 32767) rfl rfl HT_.out ?_; refine nz 15 (some 99) (lb 26 65535) rfl rfl HT_.out ?_; refine nz 16 (some 100) (lb 26 131071) rfl rfl HT_.out ?_; refine nz 17 (some 101) (lb 26 262143) rfl rfl HT_.out ?_; refine nz 18 (some 102) (lb 26 524287) rfl rfl HT_.out ?_; refine nz 19 (some 103) (lb 26 1048575) rfl rfl HT_.out ?_; refine nz 20 (some 104) (lb 26 2097151) rfl rfl HT_.out ?_; refine nz 21 (some 105) (lb 26 4194303) rfl rfl HT_.out ?_; refine nz 22 (some 106) (lb 26 8388607) rfl rfl HT_.out ?_; refine nz 23 (some 107) (lb 26 16777215) rfl rfl HT_.out ?_; refine nz 24 (some 108) (lb 26 33554431) rfl rfl HT_.out ?_; refine pz 25 (some 109) (lb 26 67108863) rfl rfl HT_.out ?_; refine done_ (done_of HT_.out zk) ?_
           try go_wp2
           go_ret
           exact ⟨ze, bs2 HB.out GE101.out GE112.out⟩
          ·
           rw [if_neg c91] at H; have c91b0 : ((t114.length : Int) == 0) = false := beq_eq_false_iff_ne.mpr c91; have c91b1 : ((t114.length : Int) != 0) = true := bne_iff_ne.mpr c91
           have c91b2 : ¬ (t114 = []) := fun h_ => c91 (by rw [h_]; rfl)
           by_cases c100 : x79_2 > 0
           ·
            rw [if_pos c100] at H; have c100b0 : decide (0 < x79_2) = true := decide_eq_true c100; clear c100; obtain ⟨ji101, hji101⟩ : ∃ j_ : Int, (wrap64 (x79_2 - 1)) = j_ := ⟨_, rfl⟩
            replace H : (if 0 ≤ (ji101) then (if (ji101) < (l0_1.length : Int) then (if ((rd_T40 l0_1 (ji101)).f0) ≥ ((rd_T40 l0_1 x79_2).f0) then (some false) else (impl_HeldOk.l1 k2 l0_1 (l0_1.length : Int) (wrap64 (x79_2 + 1)) l0_0 l0_1)) else (none)) else (none)) = some r := by first | (rw [hji101] at H; exact H) | (simp only [hji101] at H ⊢; exact H)
            (try rw [hji101] at A88); (try rw [hji101] at A90); have hji101w : (IntKind.i64.wrap (x79_2 - 1)) = ji101 := (i64_w _).trans hji101
            by_cases c102 : 0 ≤ (ji101)
            ·
             rw [if_pos c102] at H; have c102b0 : decide (0 ≤ (ji101)) = true := decide_eq_true c102; clear c102
             by_cases c103 : (ji101) < (l0_1.length : Int)
             ·
              rw [if_pos c103] at H; have c103b0 : decide ((ji101) < (l0_1.length : Int)) = true := decide_eq_true c103; clear c103
              by_cases c104 : ((rd_T40 l0_1 (ji101)).f0) ≥ ((rd_T40 l0_1 x79_2).f0)
              ·
               rw [if_pos c104] at H; have c104b0 : decide (((rd_T40 l0_1 x79_2).f0) ≤ ((rd_T40 l0_1 (ji101)).f0)) = true := decide_eq_true c104; clear c104; obtain rfl := Option.some.inj H; have p111 : 0 ≤ (x79_2 : Int) := of_decide_eq_true zs; have q111 : x79_2 < (l0_1.length : Int) := of_decide_eq_true zs; obtain ⟨ad111, e111, hx111_0, hx111_1, hx111_2, hx111_3⟩ := at_T40 HR0_1.out x79_2 p111 q111; cases e111; replace hx111_0 := pw_cell_below HB.out hx111_0; replace hx111_1 := pw_cell_below HB.out hx111_1; replace hx111_2 := pw_cell_below HB.out hx111_2; replace hx111_3 := pw_cell_below HB.out hx111_3; replace p111 := eq_true p111; replace q111 := eq_true q111
               try go_wp2_with (first | ((with_reducible refine gate_dst (N := 7) rfl ?_); (try (refine gate_guard (by rfl) ?_; dsimp only)); refine box_event ?hg (N := 7) ?hd (cs := #[.int .i64 0, .int .i64 0, .int .i64 0, .bool false]) (t := 40) ?hr ?_; (case hd => rfl); (case hg => rfl); (case hr => first | (go_simp; done) | (go_simp; rfl)); intro gb112 hg w105 hbox hb; have BK112 := Aside0.mk (hbox); have GW112 := Aside0.mk ((by rw [hg]; exact (below_size (bs HB.out GE101.out)) : w.heap.size ≤ gb112)); have GE112 := GW112; replace HB := Aside0.mk (below_step (bs HB.out GE101.out) hb); have NB101_112 := Aside0.mk ((by rw [hg]; exact Nat.ne_of_lt (blk_lt (kz BK101.out)) : gb101 ≠ gb112)); have NB112_101 := Aside0.mk NB101_112.out.symm; replace BK101 := Aside0.mk (blk_below (kz BK101.out) hb); clear hb hbox hg; have hnb106 := NB112_101.out; have hnc106 := NB101_112.out; obtain ⟨hcz107_0, hcz107_1, hcz107_2, hcz107_3⟩ := cz4 BK112.out; obtain ⟨hfz107_0, hfz107_1, hfz107_2, hfz107_3⟩ := fz4 BK112.out))
               have n0_ : Aside0 (((((w105.setCell ⟨gb112, 0, none⟩ (.int .i64 ((rd_T40 l0_1 x79_2).f0))).setCell ⟨gb112, 1, none⟩ (.int .i64 ((rd_T40 l0_1 x79_2).f1))).setCell ⟨gb112, 2, none⟩ (.int .i64 ((rd_T40 l0_1 x79_2).f2))).setCell ⟨gb112, 3, none⟩ (.bool ((rd_T40 l0_1 x79_2).f3))).heap[gb101]? = some (.cells #[.slice A0_0 l0_0.length c0_0, .slice (some ad111) l0_1.length c0_1] 29 (0, 0))) := ⟨by (with_reducible repeat (first | refine blk_drewN ?_ _ | refine blk_drew ?_ | refine blk_alloc ?_ _ | refine blk_far ?_ NB101_112.out _)); exact BK101.out⟩; have n1_ : Aside0 (((((w105.setCell ⟨gb112, 0, none⟩ (.int .i64 ((rd_T40 l0_1 x79_2).f0))).setCell ⟨gb112, 1, none⟩ (.int .i64 ((rd_T40 l0_1 x79_2).f1))).setCell ⟨gb112, 2, none⟩ (.int .i64 ((rd_T40 l0_1 x79_2).f2))).setCell ⟨gb112, 3, none⟩ (.bool ((rd_T40 l0_1 x79_2).f3))).heap[gb112]? = some (.cells #[.int .i64 ((rd_T40 l0_1 x79_2).f0), .int .i64 ((rd_T40 l0_1 x79_2).f1), .int .i64 ((rd_T40 l0_1 x79_2).f2), .bool ((rd_T40 l0_1 x79_2).f3)] 40 (0, 0))) := ⟨by (with_reducible repeat (first | refine blk_drewN ?_ _ | refine blk_drew ?_ | refine blk_alloc ?_ _)); refine blk_put (cs := #[.int .i64 ((rd_T40 l0_1 x79_2).f0), .int .i64 ((rd_T40 l0_1 x79_2).f1), .int .i64 ((rd_T40 l0_1 x79_2).f2), .bool false]) ?_ 3 _ rfl; (with_reducible repeat (first | refine blk_drewN ?_ _ | refine blk_drew ?_ | refine blk_alloc ?_ _)); refine blk_put (cs := #[.int .i64 ((rd_T40 l0_1 x79_2).f0), .int .i64 ((rd_T40 l0_1 x79_2).f1), .int .i64 0, .bool false]) ?_ 2 _ rfl; (with_reducible repeat (first | refine blk_drewN ?_ _ | refine blk_drew ?_ | refine blk_alloc ?_ _)); refine blk_put (cs := #[.int .i64 ((rd_T40 l0_1 x79_2).f0), .int .i64 0, .int .i64 0, .bool false]) ?_ 1 _ rfl; (with_reducible repeat (first | refine blk_drewN ?_ _ | refine blk_drew ?_ | refine blk_alloc ?_ _)); refine blk_put (cs := #[.int .i64 0, .int .i64 0, .int .i64 0, .bool false]) ?_ 0 _ rfl; (with_reducible repeat (first | refine blk_drewN ?_ _ | refine blk_drew ?_ | refine blk_alloc ?_ _)); exact BK112.out⟩; have n2_ : Aside0 (Below w.heap.size w ((((w105.setCell ⟨gb112, 0, none⟩ (.int .i64 ((rd_T40 l0_1 x79_2).f0))).setCell ⟨gb112, 1, none⟩ (.int .i64 ((rd_T40 l0_1 x79_2).f1))).setCell ⟨gb112, 2, none⟩ (.int .i64 ((rd_T40 l0_1 x79_2).f2))).setCell ⟨gb112, 3, none⟩ (.bool ((rd_T40 l0_1 x79_2).f3)))) := ⟨bs2 HB.out GE101.out GE112.out⟩; (try clear BK101); (try clear BK112); (try clear HB)
               generalize ((((w105.setCell ⟨gb112, 0, none⟩ (.int .i64 ((rd_T40 l0_1 x79_2).f0))).setCell ⟨gb112, 1, none⟩ (.int .i64 ((rd_T40 l0_1 x79_2).f1))).setCell ⟨gb112, 2, none⟩ (.int .i64 ((rd_T40 l0_1 x79_2).f2))).setCell ⟨gb112, 3, none⟩ (.bool ((rd_T40 l0_1 x79_2).f3))) = w108 at n0_ n1_ n2_ ⊢
               have BK101 := n0_; have BK112 := n1_; have HB := n2_; clear n0_ n1_ n2_; replace BK101 := Aside0.mk (blk_drew BK101.out); replace BK112 := Aside0.mk (blk_drew BK112.out); replace HB := Aside0.mk (below_drew1 HB.out); have p117 : 0 ≤ ((ji101) : Int) := of_decide_eq_true zs; have q117 : (ji101) < (l0_1.length : Int) := of_decide_eq_true zs; obtain ⟨ad117, e117, hx117_0, hx117_1, hx117_2, hx117_3⟩ := at_T40 HR0_1.out (ji101) p117 q117; have hw117_3 := hx117_3; have hw117_2 := hx117_2; have hw117_1 := hx117_1; have hw117_0 := hx117_0; obtain rfl : ad111 = ad117 := (by injection e117); replace hx117_0 := pw_cell_below HB.out hx117_0; replace hx117_1 := pw_cell_below HB.out hx117_1; replace hx117_2 := pw_cell_below HB.out hx117_2; replace hx117_3 := pw_cell_below HB.out hx117_3; replace p117 := eq_true p117; replace q117 := eq_true q117; refine start_ (n := 26) (S := fun w' => w'.cell? ⟨gb112, 0, none⟩ = some (.int .i64 ((rd_T40 l0_1 x79_2).f0)) ∧ w'.cell? ⟨gb112, 1, none⟩ = some (.int .i64 ((rd_T40 l0_1 x79_2).f1)) ∧ w'.cell? ⟨gb112, 2, none⟩ = some (.int .i64 ((rd_T40 l0_1 x79_2).f2)) ∧ w'.cell? ⟨gb112, 3, none⟩ = some (.bool ((rd_T40 l0_1 x79_2).f3)) ∧ w'.cell? ⟨gb101, 0, none⟩ = some (.slice A0_0 l0_0.length c0_0) ∧ w'.cell? ⟨gb101, 1, none⟩ = some (.slice (some ad111) l0_1.length c0_1) ∧ w'.cell? (ad111.add (((ji101)).toNat * 4)) = some (.int .i64 ((rd_T40 l0_1 (ji101)).f0)) ∧ w'.cell? ⟨(ad111.add (((ji101)).toNat * 4)).block, (ad111.add (((ji101)).toNat * 4)).off + 1, none⟩ = some (.int .i64 ((rd_T40 l0_1 (ji101)).f1)) ∧ w'.cell? ⟨(ad111.add (((ji101)).toNat * 4)).block, (ad111.add (((ji101)).toNat * 4)).off + 2, none⟩ = some (.int .i64 ((rd_T40 l0_1 (ji101)).f2)) ∧ w'.cell? ⟨(ad111.add (((ji101)).toNat * 4)).block, (ad111.add (((ji101)).toNat * 4)).off + 3, none⟩ = some (.bool ((rd_T40 l0_1 (ji101)).f3))) (ds := []) (lb 26 0) zk rfl rfl ⟨(blk_cell BK112.out 0).trans rfl, (blk_cell BK112.out 1).trans rfl, (blk_cell BK112.out 2).trans rfl, (blk_cell BK112.out 3).trans rfl, (blk_cell BK101.out 0).trans rfl, (blk_cell BK101.out 1).trans rfl, (pw_cell_below HB.out hw117_0), (pw_cell_below HB.out hw117_1), (pw_cell_below HB.out hw117_2), (pw_cell_below HB.out hw117_3)⟩ (fun hHeld => ?_); refine with_tabW impl_HeldOk.tab14 impl_HeldOk.bits14 (fun HT_ HW_ => ?_)
               generalize w108.drew = w109 at BK101 BK112 HB hx117_0 hx117_1 hx117_2 hx117_3 hHeld ⊢
               refine tz 0 (some 84) (lb 26 1) rfl rfl HT_.out HW_.out hHeld ?_; refine one_ (i := 1) (N := some 85) (lb 26 3) rfl rfl (one_of HT_.out zk) (by decide) (fun K hK => ?_); refine goes_ Try.func39 zk rfl #[.agg #[.int .i64 ((rd_T40 l0_1 x79_2).f0), .int .i64 ((rd_T40 l0_1 x79_2).f1), .int .i64 ((rd_T40 l0_1 x79_2).f2), .bool ((rd_T40 l0_1 x79_2).f3)]] (by rfl) rfl rfl zm ?_; (with_reducible refine (impl_Hold_ok.calls ((rd_T40 l0_1 x79_2).f0) ((rd_T40 l0_1 x79_2).f1) ((rd_T40 l0_1 x79_2).f2) ((rd_T40 l0_1 x79_2).f3) true _ A88.out).mono ?_); rintro e w110 ⟨rfl, hb⟩; refine ⟨_, rfl, ?_⟩; replace BK101 := Aside0.mk (blk_below (kz BK101.out) hb); replace BK112 := Aside0.mk (blk_below (kz BK112.out) hb); replace HB := Aside0.mk (below_step (bs2 HB.out GE101.out GE112.out) hb); (try clear hb); refine hK.out _ _ ⟨(blk_cell BK112.out 0).trans rfl, (blk_cell BK112.out 1).trans rfl, (blk_cell BK112.out 2).trans rfl, (blk_cell BK112.out 3).trans rfl, (blk_cell BK101.out 0).trans rfl, (blk_cell BK101.out 1).trans rfl, (pw_cell_below HB.out hw117_0), (pw_cell_below HB.out hw117_1), (pw_cell_below HB.out hw117_2), (pw_cell_below HB.out hw117_3)⟩ (fun hHeld => ?_); clear hK K; refine nm_ ?_; refine pz 2 (some 86) (lb 26 7) rfl rfl HT_.out ?_; refine pz 3 (some 87) (lb 26 15) rfl rfl HT_.out ?_; refine tz 4 (some 88) (lb 26 31) rfl rfl HT_.out HW_.out hHeld ?_; refine tz 5 (some 89) (lb 26 63) rfl rfl HT_.out HW_.out hHeld ?_; refine one_ (i := 6) (N := some 90) (lb 26 127) rfl rfl (one_of HT_.out zk) (by decide) (fun K hK => ?_); refine goes_ Try.func40 zk rfl #[.agg #[.slice A0_0 l0_0.length c0_0, .slice (some ad111) l0_1.length c0_1], .agg #[.int .i64 ((rd_T40 l0_1 x79_2).f0), .int .i64 ((rd_T40 l0_1 x79_2).f1), .int .i64 ((rd_T40 l0_1 x79_2).f2), .bool ((rd_T40 l0_1 x79_2).f3)]] (by rfl) rfl rfl zm ?_; (with_reducible refine (impl_Held_clashes.calls k2 _ _ l0_0 _ _ l0_1 ((rd_T40 l0_1 x79_2).f0) ((rd_T40 l0_1 x79_2).f1) ((rd_T40 l0_1 x79_2).f2) ((rd_T40 l0_1 x79_2).f3) t114 _ ?side1 ?side2 ?side3 ?side4 A90.out).mono ?_); (case side1 => exact cz (Kd.C_below HR0_0.out HB.out)); (case side2 => exact HC0_0.out); (case side3 => exact cz (Kd.C_below HR0_1.out HB.out)); (case side4 => exact HC0_1.out); rintro e w111 ⟨v115, rfl, ho0, hb⟩; refine ⟨_, rfl, ?_⟩; have HO116 := Aside0.mk (Kd.R_lower ho0 (below_size (bs2 HB.out GE101.out GE112.out))); replace BK101 := Aside0.mk (blk_below (kz BK101.out) hb); replace BK112 := Aside0.mk (blk_below (kz BK112.out) hb); replace HB := Aside0.mk (below_step (bs2 HB.out GE101.out GE112.out) hb); (try clear hb); (try clear ho0); obtain ⟨Ao112, co112, eo112⟩ := Kd.R_slice HO116.out
               (first | subst eo112 | (injection eo112 with f1_ f2_ f3_; have f4_ := f1_.symm; have f5_ := f3_.symm; clear f1_ f2_ f3_; subst f4_; subst f5_))
               refine hK.out _ _ ⟨(blk_cell BK112.out 0).trans rfl, (blk_cell BK112.out 1).trans rfl, (blk_cell BK112.out 2).trans rfl, (blk_cell BK112.out 3).trans rfl, (blk_cell BK101.out 0).trans rfl, (blk_cell BK101.out 1).trans rfl, (pw_cell_below HB.out hw117_0), (pw_cell_below HB.out hw117_1), (pw_cell_below HB.out hw117_2), (pw_cell_below HB.out hw117_3)⟩ (fun hHeld => ?_); clear hK K; refine nm_ ?_; refine pz 7 (some 91) (lb 26 255) rfl rfl HT_.out ?_; refine pz 8 (some 92) (lb 26 511) rfl rfl HT_.out ?_; refine pz 9 (some 93) (lb 26 1023) rfl rfl HT_.out ?_; refine pz 10 (some 94) (lb 26 2047) rfl rfl HT_.out ?_; refine pz 11 (some 95) (lb 26 4095) rfl rfl HT_.out ?_; refine pz 12 (some 96) (lb 26 8191) rfl rfl HT_.out ?_; refine pz 13 (some 97) (lb 26 16383) rfl rfl HT_.out ?_; refine pz 14 (some 98) (lb 26 32767) rfl rfl HT_.out ?_; refine pz 16 (some 100) (lb 26 98303) rfl rfl HT_.out ?_; refine pz 17 (some 101) (lb 26 229375) rfl rfl HT_.out ?_; refine pz 21 (some 105) (lb 26 2326527) rfl rfl HT_.out ?_; refine tz 15 (some 99) (lb 26 2359295) rfl rfl HT_.out HW_.out hHeld ?_; refine pz 18 (some 102) (lb 26 2621439) rfl rfl HT_.out ?_; refine pz 19 (some 103) (lb 26 3145727) rfl rfl HT_.out ?_; refine tz 20 (some 104) (lb 26 4194303) rfl rfl HT_.out HW_.out hHeld ?_; refine tz 22 (some 106) (lb 26 8388607) rfl rfl HT_.out HW_.out hHeld ?_; refine pz 23 (some 107) (lb 26 16777215) rfl rfl HT_.out ?_; refine pz 24 (some 108) (lb 26 33554431) rfl rfl HT_.out ?_; refine pz 25 (some 109) (lb 26 67108863) rfl rfl HT_.out ?_; refine done_ (done_of HT_.out zk) ?_
               try go_wp2
               go_ret
               exact ⟨by first | rfl | (simp [errW_none, errW_some] <;> rfl) | (simp only [← hji101]; first | rfl | (simp [errW_none, errW_some] <;> rfl)) | (simp [*, errW_none, errW_some] <;> rfl), bs2 HB.out GE101.out GE112.out⟩
              ·
               rw [if_neg c104] at H; have c104b0 : decide (((rd_T40 l0_1 x79_2).f0) ≤ ((rd_T40 l0_1 (ji101)).f0)) = false := decide_eq_false c104; clear c104; have H' := Aside0.mk H; clear H; have p111 : 0 ≤ (x79_2 : Int) := of_decide_eq_true zs; have q111 : x79_2 < (l0_1.length : Int) := of_decide_eq_true zs; obtain ⟨ad111, e111, hx111_0, hx111_1, hx111_2, hx111_3⟩ := at_T40 HR0_1.out x79_2 p111 q111; cases e111; replace hx111_0 := pw_cell_below HB.out hx111_0; replace hx111_1 := pw_cell_below HB.out hx111_1; replace hx111_2 := pw_cell_below HB.out hx111_2; replace hx111_3 := pw_cell_below HB.out hx111_3; replace p111 := eq_true p111; replace q111 := eq_true q111
               try go_wp2_with (first | ((with_reducible refine gate_dst (N := 7) rfl ?_); (try (refine gate_guard (by rfl) ?_; dsimp only)); refine box_event ?hg (N := 7) ?hd (cs := #[.int .i64 0, .int .i64 0, .int .i64 0, .bool false]) (t := 40) ?hr ?_; (case hd => rfl); (case hg => rfl); (case hr => first | (go_simp; done) | (go_simp; rfl)); intro gb112 hg w113 hbox hb; have BK112 := Aside0.mk (hbox); have GW112 := Aside0.mk ((by rw [hg]; exact (below_size (bs HB.out GE101.out)) : w.heap.size ≤ gb112)); have GE112 := GW112; replace HB := Aside0.mk (below_step (bs HB.out GE101.out) hb); have NB101_112 := Aside0.mk ((by rw [hg]; exact Nat.ne_of_lt (blk_lt (kz BK101.out)) : gb101 ≠ gb112)); have NB112_101 := Aside0.mk NB101_112.out.symm; replace BK101 := Aside0.mk (blk_below (kz BK101.out) hb); clear hb hbox hg; have hnb114 := NB112_101.out; have hnc114 := NB101_112.out; obtain ⟨hcz115_0, hcz115_1, hcz115_2, hcz115_3⟩ := cz4 BK112.out; obtain ⟨hfz115_0, hfz115_1, hfz115_2, hfz115_3⟩ := fz4 BK112.out))
               have n0_ : Aside0 (((((w113.setCell ⟨gb112, 0, none⟩ (.int .i64 ((rd_T40 l0_1 x79_2).f0))).setCell ⟨gb112, 1, none⟩ (.int .i64 ((rd_T40 l0_1 x79_2).f1))).setCell ⟨gb112, 2, none⟩ (.int .i64 ((rd_T40 l0_1 x79_2).f2))).setCell ⟨gb112, 3, none⟩ (.bool ((rd_T40 l0_1 x79_2).f3))).heap[gb101]? = some (.cells #[.slice A0_0 l0_0.length c0_0, .slice (some ad111) l0_1.length c0_1] 29 (0, 0))) := ⟨by (with_reducible repeat (first | refine blk_drewN ?_ _ | refine blk_drew ?_ | refine blk_alloc ?_ _ | refine blk_far ?_ NB101_112.out _)); exact BK101.out⟩; have n1_ : Aside0 (((((w113.setCell ⟨gb112, 0, none⟩ (.int .i64 ((rd_T40 l0_1 x79_2).f0))).setCell ⟨gb112, 1, none⟩ (.int .i64 ((rd_T40 l0_1 x79_2).f1))).setCell ⟨gb112, 2, none⟩ (.int .i64 ((rd_T40 l0_1 x79_2).f2))).setCell ⟨gb112, 3, none⟩ (.bool ((rd_T40 l0_1 x79_2).f3))).heap[gb112]? = some (.cells #[.int .i64 ((rd_T40 l0_1 x79_2).f0), .int .i64 ((rd_T40 l0_1 x79_2).f1), .int .i64 ((rd_T40 l0_1 x79_2).f2), .bool ((rd_T40 l0_1 x79_2).f3)] 40 (0, 0))) := ⟨by (with_reducible repeat (first | refine blk_drewN ?_ _ | refine blk_drew ?_ | refine blk_alloc ?_ _)); refine blk_put (cs := #[.int .i64 ((rd_T40 l0_1 x79_2).f0), .int .i64 ((rd_T40 l0_1 x79_2).f1), .int .i64 ((rd_T40 l0_1 x79_2).f2), .bool false]) ?_ 3 _ rfl; (with_reducible repeat (first | refine blk_drewN ?_ _ | refine blk_drew ?_ | refine blk_alloc ?_ _)); refine blk_put (cs := #[.int .i64 ((rd_T40 l0_1 x79_2).f0), .int .i64 ((rd_T40 l0_1 x79_2).f1), .int .i64 0, .bool false]) ?_ 2 _ rfl; (with_reducible repeat (first | refine blk_drewN ?_ _ | refine blk_drew ?_ | refine blk_alloc ?_ _)); refine blk_put (cs := #[.int .i64 ((rd_T40 l0_1 x79_2).f0), .int .i64 0, .int .i64 0, .bool false]) ?_ 1 _ rfl; (with_reducible repeat (first | refine blk_drewN ?_ _ | refine blk_drew ?_ | refine blk_alloc ?_ _)); refine blk_put (cs := #[.int .i64 0, .int .i64 0, .int .i64 0, .bool false]) ?_ 0 _ rfl; (with_reducible repeat (first | refine blk_drewN ?_ _ | refine blk_drew ?_ | refine blk_alloc ?_ _)); exact BK112.out⟩; have n2_ : Aside0 (Below w.heap.size w ((((w113.setCell ⟨gb112, 0, none⟩ (.int .i64 ((rd_T40 l0_1 x79_2).f0))).setCell ⟨gb112, 1, none⟩ (.int .i64 ((rd_T40 l0_1 x79_2).f1))).setCell ⟨gb112, 2, none⟩ (.int .i64 ((rd_T40 l0_1 x79_2).f2))).setCell ⟨gb112, 3, none⟩ (.bool ((rd_T40 l0_1 x79_2).f3)))) := ⟨bs2 HB.out GE101.out GE112.out⟩; (try clear BK101); (try clear BK112); (try clear HB)
               generalize ((((w113.setCell ⟨gb112, 0, none⟩ (.int .i64 ((rd_T40 l0_1 x79_2).f0))).setCell ⟨gb112, 1, none⟩ (.int .i64 ((rd_T40 l0_1 x79_2).f1))).setCell ⟨gb112, 2, none⟩ (.int .i64 ((rd_T40 l0_1 x79_2).f2))).setCell ⟨gb112, 3, none⟩ (.bool ((rd_T40 l0_1 x79_2).f3))) = w116 at n0_ n1_ n2_ ⊢
               have BK101 := n0_; have BK112 := n1_; have HB := n2_; clear n0_ n1_ n2_; replace BK101 := Aside0.mk (blk_drew BK101.out); replace BK112 := Aside0.mk (blk_drew BK112.out); replace HB := Aside0.mk (below_drew1 HB.out); have p117 : 0 ≤ ((ji101) : Int) := of_decide_eq_true zs; have q117 : (ji101) < (l0_1.length : Int) := of_decide_eq_true zs; obtain ⟨ad117, e117, hx117_0, hx117_1, hx117_2, hx117_3⟩ := at_T40 HR0_1.out (ji101) p117 q117; have hw117_3 := hx117_3; have hw117_2 := hx117_2; have hw117_1 := hx117_1; have hw117_0 := hx117_0; obtain rfl : ad111 = ad117 := (by injection e117); replace hx117_0 := pw_cell_below HB.out hx117_0; replace hx117_1 := pw_cell_below HB.out hx117_1; replace hx117_2 := pw_cell_below HB.out hx117_2; replace hx117_3 := pw_cell_below HB.out hx117_3; replace p117 := eq_true p117; replace q117 := eq_true q117; refine start_ (n := 26) (S := fun w' => w'.cell? ⟨gb112, 0, none⟩ = some (.int .i64 ((rd_T40 l0_1 x79_2).f0)) ∧ w'.cell? ⟨gb112, 1, none⟩ = some (.int .i64 ((rd_T40 l0_1 x79_2).f1)) ∧ w'.cell? ⟨gb112, 2, none⟩ = some (.int .i64 ((rd_T40 l0_1 x79_2).f2)) ∧ w'.cell? ⟨gb112, 3, none⟩ = some (.bool ((rd_T40 l0_1 x79_2).f3)) ∧ w'.cell? ⟨gb101, 0, none⟩ = some (.slice A0_0 l0_0.length c0_0) ∧ w'.cell? ⟨gb101, 1, none⟩ = some (.slice (some ad111) l0_1.length c0_1) ∧ w'.cell? (ad111.add (((ji101)).toNat * 4)) = some (.int .i64 ((rd_T40 l0_1 (ji101)).f0)) ∧ w'.cell? ⟨(ad111.add (((ji101)).toNat * 4)).block, (ad111.add (((ji101)).toNat * 4)).off + 1, none⟩ = some (.int .i64 ((rd_T40 l0_1 (ji101)).f1)) ∧ w'.cell? ⟨(ad111.add (((ji101)).toNat * 4)).block, (ad111.add (((ji101)).toNat * 4)).off + 2, none⟩ = some (.int .i64 ((rd_T40 l0_1 (ji101)).f2)) ∧ w'.cell? ⟨(ad111.add (((ji101)).toNat * 4)).block, (ad111.add (((ji101)).toNat * 4)).off + 3, none⟩ = some (.bool ((rd_T40 l0_1 (ji101)).f3))) (ds := []) (lb 26 0) zk rfl rfl ⟨(blk_cell BK112.out 0).trans rfl, (blk_cell BK112.out 1).trans rfl, (blk_cell BK112.out 2).trans rfl, (blk_cell BK112.out 3).trans rfl, (blk_cell BK101.out 0).trans rfl, (blk_cell BK101.out 1).trans rfl, (pw_cell_below HB.out hw117_0), (pw_cell_below HB.out hw117_1), (pw_cell_below HB.out hw117_2), (pw_cell_below HB.out hw117_3)⟩ (fun hHeld => ?_); refine with_tabW impl_HeldOk.tab14 impl_HeldOk.bits14 (fun HT_ HW_ => ?_)
               generalize w116.drew = w117 at BK101 BK112 HB hx117_0 hx117_1 hx117_2 hx117_3 hHeld ⊢
               refine tz 0 (some 84) (lb 26 1) rfl rfl HT_.out HW_.out hHeld ?_; refine one_ (i := 1) (N := some 85) (lb 26 3) rfl rfl (one_of HT_.out zk) (by decide) (fun K hK => ?_); refine goes_ Try.func39 zk rfl #[.agg #[.int .i64 ((rd_T40 l0_1 x79_2).f0), .int .i64 ((rd_T40 l0_1 x79_2).f1), .int .i64 ((rd_T40 l0_1 x79_2).f2), .bool ((rd_T40 l0_1 x79_2).f3)]] (by rfl) rfl rfl zm ?_; (with_reducible refine (impl_Hold_ok.calls ((rd_T40 l0_1 x79_2).f0) ((rd_T40 l0_1 x79_2).f1) ((rd_T40 l0_1 x79_2).f2) ((rd_T40 l0_1 x79_2).f3) true _ A88.out).mono ?_); rintro e w118 ⟨rfl, hb⟩; refine ⟨_, rfl, ?_⟩; replace BK101 := Aside0.mk (blk_below (kz BK101.out) hb); replace BK112 := Aside0.mk (blk_below (kz BK112.out) hb); replace HB := Aside0.mk (below_step (bs2 HB.out GE101.out GE112.out) hb); (try clear hb); refine hK.out _ _ ⟨(blk_cell BK112.out 0).trans rfl, (blk_cell BK112.out 1).trans rfl, (blk_cell BK112.out 2).trans rfl, (blk_cell BK112.out 3).trans rfl, (blk_cell BK101.out 0).trans rfl, (blk_cell BK101.out 1).trans rfl, (pw_cell_below HB.out hw117_0), (pw_cell_below HB.out hw117_1), (pw_cell_below HB.out hw117_2), (pw_cell_below HB.out hw117_3)⟩ (fun hHeld => ?_); clear hK K; refine nm_ ?_; refine pz 2 (some 86) (lb 26 7) rfl rfl HT_.out ?_; refine pz 3 (some 87) (lb 26 15) rfl rfl HT_.out ?_; refine tz 4 (some 88) (lb 26 31) rfl rfl HT_.out HW_.out hHeld ?_; refine tz 5 (some 89) (lb 26 63) rfl rfl HT_.out HW_.out hHeld ?_; refine one_ (i := 6) (N := some 90) (lb 26 127) rfl rfl (one_of HT_.out zk) (by decide) (fun K hK => ?_); refine goes_ Try.func40 zk rfl #[.agg #[.slice A0_0 l0_0.length c0_0, .slice (some ad111) l0_1.length c0_1], .agg #[.int .i64 ((rd_T40 l0_1 x79_2).f0), .int .i64 ((rd_T40 l0_1 x79_2).f1), .int .i64 ((rd_T40 l0_1 x79_2).f2), .bool ((rd_T40 l0_1 x79_2).f3)]] (by rfl) rfl rfl zm ?_; (with_reducible refine (impl_Held_clashes.calls k2 _ _ l0_0 _ _ l0_1 ((rd_T40 l0_1 x79_2).f0) ((rd_T40 l0_1 x79_2).f1) ((rd_T40 l0_1 x79_2).f2) ((rd_T40 l0_1 x79_2).f3) t114 _ ?side1 ?side2 ?side3 ?side4 A90.out).mono ?_); (case side1 => exact cz (Kd.C_below HR0_0.out HB.out)); (case side2 => exact HC0_0.out); (case side3 => exact cz (Kd.C_below HR0_1.out HB.out)); (case side4 => exact HC0_1.out); rintro e w119 ⟨v115, rfl, ho0, hb⟩; refine ⟨_, rfl, ?_⟩; have HO116 := Aside0.mk (Kd.R_lower ho0 (below_size (bs2 HB.out GE101.out GE112.out))); replace BK101 := Aside0.mk (blk_below (kz BK101.out) hb); replace BK112 := Aside0.mk (blk_below (kz BK112.out) hb); replace HB := Aside0.mk (below_step (bs2 HB.out GE101.out GE112.out) hb); (try clear hb); (try clear ho0); obtain ⟨Ao120, co120, eo120⟩ := Kd.R_slice HO116.out
               (first | subst eo120 | (injection eo120 with f1_ f2_ f3_; have f4_ := f1_.symm; have f5_ := f3_.symm; clear f1_ f2_ f3_; subst f4_; subst f5_))
               refine hK.out _ _ ⟨(blk_cell BK112.out 0).trans rfl, (blk_cell BK112.out 1).trans rfl, (blk_cell BK112.out 2).trans rfl, (blk_cell BK112.out 3).trans rfl, (blk_cell BK101.out 0).trans rfl, (blk_cell BK101.out 1).trans rfl, (pw_cell_below HB.out hw117_0), (pw_cell_below HB.out hw117_1), (pw_cell_below HB.out hw117_2), (pw_cell_below HB.out hw117_3)⟩ (fun hHeld => ?_); clear hK K; refine nm_ ?_; refine pz 7 (some 91) (lb 26 255) rfl rfl HT_.out ?_; refine pz 8 (some 92) (lb 26 511) rfl rfl HT_.out ?_; refine pz 9 (some 93) (lb 26 1023) rfl rfl HT_.out ?_; refine pz 10 (some 94) (lb 26 2047) rfl rfl HT_.out ?_; refine pz 11 (some 95) (lb 26 4095) rfl rfl HT_.out ?_; refine pz 12 (some 96) (lb 26 8191) rfl rfl HT_.out ?_; refine pz 13 (some 97) (lb 26 16383) rfl rfl HT_.out ?_; refine pz 14 (some 98) (lb 26 32767) rfl rfl HT_.out ?_; refine pz 16 (some 100) (lb 26 98303) rfl rfl HT_.out ?_; refine pz 17 (some 101) (lb 26 229375) rfl rfl HT_.out ?_; refine pz 21 (some 105) (lb 26 2326527) rfl rfl HT_.out ?_; refine tz 15 (some 99) (lb 26 2359295) rfl rfl HT_.out HW_.out hHeld ?_; refine pz 18 (some 102) (lb 26 2621439) rfl rfl HT_.out ?_; refine pz 19 (some 103) (lb 26 3145727) rfl rfl HT_.out ?_; refine tz 20 (some 104) (lb 26 4194303) rfl rfl HT_.out HW_.out hHeld ?_; refine tz 22 (some 106) (lb 26 8388607) rfl rfl HT_.out HW_.out hHeld ?_; refine pz 23 (some 107) (lb 26 16777215) rfl rfl HT_.out ?_; refine pz 24 (some 108) (lb 26 33554431) rfl rfl HT_.out ?_; refine pz 25 (some 109) (lb 26 67108863) rfl rfl HT_.out ?_; refine done_ (done_of HT_.out zk) ?_
               try go_wp2
               go_roundg k2
               case measure => have := HK1.out; have := HK2.out; omega
               case rel => exact ⟨(wrap64 (x79_2 + 1)), zr, H', ⟨by have := HK1.out; have := HK2.out; omega⟩, ⟨kz (BK101.out)⟩, ⟨bs2 HB.out GE101.out GE112.out⟩⟩
             ·
              rw [if_neg c103] at H
              exact absurd H (by simp)
            ·
             rw [if_neg c102] at H
             exact absurd H (by simp)
           ·
            rw [if_neg c100] at H; have c100b0 : decide (0 < x79_2) = false := decide_eq_false c100; clear c100; have H' := Aside0.mk H; clear H; have p111 : 0 ≤ (x79_2 : Int) := of_decide_eq_true zs; have q111 : x79_2 < (l0_1.length : Int) := of_decide_eq_true zs; obtain ⟨ad111, e111, hx111_0, hx111_1, hx111_2, hx111_3⟩ := at_T40 HR0_1.out x79_2 p111 q111; cases e111; replace hx111_0 := pw_cell_below HB.out hx111_0; replace hx111_1 := pw_cell_below HB.out hx111_1; replace hx111_2 := pw_cell_below HB.out hx111_2; replace hx111_3 := pw_cell_below HB.out hx111_3; replace p111 := eq_true p111; replace q111 := eq_true q111
            try go_wp2_with (first | ((with_reducible refine gate_dst (N := 7) rfl ?_); (try (refine gate_guard (by rfl) ?_; dsimp only)); refine box_event ?hg (N := 7) ?hd (cs := #[.int .i64 0, .int .i64 0, .int .i64 0, .bool false]) (t := 40) ?hr ?_; (case hd => rfl); (case hg => rfl); (case hr => first | (go_simp; done) | (go_simp; rfl)); intro gb112 hg w121 hbox hb; have BK112 := Aside0.mk (hbox); have GW112 := Aside0.mk ((by rw [hg]; exact (below_size (bs HB.out GE101.out)) : w.heap.size ≤ gb112)); have GE112 := GW112; replace HB := Aside0.mk (below_step (bs HB.out GE101.out) hb); have NB101_112 := Aside0.mk ((by rw [hg]; exact Nat.ne_of_lt (blk_lt (kz BK101.out)) : gb101 ≠ gb112)); have NB112_101 := Aside0.mk NB101_112.out.symm; replace BK101 := Aside0.mk (blk_below (kz BK101.out) hb); clear hb hbox hg; have hnb122 := NB112_101.out; have hnc122 := NB101_112.out; obtain ⟨hcz123_0, hcz123_1, hcz123_2, hcz123_3⟩ := cz4 BK112.out; obtain ⟨hfz123_0, hfz123_1, hfz123_2, hfz123_3⟩ := fz4 BK112.out))
            have n0_ : Aside0 (((((w121.setCell ⟨gb112, 0, none⟩ (.int .i64 ((rd_T40 l0_1 x79_2).f0))).setCell ⟨gb112, 1, none⟩ (.int .i64 ((rd_T40 l0_1 x79_2).f1))).setCell ⟨gb112, 2, none⟩ (.int .i64 ((rd_T40 l0_1 x79_2).f2))).setCell ⟨gb112, 3, none⟩ (.bool ((rd_T40 l0_1 x79_2).f3))).heap[gb101]? = some (.cells #[.slice A0_0 l0_0.length c0_0, .slice (some ad111) l0_1.length c0_1] 29 (0, 0))) := ⟨by (with_reducible repeat (first | refine blk_drewN ?_ _ | refine blk_drew ?_ | refine blk_alloc ?_ _ | refine blk_far ?_ NB101_112.out _)); exact BK101.out⟩; have n1_ : Aside0 (((((w121.setCell ⟨gb112, 0, none⟩ (.int .i64 ((rd_T40 l0_1 x79_2).f0))).setCell ⟨gb112, 1, none⟩ (.int .i64 ((rd_T40 l0_1 x79_2).f1))).setCell ⟨gb112, 2, none⟩ (.int .i64 ((rd_T40 l0_1 x79_2).f2))).setCell ⟨gb112, 3, none⟩ (.bool ((rd_T40 l0_1 x79_2).f3))).heap[gb112]? = some (.cells #[.int .i64 ((rd_T40 l0_1 x79_2).f0), .int .i64 ((rd_T40 l0_1 x79_2).f1), .int .i64 ((rd_T40 l0_1 x79_2).f2), .bool ((rd_T40 l0_1 x79_2).f3)] 40 (0, 0))) := ⟨by (with_reducible repeat (first | refine blk_drewN ?_ _ | refine blk_drew ?_ | refine blk_alloc ?_ _)); refine blk_put (cs := #[.int .i64 ((rd_T40 l0_1 x79_2).f0), .int .i64 ((rd_T40 l0_1 x79_2).f1), .int .i64 ((rd_T40 l0_1 x79_2).f2), .bool false]) ?_ 3 _ rfl; (with_reducible repeat (first | refine blk_drewN ?_ _ | refine blk_drew ?_ | refine blk_alloc ?_ _)); refine blk_put (cs := #[.int .i64 ((rd_T40 l0_1 x79_2).f0), .int .i64 ((rd_T40 l0_1 x79_2).f1), .int .i64 0, .bool false]) ?_ 2 _ rfl; (with_reducible repeat (first | refine blk_drewN ?_ _ | refine blk_drew ?_ | refine blk_alloc ?_ _)); refine blk_put (cs := #[.int .i64 ((rd_T40 l0_1 x79_2).f0), .int .i64 0, .int .i64 0, .bool false]) ?_ 1 _ rfl; (with_reducible repeat (first | refine blk_drewN ?_ _ | refine blk_drew ?_ | refine blk_alloc ?_ _)); refine blk_put (cs := #[.int .i64 0, .int .i64 0, .int .i64 0, .bool false]) ?_ 0 _ rfl; (with_reducible repeat (first | refine blk_drewN ?_ _ | refine blk_drew ?_ | refine blk_alloc ?_ _)); exact BK112.out⟩; have n2_ : Aside0 (Below w.heap.size w ((((w121.setCell ⟨gb112, 0, none⟩ (.int .i64 ((rd_T40 l0_1 x79_2).f0))).setCell ⟨gb112, 1, none⟩ (.int .i64 ((rd_T40 l0_1 x79_2).f1))).setCell ⟨gb112, 2, none⟩ (.int .i64 ((rd_T40 l0_1 x79_2).f2))).setCell ⟨gb112, 3, none⟩ (.bool ((rd_T40 l0_1 x79_2).f3)))) := ⟨bs2 HB.out GE101.out GE112.out⟩; (try clear BK101); (try clear BK112); (try clear HB)
            generalize ((((w121.setCell ⟨gb112, 0, none⟩ (.int .i64 ((rd_T40 l0_1 x79_2).f0))).setCell ⟨gb112, 1, none⟩ (.int .i64 ((rd_T40 l0_1 x79_2).f1))).setCell ⟨gb112, 2, none⟩ (.int .i64 ((rd_T40 l0_1 x79_2).f2))).setCell ⟨gb112, 3, none⟩ (.bool ((rd_T40 l0_1 x79_2).f3))) = w124 at n0_ n1_ n2_ ⊢
            have BK101 := n0_; have BK112 := n1_; have HB := n2_; clear n0_ n1_ n2_; replace BK101 := Aside0.mk (blk_drew BK101.out); replace BK112 := Aside0.mk (blk_drew BK112.out); replace HB := Aside0.mk (below_drew1 HB.out); refine start_ (n := 26) (S := fun w' => w'.cell? ⟨gb112, 0, none⟩ = some (.int .i64 ((rd_T40 l0_1 x79_2).f0)) ∧ w'.cell? ⟨gb112, 1, none⟩ = some (.int .i64 ((rd_T40 l0_1 x79_2).f1)) ∧ w'.cell? ⟨gb112, 2, none⟩ = some (.int .i64 ((rd_T40 l0_1 x79_2).f2)) ∧ w'.cell? ⟨gb112, 3, none⟩ = some (.bool ((rd_T40 l0_1 x79_2).f3)) ∧ w'.cell? ⟨gb101, 0, none⟩ = some (.slice A0_0 l0_0.length c0_0) ∧ w'.cell? ⟨gb101, 1, none⟩ = some (.slice (some ad111) l0_1.length c0_1)) (ds := []) (lb 26 0) zk rfl rfl ⟨(blk_cell BK112.out 0).trans rfl, (blk_cell BK112.out 1).trans rfl, (blk_cell BK112.out 2).trans rfl, (blk_cell BK112.out 3).trans rfl, (blk_cell BK101.out 0).trans rfl, (blk_cell BK101.out 1).trans rfl⟩ (fun hHeld => ?_); refine with_tabW impl_HeldOk.tab14 impl_HeldOk.bits14 (fun HT_ HW_ => ?_)
            generalize w124.drew = w125 at BK101 BK112 HB hHeld ⊢
            refine tz 0 (some 84) (lb 26 1) rfl rfl HT_.out HW_.out hHeld ?_; refine one_ (i := 1) (N := some 85) (lb 26 3) rfl rfl (one_of HT_.out zk) (by decide) (fun K hK => ?_); refine goes_ Try.func39 zk rfl #[.agg #[.int .i64 ((rd_T40 l0_1 x79_2).f0), .int .i64 ((rd_T40 l0_1 x79_2).f1), .int .i64 ((rd_T40 l0_1 x79_2).f2), .bool ((rd_T40 l0_1 x79_2).f3)]] (by rfl) rfl rfl zm ?_; (with_reducible refine (impl_Hold_ok.calls ((rd_T40 l0_1 x79_2).f0) ((rd_T40 l0_1 x79_2).f1) ((rd_T40 l0_1 x79_2).f2) ((rd_T40 l0_1 x79_2).f3) true _ A88.out).mono ?_); rintro e w126 ⟨rfl, hb⟩; refine ⟨_, rfl, ?_⟩; replace BK101 := Aside0.mk (blk_below (kz BK101.out) hb); replace BK112 := Aside0.mk (blk_below (kz BK112.out) hb); replace HB := Aside0.mk (below_step (bs2 HB.out GE101.out GE112.out) hb); (try clear hb); refine hK.out _ _ ⟨(blk_cell BK112.out 0).trans rfl, (blk_cell BK112.out 1).trans rfl, (blk_cell BK112.out 2).trans rfl, (blk_cell BK112.out 3).trans rfl, (blk_cell BK101.out 0).trans rfl, (blk_cell BK101.out 1).trans rfl⟩ (fun hHeld => ?_); clear hK K; refine nm_ ?_; refine pz 2 (some 86) (lb 26 7) rfl rfl HT_.out ?_; refine pz 3 (some 87) (lb 26 15) rfl rfl HT_.out ?_; refine tz 4 (some 88) (lb 26 31) rfl rfl HT_.out HW_.out hHeld ?_; refine tz 5 (some 89) (lb 26 63) rfl rfl HT_.out HW_.out hHeld ?_; refine one_ (i := 6) (N := some 90) (lb 26 127) rfl rfl (one_of HT_.out zk) (by decide) (fun K hK => ?_); refine goes_ Try.func40 zk rfl #[.agg #[.slice A0_0 l0_0.length c0_0, .slice (some ad111) l0_1.length c0_1], .agg #[.int .i64 ((rd_T40 l0_1 x79_2).f0), .int .i64 ((rd_T40 l0_1 x79_2).f1), .int .i64 ((rd_T40 l0_1 x79_2).f2), .bool ((rd_T40 l0_1 x79_2).f3)]] (by rfl) rfl rfl zm ?_; (with_reducible refine (impl_Held_clashes.calls k2 _ _ l0_0 _ _ l0_1 ((rd_T40 l0_1 x79_2).f0) ((rd_T40 l0_1 x79_2).f1) ((rd_T40 l0_1 x79_2).f2) ((rd_T40 l0_1 x79_2).f3) t114 _ ?side1 ?side2 ?side3 ?side4 A90.out).mono ?_); (case side1 => exact cz (Kd.C_below HR0_0.out HB.out)); (case side2 => exact HC0_0.out); (case side3 => exact cz (Kd.C_below HR0_1.out HB.out)); (case side4 => exact HC0_1.out); rintro e w127 ⟨v115, rfl, ho0, hb⟩; refine ⟨_, rfl, ?_⟩; have HO116 := Aside0.mk (Kd.R_lower ho0 (below_size (bs2 HB.out GE101.out GE112.out))); replace BK101 := Aside0.mk (blk_below (kz BK101.out) hb); replace BK112 := Aside0.mk (blk_below (kz BK112.out) hb); replace HB := Aside0.mk (below_step (bs2 HB.out GE101.out GE112.out) hb); (try clear hb); (try clear ho0); obtain ⟨Ao128, co128, eo128⟩ := Kd.R_slice HO116.out
            (first | subst eo128 | (injection eo128 with f1_ f2_ f3_; have f4_ := f1_.symm; have f5_ := f3_.symm; clear f1_ f2_ f3_; subst f4_; subst f5_))
            refine hK.out _ _ ⟨(blk_cell BK112.out 0).trans rfl, (blk_cell BK112.out 1).trans rfl, (blk_cell BK112.out 2).trans rfl, (blk_cell BK112.out 3).trans rfl, (blk_cell BK101.out 0).trans rfl, (blk_cell BK101.out 1).trans rfl⟩ (fun hHeld => ?_); clear hK K; refine nm_ ?_; refine pz 7 (some 91) (lb 26 255) rfl rfl HT_.out ?_; refine pz 8 (some 92) (lb 26 511) rfl rfl HT_.out ?_; refine pz 9 (some 93) (lb 26 1023) rfl rfl HT_.out ?_; refine pz 10 (some 94) (lb 26 2047) rfl rfl HT_.out ?_; refine pz 11 (some 95) (lb 26 4095) rfl rfl HT_.out ?_; refine pz 12 (some 96) (lb 26 8191) rfl rfl HT_.out ?_; refine pz 13 (some 97) (lb 26 16383) rfl rfl HT_.out ?_; refine nz 14 (some 98) (lb 26 32767) rfl rfl HT_.out ?_; refine nz 15 (some 99) (lb 26 65535) rfl rfl HT_.out ?_; refine nz 16 (some 100) (lb 26 131071) rfl rfl HT_.out ?_; refine nz 17 (some 101) (lb 26 262143) rfl rfl HT_.out ?_; refine nz 18 (some 102) (lb 26 524287) rfl rfl HT_.out ?_; refine nz 19 (some 103) (lb 26 1048575) rfl rfl HT_.out ?_; refine nz 20 (some 104) (lb 26 2097151) rfl rfl HT_.out ?_; refine nz 21 (some 105) (lb 26 4194303) rfl rfl HT_.out ?_; refine nz 22 (some 106) (lb 26 8388607) rfl rfl HT_.out ?_; refine nz 23 (some 107) (lb 26 16777215) rfl rfl HT_.out ?_; refine pz 24 (some 108) (lb 26 33554431) rfl rfl HT_.out ?_; refine pz 25 (some 109) (lb 26 67108863) rfl rfl HT_.out ?_; refine done_ (done_of HT_.out zk) ?_
            try go_wp2
            go_roundg k2
            case measure => have := HK1.out; have := HK2.out; omega
            case rel => exact ⟨(wrap64 (x79_2 + 1)), zr, H', ⟨by have := HK1.out; have := HK2.out; omega⟩, ⟨kz (BK101.out)⟩, ⟨bs2 HB.out GE101.out GE112.out⟩⟩
         ·
          replace c89 := Bool.eq_false_iff.mpr c89; subst c89; rw [if_neg nf_] at H; obtain rfl := Option.some.inj H; have p111 : 0 ≤ (x79_2 : Int) := of_decide_eq_true zs; have q111 : x79_2 < (l0_1.length : Int) := of_decide_eq_true zs; obtain ⟨ad111, e111, hx111_0, hx111_1, hx111_2, hx111_3⟩ := at_T40 HR0_1.out x79_2 p111 q111; cases e111; replace hx111_0 := pw_cell_below HB.out hx111_0; replace hx111_1 := pw_cell_below HB.out hx111_1; replace hx111_2 := pw_cell_below HB.out hx111_2; replace hx111_3 := pw_cell_below HB.out hx111_3; replace p111 := eq_true p111; replace q111 := eq_true q111
          try go_wp2_with (first | ((with_reducible refine gate_dst (N := 7) rfl ?_); (try (refine gate_guard (by rfl) ?_; dsimp only)); refine box_event ?hg (N := 7) ?hd (cs := #[.int .i64 0, .int .i64 0, .int .i64 0, .bool false]) (t := 40) ?hr ?_; (case hd => rfl); (case hg => rfl); (case hr => first | (go_simp; done) | (go_simp; rfl)); intro gb112 hg w129 hbox hb; have BK112 := Aside0.mk (hbox); have GW112 := Aside0.mk ((by rw [hg]; exact (below_size (bs HB.out GE101.out)) : w.heap.size ≤ gb112)); have GE112 := GW112; replace HB := Aside0.mk (below_step (bs HB.out GE101.out) hb); have NB101_112 := Aside0.mk ((by rw [hg]; exact Nat.ne_of_lt (blk_lt (kz BK101.out)) : gb101 ≠ gb112)); have NB112_101 := Aside0.mk NB101_112.out.symm; replace BK101 := Aside0.mk (blk_below (kz BK101.out) hb); clear hb hbox hg; have hnb130 := NB112_101.out; have hnc130 := NB101_112.out; obtain ⟨hcz131_0, hcz131_1, hcz131_2, hcz131_3⟩ := cz4 BK112.out; obtain ⟨hfz131_0, hfz131_1, hfz131_2, hfz131_3⟩ := fz4 BK112.out))
          have n0_ : Aside0 (((((w129.setCell ⟨gb112, 0, none⟩ (.int .i64 ((rd_T40 l0_1 x79_2).f0))).setCell ⟨gb112, 1, none⟩ (.int .i64 ((rd_T40 l0_1 x79_2).f1))).setCell ⟨gb112, 2, none⟩ (.int .i64 ((rd_T40 l0_1 x79_2).f2))).setCell ⟨gb112, 3, none⟩ (.bool ((rd_T40 l0_1 x79_2).f3))).heap[gb101]? = some (.cells #[.slice A0_0 l0_0.length c0_0, .slice (some ad111) l0_1.length c0_1] 29 (0, 0))) := ⟨by (with_reducible repeat (first | refine blk_drewN ?_ _ | refine blk_drew ?_ | refine blk_alloc ?_ _ | refine blk_far ?_ NB101_112.out _)); exact BK101.out⟩; have n1_ : Aside0 (((((w129.setCell ⟨gb112, 0, none⟩ (.int .i64 ((rd_T40 l0_1 x79_2).f0))).setCell ⟨gb112, 1, none⟩ (.int .i64 ((rd_T40 l0_1 x79_2).f1))).setCell ⟨gb112, 2, none⟩ (.int .i64 ((rd_T40 l0_1 x79_2).f2))).setCell ⟨gb112, 3, none⟩ (.bool ((rd_T40 l0_1 x79_2).f3))).heap[gb112]? = some (.cells #[.int .i64 ((rd_T40 l0_1 x79_2).f0), .int .i64 ((rd_T40 l0_1 x79_2).f1), .int .i64 ((rd_T40 l0_1 x79_2).f2), .bool ((rd_T40 l0_1 x79_2).f3)] 40 (0, 0))) := ⟨by (with_reducible repeat (first | refine blk_drewN ?_ _ | refine blk_drew ?_ | refine blk_alloc ?_ _)); refine blk_put (cs := #[.int .i64 ((rd_T40 l0_1 x79_2).f0), .int .i64 ((rd_T40 l0_1 x79_2).f1), .int .i64 ((rd_T40 l0_1 x79_2).f2), .bool false]) ?_ 3 _ rfl; (with_reducible repeat (first | refine blk_drewN ?_ _ | refine blk_drew ?_ | refine blk_alloc ?_ _)); refine blk_put (cs := #[.int .i64 ((rd_T40 l0_1 x79_2).f0), .int .i64 ((rd_T40 l0_1 x79_2).f1), .int .i64 0, .bool false]) ?_ 2 _ rfl; (with_reducible repeat (first | refine blk_drewN ?_ _ | refine blk_drew ?_ | refine blk_alloc ?_ _)); refine blk_put (cs := #[.int .i64 ((rd_T40 l0_1 x79_2).f0), .int .i64 0, .int .i64 0, .bool false]) ?_ 1 _ rfl; (with_reducible repeat (first | refine blk_drewN ?_ _ | refine blk_drew ?_ | refine blk_alloc ?_ _)); refine blk_put (cs := #[.int .i64 0, .int .i64 0, .int .i64 0, .bool false]) ?_ 0 _ rfl; (with_reducible repeat (first | refine blk_drewN ?_ _ | refine blk_drew ?_ | refine blk_alloc ?_ _)); exact BK112.out⟩; have n2_ : Aside0 (Below w.heap.size w ((((w129.setCell ⟨gb112, 0, none⟩ (.int .i64 ((rd_T40 l0_1 x79_2).f0))).setCell ⟨gb112, 1, none⟩ (.int .i64 ((rd_T40 l0_1 x79_2).f1))).setCell ⟨gb112, 2, none⟩ (.int .i64 ((rd_T40 l0_1 x79_2).f2))).setCell ⟨gb112, 3, none⟩ (.bool ((rd_T40 l0_1 x79_2).f3)))) := ⟨bs2 HB.out GE101.out GE112.out⟩; (try clear BK101); (try clear BK112); (try clear HB)
          generalize ((((w129.setCell ⟨gb112, 0, none⟩ (.int .i64 ((rd_T40 l0_1 x79_2).f0))).setCell ⟨gb112, 1, none⟩ (.int .i64 ((rd_T40 l0_1 x79_2).f1))).setCell ⟨gb112, 2, none⟩ (.int .i64 ((rd_T40 l0_1 x79_2).f2))).setCell ⟨gb112, 3, none⟩ (.bool ((rd_T40 l0_1 x79_2).f3))) = w132 at n0_ n1_ n2_ ⊢
          have BK101 := n0_; have BK112 := n1_; have HB := n2_; clear n0_ n1_ n2_; replace BK101 := Aside0.mk (blk_drew BK101.out); replace BK112 := Aside0.mk (blk_drew BK112.out); replace HB := Aside0.mk (below_drew1 HB.out); refine start_ (n := 26) (S := fun w' => w'.cell? ⟨gb112, 0, none⟩ = some (.int .i64 ((rd_T40 l0_1 x79_2).f0)) ∧ w'.cell? ⟨gb112, 1, none⟩ = some (.int .i64 ((rd_T40 l0_1 x79_2).f1)) ∧ w'.cell? ⟨gb112, 2, none⟩ = some (.int .i64 ((rd_T40 l0_1 x79_2).f2)) ∧ w'.cell? ⟨gb112, 3, none⟩ = some (.bool ((rd_T40 l0_1 x79_2).f3))) (ds := []) (lb 26 0) zk rfl rfl ⟨(blk_cell BK112.out 0).trans rfl, (blk_cell BK112.out 1).trans rfl, (blk_cell BK112.out 2).trans rfl, (blk_cell BK112.out 3).trans rfl⟩ (fun hHeld => ?_); refine with_tabW impl_HeldOk.tab14 impl_HeldOk.bits14 (fun HT_ HW_ => ?_)
          generalize w132.drew = w133 at BK101 BK112 HB hHeld ⊢
          refine tz 0 (some 84) (lb 26 1) rfl rfl HT_.out HW_.out hHeld ?_; refine one_ (i := 1) (N := some 85) (lb 26 3) rfl rfl (one_of HT_.out zk) (by decide) (fun K hK => ?_); refine goes_ Try.func39 zk rfl #[.agg #[.int .i64 ((rd_T40 l0_1 x79_2).f0), .int .i64 ((rd_T40 l0_1 x79_2).f1), .int .i64 ((rd_T40 l0_1 x79_2).f2), .bool ((rd_T40 l0_1 x79_2).f3)]] (by rfl) rfl rfl zm ?_; (with_reducible refine (impl_Hold_ok.calls ((rd_T40 l0_1 x79_2).f0) ((rd_T40 l0_1 x79_2).f1) ((rd_T40 l0_1 x79_2).f2) ((rd_T40 l0_1 x79_2).f3) false _ A88.out).mono ?_); rintro e w134 ⟨rfl, hb⟩; refine ⟨_, rfl, ?_⟩; replace BK101 := Aside0.mk (blk_below (kz BK101.out) hb); replace BK112 := Aside0.mk (blk_below (kz BK112.out) hb); replace HB := Aside0.mk (below_step (bs2 HB.out GE101.out GE112.out) hb); (try clear hb); refine hK.out _ _ ⟨(blk_cell BK112.out 0).trans rfl, (blk_cell BK112.out 1).trans rfl, (blk_cell BK112.out 2).trans rfl, (blk_cell BK112.out 3).trans rfl⟩ (fun hHeld => ?_); clear hK K; refine nm_ ?_; refine pz 2 (some 86) (lb 26 7) rfl rfl HT_.out ?_; refine pz 3 (some 87) (lb 26 15) rfl rfl HT_.out ?_; refine nz 4 (some 88) (lb 26 31) rfl rfl HT_.out ?_; refine nz 5 (some 89) (lb 26 63) rfl rfl HT_.out ?_; refine nz 6 (some 90) (lb 26 127) rfl rfl HT_.out ?_; refine nz 7 (some 91) (lb 26 255) rfl rfl HT_.out ?_; refine nz 8 (some 92) (lb 26 511) rfl rfl HT_.out ?_; refine pz 9 (some 93) (lb 26 1023) rfl rfl HT_.out ?_; refine pz 10 (some 94) (lb 26 2047) rfl rfl HT_.out ?_; refine nz 11 (some 95) (lb 26 4095) rfl rfl HT_.out ?_; refine nz 12 (some 96) (lb 26 8191) rfl rfl HT_.out ?_; refine nz 13 (some 97) (lb 26 16383) rfl rfl HT_.out ?_; refine nz 14 (some 98) (lb 26 32767) rfl rfl HT_.out ?_; refine nz 15 (some 99) (lb 26 65535) rfl rfl HT_.out ?_; refine nz 16 (some 100) (lb 26 131071) rfl rfl HT_.out ?_; refine nz 17 (some 101) (lb 26 262143) rfl rfl HT_.out ?_; refine nz 18 (some 102) (lb 26 524287) rfl rfl HT_.out ?_; refine nz 19 (some 103) (lb 26 1048575) rfl rfl HT_.out ?_; refine nz 20 (some 104) (lb 26 2097151) rfl rfl HT_.out ?_; refine nz 21 (some 105) (lb 26 4194303) rfl rfl HT_.out ?_; refine nz 22 (some 106) (lb 26 8388607) rfl rfl HT_.out ?_; refine nz 23 (some 107) (lb 26 16777215) rfl rfl HT_.out ?_; refine nz 24 (some 108) (lb 26 33554431) rfl rfl HT_.out ?_; refine pz 25 (some 109) (lb 26 67108863) rfl rfl HT_.out ?_; refine done_ (done_of HT_.out zk) ?_
          try go_wp2
          go_ret
          exact ⟨ze, bs2 HB.out GE101.out GE112.out⟩
        ·
         rw [if_neg c87] at H
         exact absurd H (by simp)
       ·
        rw [if_neg c86] at H
        exact absurd H (by simp)
      ·
       rw [if_neg c85] at H; have c85b0 : decide (x79_2 < (l0_1.length : Int)) = false := decide_eq_false c85; clear c85; replace H := Option.bind_eq_some_iff.mp H; obtain ⟨t110, A1350, H⟩ := H; have A135 := Aside0.mk A1350; clear A1350; obtain rfl := Option.some.inj H; obtain ⟨hcz136_0, hcz136_1⟩ := cz2 BK101.out; obtain ⟨hfz136_0, hfz136_1⟩ := fz2 BK101.out
       go_wp2_with (first | ((with_reducible refine gate_callee (f := 41) rfl ?_); refine goesL_ (some 112) rfl rfl Try.func41 zk rfl #[.agg #[.slice A0_0 l0_0.length c0_0, .slice A0_1 l0_1.length c0_1]] rfl zm ?_; (with_reducible refine (impl_Held_round.calls k2 _ _ l0_0 _ _ l0_1 t110 _ ?side1 ?side2 ?side3 ?side4 A135.out).mono ?_); (case side1 => exact cz (Kd.C_below HR0_0.out HB.out)); (case side2 => exact HC0_0.out); (case side3 => exact cz (Kd.C_below HR0_1.out HB.out)); (case side4 => exact HC0_1.out); rintro e w137 ⟨rfl, hb⟩; refine ⟨_, rfl, ?_⟩; replace BK101 := Aside0.mk (blk_below (kz BK101.out) hb); replace HB := Aside0.mk (below_step (bs HB.out GE101.out) hb); (try clear hb)))
       go_ret
       exact ⟨ze, bs HB.out GE101.out⟩

end Go.Proofs.Ytgjlbghjjjlhmaa.P
