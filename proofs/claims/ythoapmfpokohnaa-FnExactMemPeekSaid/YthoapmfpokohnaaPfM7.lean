-- printed by wip/qd.py, laid together by wip/mergepf.py
import Derived.Test.YthoapmfpokohnaaPf0
import Derived.Test.YthoapmfpokohnaaQSem9
import Derived.Test.YthoapmfpokohnaaPfM3
import Derived.Test.YthoapmfpokohnaaPfM6
import Derived.Shelf.Abstract
namespace Go.Proofs.Ythoapmfpokohnaa.P
open Go.RowKit Go.Proofs.YthoapmfpokohnaaW.PrintWords Go.Proofs.YthoapmfpokohnaaW.PrintLast Go.Proofs.YthoapmfpokohnaaW.PrintMore
attribute [local go_sem] max2_int min2_int max_two min_two max_three min_three max_four min_four Q.cell_set_map Q.str_gtr Q.str_geq Q.str_leq
set_option linter.unusedVariables false
set_option linter.unusedSimpArgs false

/-! ### spec_l3Peek: function 61 -/
-- IMPORT Derived.Test.YthoapmfpokohnaaQSem9
def spec_l3Peek.f (l0_0 : List ByteArray) (l0_1 : List Int) (l0_2 : List ByteArray) (l0_3 : List Int) (l0_4 : List (S63)) (a0_5 : Int) (a1 : Int) (a2 : Int) : Option (Int) := if 0 ≤ a1 then (if a1 < (l0_4.length : Int) then (if 0 ≤ (wrap64 (Int.tdiv a2 4)) then (if (wrap64 (Int.tdiv a2 4)) < (((rd_T63 l0_4 a1).f2).length : Int) then (if ((rd_T65 ((rd_T63 l0_4 a1).f2) (wrap64 (Int.tdiv a2 4))).f0) = 1 then (if 0 ≤ ((rd_T65 ((rd_T63 l0_4 a1).f2) (wrap64 (Int.tdiv a2 4))).f1) then (if ((rd_T65 ((rd_T63 l0_4 a1).f2) (wrap64 (Int.tdiv a2 4))).f1) < (l0_0.length : Int) then (if 0 ≤ (Int.tmod a2 4) then (if (Int.tmod a2 4) < ((rdOf ByteArray.empty l0_0 ((rd_T65 ((rd_T63 l0_4 a1).f2) (wrap64 (Int.tdiv a2 4))).f1)).size : Int) then (some (wrap64 (bt (rdOf ByteArray.empty l0_0 ((rd_T65 ((rd_T63 l0_4 a1).f2) (wrap64 (Int.tdiv a2 4))).f1)) (Int.tmod a2 4)))) else (none)) else (none)) else (none)) else (none)) else (if ((rd_T65 ((rd_T63 l0_4 a1).f2) (wrap64 (Int.tdiv a2 4))).f0) = 2 then (if 0 ≤ ((rd_T65 ((rd_T63 l0_4 a1).f2) (wrap64 (Int.tdiv a2 4))).f1) then (if ((rd_T65 ((rd_T63 l0_4 a1).f2) (wrap64 (Int.tdiv a2 4))).f1) < (l0_2.length : Int) then (if 0 ≤ (Int.tmod a2 4) then (if (Int.tmod a2 4) < ((rdOf ByteArray.empty l0_2 ((rd_T65 ((rd_T63 l0_4 a1).f2) (wrap64 (Int.tdiv a2 4))).f1)).size : Int) then (some (wrap64 (bt (rdOf ByteArray.empty l0_2 ((rd_T65 ((rd_T63 l0_4 a1).f2) (wrap64 (Int.tdiv a2 4))).f1)) (Int.tmod a2 4)))) else (none)) else (none)) else (none)) else (none)) else (some 0))) else (none)) else (none)) else (none)) else (none)
set_option maxHeartbeats 8000000 in
set_option maxRecDepth 100000 in
theorem spec_l3Peek.calls (A0_0 : Option Addr) (c0_0 : Nat) (l0_0 : List ByteArray) (A0_1 : Option Addr) (c0_1 : Nat) (l0_1 : List Int) (A0_2 : Option Addr) (c0_2 : Nat) (l0_2 : List ByteArray) (A0_3 : Option Addr) (c0_3 : Nat) (l0_3 : List Int) (A0_4 : Option Addr) (c0_4 : Nat) (l0_4 : List (S63)) (a0_5 : Int) (a1 : Int) (a2 : Int) (r : Int) (w : World) (hr0_0 : Kd.C Kd.string w A0_0 l0_0.length l0_0) (hc0_0 : l0_0.length ≤ c0_0) (hr0_1 : Kd.C (Kd.int .i64) w A0_1 l0_1.length l0_1) (hc0_1 : l0_1.length ≤ c0_1) (hr0_2 : Kd.C Kd.string w A0_2 l0_2.length l0_2) (hc0_2 : l0_2.length ≤ c0_2) (hr0_3 : Kd.C (Kd.int .i64) w A0_3 l0_3.length l0_3) (hc0_3 : l0_3.length ≤ c0_3) (hr0_4 : Kd.C k63 w A0_4 l0_4.length l0_4) (hc0_4 : l0_4.length ≤ c0_4) (h : spec_l3Peek.f l0_0 l0_1 l0_2 l0_3 l0_4 a0_5 a1 a2 = some r) :
  Calls Try.prog 61 #[.agg #[.slice A0_0 l0_0.length c0_0, .slice A0_1 l0_1.length c0_1, .slice A0_2 l0_2.length c0_2, .slice A0_3 l0_3.length c0_3, .slice A0_4 l0_4.length c0_4, .int .i64 a0_5], .int .i64 a1, .int .i64 a2] w fun e w' => e = .returned (.int .i64 r) ∧ Below w.heap.size w w' := by
 have hu46 := Try.underlying46; have hu65 := Try.underlying65; have HR0_0 := Aside0.mk hr0_0; have HC0_0 := Aside0.mk hc0_0; clear hr0_0 hc0_0; have HR0_1 := Aside0.mk hr0_1; have HC0_1 := Aside0.mk hc0_1; clear hr0_1 hc0_1; have HR0_2 := Aside0.mk hr0_2; have HC0_2 := Aside0.mk hc0_2; clear hr0_2 hc0_2; have HR0_3 := Aside0.mk hr0_3; have HC0_3 := Aside0.mk hc0_3; clear hr0_3 hc0_3; have HR0_4 := Aside0.mk hr0_4; have HC0_4 := Aside0.mk hc0_4; clear hr0_4 hc0_4; have HB := Aside0.mk (Below.refl w.heap.size w); have H : (if 0 ≤ a1 then (if a1 < (l0_4.length : Int) then (if 0 ≤ (wrap64 (Int.tdiv a2 4)) then (if (wrap64 (Int.tdiv a2 4)) < (((rd_T63 l0_4 a1).f2).length : Int) then (if ((rd_T65 ((rd_T63 l0_4 a1).f2) (wrap64 (Int.tdiv a2 4))).f0) = 1 then (if 0 ≤ ((rd_T65 ((rd_T63 l0_4 a1).f2) (wrap64 (Int.tdiv a2 4))).f1) then (if ((rd_T65 ((rd_T63 l0_4 a1).f2) (wrap64 (Int.tdiv a2 4))).f1) < (l0_0.length : Int) then (if 0 ≤ (Int.tmod a2 4) then (if (Int.tmod a2 4) < ((rdOf ByteArray.empty l0_0 ((rd_T65 ((rd_T63 l0_4 a1).f2) (wrap64 (Int.tdiv a2 4))).f1)).size : Int) then (some (wrap64 (bt (rdOf ByteArray.empty l0_0 ((rd_T65 ((rd_T63 l0_4 a1).f2) (wrap64 (Int.tdiv a2 4))).f1)) (Int.tmod a2 4)))) else (none)) else (none)) else (none)) else (none)) else (if ((rd_T65 ((rd_T63 l0_4 a1).f2) (wrap64 (Int.tdiv a2 4))).f0) = 2 then (if 0 ≤ ((rd_T65 ((rd_T63 l0_4 a1).f2) (wrap64 (Int.tdiv a2 4))).f1) then (if ((rd_T65 ((rd_T63 l0_4 a1).f2) (wrap64 (Int.tdiv a2 4))).f1) < (l0_2.length : Int) then (if 0 ≤ (Int.tmod a2 4) then (if (Int.tmod a2 4) < ((rdOf ByteArray.empty l0_2 ((rd_T65 ((rd_T63 l0_4 a1).f2) (wrap64 (Int.tdiv a2 4))).f1)).size : Int) then (some (wrap64 (bt (rdOf ByteArray.empty l0_2 ((rd_T65 ((rd_T63 l0_4 a1).f2) (wrap64 (Int.tdiv a2 4))).f1)) (Int.tmod a2 4)))) else (none)) else (none)) else (none)) else (none)) else (some 0))) else (none)) else (none)) else (none)) else (none)) = some r := h; clear h
 by_cases c4 : 0 ≤ a1
 rotate_left
 ·
  rw [if_neg c4] at H
  exact absurd H (by simp)
 rw [if_pos c4] at H; have c4b0 : decide (0 ≤ a1) = true := decide_eq_true c4; clear c4
 by_cases c5 : a1 < (l0_4.length : Int)
 rotate_left
 ·
  rw [if_neg c5] at H
  exact absurd H (by simp)
 rw [if_pos c5] at H; have c5b0 : decide (a1 < (l0_4.length : Int)) = true := decide_eq_true c5; clear c5; obtain ⟨ji6, hji6⟩ : ∃ j_ : Int, (wrap64 (Int.tdiv a2 4)) = j_ := ⟨_, rfl⟩
 replace H : (if 0 ≤ (ji6) then (if (ji6) < (((rd_T63 l0_4 a1).f2).length : Int) then (if ((rd_T65 ((rd_T63 l0_4 a1).f2) (ji6)).f0) = 1 then (if 0 ≤ ((rd_T65 ((rd_T63 l0_4 a1).f2) (ji6)).f1) then (if ((rd_T65 ((rd_T63 l0_4 a1).f2) (ji6)).f1) < (l0_0.length : Int) then (if 0 ≤ (Int.tmod a2 4) then (if (Int.tmod a2 4) < ((rdOf ByteArray.empty l0_0 ((rd_T65 ((rd_T63 l0_4 a1).f2) (ji6)).f1)).size : Int) then (some (wrap64 (bt (rdOf ByteArray.empty l0_0 ((rd_T65 ((rd_T63 l0_4 a1).f2) (ji6)).f1)) (Int.tmod a2 4)))) else (none)) else (none)) else (none)) else (none)) else (if ((rd_T65 ((rd_T63 l0_4 a1).f2) (ji6)).f0) = 2 then (if 0 ≤ ((rd_T65 ((rd_T63 l0_4 a1).f2) (ji6)).f1) then (if ((rd_T65 ((rd_T63 l0_4 a1).f2) (ji6)).f1) < (l0_2.length : Int) then (if 0 ≤ (Int.tmod a2 4) then (if (Int.tmod a2 4) < ((rdOf ByteArray.empty l0_2 ((rd_T65 ((rd_T63 l0_4 a1).f2) (ji6)).f1)).size : Int) then (some (wrap64 (bt (rdOf ByteArray.empty l0_2 ((rd_T65 ((rd_T63 l0_4 a1).f2) (ji6)).f1)) (Int.tmod a2 4)))) else (none)) else (none)) else (none)) else (none)) else (some 0))) else (none)) else (none)) = some r := by first | (rw [hji6] at H; exact H) | (simp only [hji6] at H ⊢; exact H)
 have hji6w : (IntKind.i64.wrap (Int.tdiv a2 4)) = ji6 := (i64_w _).trans hji6
 by_cases c7 : 0 ≤ (ji6)
 rotate_left
 ·
  rw [if_neg c7] at H
  exact absurd H (by simp)
 rw [if_pos c7] at H; have c7b0 : decide (0 ≤ (ji6)) = true := decide_eq_true c7; clear c7
 by_cases c8 : (ji6) < (((rd_T63 l0_4 a1).f2).length : Int)
 rotate_left
 ·
  rw [if_neg c8] at H
  exact absurd H (by simp)
 rw [if_pos c8] at H; have c8b0 : decide ((ji6) < (((rd_T63 l0_4 a1).f2).length : Int)) = true := decide_eq_true c8; clear c8
 by_cases c9 : ((rd_T65 ((rd_T63 l0_4 a1).f2) (ji6)).f0) = 1
 ·
  rw [if_pos c9] at H; have c9b0 : (((rd_T65 ((rd_T63 l0_4 a1).f2) (ji6)).f0) == 1) = true := beq_iff_eq.mpr c9; have c9b1 : (((rd_T65 ((rd_T63 l0_4 a1).f2) (ji6)).f0) != 1) = false := bne_eq_false_iff_eq.mpr c9; clear c9
  by_cases c10 : 0 ≤ ((rd_T65 ((rd_T63 l0_4 a1).f2) (ji6)).f1)
  rotate_left
  ·
   rw [if_neg c10] at H
   exact absurd H (by simp)
  rw [if_pos c10] at H; have c10b0 : decide (0 ≤ ((rd_T65 ((rd_T63 l0_4 a1).f2) (ji6)).f1)) = true := decide_eq_true c10; clear c10
  by_cases c11 : ((rd_T65 ((rd_T63 l0_4 a1).f2) (ji6)).f1) < (l0_0.length : Int)
  rotate_left
  ·
   rw [if_neg c11] at H
   exact absurd H (by simp)
  rw [if_pos c11] at H; have c11b0 : decide (((rd_T65 ((rd_T63 l0_4 a1).f2) (ji6)).f1) < (l0_0.length : Int)) = true := decide_eq_true c11; clear c11; obtain ⟨ji12, hji12⟩ : ∃ j_ : Int, (Int.tmod a2 4) = j_ := ⟨_, rfl⟩
  replace H : (if 0 ≤ (ji12) then (if (ji12) < ((rdOf ByteArray.empty l0_0 ((rd_T65 ((rd_T63 l0_4 a1).f2) (ji6)).f1)).size : Int) then (some (wrap64 (bt (rdOf ByteArray.empty l0_0 ((rd_T65 ((rd_T63 l0_4 a1).f2) (ji6)).f1)) (ji12)))) else (none)) else (none)) = some r := by first | (rw [hji12] at H; exact H) | (simp only [hji12] at H ⊢; exact H)
  by_cases c13 : 0 ≤ (ji12)
  rotate_left
  ·
   rw [if_neg c13] at H
   exact absurd H (by simp)
  rw [if_pos c13] at H; have c13b0 : decide (0 ≤ (ji12)) = true := decide_eq_true c13; clear c13
  by_cases c14 : (ji12) < ((rdOf ByteArray.empty l0_0 ((rd_T65 ((rd_T63 l0_4 a1).f2) (ji6)).f1)).size : Int)
  rotate_left
  ·
   rw [if_neg c14] at H
   exact absurd H (by simp)
  rw [if_pos c14] at H; have c14b0 : decide ((ji12) < ((rdOf ByteArray.empty l0_0 ((rd_T65 ((rd_T63 l0_4 a1).f2) (ji6)).f1)).size : Int)) = true := decide_eq_true c14; clear c14; obtain rfl := Option.some.inj H
  go_enter Try.func61, Try.ntmps61
  go_wp2_with (first | ((with_reducible refine gate_dst (N := 3) rfl ?_); refine box_event ?hg (N := 3) ?hd (cs := #[.slice A0_0 l0_0.length c0_0, .slice A0_1 l0_1.length c0_1, .slice A0_2 l0_2.length c0_2, .slice A0_3 l0_3.length c0_3, .slice A0_4 l0_4.length c0_4, .int .i64 a0_5]) (t := 46) ?hr ?_; (case hd => rfl); (case hg => rfl); (case hr => first | (go_simp; done) | (go_simp; rfl)); intro gb101 hg w16 hbox hb; have BK101 := Aside0.mk (hbox); have GW101 := Aside0.mk ((by rw [hg]; exact (below_size (bz HB.out)) : w.heap.size ≤ gb101)); have GE101 := GW101; replace HB := Aside0.mk (below_step (bz HB.out) hb); clear hb hbox hg; obtain ⟨hcz17_0, hcz17_1, hcz17_2, hcz17_3, hcz17_4, hcz17_5⟩ := cz6 BK101.out; obtain ⟨hfz17_0, hfz17_1, hfz17_2, hfz17_3, hfz17_4, hfz17_5⟩ := fz6 BK101.out; have p102 : 0 ≤ (a1 : Int) := of_decide_eq_true zs; have q102 : a1 < (l0_4.length : Int) := of_decide_eq_true zs; obtain ⟨ad102, A102_1, c102_1, A102_2, c102_2, e102, hx102_0, hx102_1, hx102_2, hl102_1, hi102_1, hl102_2, hi102_2⟩ := at_T63 HR0_4.out a1 p102 q102; cases e102; replace hx102_0 := pw_cell_below HB.out hx102_0; replace hx102_1 := pw_cell_below HB.out hx102_1; replace hx102_2 := pw_cell_below HB.out hx102_2; have HR102_1 := Aside0.mk hi102_1; have HC102_1 := Aside0.mk hl102_1; clear hi102_1 hl102_1; have HR102_2 := Aside0.mk hi102_2; have HC102_2 := Aside0.mk hl102_2; clear hi102_2 hl102_2; replace p102 := eq_true p102; replace q102 := eq_true q102; have p103 : 0 ≤ ((ji6) : Int) := of_decide_eq_true zs; have q103 : (ji6) < (((rd_T63 l0_4 a1).f2).length : Int) := of_decide_eq_true zs; obtain ⟨ad103, e103, hx103_0, hx103_1, hx103_2, hx103_3⟩ := at_T65 HR102_2.out (ji6) p103 q103; cases e103; replace hx103_0 := pw_cell_below HB.out hx103_0; replace hx103_1 := pw_cell_below HB.out hx103_1; replace hx103_2 := pw_cell_below HB.out hx103_2; replace hx103_3 := pw_cell_below HB.out hx103_3; replace p103 := eq_true p103; replace q103 := eq_true q103) | ((with_reducible refine gate_dst (N := 7) rfl ?_); refine box_event ?hg (N := 7) ?hd (cs := #[.int .i64 0, .int .i64 0, .bool false, .bool false]) (t := 65) ?hr ?_; (case hd => rfl); (case hg => rfl); (case hr => first | (go_simp; done) | (go_simp; rfl)); intro gb104 hg w18 hbox hb; have BK104 := Aside0.mk (hbox); have GW104 := Aside0.mk ((by rw [hg]; exact (below_size (bs HB.out GE101.out)) : w.heap.size ≤ gb104)); have GE104 := GW104; replace HB := Aside0.mk (below_step (bs HB.out GE101.out) hb); have NB101_104 := Aside0.mk ((by rw [hg]; exact Nat.ne_of_lt (blk_lt (kz BK101.out)) : gb101 ≠ gb104)); have NB104_101 := Aside0.mk NB101_104.out.symm; replace BK101 := Aside0.mk (blk_below (kz BK101.out) hb); clear hb hbox hg; have hnb19 := NB104_101.out; have hnc19 := NB101_104.out; obtain ⟨hcz20_0, hcz20_1, hcz20_2, hcz20_3⟩ := cz4 BK104.out; obtain ⟨hfz20_0, hfz20_1, hfz20_2, hfz20_3⟩ := fz4 BK104.out; obtain ⟨hcz21_0, hcz21_1, hcz21_2, hcz21_3, hcz21_4, hcz21_5⟩ := cz6 BK101.out; obtain ⟨hfz21_0, hfz21_1, hfz21_2, hfz21_3, hfz21_4, hfz21_5⟩ := fz6 BK101.out; have p105 : 0 ≤ (((rd_T65 ((rd_T63 l0_4 a1).f2) (ji6)).f1) : Int) := of_decide_eq_true zs; have q105 : ((rd_T65 ((rd_T63 l0_4 a1).f2) (ji6)).f1) < (l0_0.length : Int) := of_decide_eq_true zs; obtain ⟨ad105, e105, hx105_0⟩ := Kd.at_string HR0_0.out ((rd_T65 ((rd_T63 l0_4 a1).f2) (ji6)).f1) p105 q105; cases e105; have hn105_0 : ad105.block ≠ gb104 := Nat.ne_of_lt (Nat.lt_of_lt_of_le (by have := World.block_lt_of_cell? _ _ hx105_0; first | rwa [add_block] at this | exact this) GW104.out); have hn105_1 : ad105.block ≠ gb104 := Nat.ne_of_lt (Nat.lt_of_lt_of_le (by have := World.block_lt_of_cell? _ _ hx105_0; first | rwa [add_block] at this | exact this) GW104.out); have hn105_2 : ad105.block ≠ gb104 := Nat.ne_of_lt (Nat.lt_of_lt_of_le (by have := World.block_lt_of_cell? _ _ hx105_0; first | rwa [add_block] at this | exact this) GW104.out); have hn105_3 : ad105.block ≠ gb104 := Nat.ne_of_lt (Nat.lt_of_lt_of_le (by have := World.block_lt_of_cell? _ _ hx105_0; first | rwa [add_block] at this | exact this) GW104.out); replace hx105_0 := pw_cell_below HB.out hx105_0; replace hx105_0 := (cell_far (p := ⟨gb104, 0, none⟩) (by first | (rw [add_block]; exact hn105_0) | (show (Addr.add _ _).block ≠ _; rw [add_block]; exact hn105_0) | exact hn105_0) (.int .i64 ((rd_T65 ((rd_T63 l0_4 a1).f2) (ji6)).f0))).trans hx105_0; replace hx105_0 := (cell_far (p := ⟨gb104, 1, none⟩) (by first | (rw [add_block]; exact hn105_1) | (show (Addr.add _ _).block ≠ _; rw [add_block]; exact hn105_1) | exact hn105_1) (.int .i64 ((rd_T65 ((rd_T63 l0_4 a1).f2) (ji6)).f1))).trans hx105_0; replace hx105_0 := (cell_far (p := ⟨gb104, 2, none⟩) (by first | (rw [add_block]; exact hn105_2) | (show (Addr.add _ _).block ≠ _; rw [add_block]; exact hn105_2) | exact hn105_2) (.bool ((rd_T65 ((rd_T63 l0_4 a1).f2) (ji6)).f2))).trans hx105_0; replace hx105_0 := (cell_far (p := ⟨gb104, 3, none⟩) (by first | (rw [add_block]; exact hn105_3) | (show (Addr.add _ _).block ≠ _; rw [add_block]; exact hn105_3) | exact hn105_3) (.bool ((rd_T65 ((rd_T63 l0_4 a1).f2) (ji6)).f3))).trans hx105_0; clear hn105_0; clear hn105_1; clear hn105_2; clear hn105_3; replace p105 := eq_true p105; replace q105 := eq_true q105; have p15 : 0 ≤ ((ji12) : Int) := of_decide_eq_true zs; have q15 : (ji12) < ((rdOf ByteArray.empty l0_0 ((rd_T65 ((rd_T63 l0_4 a1).f2) (ji6)).f1)).size : Int) := of_decide_eq_true zs; have hx15 := bt_at (rdOf ByteArray.empty l0_0 ((rd_T65 ((rd_T63 l0_4 a1).f2) (ji6)).f1)) (ji12); replace p15 := eq_true p15; replace q15 := eq_true q15))
  go_ret
  exact ⟨by first | rfl | (simp [errW_none, errW_some] <;> rfl) | (simp only [← hji6, ← hji12]; first | rfl | (simp [errW_none, errW_some] <;> rfl)) | (simp [*, errW_none, errW_some] <;> rfl), bs2 HB.out GE101.out GE104.out⟩
 rw [if_neg c9] at H; have c9b0 : (((rd_T65 ((rd_T63 l0_4 a1).f2) (ji6)).f0) == 1) = false := beq_eq_false_iff_ne.mpr c9; have c9b1 : (((rd_T65 ((rd_T63 l0_4 a1).f2) (ji6)).f0) != 1) = true := bne_iff_ne.mpr c9
 by_cases c22 : ((rd_T65 ((rd_T63 l0_4 a1).f2) (ji6)).f0) = 2
 rotate_left
 ·
  rw [if_neg c22] at H; have c22b0 : (((rd_T65 ((rd_T63 l0_4 a1).f2) (ji6)).f0) == 2) = false := beq_eq_false_iff_ne.mpr c22; have c22b1 : (((rd_T65 ((rd_T63 l0_4 a1).f2) (ji6)).f0) != 2) = true := bne_iff_ne.mpr c22; obtain rfl := Option.some.inj H
  go_enter Try.func61, Try.ntmps61
  go_wp2_with (first | ((with_reducible refine gate_dst (N := 3) rfl ?_); refine box_event ?hg (N := 3) ?hd (cs := #[.slice A0_0 l0_0.length c0_0, .slice A0_1 l0_1.length c0_1, .slice A0_2 l0_2.length c0_2, .slice A0_3 l0_3.length c0_3, .slice A0_4 l0_4.length c0_4, .int .i64 a0_5]) (t := 46) ?hr ?_; (case hd => rfl); (case hg => rfl); (case hr => first | (go_simp; done) | (go_simp; rfl)); intro gb101 hg w35 hbox hb; have BK101 := Aside0.mk (hbox); have GW101 := Aside0.mk ((by rw [hg]; exact (below_size (bz HB.out)) : w.heap.size ≤ gb101)); have GE101 := GW101; replace HB := Aside0.mk (below_step (bz HB.out) hb); clear hb hbox hg; obtain ⟨hcz36_0, hcz36_1, hcz36_2, hcz36_3, hcz36_4, hcz36_5⟩ := cz6 BK101.out; obtain ⟨hfz36_0, hfz36_1, hfz36_2, hfz36_3, hfz36_4, hfz36_5⟩ := fz6 BK101.out; have p102 : 0 ≤ (a1 : Int) := of_decide_eq_true zs; have q102 : a1 < (l0_4.length : Int) := of_decide_eq_true zs; obtain ⟨ad102, A102_1, c102_1, A102_2, c102_2, e102, hx102_0, hx102_1, hx102_2, hl102_1, hi102_1, hl102_2, hi102_2⟩ := at_T63 HR0_4.out a1 p102 q102; cases e102; replace hx102_0 := pw_cell_below HB.out hx102_0; replace hx102_1 := pw_cell_below HB.out hx102_1; replace hx102_2 := pw_cell_below HB.out hx102_2; have HR102_1 := Aside0.mk hi102_1; have HC102_1 := Aside0.mk hl102_1; clear hi102_1 hl102_1; have HR102_2 := Aside0.mk hi102_2; have HC102_2 := Aside0.mk hl102_2; clear hi102_2 hl102_2; replace p102 := eq_true p102; replace q102 := eq_true q102; have p103 : 0 ≤ ((ji6) : Int) := of_decide_eq_true zs; have q103 : (ji6) < (((rd_T63 l0_4 a1).f2).length : Int) := of_decide_eq_true zs; obtain ⟨ad103, e103, hx103_0, hx103_1, hx103_2, hx103_3⟩ := at_T65 HR102_2.out (ji6) p103 q103; cases e103; replace hx103_0 := pw_cell_below HB.out hx103_0; replace hx103_1 := pw_cell_below HB.out hx103_1; replace hx103_2 := pw_cell_below HB.out hx103_2; replace hx103_3 := pw_cell_below HB.out hx103_3; replace p103 := eq_true p103; replace q103 := eq_true q103) | ((with_reducible refine gate_dst (N := 7) rfl ?_); refine box_event ?hg (N := 7) ?hd (cs := #[.int .i64 0, .int .i64 0, .bool false, .bool false]) (t := 65) ?hr ?_; (case hd => rfl); (case hg => rfl); (case hr => first | (go_simp; done) | (go_simp; rfl)); intro gb104 hg w37 hbox hb; have BK104 := Aside0.mk (hbox); have GW104 := Aside0.mk ((by rw [hg]; exact (below_size (bs HB.out GE101.out)) : w.heap.size ≤ gb104)); have GE104 := GW104; replace HB := Aside0.mk (below_step (bs HB.out GE101.out) hb); have NB101_104 := Aside0.mk ((by rw [hg]; exact Nat.ne_of_lt (blk_lt (kz BK101.out)) : gb101 ≠ gb104)); have NB104_101 := Aside0.mk NB101_104.out.symm; replace BK101 := Aside0.mk (blk_below (kz BK101.out) hb); clear hb hbox hg; have hnb38 := NB104_101.out; have hnc38 := NB101_104.out; obtain ⟨hcz39_0, hcz39_1, hcz39_2, hcz39_3⟩ := cz4 BK104.out; obtain ⟨hfz39_0, hfz39_1, hfz39_2, hfz39_3⟩ := fz4 BK104.out))
  go_ret
  exact ⟨by first | rfl | (simp [errW_none, errW_some] <;> rfl) | (simp only [← hji6]; first | rfl | (simp [errW_none, errW_some] <;> rfl)) | (simp [*, errW_none, errW_some] <;> rfl), bs2 HB.out GE101.out GE104.out⟩
 rw [if_pos c22] at H; have c22b0 : (((rd_T65 ((rd_T63 l0_4 a1).f2) (ji6)).f0) == 2) = true := beq_iff_eq.mpr c22; have c22b1 : (((rd_T65 ((rd_T63 l0_4 a1).f2) (ji6)).f0) != 2) = false := bne_eq_false_iff_eq.mpr c22; clear c22
 by_cases c23 : 0 ≤ ((rd_T65 ((rd_T63 l0_4 a1).f2) (ji6)).f1)
 rotate_left
 ·
  rw [if_neg c23] at H
  exact absurd H (by simp)
 rw [if_pos c23] at H; have c23b0 : decide (0 ≤ ((rd_T65 ((rd_T63 l0_4 a1).f2) (ji6)).f1)) = true := decide_eq_true c23; clear c23
 by_cases c24 : ((rd_T65 ((rd_T63 l0_4 a1).f2) (ji6)).f1) < (l0_2.length : Int)
 rotate_left
 ·
  rw [if_neg c24] at H
  exact absurd H (by simp)
 rw [if_pos c24] at H; have c24b0 : decide (((rd_T65 ((rd_T63 l0_4 a1).f2) (ji6)).f1) < (l0_2.length : Int)) = true := decide_eq_true c24; clear c24; obtain ⟨ji25, hji25⟩ : ∃ j_ : Int, (Int.tmod a2 4) = j_ := ⟨_, rfl⟩
 replace H : (if 0 ≤ (ji25) then (if (ji25) < ((rdOf ByteArray.empty l0_2 ((rd_T65 ((rd_T63 l0_4 a1).f2) (ji6)).f1)).size : Int) then (some (wrap64 (bt (rdOf ByteArray.empty l0_2 ((rd_T65 ((rd_T63 l0_4 a1).f2) (ji6)).f1)) (ji25)))) else (none)) else (none)) = some r := by first | (rw [hji25] at H; exact H) | (simp only [hji25] at H ⊢; exact H)
 by_cases c26 : 0 ≤ (ji25)
 rotate_left
 ·
  rw [if_neg c26] at H
  exact absurd H (by simp)
 rw [if_pos c26] at H; have c26b0 : decide (0 ≤ (ji25)) = true := decide_eq_true c26; clear c26
 by_cases c27 : (ji25) < ((rdOf ByteArray.empty l0_2 ((rd_T65 ((rd_T63 l0_4 a1).f2) (ji6)).f1)).size : Int)
 rotate_left
 ·
  rw [if_neg c27] at H
  exact absurd H (by simp)
 rw [if_pos c27] at H; have c27b0 : decide ((ji25) < ((rdOf ByteArray.empty l0_2 ((rd_T65 ((rd_T63 l0_4 a1).f2) (ji6)).f1)).size : Int)) = true := decide_eq_true c27; clear c27; obtain rfl := Option.some.inj H
 go_enter Try.func61, Try.ntmps61
 go_wp2_with (first | ((with_reducible refine gate_dst (N := 3) rfl ?_); refine box_event ?hg (N := 3) ?hd (cs := #[.slice A0_0 l0_0.length c0_0, .slice A0_1 l0_1.length c0_1, .slice A0_2 l0_2.length c0_2, .slice A0_3 l0_3.length c0_3, .slice A0_4 l0_4.length c0_4, .int .i64 a0_5]) (t := 46) ?hr ?_; (case hd => rfl); (case hg => rfl); (case hr => first | (go_simp; done) | (go_simp; rfl)); intro gb101 hg w29 hbox hb; have BK101 := Aside0.mk (hbox); have GW101 := Aside0.mk ((by rw [hg]; exact (below_size (bz HB.out)) : w.heap.size ≤ gb101)); have GE101 := GW101; replace HB := Aside0.mk (below_step (bz HB.out) hb); clear hb hbox hg; obtain ⟨hcz30_0, hcz30_1, hcz30_2, hcz30_3, hcz30_4, hcz30_5⟩ := cz6 BK101.out; obtain ⟨hfz30_0, hfz30_1, hfz30_2, hfz30_3, hfz30_4, hfz30_5⟩ := fz6 BK101.out; have p102 : 0 ≤ (a1 : Int) := of_decide_eq_true zs; have q102 : a1 < (l0_4.length : Int) := of_decide_eq_true zs; obtain ⟨ad102, A102_1, c102_1, A102_2, c102_2, e102, hx102_0, hx102_1, hx102_2, hl102_1, hi102_1, hl102_2, hi102_2⟩ := at_T63 HR0_4.out a1 p102 q102; cases e102; replace hx102_0 := pw_cell_below HB.out hx102_0; replace hx102_1 := pw_cell_below HB.out hx102_1; replace hx102_2 := pw_cell_below HB.out hx102_2; have HR102_1 := Aside0.mk hi102_1; have HC102_1 := Aside0.mk hl102_1; clear hi102_1 hl102_1; have HR102_2 := Aside0.mk hi102_2; have HC102_2 := Aside0.mk hl102_2; clear hi102_2 hl102_2; replace p102 := eq_true p102; replace q102 := eq_true q102; have p103 : 0 ≤ ((ji6) : Int) := of_decide_eq_true zs; have q103 : (ji6) < (((rd_T63 l0_4 a1).f2).length : Int) := of_decide_eq_true zs; obtain ⟨ad103, e103, hx103_0, hx103_1, hx103_2, hx103_3⟩ := at_T65 HR102_2.out (ji6) p103 q103; cases e103; replace hx103_0 := pw_cell_below HB.out hx103_0; replace hx103_1 := pw_cell_below HB.out hx103_1; replace hx103_2 := pw_cell_below HB.out hx103_2; replace hx103_3 := pw_cell_below HB.out hx103_3; replace p103 := eq_true p103; replace q103 := eq_true q103) | ((with_reducible refine gate_dst (N := 7) rfl ?_); refine box_event ?hg (N := 7) ?hd (cs := #[.int .i64 0, .int .i64 0, .bool false, .bool false]) (t := 65) ?hr ?_; (case hd => rfl); (case hg => rfl); (case hr => first | (go_simp; done) | (go_simp; rfl)); intro gb104 hg w31 hbox hb; have BK104 := Aside0.mk (hbox); have GW104 := Aside0.mk ((by rw [hg]; exact (below_size (bs HB.out GE101.out)) : w.heap.size ≤ gb104)); have GE104 := GW104; replace HB := Aside0.mk (below_step (bs HB.out GE101.out) hb); have NB101_104 := Aside0.mk ((by rw [hg]; exact Nat.ne_of_lt (blk_lt (kz BK101.out)) : gb101 ≠ gb104)); have NB104_101 := Aside0.mk NB101_104.out.symm; replace BK101 := Aside0.mk (blk_below (kz BK101.out) hb); clear hb hbox hg; have hnb32 := NB104_101.out; have hnc32 := NB101_104.out; obtain ⟨hcz33_0, hcz33_1, hcz33_2, hcz33_3⟩ := cz4 BK104.out; obtain ⟨hfz33_0, hfz33_1, hfz33_2, hfz33_3⟩ := fz4 BK104.out; obtain ⟨hcz34_0, hcz34_1, hcz34_2, hcz34_3, hcz34_4, hcz34_5⟩ := cz6 BK101.out; obtain ⟨hfz34_0, hfz34_1, hfz34_2, hfz34_3, hfz34_4, hfz34_5⟩ := fz6 BK101.out; have p106 : 0 ≤ (((rd_T65 ((rd_T63 l0_4 a1).f2) (ji6)).f1) : Int) := of_decide_eq_true zs; have q106 : ((rd_T65 ((rd_T63 l0_4 a1).f2) (ji6)).f1) < (l0_2.length : Int) := of_decide_eq_true zs; obtain ⟨ad106, e106, hx106_0⟩ := Kd.at_string HR0_2.out ((rd_T65 ((rd_T63 l0_4 a1).f2) (ji6)).f1) p106 q106; cases e106; have hn106_0 : ad106.block ≠ gb104 := Nat.ne_of_lt (Nat.lt_of_lt_of_le (by have := World.block_lt_of_cell? _ _ hx106_0; first | rwa [add_block] at this | exact this) GW104.out); have hn106_1 : ad106.block ≠ gb104 := Nat.ne_of_lt (Nat.lt_of_lt_of_le (by have := World.block_lt_of_cell? _ _ hx106_0; first | rwa [add_block] at this | exact this) GW104.out); have hn106_2 : ad106.block ≠ gb104 := Nat.ne_of_lt (Nat.lt_of_lt_of_le (by have := World.block_lt_of_cell? _ _ hx106_0; first | rwa [add_block] at this | exact this) GW104.out); have hn106_3 : ad106.block ≠ gb104 := Nat.ne_of_lt (Nat.lt_of_lt_of_le (by have := World.block_lt_of_cell? _ _ hx106_0; first | rwa [add_block] at this | exact this) GW104.out); replace hx106_0 := pw_cell_below HB.out hx106_0; replace hx106_0 := (cell_far (p := ⟨gb104, 0, none⟩) (by first | (rw [add_block]; exact hn106_0) | (show (Addr.add _ _).block ≠ _; rw [add_block]; exact hn106_0) | exact hn106_0) (.int .i64 ((rd_T65 ((rd_T63 l0_4 a1).f2) (ji6)).f0))).trans hx106_0; replace hx106_0 := (cell_far (p := ⟨gb104, 1, none⟩) (by first | (rw [add_block]; exact hn106_1) | (show (Addr.add _ _).block ≠ _; rw [add_block]; exact hn106_1) | exact hn106_1) (.int .i64 ((rd_T65 ((rd_T63 l0_4 a1).f2) (ji6)).f1))).trans hx106_0; replace hx106_0 := (cell_far (p := ⟨gb104, 2, none⟩) (by first | (rw [add_block]; exact hn106_2) | (show (Addr.add _ _).block ≠ _; rw [add_block]; exact hn106_2) | exact hn106_2) (.bool ((rd_T65 ((rd_T63 l0_4 a1).f2) (ji6)).f2))).trans hx106_0; replace hx106_0 := (cell_far (p := ⟨gb104, 3, none⟩) (by first | (rw [add_block]; exact hn106_3) | (show (Addr.add _ _).block ≠ _; rw [add_block]; exact hn106_3) | exact hn106_3) (.bool ((rd_T65 ((rd_T63 l0_4 a1).f2) (ji6)).f3))).trans hx106_0; clear hn106_0; clear hn106_1; clear hn106_2; clear hn106_3; replace p106 := eq_true p106; replace q106 := eq_true q106; have p28 : 0 ≤ ((ji25) : Int) := of_decide_eq_true zs; have q28 : (ji25) < ((rdOf ByteArray.empty l0_2 ((rd_T65 ((rd_T63 l0_4 a1).f2) (ji6)).f1)).size : Int) := of_decide_eq_true zs; have hx28 := bt_at (rdOf ByteArray.empty l0_2 ((rd_T65 ((rd_T63 l0_4 a1).f2) (ji6)).f1)) (ji25); replace p28 := eq_true p28; replace q28 := eq_true q28))
 go_ret
 exact ⟨by first | rfl | (simp [errW_none, errW_some] <;> rfl) | (simp only [← hji6, ← hji25]; first | rfl | (simp [errW_none, errW_some] <;> rfl)) | (simp [*, errW_none, errW_some] <;> rfl), bs2 HB.out GE101.out GE104.out⟩

end Go.Proofs.Ythoapmfpokohnaa.P

namespace Go.Proofs.Ythoapmfpokohnaa.P
open Go.RowKit Go.Proofs.YthoapmfpokohnaaW.PrintWords Go.Proofs.YthoapmfpokohnaaW.PrintLast Go.Proofs.YthoapmfpokohnaaW.PrintMore
attribute [local go_sem] max2_int min2_int max_two min_two max_three min_three max_four min_four Q.cell_set_map Q.str_gtr Q.str_geq Q.str_leq
set_option linter.unusedVariables false
set_option linter.unusedSimpArgs false

/-! ### spec_MemPeek: function 21 -/
-- IMPORT Derived.Test.YthoapmfpokohnaaQSem9
def spec_MemPeek.f (k : Nat) (l0_0 : List ByteArray) (l0_1 : List Int) (l0_2 : List ByteArray) (l0_3 : List Int) (l0_4 : List (S63)) (a0_5 : Int) (a1 : Int) (a2 : Int) : Option (Int × Bool) := (spec_MemOk.f k l0_0 l0_1 l0_2 l0_3 l0_4 a0_5).bind fun t102 => (if t102 = true then ((spec_l3Who.f l0_0 l0_1 l0_2 l0_3 l0_4 a0_5 a1).bind fun t103 => (if t103 = true then ((spec_l3Addr.f a2).bind fun t104 => (if t104 = true then (if 0 ≤ a1 then (if a1 < (l0_4.length : Int) then ((spec_l2At.f k ((rd_T63 l0_4 a1).f1) (wrap64 (Int.tdiv a2 4))).bind fun t106 => (if t106 < 0 then (some (0, false)) else ((spec_l3Peek.f l0_0 l0_1 l0_2 l0_3 l0_4 a0_5 a1 a2).bind fun t107 => (some (t107, true))))) else (none)) else (none)) else (some (0, false)))) else (some (0, false)))) else (some (0, false)))
theorem spec_MemPeek.mono : ∀ a0 a1 a2 a3 a4 a5 a6 a7 k, LeO (spec_MemPeek.f k a0 a1 a2 a3 a4 a5 a6 a7) (spec_MemPeek.f (k + 1) a0 a1 a2 a3 a4 a5 a6 a7) := by
 intro a0 a1 a2 a3 a4 a5 a6 a7 k
 unfold spec_MemPeek.f
 repeat' first
   | (with_reducible exact spec_MemOk.mono _ _ _ _ _ _ _)
   | (with_reducible exact spec_l2At.mono _ _ _)
   | (with_reducible exact LeO.refl _)
   | (with_reducible exact LeO.none _)
   | (with_reducible refine LeO.ite ?_ ?_)
   | (with_reducible refine LeO.bind ?_ (fun _ => ?_))
   | exact spec_MemOk.mono _ _ _ _ _ _ _
   | exact spec_l2At.mono _ _ _
   | exact LeO.none _
   | refine LeO.ite ?_ ?_
   | refine LeO.bind ?_ (fun _ => ?_)
set_option maxHeartbeats 8000000 in
set_option maxRecDepth 100000 in
theorem spec_MemPeek.calls (k : Nat) (A0_0 : Option Addr) (c0_0 : Nat) (l0_0 : List ByteArray) (A0_1 : Option Addr) (c0_1 : Nat) (l0_1 : List Int) (A0_2 : Option Addr) (c0_2 : Nat) (l0_2 : List ByteArray) (A0_3 : Option Addr) (c0_3 : Nat) (l0_3 : List Int) (A0_4 : Option Addr) (c0_4 : Nat) (l0_4 : List (S63)) (a0_5 : Int) (a1 : Int) (a2 : Int) (r1 : Int) (r2 : Bool) (w : World) (hr0_0 : Kd.C Kd.string w A0_0 l0_0.length l0_0) (hc0_0 : l0_0.length ≤ c0_0) (hr0_1 : Kd.C (Kd.int .i64) w A0_1 l0_1.length l0_1) (hc0_1 : l0_1.length ≤ c0_1) (hr0_2 : Kd.C Kd.string w A0_2 l0_2.length l0_2) (hc0_2 : l0_2.length ≤ c0_2) (hr0_3 : Kd.C (Kd.int .i64) w A0_3 l0_3.length l0_3) (hc0_3 : l0_3.length ≤ c0_3) (hr0_4 : Kd.C k63 w A0_4 l0_4.length l0_4) (hc0_4 : l0_4.length ≤ c0_4) (h : spec_MemPeek.f k l0_0 l0_1 l0_2 l0_3 l0_4 a0_5 a1 a2 = some (r1, r2)) :
  Calls Try.prog 21 #[.agg #[.slice A0_0 l0_0.length c0_0, .slice A0_1 l0_1.length c0_1, .slice A0_2 l0_2.length c0_2, .slice A0_3 l0_3.length c0_3, .slice A0_4 l0_4.length c0_4, .int .i64 a0_5], .int .i64 a1, .int .i64 a2] w fun e w' => e = .returned (.tuple #[.int .i64 r1, .bool r2]) ∧ Below w.heap.size w w' := by
 have hu46 := Try.underlying46; have HR0_0 := Aside0.mk hr0_0; have HC0_0 := Aside0.mk hc0_0; clear hr0_0 hc0_0; have HR0_1 := Aside0.mk hr0_1; have HC0_1 := Aside0.mk hc0_1; clear hr0_1 hc0_1; have HR0_2 := Aside0.mk hr0_2; have HC0_2 := Aside0.mk hc0_2; clear hr0_2 hc0_2; have HR0_3 := Aside0.mk hr0_3; have HC0_3 := Aside0.mk hc0_3; clear hr0_3 hc0_3; have HR0_4 := Aside0.mk hr0_4; have HC0_4 := Aside0.mk hc0_4; clear hr0_4 hc0_4; have HB := Aside0.mk (Below.refl w.heap.size w); have H : ((spec_MemOk.f k l0_0 l0_1 l0_2 l0_3 l0_4 a0_5).bind fun t102 => (if t102 = true then ((spec_l3Who.f l0_0 l0_1 l0_2 l0_3 l0_4 a0_5 a1).bind fun t103 => (if t103 = true then ((spec_l3Addr.f a2).bind fun t104 => (if t104 = true then (if 0 ≤ a1 then (if a1 < (l0_4.length : Int) then ((spec_l2At.f k ((rd_T63 l0_4 a1).f1) (wrap64 (Int.tdiv a2 4))).bind fun t106 => (if t106 < 0 then (some (0, false)) else ((spec_l3Peek.f l0_0 l0_1 l0_2 l0_3 l0_4 a0_5 a1 a2).bind fun t107 => (some (t107, true))))) else (none)) else (none)) else (some (0, false)))) else (some (0, false)))) else (some (0, false)))) = some (r1, r2) := h; clear h; replace H := Option.bind_eq_some_iff.mp H; obtain ⟨t102, A40, H⟩ := H; have A4 := Aside0.mk A40; clear A40
 by_cases c5 : t102 = true
 rotate_left
 ·
  replace c5 := Bool.eq_false_iff.mpr c5; subst c5; rw [if_neg nf_] at H; simp only [Option.some.injEq, Prod.mk.injEq] at H; obtain ⟨rfl, rfl⟩ := H
  go_enter Try.func21, Try.ntmps21
  go_wp2_with (first | ((with_reducible refine gate_dst (N := 3) rfl ?_); refine box_event ?hg (N := 3) ?hd (cs := #[.slice A0_0 l0_0.length c0_0, .slice A0_1 l0_1.length c0_1, .slice A0_2 l0_2.length c0_2, .slice A0_3 l0_3.length c0_3, .slice A0_4 l0_4.length c0_4, .int .i64 a0_5]) (t := 46) ?hr ?_; (case hd => rfl); (case hg => rfl); (case hr => first | (go_simp; done) | (go_simp; rfl)); intro gb101 hg w38 hbox hb; have BK101 := Aside0.mk (hbox); have GW101 := Aside0.mk ((by rw [hg]; exact (below_size (bz HB.out)) : w.heap.size ≤ gb101)); have GE101 := GW101; replace HB := Aside0.mk (below_step (bz HB.out) hb); clear hb hbox hg; obtain ⟨hcz39_0, hcz39_1, hcz39_2, hcz39_3, hcz39_4, hcz39_5⟩ := cz6 BK101.out; obtain ⟨hfz39_0, hfz39_1, hfz39_2, hfz39_3, hfz39_4, hfz39_5⟩ := fz6 BK101.out) | ((with_reducible refine gate_callee (f := 17) rfl ?_); refine goesL_ (some 9) rfl rfl Try.func17 zk rfl #[.agg #[.slice A0_0 l0_0.length c0_0, .slice A0_1 l0_1.length c0_1, .slice A0_2 l0_2.length c0_2, .slice A0_3 l0_3.length c0_3, .slice A0_4 l0_4.length c0_4, .int .i64 a0_5]] rfl zm ?_; (with_reducible refine (spec_MemOk.calls k _ _ l0_0 _ _ l0_1 _ _ l0_2 _ _ l0_3 _ _ l0_4 a0_5 false _ ?side1 ?side2 ?side3 ?side4 ?side5 ?side6 ?side7 ?side8 ?side9 ?side10 A4.out).mono ?_); (case side1 => exact cz (Kd.C_below HR0_0.out HB.out)); (case side2 => exact HC0_0.out); (case side3 => exact cz (Kd.C_below HR0_1.out HB.out)); (case side4 => exact HC0_1.out); (case side5 => exact cz (Kd.C_below HR0_2.out HB.out)); (case side6 => exact HC0_2.out); (case side7 => exact cz (Kd.C_below HR0_3.out HB.out)); (case side8 => exact HC0_3.out); (case side9 => exact cz (Kd.C_below HR0_4.out HB.out)); (case side10 => exact HC0_4.out); rintro e w40 ⟨rfl, hb⟩; refine ⟨_, rfl, ?_⟩; replace BK101 := Aside0.mk (blk_below (kz BK101.out) hb); replace HB := Aside0.mk (below_step (bs HB.out GE101.out) hb); (try clear hb)))
  go_ret2
  exact ⟨ze, bs HB.out GE101.out⟩
 subst c5; rw [if_pos rfl] at H; replace H := Option.bind_eq_some_iff.mp H; obtain ⟨t103, A60, H⟩ := H; have A6 := Aside0.mk A60; clear A60
 by_cases c7 : t103 = true
 rotate_left
 ·
  replace c7 := Bool.eq_false_iff.mpr c7; subst c7; rw [if_neg nf_] at H; simp only [Option.some.injEq, Prod.mk.injEq] at H; obtain ⟨rfl, rfl⟩ := H
  go_enter Try.func21, Try.ntmps21
  go_wp2_with (first | ((with_reducible refine gate_dst (N := 3) rfl ?_); refine box_event ?hg (N := 3) ?hd (cs := #[.slice A0_0 l0_0.length c0_0, .slice A0_1 l0_1.length c0_1, .slice A0_2 l0_2.length c0_2, .slice A0_3 l0_3.length c0_3, .slice A0_4 l0_4.length c0_4, .int .i64 a0_5]) (t := 46) ?hr ?_; (case hd => rfl); (case hg => rfl); (case hr => first | (go_simp; done) | (go_simp; rfl)); intro gb101 hg w33 hbox hb; have BK101 := Aside0.mk (hbox); have GW101 := Aside0.mk ((by rw [hg]; exact (below_size (bz HB.out)) : w.heap.size ≤ gb101)); have GE101 := GW101; replace HB := Aside0.mk (below_step (bz HB.out) hb); clear hb hbox hg; obtain ⟨hcz34_0, hcz34_1, hcz34_2, hcz34_3, hcz34_4, hcz34_5⟩ := cz6 BK101.out; obtain ⟨hfz34_0, hfz34_1, hfz34_2, hfz34_3, hfz34_4, hfz34_5⟩ := fz6 BK101.out) | ((with_reducible refine gate_callee (f := 17) rfl ?_); refine goesL_ (some 9) rfl rfl Try.func17 zk rfl #[.agg #[.slice A0_0 l0_0.length c0_0, .slice A0_1 l0_1.length c0_1, .slice A0_2 l0_2.length c0_2, .slice A0_3 l0_3.length c0_3, .slice A0_4 l0_4.length c0_4, .int .i64 a0_5]] rfl zm ?_; (with_reducible refine (spec_MemOk.calls k _ _ l0_0 _ _ l0_1 _ _ l0_2 _ _ l0_3 _ _ l0_4 a0_5 true _ ?side1 ?side2 ?side3 ?side4 ?side5 ?side6 ?side7 ?side8 ?side9 ?side10 A4.out).mono ?_); (case side1 => exact cz (Kd.C_below HR0_0.out HB.out)); (case side2 => exact HC0_0.out); (case side3 => exact cz (Kd.C_below HR0_1.out HB.out)); (case side4 => exact HC0_1.out); (case side5 => exact cz (Kd.C_below HR0_2.out HB.out)); (case side6 => exact HC0_2.out); (case side7 => exact cz (Kd.C_below HR0_3.out HB.out)); (case side8 => exact HC0_3.out); (case side9 => exact cz (Kd.C_below HR0_4.out HB.out)); (case side10 => exact HC0_4.out); rintro e w35 ⟨rfl, hb⟩; refine ⟨_, rfl, ?_⟩; replace BK101 := Aside0.mk (blk_below (kz BK101.out) hb); replace HB := Aside0.mk (below_step (bs HB.out GE101.out) hb); (try clear hb); obtain ⟨hcz36_0, hcz36_1, hcz36_2, hcz36_3, hcz36_4, hcz36_5⟩ := cz6 BK101.out; obtain ⟨hfz36_0, hfz36_1, hfz36_2, hfz36_3, hfz36_4, hfz36_5⟩ := fz6 BK101.out) | (go_at_call 60; (with_reducible refine (spec_l3Who.calls _ _ l0_0 _ _ l0_1 _ _ l0_2 _ _ l0_3 _ _ l0_4 a0_5 a1 false _ ?side1 ?side2 ?side3 ?side4 ?side5 ?side6 ?side7 ?side8 ?side9 ?side10 A6.out).mono ?_); (case side1 => exact cz (Kd.C_below HR0_0.out HB.out)); (case side2 => exact HC0_0.out); (case side3 => exact cz (Kd.C_below HR0_1.out HB.out)); (case side4 => exact HC0_1.out); (case side5 => exact cz (Kd.C_below HR0_2.out HB.out)); (case side6 => exact HC0_2.out); (case side7 => exact cz (Kd.C_below HR0_3.out HB.out)); (case side8 => exact HC0_3.out); (case side9 => exact cz (Kd.C_below HR0_4.out HB.out)); (case side10 => exact HC0_4.out); rintro e w37 ⟨rfl, hb⟩; replace BK101 := Aside0.mk (blk_below (kz BK101.out) hb); replace HB := Aside0.mk (below_step (bs HB.out GE101.out) hb); (try clear hb)))
  go_ret2
  exact ⟨ze, bs HB.out GE101.out⟩
 subst c7; rw [if_pos rfl] at H; replace H := Option.bind_eq_some_iff.mp H; obtain ⟨t104, A80, H⟩ := H; have A8 := Aside0.mk A80; clear A80
 by_cases c9 : t104 = true
 rotate_left
 ·
  replace c9 := Bool.eq_false_iff.mpr c9; subst c9; rw [if_neg nf_] at H; simp only [Option.some.injEq, Prod.mk.injEq] at H; obtain ⟨rfl, rfl⟩ := H
  go_enter Try.func21, Try.ntmps21
  go_wp2_with (first | ((with_reducible refine gate_dst (N := 3) rfl ?_); refine box_event ?hg (N := 3) ?hd (cs := #[.slice A0_0 l0_0.length c0_0, .slice A0_1 l0_1.length c0_1, .slice A0_2 l0_2.length c0_2, .slice A0_3 l0_3.length c0_3, .slice A0_4 l0_4.length c0_4, .int .i64 a0_5]) (t := 46) ?hr ?_; (case hd => rfl); (case hg => rfl); (case hr => first | (go_simp; done) | (go_simp; rfl)); intro gb101 hg w28 hbox hb; have BK101 := Aside0.mk (hbox); have GW101 := Aside0.mk ((by rw [hg]; exact (below_size (bz HB.out)) : w.heap.size ≤ gb101)); have GE101 := GW101; replace HB := Aside0.mk (below_step (bz HB.out) hb); clear hb hbox hg; obtain ⟨hcz29_0, hcz29_1, hcz29_2, hcz29_3, hcz29_4, hcz29_5⟩ := cz6 BK101.out; obtain ⟨hfz29_0, hfz29_1, hfz29_2, hfz29_3, hfz29_4, hfz29_5⟩ := fz6 BK101.out) | ((with_reducible refine gate_callee (f := 17) rfl ?_); refine goesL_ (some 9) rfl rfl Try.func17 zk rfl #[.agg #[.slice A0_0 l0_0.length c0_0, .slice A0_1 l0_1.length c0_1, .slice A0_2 l0_2.length c0_2, .slice A0_3 l0_3.length c0_3, .slice A0_4 l0_4.length c0_4, .int .i64 a0_5]] rfl zm ?_; (with_reducible refine (spec_MemOk.calls k _ _ l0_0 _ _ l0_1 _ _ l0_2 _ _ l0_3 _ _ l0_4 a0_5 true _ ?side1 ?side2 ?side3 ?side4 ?side5 ?side6 ?side7 ?side8 ?side9 ?side10 A4.out).mono ?_); (case side1 => exact cz (Kd.C_below HR0_0.out HB.out)); (case side2 => exact HC0_0.out); (case side3 => exact cz (Kd.C_below HR0_1.out HB.out)); (case side4 => exact HC0_1.out); (case side5 => exact cz (Kd.C_below HR0_2.out HB.out)); (case side6 => exact HC0_2.out); (case side7 => exact cz (Kd.C_below HR0_3.out HB.out)); (case side8 => exact HC0_3.out); (case side9 => exact cz (Kd.C_below HR0_4.out HB.out)); (case side10 => exact HC0_4.out); rintro e w30 ⟨rfl, hb⟩; refine ⟨_, rfl, ?_⟩; replace BK101 := Aside0.mk (blk_below (kz BK101.out) hb); replace HB := Aside0.mk (below_step (bs HB.out GE101.out) hb); (try clear hb); obtain ⟨hcz31_0, hcz31_1, hcz31_2, hcz31_3, hcz31_4, hcz31_5⟩ := cz6 BK101.out; obtain ⟨hfz31_0, hfz31_1, hfz31_2, hfz31_3, hfz31_4, hfz31_5⟩ := fz6 BK101.out) | (go_at_call 60; (with_reducible refine (spec_l3Who.calls _ _ l0_0 _ _ l0_1 _ _ l0_2 _ _ l0_3 _ _ l0_4 a0_5 a1 true _ ?side1 ?side2 ?side3 ?side4 ?side5 ?side6 ?side7 ?side8 ?side9 ?side10 A6.out).mono ?_); (case side1 => exact cz (Kd.C_below HR0_0.out HB.out)); (case side2 => exact HC0_0.out); (case side3 => exact cz (Kd.C_below HR0_1.out HB.out)); (case side4 => exact HC0_1.out); (case side5 => exact cz (Kd.C_below HR0_2.out HB.out)); (case side6 => exact HC0_2.out); (case side7 => exact cz (Kd.C_below HR0_3.out HB.out)); (case side8 => exact HC0_3.out); (case side9 => exact cz (Kd.C_below HR0_4.out HB.out)); (case side10 => exact HC0_4.out); rintro e w32 ⟨rfl, hb⟩; replace BK101 := Aside0.mk (blk_below (kz BK101.out) hb); replace HB := Aside0.mk (below_step (bs HB.out GE101.out) hb); (try clear hb)) | (go_at_call 37; (with_reducible refine (spec_l3Addr.calls a2 false _ A8.out).mono ?_); rintro e w' ⟨rfl, ⟨nd, rfl⟩⟩))
  go_ret2
  exact ⟨ze, bs HB.out GE101.out⟩
 subst c9; rw [if_pos rfl] at H
 by_cases c10 : 0 ≤ a1
 rotate_left
 ·
  rw [if_neg c10] at H
  exact absurd H (by simp)
 rw [if_pos c10] at H; have c10b0 : decide (0 ≤ a1) = true := decide_eq_true c10; clear c10
 by_cases c11 : a1 < (l0_4.length : Int)
 rotate_left
 ·
  rw [if_neg c11] at H
  exact absurd H (by simp)
 rw [if_pos c11] at H; have c11b0 : decide (a1 < (l0_4.length : Int)) = true := decide_eq_true c11; clear c11; replace H := Option.bind_eq_some_iff.mp H; obtain ⟨t106, A120, H⟩ := H; have A12 := Aside0.mk A120; clear A120
 by_cases c13 : t106 < 0
 ·
  rw [if_pos c13] at H; have c13b0 : decide (t106 < 0) = true := decide_eq_true c13; clear c13; simp only [Option.some.injEq, Prod.mk.injEq] at H; obtain ⟨rfl, rfl⟩ := H
  go_enter Try.func21, Try.ntmps21
  go_wp2_with (first | ((with_reducible refine gate_dst (N := 3) rfl ?_); refine box_event ?hg (N := 3) ?hd (cs := #[.slice A0_0 l0_0.length c0_0, .slice A0_1 l0_1.length c0_1, .slice A0_2 l0_2.length c0_2, .slice A0_3 l0_3.length c0_3, .slice A0_4 l0_4.length c0_4, .int .i64 a0_5]) (t := 46) ?hr ?_; (case hd => rfl); (case hg => rfl); (case hr => first | (go_simp; done) | (go_simp; rfl)); intro gb101 hg w14 hbox hb; have BK101 := Aside0.mk (hbox); have GW101 := Aside0.mk ((by rw [hg]; exact (below_size (bz HB.out)) : w.heap.size ≤ gb101)); have GE101 := GW101; replace HB := Aside0.mk (below_step (bz HB.out) hb); clear hb hbox hg; obtain ⟨hcz15_0, hcz15_1, hcz15_2, hcz15_3, hcz15_4, hcz15_5⟩ := cz6 BK101.out; obtain ⟨hfz15_0, hfz15_1, hfz15_2, hfz15_3, hfz15_4, hfz15_5⟩ := fz6 BK101.out) | ((with_reducible refine gate_callee (f := 17) rfl ?_); refine goesL_ (some 9) rfl rfl Try.func17 zk rfl #[.agg #[.slice A0_0 l0_0.length c0_0, .slice A0_1 l0_1.length c0_1, .slice A0_2 l0_2.length c0_2, .slice A0_3 l0_3.length c0_3, .slice A0_4 l0_4.length c0_4, .int .i64 a0_5]] rfl zm ?_; (with_reducible refine (spec_MemOk.calls k _ _ l0_0 _ _ l0_1 _ _ l0_2 _ _ l0_3 _ _ l0_4 a0_5 true _ ?side1 ?side2 ?side3 ?side4 ?side5 ?side6 ?side7 ?side8 ?side9 ?side10 A4.out).mono ?_); (case side1 => exact cz (Kd.C_below HR0_0.out HB.out)); (case side2 => exact HC0_0.out); (case side3 => exact cz (Kd.C_below HR0_1.out HB.out)); (case side4 => exact HC0_1.out); (case side5 => exact cz (Kd.C_below HR0_2.out HB.out)); (case side6 => exact HC0_2.out); (case side7 => exact cz (Kd.C_below HR0_3.out HB.out)); (case side8 => exact HC0_3.out); (case side9 => exact cz (Kd.C_below HR0_4.out HB.out)); (case side10 => exact HC0_4.out); rintro e w16 ⟨rfl, hb⟩; refine ⟨_, rfl, ?_⟩; replace BK101 := Aside0.mk (blk_below (kz BK101.out) hb); replace HB := Aside0.mk (below_step (bs HB.out GE101.out) hb); (try clear hb); obtain ⟨hcz17_0, hcz17_1, hcz17_2, hcz17_3, hcz17_4, hcz17_5⟩ := cz6 BK101.out; obtain ⟨hfz17_0, hfz17_1, hfz17_2, hfz17_3, hfz17_4, hfz17_5⟩ := fz6 BK101.out) | (go_at_call 60; (with_reducible refine (spec_l3Who.calls _ _ l0_0 _ _ l0_1 _ _ l0_2 _ _ l0_3 _ _ l0_4 a0_5 a1 true _ ?side1 ?side2 ?side3 ?side4 ?side5 ?side6 ?side7 ?side8 ?side9 ?side10 A6.out).mono ?_); (case side1 => exact cz (Kd.C_below HR0_0.out HB.out)); (case side2 => exact HC0_0.out); (case side3 => exact cz (Kd.C_below HR0_1.out HB.out)); (case side4 => exact HC0_1.out); (case side5 => exact cz (Kd.C_below HR0_2.out HB.out)); (case side6 => exact HC0_2.out); (case side7 => exact cz (Kd.C_below HR0_3.out HB.out)); (case side8 => exact HC0_3.out); (case side9 => exact cz (Kd.C_below HR0_4.out HB.out)); (case side10 => exact HC0_4.out); rintro e w18 ⟨rfl, hb⟩; replace BK101 := Aside0.mk (blk_below (kz BK101.out) hb); replace HB := Aside0.mk (below_step (bs HB.out GE101.out) hb); (try clear hb)) | (go_at_call 37; (with_reducible refine (spec_l3Addr.calls a2 true _ A8.out).mono ?_); rintro e w' ⟨rfl, ⟨nd, rfl⟩⟩; obtain ⟨hcz19_0, hcz19_1, hcz19_2, hcz19_3, hcz19_4, hcz19_5⟩ := cz6 BK101.out; obtain ⟨hfz19_0, hfz19_1, hfz19_2, hfz19_3, hfz19_4, hfz19_5⟩ := fz6 BK101.out; have p105 : 0 ≤ (a1 : Int) := of_decide_eq_true zs; have q105 : a1 < (l0_4.length : Int) := of_decide_eq_true zs; obtain ⟨ad105, A105_1, c105_1, A105_2, c105_2, e105, hx105_0, hx105_1, hx105_2, hl105_1, hi105_1, hl105_2, hi105_2⟩ := at_T63 HR0_4.out a1 p105 q105; cases e105; replace hx105_0 := pw_cell_below HB.out hx105_0; replace hx105_1 := pw_cell_below HB.out hx105_1; replace hx105_2 := pw_cell_below HB.out hx105_2; have HR105_1 := Aside0.mk hi105_1; have HC105_1 := Aside0.mk hl105_1; clear hi105_1 hl105_1; have HR105_2 := Aside0.mk hi105_2; have HC105_2 := Aside0.mk hl105_2; clear hi105_2 hl105_2; replace p105 := eq_true p105; replace q105 := eq_true q105) | (go_at_call 38; (with_reducible refine (spec_l2At.calls k _ _ ((rd_T63 l0_4 a1).f1) (wrap64 (Int.tdiv a2 4)) t106 _ ?side1 ?side2 A12.out).mono ?_); (case side1 => exact cz (Kd.C_below HR105_1.out (bs HB.out GE101.out))); (case side2 => exact HC105_1.out); rintro e w' ⟨rfl, ⟨nd, rfl⟩⟩))
  go_ret2
  exact ⟨ze, bs HB.out GE101.out⟩
 rw [if_neg c13] at H; have c13b0 : decide (t106 < 0) = false := decide_eq_false c13; clear c13; replace H := Option.bind_eq_some_iff.mp H; obtain ⟨t107, A200, H⟩ := H; have A20 := Aside0.mk A200; clear A200; simp only [Option.some.injEq, Prod.mk.injEq] at H; obtain ⟨rfl, rfl⟩ := H
 go_enter Try.func21, Try.ntmps21
 go_wp2_with (first | ((with_reducible refine gate_dst (N := 3) rfl ?_); refine box_event ?hg (N := 3) ?hd (cs := #[.slice A0_0 l0_0.length c0_0, .slice A0_1 l0_1.length c0_1, .slice A0_2 l0_2.length c0_2, .slice A0_3 l0_3.length c0_3, .slice A0_4 l0_4.length c0_4, .int .i64 a0_5]) (t := 46) ?hr ?_; (case hd => rfl); (case hg => rfl); (case hr => first | (go_simp; done) | (go_simp; rfl)); intro gb101 hg w21 hbox hb; have BK101 := Aside0.mk (hbox); have GW101 := Aside0.mk ((by rw [hg]; exact (below_size (bz HB.out)) : w.heap.size ≤ gb101)); have GE101 := GW101; replace HB := Aside0.mk (below_step (bz HB.out) hb); clear hb hbox hg; obtain ⟨hcz22_0, hcz22_1, hcz22_2, hcz22_3, hcz22_4, hcz22_5⟩ := cz6 BK101.out; obtain ⟨hfz22_0, hfz22_1, hfz22_2, hfz22_3, hfz22_4, hfz22_5⟩ := fz6 BK101.out) | ((with_reducible refine gate_callee (f := 17) rfl ?_); refine goesL_ (some 9) rfl rfl Try.func17 zk rfl #[.agg #[.slice A0_0 l0_0.length c0_0, .slice A0_1 l0_1.length c0_1, .slice A0_2 l0_2.length c0_2, .slice A0_3 l0_3.length c0_3, .slice A0_4 l0_4.length c0_4, .int .i64 a0_5]] rfl zm ?_; (with_reducible refine (spec_MemOk.calls k _ _ l0_0 _ _ l0_1 _ _ l0_2 _ _ l0_3 _ _ l0_4 a0_5 true _ ?side1 ?side2 ?side3 ?side4 ?side5 ?side6 ?side7 ?side8 ?side9 ?side10 A4.out).mono ?_); (case side1 => exact cz (Kd.C_below HR0_0.out HB.out)); (case side2 => exact HC0_0.out); (case side3 => exact cz (Kd.C_below HR0_1.out HB.out)); (case side4 => exact HC0_1.out); (case side5 => exact cz (Kd.C_below HR0_2.out HB.out)); (case side6 => exact HC0_2.out); (case side7 => exact cz (Kd.C_below HR0_3.out HB.out)); (case side8 => exact HC0_3.out); (case side9 => exact cz (Kd.C_below HR0_4.out HB.out)); (case side10 => exact HC0_4.out); rintro e w23 ⟨rfl, hb⟩; refine ⟨_, rfl, ?_⟩; replace BK101 := Aside0.mk (blk_below (kz BK101.out) hb); replace HB := Aside0.mk (below_step (bs HB.out GE101.out) hb); (try clear hb); obtain ⟨hcz24_0, hcz24_1, hcz24_2, hcz24_3, hcz24_4, hcz24_5⟩ := cz6 BK101.out; obtain ⟨hfz24_0, hfz24_1, hfz24_2, hfz24_3, hfz24_4, hfz24_5⟩ := fz6 BK101.out) | (go_at_call 60; (with_reducible refine (spec_l3Who.calls _ _ l0_0 _ _ l0_1 _ _ l0_2 _ _ l0_3 _ _ l0_4 a0_5 a1 true _ ?side1 ?side2 ?side3 ?side4 ?side5 ?side6 ?side7 ?side8 ?side9 ?side10 A6.out).mono ?_); (case side1 => exact cz (Kd.C_below HR0_0.out HB.out)); (case side2 => exact HC0_0.out); (case side3 => exact cz (Kd.C_below HR0_1.out HB.out)); (case side4 => exact HC0_1.out); (case side5 => exact cz (Kd.C_below HR0_2.out HB.out)); (case side6 => exact HC0_2.out); (case side7 => exact cz (Kd.C_below HR0_3.out HB.out)); (case side8 => exact HC0_3.out); (case side9 => exact cz (Kd.C_below HR0_4.out HB.out)); (case side10 => exact HC0_4.out); rintro e w25 ⟨rfl, hb⟩; replace BK101 := Aside0.mk (blk_below (kz BK101.out) hb); replace HB := Aside0.mk (below_step (bs HB.out GE101.out) hb); (try clear hb)) | (go_at_call 37; (with_reducible refine (spec_l3Addr.calls a2 true _ A8.out).mono ?_); rintro e w' ⟨rfl, ⟨nd, rfl⟩⟩; obtain ⟨hcz26_0, hcz26_1, hcz26_2, hcz26_3, hcz26_4, hcz26_5⟩ := cz6 BK101.out; obtain ⟨hfz26_0, hfz26_1, hfz26_2, hfz26_3, hfz26_4, hfz26_5⟩ := fz6 BK101.out; have p105 : 0 ≤ (a1 : Int) := of_decide_eq_true zs; have q105 : a1 < (l0_4.length : Int) := of_decide_eq_true zs; obtain ⟨ad105, A105_1, c105_1, A105_2, c105_2, e105, hx105_0, hx105_1, hx105_2, hl105_1, hi105_1, hl105_2, hi105_2⟩ := at_T63 HR0_4.out a1 p105 q105; cases e105; replace hx105_0 := pw_cell_below HB.out hx105_0; replace hx105_1 := pw_cell_below HB.out hx105_1; replace hx105_2 := pw_cell_below HB.out hx105_2; have HR105_1 := Aside0.mk hi105_1; have HC105_1 := Aside0.mk hl105_1; clear hi105_1 hl105_1; have HR105_2 := Aside0.mk hi105_2; have HC105_2 := Aside0.mk hl105_2; clear hi105_2 hl105_2; replace p105 := eq_true p105; replace q105 := eq_true q105) | (go_at_call 38; (with_reducible refine (spec_l2At.calls k _ _ ((rd_T63 l0_4 a1).f1) (wrap64 (Int.tdiv a2 4)) t106 _ ?side1 ?side2 A12.out).mono ?_); (case side1 => exact cz (Kd.C_below HR105_1.out (bs HB.out GE101.out))); (case side2 => exact HC105_1.out); rintro e w' ⟨rfl, ⟨nd, rfl⟩⟩) | ((with_reducible refine gate_callee (f := 61) rfl ?_); refine goesL_ (some 37) rfl rfl Try.func61 zk rfl #[.agg #[.slice A0_0 l0_0.length c0_0, .slice A0_1 l0_1.length c0_1, .slice A0_2 l0_2.length c0_2, .slice A0_3 l0_3.length c0_3, .slice (some ad105) l0_4.length c0_4, .int .i64 a0_5], .int .i64 a1, .int .i64 a2] rfl zm ?_; (with_reducible refine (spec_l3Peek.calls _ _ l0_0 _ _ l0_1 _ _ l0_2 _ _ l0_3 _ _ l0_4 a0_5 a1 a2 t107 _ ?side1 ?side2 ?side3 ?side4 ?side5 ?side6 ?side7 ?side8 ?side9 ?side10 A20.out).mono ?_); (case side1 => exact cz (Kd.C_below HR0_0.out (bs HB.out GE101.out))); (case side2 => exact HC0_0.out); (case side3 => exact cz (Kd.C_below HR0_1.out (bs HB.out GE101.out))); (case side4 => exact HC0_1.out); (case side5 => exact cz (Kd.C_below HR0_2.out (bs HB.out GE101.out))); (case side6 => exact HC0_2.out); (case side7 => exact cz (Kd.C_below HR0_3.out (bs HB.out GE101.out))); (case side8 => exact HC0_3.out); (case side9 => exact cz (Kd.C_below HR0_4.out (bs HB.out GE101.out))); (case side10 => exact HC0_4.out); rintro e w27 ⟨rfl, hb⟩; refine ⟨_, rfl, ?_⟩; replace BK101 := Aside0.mk (blk_below (kz BK101.out) hb); replace HB := Aside0.mk (below_step (bs HB.out GE101.out) hb); (try clear hb)))
 go_ret2
 exact ⟨ze, bs HB.out GE101.out⟩

end Go.Proofs.Ythoapmfpokohnaa.P

namespace Go.Proofs.Ythoapmfpokohnaa.P
open Go.RowKit Go.Proofs.YthoapmfpokohnaaW.PrintWords Go.Proofs.YthoapmfpokohnaaW.PrintLast Go.Proofs.YthoapmfpokohnaaW.PrintMore
attribute [local go_sem] max2_int min2_int max_two min_two max_three min_three max_four min_four Q.cell_set_map Q.str_gtr Q.str_geq Q.str_leq
set_option linter.unusedVariables false
set_option linter.unusedSimpArgs false

/-! ### impl_in: function 41 -/
def impl_in.f (a0 : Int) (a1 : Int) (a2 : Int) : Option (Bool) := if a0 ≥ a1 then (some (decide (a0 ≤ a2))) else (some false)
set_option maxHeartbeats 8000000 in
set_option maxRecDepth 100000 in
theorem impl_in.calls (a0 : Int) (a1 : Int) (a2 : Int) (r : Bool) (w : World) (h : impl_in.f a0 a1 a2 = some r) :
  Calls Try.prog 41 #[.int .i64 a0, .int .i64 a1, .int .i64 a2] w fun e w' => e = .returned (.bool r) ∧ Drawn0 w w' := by
 have H : (if a0 ≥ a1 then (some (decide (a0 ≤ a2))) else (some false)) = some r := h
 clear h
 by_cases c4 : a0 ≥ a1
 ·
  rw [if_pos c4] at H
  have c4b0 : decide (a1 ≤ a0) = true := decide_eq_true c4
  clear c4
  obtain rfl := Option.some.inj H
  go_enter Try.func41, Try.ntmps41
  go_wp2
  go_ret
  exact ⟨by first | rfl | (simp; done) | (simp [*]; done), by repeat (first | exact Drawn0.refl _ | apply Drawn0.step)⟩
 ·
  rw [if_neg c4] at H
  have c4b0 : decide (a1 ≤ a0) = false := decide_eq_false c4
  clear c4
  obtain rfl := Option.some.inj H
  go_enter Try.func41, Try.ntmps41
  go_wp2
  go_ret
  exact ⟨by first | rfl | (simp; done) | (simp [*]; done), by repeat (first | exact Drawn0.refl _ | apply Drawn0.step)⟩

end Go.Proofs.Ythoapmfpokohnaa.P

namespace Go.Proofs.Ythoapmfpokohnaa.P
open Go.RowKit Go.Proofs.YthoapmfpokohnaaW.PrintWords Go.Proofs.YthoapmfpokohnaaW.PrintLast Go.Proofs.YthoapmfpokohnaaW.PrintMore
attribute [local go_sem] max2_int min2_int max_two min_two max_three min_three max_four min_four Q.cell_set_map Q.str_gtr Q.str_geq Q.str_leq
set_option linter.unusedVariables false
set_option linter.unusedSimpArgs false

/-! ### impl_Area_end: function 97 -/
def impl_Area_end.f (a0_0 : Int) (a0_1 : Int) (a0_2 : Bool) (a0_3 : Bool) : Option (Int) := some (wrap64 (a0_0 + a0_1))
set_option maxHeartbeats 8000000 in
set_option maxRecDepth 100000 in
theorem impl_Area_end.calls (a0_0 : Int) (a0_1 : Int) (a0_2 : Bool) (a0_3 : Bool) (r : Int) (w : World) (h : impl_Area_end.f a0_0 a0_1 a0_2 a0_3 = some r) :
  Calls Try.prog 97 #[.agg #[.int .i64 a0_0, .int .i64 a0_1, .bool a0_2, .bool a0_3]] w fun e w' => e = .returned (.int .i64 r) ∧ Below w.heap.size w w' := by
 have hu108 := Try.underlying108
 have HB := Aside0.mk (Below.refl w.heap.size w)
 have H : (some (wrap64 (a0_0 + a0_1))) = some r := h
 clear h
 obtain rfl := Option.some.inj H
 go_enter Try.func97, Try.ntmps97
 go_wp2_with (first | ((with_reducible refine gate_dst (N := 1) rfl ?_); refine box_event ?hg (N := 1) ?hd (cs := #[.int .i64 a0_0, .int .i64 a0_1, .bool a0_2, .bool a0_3]) (t := 108) ?hr ?_; (case hd => rfl); (case hg => rfl); (case hr => first | (go_simp; done) | (go_simp; rfl)); intro gb101 hg w2 hbox hb; have BK101 := Aside0.mk (hbox); have GW101 := Aside0.mk ((by rw [hg]; exact (below_size (bz HB.out)) : w.heap.size ≤ gb101)); have GE101 := Aside0.mk ((by rw [hg]; exact (below_size (bz HB.out)) : w.heap.size ≤ gb101)); replace HB := Aside0.mk (below_step (bz HB.out) hb); clear hb hbox hg; obtain ⟨hcz3_0, hcz3_1, hcz3_2, hcz3_3⟩ := cz4 BK101.out; obtain ⟨hfz3_0, hfz3_1, hfz3_2, hfz3_3⟩ := fz4 BK101.out))
 go_ret
 exact ⟨ze, bs HB.out GE101.out⟩

end Go.Proofs.Ythoapmfpokohnaa.P

namespace Go.Proofs.Ythoapmfpokohnaa.P
open Go.RowKit Go.Proofs.YthoapmfpokohnaaW.PrintWords Go.Proofs.YthoapmfpokohnaaW.PrintLast Go.Proofs.YthoapmfpokohnaaW.PrintMore
attribute [local go_sem] max2_int min2_int max_two min_two max_three min_three max_four min_four Q.cell_set_map Q.str_gtr Q.str_geq Q.str_leq
set_option linter.unusedVariables false
set_option linter.unusedSimpArgs false

/-! ### impl_AreaOk: function 96 -/
def impl_AreaOk.f (a0_0 : Int) (a0_1 : Int) (a0_2 : Bool) (a0_3 : Bool) : Option (Bool) := (impl_in.f a0_0 0 15).bind fun t102 => (if t102 = true then ((impl_in.f a0_1 1 (wrap64 (16 - a0_0))).bind fun t103 => (some t103)) else (some false))
set_option maxHeartbeats 8000000 in
set_option maxRecDepth 100000 in
theorem impl_AreaOk.calls (a0_0 : Int) (a0_1 : Int) (a0_2 : Bool) (a0_3 : Bool) (r : Bool) (w : World) (h : impl_AreaOk.f a0_0 a0_1 a0_2 a0_3 = some r) :
  Calls Try.prog 96 #[.agg #[.int .i64 a0_0, .int .i64 a0_1, .bool a0_2, .bool a0_3]] w fun e w' => e = .returned (.bool r) ∧ Below w.heap.size w w' := by
 have hu108 := Try.underlying108
 have HB := Aside0.mk (Below.refl w.heap.size w)
 have H : ((impl_in.f a0_0 0 15).bind fun t102 => (if t102 = true then ((impl_in.f a0_1 1 (wrap64 (16 - a0_0))).bind fun t103 => (some t103)) else (some false))) = some r := h
 clear h
 replace H := Option.bind_eq_some_iff.mp H
 obtain ⟨t102, A20, H⟩ := H
 have A2 := Aside0.mk A20
 clear A20
 by_cases c3 : t102 = true
 ·
  subst c3
  rw [if_pos rfl] at H
  replace H := Option.bind_eq_some_iff.mp H
  obtain ⟨t103, A40, H⟩ := H
  have A4 := Aside0.mk A40
  clear A40
  obtain rfl := Option.some.inj H
  go_enter Try.func96, Try.ntmps96
  go_wp2_with (first | ((with_reducible refine gate_dst (N := 1) rfl ?_); refine box_event ?hg (N := 1) ?hd (cs := #[.int .i64 a0_0, .int .i64 a0_1, .bool a0_2, .bool a0_3]) (t := 108) ?hr ?_; (case hd => rfl); (case hg => rfl); (case hr => first | (go_simp; done) | (go_simp; rfl)); intro gb101 hg w5 hbox hb; have BK101 := Aside0.mk (hbox); have GW101 := Aside0.mk ((by rw [hg]; exact (below_size (bz HB.out)) : w.heap.size ≤ gb101)); have GE101 := Aside0.mk ((by rw [hg]; exact (below_size (bz HB.out)) : w.heap.size ≤ gb101)); replace HB := Aside0.mk (below_step (bz HB.out) hb); clear hb hbox hg; obtain ⟨hcz6_0, hcz6_1, hcz6_2, hcz6_3⟩ := cz4 BK101.out; obtain ⟨hfz6_0, hfz6_1, hfz6_2, hfz6_3⟩ := fz4 BK101.out) | ((with_reducible refine gate_callee (f := 41) rfl ?_); refine goesL_ (some 5) rfl rfl Try.func41 zk rfl #[.int .i64 a0_0, .int .i64 0, .int .i64 15] rfl zm ?_; (with_reducible refine (impl_in.calls a0_0 0 15 true _ A2.out).mono ?_); rintro e w' ⟨rfl, ⟨nd, rfl⟩⟩; refine ⟨_, rfl, ?_⟩) | (go_at_call 41; (with_reducible refine (impl_in.calls a0_1 1 (wrap64 (16 - a0_0)) t103 _ A4.out).mono ?_); rintro e w' ⟨rfl, ⟨nd, rfl⟩⟩))
  go_ret
  exact ⟨ze, bs HB.out GE101.out⟩
 ·
  replace c3 := Bool.eq_false_iff.mpr c3
  subst c3
  rw [if_neg nf_] at H
  obtain rfl := Option.some.inj H
  go_enter Try.func96, Try.ntmps96
  go_wp2_with (first | ((with_reducible refine gate_dst (N := 1) rfl ?_); refine box_event ?hg (N := 1) ?hd (cs := #[.int .i64 a0_0, .int .i64 a0_1, .bool a0_2, .bool a0_3]) (t := 108) ?hr ?_; (case hd => rfl); (case hg => rfl); (case hr => first | (go_simp; done) | (go_simp; rfl)); intro gb101 hg w7 hbox hb; have BK101 := Aside0.mk (hbox); have GW101 := Aside0.mk ((by rw [hg]; exact (below_size (bz HB.out)) : w.heap.size ≤ gb101)); have GE101 := Aside0.mk ((by rw [hg]; exact (below_size (bz HB.out)) : w.heap.size ≤ gb101)); replace HB := Aside0.mk (below_step (bz HB.out) hb); clear hb hbox hg; obtain ⟨hcz8_0, hcz8_1, hcz8_2, hcz8_3⟩ := cz4 BK101.out; obtain ⟨hfz8_0, hfz8_1, hfz8_2, hfz8_3⟩ := fz4 BK101.out) | ((with_reducible refine gate_callee (f := 41) rfl ?_); refine goesL_ (some 5) rfl rfl Try.func41 zk rfl #[.int .i64 a0_0, .int .i64 0, .int .i64 15] rfl zm ?_; (with_reducible refine (impl_in.calls a0_0 0 15 false _ A2.out).mono ?_); rintro e w' ⟨rfl, ⟨nd, rfl⟩⟩; refine ⟨_, rfl, ?_⟩))
  go_ret
  exact ⟨ze, bs HB.out GE101.out⟩

end Go.Proofs.Ythoapmfpokohnaa.P

namespace Go.Proofs.Ythoapmfpokohnaa.P
open Go.RowKit Go.Proofs.YthoapmfpokohnaaW.PrintWords Go.Proofs.YthoapmfpokohnaaW.PrintLast Go.Proofs.YthoapmfpokohnaaW.PrintMore
attribute [local go_sem] max2_int min2_int max_two min_two max_three min_three max_four min_four Q.cell_set_map Q.str_gtr Q.str_geq Q.str_leq
set_option linter.unusedVariables false
set_option linter.unusedSimpArgs false

/-! ### impl_AreasOk: function 54 -/
def impl_AreasOk.l0 : Nat → List (S108) → List (S108) → Int → Int → Option (Bool)
 | 0, _, _, _, _ => none
 | k + 1, x0, x5, x6, x7 => if x7 < x6 then (if 0 ≤ x7 then (if x7 < (x5.length : Int) then ((impl_AreaOk.f ((rd_T108 x5 x7).f0) ((rd_T108 x5 x7).f1) ((rd_T108 x5 x7).f2) ((rd_T108 x5 x7).f3)).bind fun t103 => (if t103 = true then (if x7 > 0 then (if 0 ≤ (wrap64 (x7 - 1)) then (if (wrap64 (x7 - 1)) < (x0.length : Int) then ((impl_Area_end.f ((rd_T108 x0 (wrap64 (x7 - 1))).f0) ((rd_T108 x0 (wrap64 (x7 - 1))).f1) ((rd_T108 x0 (wrap64 (x7 - 1))).f2) ((rd_T108 x0 (wrap64 (x7 - 1))).f3)).bind fun t105 => (if t105 > ((rd_T108 x5 x7).f0) then (some false) else (impl_AreasOk.l0 k x0 x5 x6 (wrap64 (x7 + 1))))) else (none)) else (none)) else (impl_AreasOk.l0 k x0 x5 x6 (wrap64 (x7 + 1)))) else (some false))) else (none)) else (none)) else (some (decide ((x0.length : Int) ≤ 6)))
def impl_AreasOk.f (k : Nat) (l0 : List (S108)) : Option (Bool) := impl_AreasOk.l0 k l0 l0 (l0.length : Int) 0
theorem impl_AreasOk.mono_l : ∀ k, (∀ y0 y1 y2 y3, LeO (impl_AreasOk.l0 k y0 y1 y2 y3) (impl_AreasOk.l0 (k + 1) y0 y1 y2 y3))
 | 0 => fun _ _ _ _ r h => by simp [impl_AreasOk.l0] at h
 | k + 1 => by
  have ih0 := impl_AreasOk.mono_l k
  ·
   intro y0 y1 y2 y3
   unfold impl_AreasOk.l0
   repeat' first
   | (with_reducible exact ih0 _ _ _ _)
   | (with_reducible exact LeO.refl _)
   | (with_reducible exact LeO.none _)
   | (with_reducible refine LeO.ite ?_ ?_)
   | (with_reducible refine LeO.bind ?_ (fun _ => ?_))
   | exact ih0 _ _ _ _
   | exact LeO.none _
   | refine LeO.ite ?_ ?_
   | refine LeO.bind ?_ (fun _ => ?_)
theorem impl_AreasOk.mono : ∀ a0 k, LeO (impl_AreasOk.f k a0) (impl_AreasOk.f (k + 1) a0) := by
 intro a0 k
 have ih0 := impl_AreasOk.mono_l k
 unfold impl_AreasOk.f
 repeat' first
   | (with_reducible exact ih0 _ _ _ _)
   | (with_reducible exact LeO.refl _)
   | (with_reducible exact LeO.none _)
   | (with_reducible refine LeO.ite ?_ ?_)
   | (with_reducible refine LeO.bind ?_ (fun _ => ?_))
   | exact ih0 _ _ _ _
   | exact LeO.none _
   | refine LeO.ite ?_ ?_
   | refine LeO.bind ?_ (fun _ => ?_)
def impl_AreasOk.T4 : Bool × List (List Nat × List Nat) := (true, [([], []), ([0], [0]), ([1], [1]), ([2, 1], [2]), ([3], [3]), ([4, 3], [3, 4]), ([5, 3, 3], [3, 5]), ([6], [6]), ([6], [6]), ([8, 6], [6, 8]), ([7, 9, 6], [6, 7, 9]), ([10, 6], [6, 10]), ([11, 6, 6], [6, 11]), ([6], [6]), ([13, 6], [6, 13]), ([12, 14, 6], [6, 12, 14]), ([6, 15, 3], [3, 6, 15]), ([3, 16], [3, 16])])
def impl_AreasOk.B4 : List Nat := [0, 1, 3, 7, 15, 31, 63, 127, 127, 383, 1023, 2047, 4095, 127, 8319, 32767, 65535, 131071]
theorem impl_AreasOk.tab4 : rtab .any (opsOf Try.f54 4) = impl_AreasOk.T4 := by kernel_rfl
theorem impl_AreasOk.bits4 : waitsOk impl_AreasOk.T4.2 impl_AreasOk.B4 = true := by kernel_rfl
set_option maxHeartbeats 8000000 in
set_option maxRecDepth 100000 in
theorem impl_AreasOk.calls (k : Nat) (A0 : Option Addr) (c0 : Nat) (l0 : List (S108)) (r : Bool) (w : World) (hr0 : Kd.C k108 w A0 l0.length l0) (hc0 : l0.length ≤ c0) (h : impl_AreasOk.f k l0 = some r) :
  Calls Try.prog 54 #[.slice A0 l0.length c0] w fun e w' => e = .returned (.bool r) ∧ Below w.heap.size w w' := by
 have hu108 := Try.underlying108; have HR0 := Aside0.mk hr0; have HC0 := Aside0.mk hc0; clear hr0 hc0; have HB := Aside0.mk (Below.refl w.heap.size w); have H : (impl_AreasOk.l0 k l0 l0 (l0.length : Int) 0) = some r := h; clear h; have H' := Aside0.mk H; clear H
 go_enter Try.func54, Try.ntmps54
 go_wp2
 go_loopg [7] k (fun kq v7 w' => ∃ (x7_1 : Int), v7 = .int .i64 x7_1 ∧ Aside0 (impl_AreasOk.l0 kq l0 l0 (l0.length : Int) x7_1 = some r) ∧ Aside0 (kq ≤ k) ∧ Aside0 (Below w.heap.size w w'))
 case atStart => exact ⟨(0), zr, H', ⟨Nat.le_refl _⟩, ⟨bz HB.out⟩⟩
 case round =>
  clear H'; obtain ⟨x7_1, rfl, HA, HK1, HB⟩ := hrel
  cases gk with
  | zero => exact absurd HA.out (by simp [impl_AreasOk.l0])
  | succ k1 =>
   have H := HA.out; clear HA; simp only [impl_AreasOk.l0] at H
   by_cases c2 : x7_1 < (l0.length : Int)
   rotate_left
   ·
    rw [if_neg c2] at H; have c2b0 : decide (x7_1 < (l0.length : Int)) = false := decide_eq_false c2; clear c2; obtain rfl := Option.some.inj H
    go_wp2
    go_ret
    exact ⟨ze, bz HB.out⟩
   rw [if_pos c2] at H; have c2b0 : decide (x7_1 < (l0.length : Int)) = true := decide_eq_true c2; clear c2
   by_cases c3 : 0 ≤ x7_1
   rotate_left
   ·
    rw [if_neg c3] at H
    exact absurd H (by simp)
   rw [if_pos c3] at H; have c3b0 : decide (0 ≤ x7_1) = true := decide_eq_true c3; clear c3
   by_cases c4 : x7_1 < (l0.length : Int)
   rotate_left
   ·
    rw [if_neg c4] at H
    exact absurd H (by simp)
   rw [if_pos c4] at H; have c4b0 : decide (x7_1 < (l0.length : Int)) = true := decide_eq_true c4; clear c4; replace H := Option.bind_eq_some_iff.mp H; obtain ⟨t103, A50, H⟩ := H; have A5 := Aside0.mk A50; clear A50
   by_cases c6 : t103 = true
   rotate_left
   ·
    replace c6 := Bool.eq_false_iff.mpr c6; subst c6; rw [if_neg nf_] at H; obtain rfl := Option.some.inj H; have p101 : 0 ≤ (x7_1 : Int) := of_decide_eq_true zs; have q101 : x7_1 < (l0.length : Int) := of_decide_eq_true zs; obtain ⟨ad101, e101, hx101_0, hx101_1, hx101_2, hx101_3⟩ := at_T108 HR0.out x7_1 p101 q101; cases e101; replace hx101_0 := pw_cell_below HB.out hx101_0; replace hx101_1 := pw_cell_below HB.out hx101_1; replace hx101_2 := pw_cell_below HB.out hx101_2; replace hx101_3 := pw_cell_below HB.out hx101_3; replace p101 := eq_true p101; replace q101 := eq_true q101
    try go_wp2_with (first | ((with_reducible refine gate_dst (N := 4) rfl ?_); refine box_event ?hg (N := 4) ?hd (cs := #[.int .i64 0, .int .i64 0, .bool false, .bool false]) (t := 108) ?hr ?_; (case hd => rfl); (case hg => rfl); (case hr => first | (go_simp; done) | (go_simp; rfl)); intro gb102 hg w30 hbox hb; have BK102 := Aside0.mk (hbox); have GW102 := Aside0.mk ((by rw [hg]; exact (below_size (bz HB.out)) : w.heap.size ≤ gb102)); have GE102 := GW102; replace HB := Aside0.mk (below_step (bz HB.out) hb); clear hb hbox hg; obtain ⟨hcz31_0, hcz31_1, hcz31_2, hcz31_3⟩ := cz4 BK102.out; obtain ⟨hfz31_0, hfz31_1, hfz31_2, hfz31_3⟩ := fz4 BK102.out))
    have n0_ : Aside0 (((((w30.setCell ⟨gb102, 0, none⟩ (.int .i64 ((rd_T108 l0 x7_1).f0))).setCell ⟨gb102, 1, none⟩ (.int .i64 ((rd_T108 l0 x7_1).f1))).setCell ⟨gb102, 2, none⟩ (.bool ((rd_T108 l0 x7_1).f2))).setCell ⟨gb102, 3, none⟩ (.bool ((rd_T108 l0 x7_1).f3))).heap[gb102]? = some (.cells #[.int .i64 ((rd_T108 l0 x7_1).f0), .int .i64 ((rd_T108 l0 x7_1).f1), .bool ((rd_T108 l0 x7_1).f2), .bool ((rd_T108 l0 x7_1).f3)] 108 (0, 0))) := ⟨by (with_reducible repeat (first | refine blk_drewN ?_ _ | refine blk_drew ?_ | refine blk_alloc ?_ _)); refine blk_put (cs := #[.int .i64 ((rd_T108 l0 x7_1).f0), .int .i64 ((rd_T108 l0 x7_1).f1), .bool ((rd_T108 l0 x7_1).f2), .bool false]) ?_ 3 _ rfl; (with_reducible repeat (first | refine blk_drewN ?_ _ | refine blk_drew ?_ | refine blk_alloc ?_ _)); refine blk_put (cs := #[.int .i64 ((rd_T108 l0 x7_1).f0), .int .i64 ((rd_T108 l0 x7_1).f1), .bool false, .bool false]) ?_ 2 _ rfl; (with_reducible repeat (first | refine blk_drewN ?_ _ | refine blk_drew ?_ | refine blk_alloc ?_ _)); refine blk_put (cs := #[.int .i64 ((rd_T108 l0 x7_1).f0), .int .i64 0, .bool false, .bool false]) ?_ 1 _ rfl; (with_reducible repeat (first | refine blk_drewN ?_ _ | refine blk_drew ?_ | refine blk_alloc ?_ _)); refine blk_put (cs := #[.int .i64 0, .int .i64 0, .bool false, .bool false]) ?_ 0 _ rfl; (with_reducible repeat (first | refine blk_drewN ?_ _ | refine blk_drew ?_ | refine blk_alloc ?_ _)); exact BK102.out⟩; have n1_ : Aside0 (Below w.heap.size w ((((w30.setCell ⟨gb102, 0, none⟩ (.int .i64 ((rd_T108 l0 x7_1).f0))).setCell ⟨gb102, 1, none⟩ (.int .i64 ((rd_T108 l0 x7_1).f1))).setCell ⟨gb102, 2, none⟩ (.bool ((rd_T108 l0 x7_1).f2))).setCell ⟨gb102, 3, none⟩ (.bool ((rd_T108 l0 x7_1).f3)))) := ⟨bs HB.out GE102.out⟩; (try clear BK102); (try clear HB)
    generalize ((((w30.setCell ⟨gb102, 0, none⟩ (.int .i64 ((rd_T108 l0 x7_1).f0))).setCell ⟨gb102, 1, none⟩ (.int .i64 ((rd_T108 l0 x7_1).f1))).setCell ⟨gb102, 2, none⟩ (.bool ((rd_T108 l0 x7_1).f2))).setCell ⟨gb102, 3, none⟩ (.bool ((rd_T108 l0 x7_1).f3))) = w32 at n0_ n1_ ⊢
    have BK102 := n0_; have HB := n1_; clear n0_ n1_; replace BK102 := Aside0.mk (blk_drew BK102.out); replace HB := Aside0.mk (below_drew1 HB.out); refine start_ (n := 18) (S := fun w' => w'.cell? ⟨gb102, 0, none⟩ = some (.int .i64 ((rd_T108 l0 x7_1).f0)) ∧ w'.cell? ⟨gb102, 1, none⟩ = some (.int .i64 ((rd_T108 l0 x7_1).f1)) ∧ w'.cell? ⟨gb102, 2, none⟩ = some (.bool ((rd_T108 l0 x7_1).f2)) ∧ w'.cell? ⟨gb102, 3, none⟩ = some (.bool ((rd_T108 l0 x7_1).f3))) (ds := []) (lb 18 0) zk rfl rfl ⟨(blk_cell BK102.out 0).trans rfl, (blk_cell BK102.out 1).trans rfl, (blk_cell BK102.out 2).trans rfl, (blk_cell BK102.out 3).trans rfl⟩ (fun hHeld => ?_); refine with_tabW impl_AreasOk.tab4 impl_AreasOk.bits4 (fun HT_ HW_ => ?_)
    generalize w32.drew = w33 at BK102 HB hHeld ⊢
    refine tz 0 (some 12) (lb 18 1) rfl rfl HT_.out HW_.out hHeld ?_; refine one_ (i := 1) (N := some 13) (lb 18 3) rfl rfl (one_of HT_.out zk) (by decide) (fun K hK => ?_); refine goes_ Try.func96 zk rfl #[.agg #[.int .i64 ((rd_T108 l0 x7_1).f0), .int .i64 ((rd_T108 l0 x7_1).f1), .bool ((rd_T108 l0 x7_1).f2), .bool ((rd_T108 l0 x7_1).f3)]] (by rfl) rfl rfl zm ?_; (with_reducible refine (impl_AreaOk.calls ((rd_T108 l0 x7_1).f0) ((rd_T108 l0 x7_1).f1) ((rd_T108 l0 x7_1).f2) ((rd_T108 l0 x7_1).f3) false _ A5.out).mono ?_); rintro e w34 ⟨rfl, hb⟩; refine ⟨_, rfl, ?_⟩; replace BK102 := Aside0.mk (blk_below (kz BK102.out) hb); replace HB := Aside0.mk (below_step (bs HB.out GE102.out) hb); (try clear hb); refine hK.out _ _ ⟨(blk_cell BK102.out 0).trans rfl, (blk_cell BK102.out 1).trans rfl, (blk_cell BK102.out 2).trans rfl, (blk_cell BK102.out 3).trans rfl⟩ (fun hHeld => ?_); clear hK K; refine nm_ ?_; refine pz 2 (some 14) (lb 18 7) rfl rfl HT_.out ?_; refine pz 3 (some 15) (lb 18 15) rfl rfl HT_.out ?_; refine nz 4 (some 16) (lb 18 31) rfl rfl HT_.out ?_; refine nz 5 (some 17) (lb 18 63) rfl rfl HT_.out ?_; refine nz 6 (some 18) (lb 18 127) rfl rfl HT_.out ?_; refine nz 7 (some 19) (lb 18 255) rfl rfl HT_.out ?_; refine nz 8 (some 20) (lb 18 511) rfl rfl HT_.out ?_; refine nz 9 (some 21) (lb 18 1023) rfl rfl HT_.out ?_; refine nz 10 (some 22) (lb 18 2047) rfl rfl HT_.out ?_; refine nz 11 (some 23) (lb 18 4095) rfl rfl HT_.out ?_; refine nz 12 (some 24) (lb 18 8191) rfl rfl HT_.out ?_; refine nz 13 (some 25) (lb 18 16383) rfl rfl HT_.out ?_; refine nz 14 (some 26) (lb 18 32767) rfl rfl HT_.out ?_; refine nz 15 (some 27) (lb 18 65535) rfl rfl HT_.out ?_; refine nz 16 (some 28) (lb 18 131071) rfl rfl HT_.out ?_; refine pz 17 (some 29) (lb 18 262143) rfl rfl HT_.out ?_; refine done_ (done_of HT_.out zk) ?_
    try go_wp2
    go_ret
    exact ⟨ze, bs HB.out GE102.out⟩
   subst c6; rw [if_pos rfl] at H
   by_cases c7 : x7_1 > 0
   rotate_left
   ·
    rw [if_neg c7] at H; have c7b0 : decide (0 < x7_1) = false := decide_eq_false c7; clear c7; have H' := Aside0.mk H; clear H; have p101 : 0 ≤ (x7_1 : Int) := of_decide_eq_true zs; have q101 : x7_1 < (l0.length : Int) := of_decide_eq_true zs; obtain ⟨ad101, e101, hx101_0, hx101_1, hx101_2, hx101_3⟩ := at_T108 HR0.out x7_1 p101 q101; cases e101; replace hx101_0 := pw_cell_below HB.out hx101_0; replace hx101_1 := pw_cell_below HB.out hx101_1; replace hx101_2 := pw_cell_below HB.out hx101_2; replace hx101_3 := pw_cell_below HB.out hx101_3; replace p101 := eq_true p101; replace q101 := eq_true q101
    try go_wp2_with (first | ((with_reducible refine gate_dst (N := 4) rfl ?_); refine box_event ?hg (N := 4) ?hd (cs := #[.int .i64 0, .int .i64 0, .bool false, .bool false]) (t := 108) ?hr ?_; (case hd => rfl); (case hg => rfl); (case hr => first | (go_simp; done) | (go_simp; rfl)); intro gb102 hg w25 hbox hb; have BK102 := Aside0.mk (hbox); have GW102 := Aside0.mk ((by rw [hg]; exact (below_size (bz HB.out)) : w.heap.size ≤ gb102)); have GE102 := GW102; replace HB := Aside0.mk (below_step (bz HB.out) hb); clear hb hbox hg; obtain ⟨hcz26_0, hcz26_1, hcz26_2, hcz26_3⟩ := cz4 BK102.out; obtain ⟨hfz26_0, hfz26_1, hfz26_2, hfz26_3⟩ := fz4 BK102.out))
    have n0_ : Aside0 (((((w25.setCell ⟨gb102, 0, none⟩ (.int .i64 ((rd_T108 l0 x7_1).f0))).setCell ⟨gb102, 1, none⟩ (.int .i64 ((rd_T108 l0 x7_1).f1))).setCell ⟨gb102, 2, none⟩ (.bool ((rd_T108 l0 x7_1).f2))).setCell ⟨gb102, 3, none⟩ (.bool ((rd_T108 l0 x7_1).f3))).heap[gb102]? = some (.cells #[.int .i64 ((rd_T108 l0 x7_1).f0), .int .i64 ((rd_T108 l0 x7_1).f1), .bool ((rd_T108 l0 x7_1).f2), .bool ((rd_T108 l0 x7_1).f3)] 108 (0, 0))) := ⟨by (with_reducible repeat (first | refine blk_drewN ?_ _ | refine blk_drew ?_ | refine blk_alloc ?_ _)); refine blk_put (cs := #[.int .i64 ((rd_T108 l0 x7_1).f0), .int .i64 ((rd_T108 l0 x7_1).f1), .bool ((rd_T108 l0 x7_1).f2), .bool false]) ?_ 3 _ rfl; (with_reducible repeat (first | refine blk_drewN ?_ _ | refine blk_drew ?_ | refine blk_alloc ?_ _)); refine blk_put (cs := #[.int .i64 ((rd_T108 l0 x7_1).f0), .int .i64 ((rd_T108 l0 x7_1).f1), .bool false, .bool false]) ?_ 2 _ rfl; (with_reducible repeat (first | refine blk_drewN ?_ _ | refine blk_drew ?_ | refine blk_alloc ?_ _)); refine blk_put (cs := #[.int .i64 ((rd_T108 l0 x7_1).f0), .int .i64 0, .bool false, .bool false]) ?_ 1 _ rfl; (with_reducible repeat (first | refine blk_drewN ?_ _ | refine blk_drew ?_ | refine blk_alloc ?_ _)); refine blk_put (cs := #[.int .i64 0, .int .i64 0, .bool false, .bool false]) ?_ 0 _ rfl; (with_reducible repeat (first | refine blk_drewN ?_ _ | refine blk_drew ?_ | refine blk_alloc ?_ _)); exact BK102.out⟩; have n1_ : Aside0 (Below w.heap.size w ((((w25.setCell ⟨gb102, 0, none⟩ (.int .i64 ((rd_T108 l0 x7_1).f0))).setCell ⟨gb102, 1, none⟩ (.int .i64 ((rd_T108 l0 x7_1).f1))).setCell ⟨gb102, 2, none⟩ (.bool ((rd_T108 l0 x7_1).f2))).setCell ⟨gb102, 3, none⟩ (.bool ((rd_T108 l0 x7_1).f3)))) := ⟨bs HB.out GE102.out⟩; (try clear BK102); (try clear HB)
    generalize ((((w25.setCell ⟨gb102, 0, none⟩ (.int .i64 ((rd_T108 l0 x7_1).f0))).setCell ⟨gb102, 1, none⟩ (.int .i64 ((rd_T108 l0 x7_1).f1))).setCell ⟨gb102, 2, none⟩ (.bool ((rd_T108 l0 x7_1).f2))).setCell ⟨gb102, 3, none⟩ (.bool ((rd_T108 l0 x7_1).f3))) = w27 at n0_ n1_ ⊢
    have BK102 := n0_; have HB := n1_; clear n0_ n1_; replace BK102 := Aside0.mk (blk_drew BK102.out); replace HB := Aside0.mk (below_drew1 HB.out); refine start_ (n := 18) (S := fun w' => w'.cell? ⟨gb102, 0, none⟩ = some (.int .i64 ((rd_T108 l0 x7_1).f0)) ∧ w'.cell? ⟨gb102, 1, none⟩ = some (.int .i64 ((rd_T108 l0 x7_1).f1)) ∧ w'.cell? ⟨gb102, 2, none⟩ = some (.bool ((rd_T108 l0 x7_1).f2)) ∧ w'.cell? ⟨gb102, 3, none⟩ = some (.bool ((rd_T108 l0 x7_1).f3))) (ds := []) (lb 18 0) zk rfl rfl ⟨(blk_cell BK102.out 0).trans rfl, (blk_cell BK102.out 1).trans rfl, (blk_cell BK102.out 2).trans rfl, (blk_cell BK102.out 3).trans rfl⟩ (fun hHeld => ?_); refine with_tabW impl_AreasOk.tab4 impl_AreasOk.bits4 (fun HT_ HW_ => ?_)
    generalize w27.drew = w28 at BK102 HB hHeld ⊢
    refine tz 0 (some 12) (lb 18 1) rfl rfl HT_.out HW_.out hHeld ?_; refine one_ (i := 1) (N := some 13) (lb 18 3) rfl rfl (one_of HT_.out zk) (by decide) (fun K hK => ?_); refine goes_ Try.func96 zk rfl #[.agg #[.int .i64 ((rd_T108 l0 x7_1).f0), .int .i64 ((rd_T108 l0 x7_1).f1), .bool ((rd_T108 l0 x7_1).f2), .bool ((rd_T108 l0 x7_1).f3)]] (by rfl) rfl rfl zm ?_; (with_reducible refine (impl_AreaOk.calls ((rd_T108 l0 x7_1).f0) ((rd_T108 l0 x7_1).f1) ((rd_T108 l0 x7_1).f2) ((rd_T108 l0 x7_1).f3) true _ A5.out).mono ?_); rintro e w29 ⟨rfl, hb⟩; refine ⟨_, rfl, ?_⟩; replace BK102 := Aside0.mk (blk_below (kz BK102.out) hb); replace HB := Aside0.mk (below_step (bs HB.out GE102.out) hb); (try clear hb); refine hK.out _ _ ⟨(blk_cell BK102.out 0).trans rfl, (blk_cell BK102.out 1).trans rfl, (blk_cell BK102.out 2).trans rfl, (blk_cell BK102.out 3).trans rfl⟩ (fun hHeld => ?_); clear hK K; refine nm_ ?_; refine pz 2 (some 14) (lb 18 7) rfl rfl HT_.out ?_; refine pz 3 (some 15) (lb 18 15) rfl rfl HT_.out ?_; refine pz 4 (some 16) (lb 18 31) rfl rfl HT_.out ?_; refine pz 5 (some 17) (lb 18 63) rfl rfl HT_.out ?_; refine pz 6 (some 18) (lb 18 127) rfl rfl HT_.out ?_; refine nz 7 (some 19) (lb 18 255) rfl rfl HT_.out ?_; refine nz 8 (some 20) (lb 18 511) rfl rfl HT_.out ?_; refine nz 9 (some 21) (lb 18 1023) rfl rfl HT_.out ?_; refine nz 10 (some 22) (lb 18 2047) rfl rfl HT_.out ?_; refine nz 11 (some 23) (lb 18 4095) rfl rfl HT_.out ?_; refine nz 12 (some 24) (lb 18 8191) rfl rfl HT_.out ?_; refine nz 13 (some 25) (lb 18 16383) rfl rfl HT_.out ?_; refine nz 14 (some 26) (lb 18 32767) rfl rfl HT_.out ?_; refine nz 15 (some 27) (lb 18 65535) rfl rfl HT_.out ?_; refine pz 16 (some 28) (lb 18 131071) rfl rfl HT_.out ?_; refine pz 17 (some 29) (lb 18 262143) rfl rfl HT_.out ?_; refine done_ (done_of HT_.out zk) ?_
    try go_wp2
    go_roundg k1
    case measure => have := HK1.out; omega
    case rel => exact ⟨(wrap64 (x7_1 + 1)), zr, H', ⟨by have := HK1.out; omega⟩, ⟨bs HB.out GE102.out⟩⟩
   rw [if_pos c7] at H; have c7b0 : decide (0 < x7_1) = true := decide_eq_true c7; clear c7; obtain ⟨ji8, hji8⟩ : ∃ j_ : Int, (wrap64 (x7_1 - 1)) = j_ := ⟨_, rfl⟩
   replace H : (if 0 ≤ (ji8) then (if (ji8) < (l0.length : Int) then ((impl_Area_end.f ((rd_T108 l0 (ji8)).f0) ((rd_T108 l0 (ji8)).f1) ((rd_T108 l0 (ji8)).f2) ((rd_T108 l0 (ji8)).f3)).bind fun t105 => (if t105 > ((rd_T108 l0 x7_1).f0) then (some false) else (impl_AreasOk.l0 k1 l0 l0 (l0.length : Int) (wrap64 (x7_1 + 1))))) else (none)) else (none)) = some r := by first | (rw [hji8] at H; exact H) | (simp only [hji8] at H ⊢; exact H)
   (try rw [hji8] at A5); have hji8w : (IntKind.i64.wrap (x7_1 - 1)) = ji8 := (i64_w _).trans hji8
   by_cases c9 : 0 ≤ (ji8)
   rotate_left
   ·
    rw [if_neg c9] at H
    exact absurd H (by simp)
   rw [if_pos c9] at H; have c9b0 : decide (0 ≤ (ji8)) = true := decide_eq_true c9; clear c9
   by_cases c10 : (ji8) < (l0.length : Int)
   rotate_left
   ·
    rw [if_neg c10] at H
    exact absurd H (by simp)
   rw [if_pos c10] at H; have c10b0 : decide ((ji8) < (l0.length : Int)) = true := decide_eq_true c10; clear c10; replace H := Option.bind_eq_some_iff.mp H; obtain ⟨t105, A110, H⟩ := H; have A11 := Aside0.mk A110; clear A110
   by_cases c12 : t105 > ((rd_T108 l0 x7_1).f0)
   rotate_left
   ·
    rw [if_neg c12] at H; have c12b0 : decide (((rd_T108 l0 x7_1).f0) < t105) = false := decide_eq_false c12; clear c12; have H' := Aside0.mk H; clear H; have p101 : 0 ≤ (x7_1 : Int) := of_decide_eq_true zs; have q101 : x7_1 < (l0.length : Int) := of_decide_eq_true zs; obtain ⟨ad101, e101, hx101_0, hx101_1, hx101_2, hx101_3⟩ := at_T108 HR0.out x7_1 p101 q101; cases e101; replace hx101_0 := pw_cell_below HB.out hx101_0; replace hx101_1 := pw_cell_below HB.out hx101_1; replace hx101_2 := pw_cell_below HB.out hx101_2; replace hx101_3 := pw_cell_below HB.out hx101_3; replace p101 := eq_true p101; replace q101 := eq_true q101
    try go_wp2_with (first | ((with_reducible refine gate_dst (N := 4) rfl ?_); refine box_event ?hg (N := 4) ?hd (cs := #[.int .i64 0, .int .i64 0, .bool false, .bool false]) (t := 108) ?hr ?_; (case hd => rfl); (case hg => rfl); (case hr => first | (go_simp; done) | (go_simp; rfl)); intro gb102 hg w19 hbox hb; have BK102 := Aside0.mk (hbox); have GW102 := Aside0.mk ((by rw [hg]; exact (below_size (bz HB.out)) : w.heap.size ≤ gb102)); have GE102 := GW102; replace HB := Aside0.mk (below_step (bz HB.out) hb); clear hb hbox hg; obtain ⟨hcz20_0, hcz20_1, hcz20_2, hcz20_3⟩ := cz4 BK102.out; obtain ⟨hfz20_0, hfz20_1, hfz20_2, hfz20_3⟩ := fz4 BK102.out))
    have n0_ : Aside0 (((((w19.setCell ⟨gb102, 0, none⟩ (.int .i64 ((rd_T108 l0 x7_1).f0))).setCell ⟨gb102, 1, none⟩ (.int .i64 ((rd_T108 l0 x7_1).f1))).setCell ⟨gb102, 2, none⟩ (.bool ((rd_T108 l0 x7_1).f2))).setCell ⟨gb102, 3, none⟩ (.bool ((rd_T108 l0 x7_1).f3))).heap[gb102]? = some (.cells #[.int .i64 ((rd_T108 l0 x7_1).f0), .int .i64 ((rd_T108 l0 x7_1).f1), .bool ((rd_T108 l0 x7_1).f2), .bool ((rd_T108 l0 x7_1).f3)] 108 (0, 0))) := ⟨by (with_reducible repeat (first | refine blk_drewN ?_ _ | refine blk_drew ?_ | refine blk_alloc ?_ _)); refine blk_put (cs := #[.int .i64 ((rd_T108 l0 x7_1).f0), .int .i64 ((rd_T108 l0 x7_1).f1), .bool ((rd_T108 l0 x7_1).f2), .bool false]) ?_ 3 _ rfl; (with_reducible repeat (first | refine blk_drewN ?_ _ | refine blk_drew ?_ | refine blk_alloc ?_ _)); refine blk_put (cs := #[.int .i64 ((rd_T108 l0 x7_1).f0), .int .i64 ((rd_T108 l0 x7_1).f1), .bool false, .bool false]) ?_ 2 _ rfl; (with_reducible repeat (first | refine blk_drewN ?_ _ | refine blk_drew ?_ | refine blk_alloc ?_ _)); refine blk_put (cs := #[.int .i64 ((rd_T108 l0 x7_1).f0), .int .i64 0, .bool false, .bool false]) ?_ 1 _ rfl; (with_reducible repeat (first | refine blk_drewN ?_ _ | refine blk_drew ?_ | refine blk_alloc ?_ _)); refine blk_put (cs := #[.int .i64 0, .int .i64 0, .bool false, .bool false]) ?_ 0 _ rfl; (with_reducible repeat (first | refine blk_drewN ?_ _ | refine blk_drew ?_ | refine blk_alloc ?_ _)); exact BK102.out⟩; have n1_ : Aside0 (Below w.heap.size w ((((w19.setCell ⟨gb102, 0, none⟩ (.int .i64 ((rd_T108 l0 x7_1).f0))).setCell ⟨gb102, 1, none⟩ (.int .i64 ((rd_T108 l0 x7_1).f1))).setCell ⟨gb102, 2, none⟩ (.bool ((rd_T108 l0 x7_1).f2))).setCell ⟨gb102, 3, none⟩ (.bool ((rd_T108 l0 x7_1).f3)))) := ⟨bs HB.out GE102.out⟩; (try clear BK102); (try clear HB)
    generalize ((((w19.setCell ⟨gb102, 0, none⟩ (.int .i64 ((rd_T108 l0 x7_1).f0))).setCell ⟨gb102, 1, none⟩ (.int .i64 ((rd_T108 l0 x7_1).f1))).setCell ⟨gb102, 2, none⟩ (.bool ((rd_T108 l0 x7_1).f2))).setCell ⟨gb102, 3, none⟩ (.bool ((rd_T108 l0 x7_1).f3))) = w21 at n0_ n1_ ⊢
    have BK102 := n0_; have HB := n1_; clear n0_ n1_; replace BK102 := Aside0.mk (blk_drew BK102.out); replace HB := Aside0.mk (below_drew1 HB.out); have p104 : 0 ≤ ((ji8) : Int) := of_decide_eq_true zs; have q104 : (ji8) < (l0.length : Int) := of_decide_eq_true zs; obtain ⟨ad104, e104, hx104_0, hx104_1, hx104_2, hx104_3⟩ := at_T108 HR0.out (ji8) p104 q104; have hw104_3 := hx104_3; have hw104_2 := hx104_2; have hw104_1 := hx104_1; have hw104_0 := hx104_0; obtain rfl : ad101 = ad104 := (by injection e104); replace hx104_0 := pw_cell_below HB.out hx104_0; replace hx104_1 := pw_cell_below HB.out hx104_1; replace hx104_2 := pw_cell_below HB.out hx104_2; replace hx104_3 := pw_cell_below HB.out hx104_3; replace p104 := eq_true p104; replace q104 := eq_true q104; refine start_ (n := 18) (S := fun w' => w'.cell? ⟨gb102, 0, none⟩ = some (.int .i64 ((rd_T108 l0 x7_1).f0)) ∧ w'.cell? ⟨gb102, 1, none⟩ = some (.int .i64 ((rd_T108 l0 x7_1).f1)) ∧ w'.cell? ⟨gb102, 2, none⟩ = some (.bool ((rd_T108 l0 x7_1).f2)) ∧ w'.cell? ⟨gb102, 3, none⟩ = some (.bool ((rd_T108 l0 x7_1).f3)) ∧ w'.cell? (ad101.add (((ji8)).toNat * 4)) = some (.int .i64 ((rd_T108 l0 (ji8)).f0)) ∧ w'.cell? ⟨(ad101.add (((ji8)).toNat * 4)).block, (ad101.add (((ji8)).toNat * 4)).off + 1, none⟩ = some (.int .i64 ((rd_T108 l0 (ji8)).f1)) ∧ w'.cell? ⟨(ad101.add (((ji8)).toNat * 4)).block, (ad101.add (((ji8)).toNat * 4)).off + 2, none⟩ = some (.bool ((rd_T108 l0 (ji8)).f2)) ∧ w'.cell? ⟨(ad101.add (((ji8)).toNat * 4)).block, (ad101.add (((ji8)).toNat * 4)).off + 3, none⟩ = some (.bool ((rd_T108 l0 (ji8)).f3))) (ds := []) (lb 18 0) zk rfl rfl ⟨(blk_cell BK102.out 0).trans rfl, (blk_cell BK102.out 1).trans rfl, (blk_cell BK102.out 2).trans rfl, (blk_cell BK102.out 3).trans rfl, (pw_cell_below HB.out hw104_0), (pw_cell_below HB.out hw104_1), (pw_cell_below HB.out hw104_2), (pw_cell_below HB.out hw104_3)⟩ (fun hHeld => ?_); refine with_tabW impl_AreasOk.tab4 impl_AreasOk.bits4 (fun HT_ HW_ => ?_)
    generalize w21.drew = w22 at BK102 HB hx104_0 hx104_1 hx104_2 hx104_3 hHeld ⊢
    refine tz 0 (some 12) (lb 18 1) rfl rfl HT_.out HW_.out hHeld ?_; refine one_ (i := 1) (N := some 13) (lb 18 3) rfl rfl (one_of HT_.out zk) (by decide) (fun K hK => ?_); refine goes_ Try.func96 zk rfl #[.agg #[.int .i64 ((rd_T108 l0 x7_1).f0), .int .i64 ((rd_T108 l0 x7_1).f1), .bool ((rd_T108 l0 x7_1).f2), .bool ((rd_T108 l0 x7_1).f3)]] (by rfl) rfl rfl zm ?_; (with_reducible refine (impl_AreaOk.calls ((rd_T108 l0 x7_1).f0) ((rd_T108 l0 x7_1).f1) ((rd_T108 l0 x7_1).f2) ((rd_T108 l0 x7_1).f3) true _ A5.out).mono ?_); rintro e w23 ⟨rfl, hb⟩; refine ⟨_, rfl, ?_⟩; replace BK102 := Aside0.mk (blk_below (kz BK102.out) hb); replace HB := Aside0.mk (below_step (bs HB.out GE102.out) hb); (try clear hb); refine hK.out _ _ ⟨(blk_cell BK102.out 0).trans rfl, (blk_cell BK102.out 1).trans rfl, (blk_cell BK102.out 2).trans rfl, (blk_cell BK102.out 3).trans rfl, (pw_cell_below HB.out hw104_0), (pw_cell_below HB.out hw104_1), (pw_cell_below HB.out hw104_2), (pw_cell_below HB.out hw104_3)⟩ (fun hHeld => ?_); clear hK K; refine nm_ ?_; refine pz 2 (some 14) (lb 18 7) rfl rfl HT_.out ?_; refine pz 3 (some 15) (lb 18 15) rfl rfl HT_.out ?_; refine pz 4 (some 16) (lb 18 31) rfl rfl HT_.out ?_; refine pz 5 (some 17) (lb 18 63) rfl rfl HT_.out ?_; refine pz 6 (some 18) (lb 18 127) rfl rfl HT_.out ?_; refine pz 7 (some 19) (lb 18 255) rfl rfl HT_.out ?_; refine pz 8 (some 20) (lb 18 511) rfl rfl HT_.out ?_; refine pz 9 (some 21) (lb 18 1023) rfl rfl HT_.out ?_; refine pz 10 (some 22) (lb 18 2047) rfl rfl HT_.out ?_; refine pz 13 (some 25) (lb 18 10239) rfl rfl HT_.out ?_; refine tz 11 (some 23) (lb 18 12287) rfl rfl HT_.out HW_.out hHeld ?_; refine tz 14 (some 26) (lb 18 28671) rfl rfl HT_.out HW_.out hHeld ?_; refine one_ (i := 12) (N := some 24) (lb 18 32767) rfl rfl (one_of HT_.out zk) (by decide) (fun K hK => ?_); refine goes_ Try.func97 zk rfl #[.agg #[.int .i64 ((rd_T108 l0 (ji8)).f0), .int .i64 ((rd_T108 l0 (ji8)).f1), .bool ((rd_T108 l0 (ji8)).f2), .bool ((rd_T108 l0 (ji8)).f3)]] (by rfl) rfl rfl (by (try simp only [List.map_toArray, List.map_cons, List.map_nil]); first | done | (simp only [hji8]; rfl) | rfl | (simp only [List.length_drop, List.length_take]; rfl)) ?_; (with_reducible refine (impl_Area_end.calls ((rd_T108 l0 (ji8)).f0) ((rd_T108 l0 (ji8)).f1) ((rd_T108 l0 (ji8)).f2) ((rd_T108 l0 (ji8)).f3) t105 _ A11.out).mono ?_); rintro e w24 ⟨rfl, hb⟩; refine ⟨_, rfl, ?_⟩; replace BK102 := Aside0.mk (blk_below (kz BK102.out) hb); replace HB := Aside0.mk (below_step (bs HB.out GE102.out) hb); (try clear hb); refine hK.out _ _ ⟨(blk_cell BK102.out 0).trans rfl, (blk_cell BK102.out 1).trans rfl, (blk_cell BK102.out 2).trans rfl, (blk_cell BK102.out 3).trans rfl, (pw_cell_below HB.out hw104_0), (pw_cell_below HB.out hw104_1), (pw_cell_below HB.out hw104_2), (pw_cell_below HB.out hw104_3)⟩ (fun hHeld => ?_); clear hK K; refine nm_ ?_; refine pz 15 (some 27) (lb 18 65535) rfl rfl HT_.out ?_; refine pz 16 (some 28) (lb 18 131071) rfl rfl HT_.out ?_; refine pz 17 (some 29) (lb 18 262143) rfl rfl HT_.out ?_; refine done_ (done_of HT_.out zk) ?_
    try go_wp2
    go_roundg k1
    case measure => have := HK1.out; omega
    case rel => exact ⟨(wrap64 (x7_1 + 1)), zr, H', ⟨by have := HK1.out; omega⟩, ⟨bs HB.out GE102.out⟩⟩
   rw [if_pos c12] at H; have c12b0 : decide (((rd_T108 l0 x7_1).f0) < t105) = true := decide_eq_true c12; clear c12; obtain rfl := Option.some.inj H; have p101 : 0 ≤ (x7_1 : Int) := of_decide_eq_true zs; have q101 : x7_1 < (l0.length : Int) := of_decide_eq_true zs; obtain ⟨ad101, e101, hx101_0, hx101_1, hx101_2, hx101_3⟩ := at_T108 HR0.out x7_1 p101 q101; cases e101; replace hx101_0 := pw_cell_below HB.out hx101_0; replace hx101_1 := pw_cell_below HB.out hx101_1; replace hx101_2 := pw_cell_below HB.out hx101_2; replace hx101_3 := pw_cell_below HB.out hx101_3; replace p101 := eq_true p101; replace q101 := eq_true q101
   try go_wp2_with (first | ((with_reducible refine gate_dst (N := 4) rfl ?_); refine box_event ?hg (N := 4) ?hd (cs := #[.int .i64 0, .int .i64 0, .bool false, .bool false]) (t := 108) ?hr ?_; (case hd => rfl); (case hg => rfl); (case hr => first | (go_simp; done) | (go_simp; rfl)); intro gb102 hg w13 hbox hb; have BK102 := Aside0.mk (hbox); have GW102 := Aside0.mk ((by rw [hg]; exact (below_size (bz HB.out)) : w.heap.size ≤ gb102)); have GE102 := GW102; replace HB := Aside0.mk (below_step (bz HB.out) hb); clear hb hbox hg; obtain ⟨hcz14_0, hcz14_1, hcz14_2, hcz14_3⟩ := cz4 BK102.out; obtain ⟨hfz14_0, hfz14_1, hfz14_2, hfz14_3⟩ := fz4 BK102.out))
   have n0_ : Aside0 (((((w13.setCell ⟨gb102, 0, none⟩ (.int .i64 ((rd_T108 l0 x7_1).f0))).setCell ⟨gb102, 1, none⟩ (.int .i64 ((rd_T108 l0 x7_1).f1))).setCell ⟨gb102, 2, none⟩ (.bool ((rd_T108 l0 x7_1).f2))).setCell ⟨gb102, 3, none⟩ (.bool ((rd_T108 l0 x7_1).f3))).heap[gb102]? = some (.cells #[.int .i64 ((rd_T108 l0 x7_1).f0), .int .i64 ((rd_T108 l0 x7_1).f1), .bool ((rd_T108 l0 x7_1).f2), .bool ((rd_T108 l0 x7_1).f3)] 108 (0, 0))) := ⟨by (with_reducible repeat (first | refine blk_drewN ?_ _ | refine blk_drew ?_ | refine blk_alloc ?_ _)); refine blk_put (cs := #[.int .i64 ((rd_T108 l0 x7_1).f0), .int .i64 ((rd_T108 l0 x7_1).f1), .bool ((rd_T108 l0 x7_1).f2), .bool false]) ?_ 3 _ rfl; (with_reducible repeat (first | refine blk_drewN ?_ _ | refine blk_drew ?_ | refine blk_alloc ?_ _)); refine blk_put (cs := #[.int .i64 ((rd_T108 l0 x7_1).f0), .int .i64 ((rd_T108 l0 x7_1).f1), .bool false, .bool false]) ?_ 2 _ rfl; (with_reducible repeat (first | refine blk_drewN ?_ _ | refine blk_drew ?_ | refine blk_alloc ?_ _)); refine blk_put (cs := #[.int .i64 ((rd_T108 l0 x7_1).f0), .int .i64 0, .bool false, .bool false]) ?_ 1 _ rfl; (with_reducible repeat (first | refine blk_drewN ?_ _ | refine blk_drew ?_ | refine blk_alloc ?_ _)); refine blk_put (cs := #[.int .i64 0, .int .i64 0, .bool false, .bool false]) ?_ 0 _ rfl; (with_reducible repeat (first | refine blk_drewN ?_ _ | refine blk_drew ?_ | refine blk_alloc ?_ _)); exact BK102.out⟩; have n1_ : Aside0 (Below w.heap.size w ((((w13.setCell ⟨gb102, 0, none⟩ (.int .i64 ((rd_T108 l0 x7_1).f0))).setCell ⟨gb102, 1, none⟩ (.int .i64 ((rd_T108 l0 x7_1).f1))).setCell ⟨gb102, 2, none⟩ (.bool ((rd_T108 l0 x7_1).f2))).setCell ⟨gb102, 3, none⟩ (.bool ((rd_T108 l0 x7_1).f3)))) := ⟨bs HB.out GE102.out⟩; (try clear BK102); (try clear HB)
   generalize ((((w13.setCell ⟨gb102, 0, none⟩ (.int .i64 ((rd_T108 l0 x7_1).f0))).setCell ⟨gb102, 1, none⟩ (.int .i64 ((rd_T108 l0 x7_1).f1))).setCell ⟨gb102, 2, none⟩ (.bool ((rd_T108 l0 x7_1).f2))).setCell ⟨gb102, 3, none⟩ (.bool ((rd_T108 l0 x7_1).f3))) = w15 at n0_ n1_ ⊢
   have BK102 := n0_; have HB := n1_; clear n0_ n1_; replace BK102 := Aside0.mk (blk_drew BK102.out); replace HB := Aside0.mk (below_drew1 HB.out); have p104 : 0 ≤ ((ji8) : Int) := of_decide_eq_true zs; have q104 : (ji8) < (l0.length : Int) := of_decide_eq_true zs; obtain ⟨ad104, e104, hx104_0, hx104_1, hx104_2, hx104_3⟩ := at_T108 HR0.out (ji8) p104 q104; have hw104_3 := hx104_3; have hw104_2 := hx104_2; have hw104_1 := hx104_1; have hw104_0 := hx104_0; obtain rfl : ad101 = ad104 := (by injection e104); replace hx104_0 := pw_cell_below HB.out hx104_0; replace hx104_1 := pw_cell_below HB.out hx104_1; replace hx104_2 := pw_cell_below HB.out hx104_2; replace hx104_3 := pw_cell_below HB.out hx104_3; replace p104 := eq_true p104; replace q104 := eq_true q104; refine start_ (n := 18) (S := fun w' => w'.cell? ⟨gb102, 0, none⟩ = some (.int .i64 ((rd_T108 l0 x7_1).f0)) ∧ w'.cell? ⟨gb102, 1, none⟩ = some (.int .i64 ((rd_T108 l0 x7_1).f1)) ∧ w'.cell? ⟨gb102, 2, none⟩ = some (.bool ((rd_T108 l0 x7_1).f2)) ∧ w'.cell? ⟨gb102, 3, none⟩ = some (.bool ((rd_T108 l0 x7_1).f3)) ∧ w'.cell? (ad101.add (((ji8)).toNat * 4)) = some (.int .i64 ((rd_T108 l0 (ji8)).f0)) ∧ w'.cell? ⟨(ad101.add (((ji8)).toNat * 4)).block, (ad101.add (((ji8)).toNat * 4)).off + 1, none⟩ = some (.int .i64 ((rd_T108 l0 (ji8)).f1)) ∧ w'.cell? ⟨(ad101.add (((ji8)).toNat * 4)).block, (ad101.add (((ji8)).toNat * 4)).off + 2, none⟩ = some (.bool ((rd_T108 l0 (ji8)).f2)) ∧ w'.cell? ⟨(ad101.add (((ji8)).toNat * 4)).block, (ad101.add (((ji8)).toNat * 4)).off + 3, none⟩ = some (.bool ((rd_T108 l0 (ji8)).f3))) (ds := []) (lb 18 0) zk rfl rfl ⟨(blk_cell BK102.out 0).trans rfl, (blk_cell BK102.out 1).trans rfl, (blk_cell BK102.out 2).trans rfl, (blk_cell BK102.out 3).trans rfl, (pw_cell_below HB.out hw104_0), (pw_cell_below HB.out hw104_1), (pw_cell_below HB.out hw104_2), (pw_cell_below HB.out hw104_3)⟩ (fun hHeld => ?_); refine with_tabW impl_AreasOk.tab4 impl_AreasOk.bits4 (fun HT_ HW_ => ?_)
   generalize w15.drew = w16 at BK102 HB hx104_0 hx104_1 hx104_2 hx104_3 hHeld ⊢
   refine tz 0 (some 12) (lb 18 1) rfl rfl HT_.out HW_.out hHeld ?_; refine one_ (i := 1) (N := some 13) (lb 18 3) rfl rfl (one_of HT_.out zk) (by decide) (fun K hK => ?_); refine goes_ Try.func96 zk rfl #[.agg #[.int .i64 ((rd_T108 l0 x7_1).f0), .int .i64 ((rd_T108 l0 x7_1).f1), .bool ((rd_T108 l0 x7_1).f2), .bool ((rd_T108 l0 x7_1).f3)]] (by rfl) rfl rfl zm ?_; (with_reducible refine (impl_AreaOk.calls ((rd_T108 l0 x7_1).f0) ((rd_T108 l0 x7_1).f1) ((rd_T108 l0 x7_1).f2) ((rd_T108 l0 x7_1).f3) true _ A5.out).mono ?_); rintro e w17 ⟨rfl, hb⟩; refine ⟨_, rfl, ?_⟩; replace BK102 := Aside0.mk (blk_below (kz BK102.out) hb); replace HB := Aside0.mk (below_step (bs HB.out GE102.out) hb); (try clear hb); refine hK.out _ _ ⟨(blk_cell BK102.out 0).trans rfl, (blk_cell BK102.out 1).trans rfl, (blk_cell BK102.out 2).trans rfl, (blk_cell BK102.out 3).trans rfl, (pw_cell_below HB.out hw104_0), (pw_cell_below HB.out hw104_1), (pw_cell_below HB.out hw104_2), (pw_cell_below HB.out hw104_3)⟩ (fun hHeld => ?_); clear hK K; refine nm_ ?_; refine pz 2 (some 14) (lb 18 7) rfl rfl HT_.out ?_; refine pz 3 (some 15) (lb 18 15) rfl rfl HT_.out ?_; refine pz 4 (some 16) (lb 18 31) rfl rfl HT_.out ?_; refine pz 5 (some 17) (lb 18 63) rfl rfl HT_.out ?_; refine pz 6 (some 18) (lb 18 127) rfl rfl HT_.out ?_; refine pz 7 (some 19) (lb 18 255) rfl rfl HT_.out ?_; refine pz 8 (some 20) (lb 18 511) rfl rfl HT_.out ?_; refine pz 9 (some 21) (lb 18 1023) rfl rfl HT_.out ?_; refine pz 10 (some 22) (lb 18 2047) rfl rfl HT_.out ?_; refine pz 13 (some 25) (lb 18 10239) rfl rfl HT_.out ?_; refine tz 11 (some 23) (lb 18 12287) rfl rfl HT_.out HW_.out hHeld ?_; refine tz 14 (some 26) (lb 18 28671) rfl rfl HT_.out HW_.out hHeld ?_; refine one_ (i := 12) (N := some 24) (lb 18 32767) rfl rfl (one_of HT_.out zk) (by decide) (fun K hK => ?_); refine goes_ Try.func97 zk rfl #[.agg #[.int .i64 ((rd_T108 l0 (ji8)).f0), .int .i64 ((rd_T108 l0 (ji8)).f1), .bool ((rd_T108 l0 (ji8)).f2), .bool ((rd_T108 l0 (ji8)).f3)]] (by rfl) rfl rfl (by (try simp only [List.map_toArray, List.map_cons, List.map_nil]); first | done | (simp only [hji8]; rfl) | rfl | (simp only [List.length_drop, List.length_take]; rfl)) ?_; (with_reducible refine (impl_Area_end.calls ((rd_T108 l0 (ji8)).f0) ((rd_T108 l0 (ji8)).f1) ((rd_T108 l0 (ji8)).f2) ((rd_T108 l0 (ji8)).f3) t105 _ A11.out).mono ?_); rintro e w18 ⟨rfl, hb⟩; refine ⟨_, rfl, ?_⟩; replace BK102 := Aside0.mk (blk_below (kz BK102.out) hb); replace HB := Aside0.mk (below_step (bs HB.out GE102.out) hb); (try clear hb); refine hK.out _ _ ⟨(blk_cell BK102.out 0).trans rfl, (blk_cell BK102.out 1).trans rfl, (blk_cell BK102.out 2).trans rfl, (blk_cell BK102.out 3).trans rfl, (pw_cell_below HB.out hw104_0), (pw_cell_below HB.out hw104_1), (pw_cell_below HB.out hw104_2), (pw_cell_below HB.out hw104_3)⟩ (fun hHeld => ?_); clear hK K; refine nm_ ?_; refine pz 15 (some 27) (lb 18 65535) rfl rfl HT_.out ?_; refine pz 16 (some 28) (lb 18 131071) rfl rfl HT_.out ?_; refine pz 17 (some 29) (lb 18 262143) rfl rfl HT_.out ?_; refine done_ (done_of HT_.out zk) ?_
   try go_wp2
   go_ret
   exact ⟨by first | rfl | (simp [errW_none, errW_some] <;> rfl) | (simp only [← hji8]; first | rfl | (simp [errW_none, errW_some] <;> rfl)) | (simp [*, errW_none, errW_some] <;> rfl), bs HB.out GE102.out⟩

end Go.Proofs.Ythoapmfpokohnaa.P

namespace Go.Proofs.Ythoapmfpokohnaa.P
open Go.RowKit Go.Proofs.YthoapmfpokohnaaW.PrintWords Go.Proofs.YthoapmfpokohnaaW.PrintLast Go.Proofs.YthoapmfpokohnaaW.PrintMore
attribute [local go_sem] max2_int min2_int max_two min_two max_three min_three max_four min_four Q.cell_set_map Q.str_gtr Q.str_geq Q.str_leq
set_option linter.unusedVariables false
set_option linter.unusedSimpArgs false

/-! ### impl_AreasAt: function 55 -/
-- IMPORT Derived.Shelf.Abstract
def impl_AreasAt.hit (p : Int) (a : S108) : Bool := decide (a.f0 ≤ p) && decide (p < wrap64 (a.f0 + a.f1))
def impl_AreasAt.idx (p : Int) : List S108 → Int → Int
  | [], _ => -1
  | a :: l, i => if impl_AreasAt.hit p a = true then i else impl_AreasAt.idx p l (i + 1)
def impl_AreasAt.f (k : Nat) (l0 : List S108) (a1 : Int) : Option Int := (impl_AreasOk.f k l0).bind fun t => if t = true then some (impl_AreasAt.idx a1 l0 0) else some (-1)
theorem impl_AreasAt.mono : ∀ a0 a1 k, LeO (impl_AreasAt.f k a0 a1) (impl_AreasAt.f (k + 1) a0 a1) := by
  intro a0 a1 k
  unfold impl_AreasAt.f
  exact LeO.bind (impl_AreasOk.mono _ _) (fun _ => LeO.refl _)
theorem impl_AreasAt.idx_hit (p : Int) (z : S108) : ∀ (l : List S108) (i : Nat) (b : Int), i < l.length → impl_AreasAt.hit p (l.getD i z) = true → (∀ j, j < i → impl_AreasAt.hit p (l.getD j z) = false) → impl_AreasAt.idx p l b = b + i := by
  intro l
  induction l with
  | nil => intro i b h; simp at h
  | cons a l ih =>
    intro i b hi hh hm
    cases i with
    | zero =>
      have : impl_AreasAt.hit p a = true := by simpa using hh
      simp [impl_AreasAt.idx, this]
    | succ i =>
      have h0 : impl_AreasAt.hit p a = false := by simpa using hm 0 (by omega)
      simp only [impl_AreasAt.idx, h0]
      rw [if_neg (by decide), ih i (b + 1) (by simpa using hi) (by simpa using hh) (fun j hj => by simpa using hm (j + 1) (by omega))]
      omega
theorem impl_AreasAt.idx_miss (p : Int) (z : S108) : ∀ (l : List S108) (b : Int), (∀ j, j < l.length → impl_AreasAt.hit p (l.getD j z) = false) → impl_AreasAt.idx p l b = -1 := by
  intro l
  induction l with
  | nil => intro b _; rfl
  | cons a l ih =>
    intro b hm
    have h0 : impl_AreasAt.hit p a = false := by simpa using hm 0 (by simp)
    simp only [impl_AreasAt.idx, h0]
    rw [if_neg (by decide)]
    exact ih (b + 1) (fun j hj => by simpa using hm (j + 1) (by simpa using hj))
theorem impl_AreasAt.keep {W W1 W2 : World} {B g : Nat} {p a b : Int} {c d : Bool} (h : W1.cell? ⟨B, 0, none⟩ = some (.int .i64 p) ∧ W1.cell? ⟨g, 0, none⟩ = some (.int .i64 a) ∧ W1.cell? ⟨g, 0 + 1, none⟩ = some (.int .i64 b) ∧ W1.cell? ⟨g, 0 + 2, none⟩ = some (.bool c) ∧ W1.cell? ⟨g, 0 + 3, none⟩ = some (.bool d) ∧ Below W.heap.size W W1) (hb : Below W1.heap.size W1 W2) :
    W2.cell? ⟨B, 0, none⟩ = some (.int .i64 p) ∧ W2.cell? ⟨g, 0, none⟩ = some (.int .i64 a) ∧ W2.cell? ⟨g, 0 + 1, none⟩ = some (.int .i64 b) ∧ W2.cell? ⟨g, 0 + 2, none⟩ = some (.bool c) ∧ W2.cell? ⟨g, 0 + 3, none⟩ = some (.bool d) ∧ Below W.heap.size W W2 :=
  ⟨pw_cell_below hb h.1, pw_cell_below hb h.2.1, pw_cell_below hb h.2.2.1, pw_cell_below hb h.2.2.2.1, pw_cell_below hb h.2.2.2.2.1, below_then h.2.2.2.2.2 h.2.2.2.2.2.size hb⟩
set_option maxHeartbeats 2000000 in
theorem impl_AreasAt.clo (B : Nat) (p : Int) (x : S108) (W : World) (hc : W.cell? ⟨B, 0, none⟩ = some (.int .i64 p)) :
    Calls Try.prog 99 #[.agg #[.int .i64 x.f0, .int .i64 x.f1, .bool x.f2, .bool x.f3], .pointer (some ⟨B, 0, none⟩)] W fun e w' => e = .returned (.bool (impl_AreasAt.hit p x)) ∧ Below W.heap.size W w' := by
  have hB := World.block_lt_of_cell? W _ hc
  unfold impl_AreasAt.hit
  by_cases h : x.f0 ≤ p
  · have h1 : decide (x.f0 ≤ p) = true := decide_eq_true h
    go_enter Try.func99, Try.ntmps99
    go_wp2
    have HB := below_alloc (Below.refl W.heap.size W) (.cells #[.int .i64 x.f0, .int .i64 x.f1, .bool x.f2, .bool x.f3] 108)
    go_region_held3 (fun W' => W'.cell? ⟨B, 0, none⟩ = some (.int .i64 p) ∧ W'.cell? ⟨W.heap.size, 0, none⟩ = some (.int .i64 x.f0) ∧ W'.cell? ⟨W.heap.size, 0 + 1, none⟩ = some (.int .i64 x.f1) ∧ W'.cell? ⟨W.heap.size, 0 + 2, none⟩ = some (.bool x.f2) ∧ W'.cell? ⟨W.heap.size, 0 + 3, none⟩ = some (.bool x.f3) ∧ Below W.heap.size W W') (first | exact impl_AreasAt.keep ‹_› ‹_› | (refine ⟨?_, ?_, ?_, ?_, ?_, below_drew HB⟩ <;> go_simp)) (first | (go_at_call 97; refine (impl_Area_end.calls _ _ _ _ _ _ rfl).mono ?_; rintro e w' ⟨rfl, hb⟩))
    go_wp2
    go_ret
    rename_i hS
    exact ⟨by simp [h1], hS.2.2.2.2.2⟩
  · have h1 : decide (x.f0 ≤ p) = false := decide_eq_false h
    go_enter Try.func99, Try.ntmps99
    go_wp2
    go_quiet (fail)
    go_wp2
    go_ret
    exact ⟨by simp [h1], pw_below_drewN (below_alloc (Below.refl W.heap.size W) _) _⟩
set_option maxHeartbeats 2000000 in
theorem impl_AreasAt.ixf (B : Nat) (p : Int) (A0 : Option Addr) (c0 : Nat) (l : List S108) (w : World) (hr : Kd.C k108 w A0 l.length l) (hc : w.cell? ⟨B, 0, none⟩ = some (.int .i64 p)) :
    Calls Try.prog 98 #[.slice A0 l.length c0, .func (.func 99) #[] #[.pointer (some ⟨B, 0, none⟩)]] w fun e w' => e = .returned (.int .i64 (impl_AreasAt.idx p l 0)) ∧ Below w.heap.size w w' := by
  have hbig : l.length ≤ 9223372036854775807 := hr.2.1
  have HR := Aside0.mk hr
  have HC := Aside0.mk hc
  clear hr hc
  have eg := enters_of Try.func99 (by kernel_rfl) rfl
  generalize hn : l.length = n
  go_enter Try.func98, Try.ntmps98
  go_wp2
  go_loopg [5, 8] n (fun gg _ s8 wr => ∃ kk : Nat, kk ≤ n ∧ n - kk ≤ gg ∧ s8 = .int .i64 kk ∧ Aside0 (Below w.heap.size w wr) ∧ Aside0 (∀ j, j < kk → impl_AreasAt.hit p (l.getD j z108) = false))
  case atStart => exact ⟨0, Nat.zero_le _, by omega, rfl, ⟨Below.refl _ w⟩, ⟨fun j hj => absurd hj (Nat.not_lt_zero _)⟩⟩
  case round =>
    obtain ⟨kk, hkk, hg, rfl, BW, AA⟩ := hrel
    by_cases hlt : kk < n
    · have hltz : (kk : Int) < (n : Int) := by omega
      obtain ⟨ad, rfl, q0, q1, q2, q3⟩ := at_T108 (Kd.C_below HR.out BW.out) (kk : Int) (by omega) (by omega)
      have hcall := impl_AreasAt.clo B p (rd_T108 l (kk : Int)) wr (pw_cell_below BW.out HC.out)
      have erd : rd_T108 l (kk : Int) = l.getD kk z108 := by simp [rd_T108]
      rw [Int.toNat_natCast] at q0 q1 q2 q3
      have ER := Aside0.mk erd
      clear erd
      generalize hy : rd_T108 l (kk : Int) = y at q0 q1 q2 q3 hcall
      have HY := Aside0.mk hy
      clear hy
      cases hq : impl_AreasAt.hit p y with
      | true =>
        rw [hq] at hcall
        have HQ := Aside0.mk hq
        clear hq
        go_wp2_with (go_at_call 99; refine hcall.mono ?_; rintro e w' ⟨rfl, hb'⟩)
        go_ret
        refine ⟨?_, below_then BW.out BW.out.size hb'⟩
        rw [impl_AreasAt.idx_hit p z108 l kk 0 (by omega) (by rw [← ER.out, HY.out]; exact HQ.out) AA.out]
        simp
      | false =>
        rw [hq] at hcall
        have HQ := Aside0.mk hq
        clear hq
        go_wp2_with (go_at_call 99; refine hcall.mono ?_; rintro e w' ⟨rfl, hb'⟩)
        go_roundg (n - (kk + 1))
        case measure => omega
        case rel =>
          refine ⟨kk + 1, by omega, by omega, by go_num, ⟨below_then BW.out BW.out.size hb'⟩, ⟨fun j hj => ?_⟩⟩
          by_cases e : j = kk
          · rw [e, ← ER.out, HY.out]
            exact HQ.out
          · exact AA.out j (by omega)
    · have hltz : ¬ (kk : Int) < (n : Int) := by omega
      have hkn : kk = n := by omega
      subst hkn
      go_wp2
      go_ret
      refine ⟨?_, BW.out⟩
      rw [impl_AreasAt.idx_miss p z108 l 0 (fun j hj => AA.out j (by omega))]
      rfl
set_option maxHeartbeats 4000000 in
theorem impl_AreasAt.calls (k : Nat) (A0 : Option Addr) (c0 : Nat) (l0 : List S108) (a1 : Int) (r : Int) (w : World) (hr0 : Kd.C k108 w A0 l0.length l0) (hc0 : l0.length ≤ c0) (h : impl_AreasAt.f k l0 a1 = some r) :
    Calls Try.prog 55 #[.slice A0 l0.length c0, .int .i64 a1] w fun e w' => e = .returned (.int .i64 r) ∧ Below w.heap.size w w' := by
  have HR := Aside0.mk hr0
  have HC := Aside0.mk hc0
  clear hr0 hc0
  have hmf : ∀ (fn : Fn) (first cap : Array Value) (w : World), (Instr.makeFunc fn first cap).run Try.prog w = .ok (.func fn first cap) w := fun _ _ _ _ => rfl
  obtain ⟨t, ht, h⟩ := Option.bind_eq_some_iff.1 (show ((impl_AreasOk.f k l0).bind fun t => if t = true then some (impl_AreasAt.idx a1 l0 0) else some (-1)) = some r from h)
  have HT := Aside0.mk ht
  clear ht
  have HB := below_alloc (Below.refl w.heap.size w) (.cells #[.int .i64 a1] 3)
  cases t with
  | true =>
    obtain rfl : impl_AreasAt.idx a1 l0 0 = r := by simpa using h
    clear h
    go_enter Try.func55, Try.ntmps55
    go_wp2_with fail
    refine (impl_AreasOk.calls k A0 c0 l0 true _ (Kd.C_below HR.out HB) HC.out HT.out).mono ?_
    rintro e w1 ⟨rfl, hb1⟩
    have HB1 := Aside0.mk (below_then HB HB.size hb1)
    have hcell : w1.cell? ⟨w.heap.size, 0, none⟩ = some (.int .i64 a1) := pw_cell_below hb1 (by simp)
    have HD := Aside0.mk hcell
    clear hb1 HB hcell
    go_wp2_with fail
    refine (impl_AreasAt.ixf w.heap.size a1 A0 c0 l0 _ (Kd.C_below HR.out HB1.out) HD.out).mono ?_
    rintro e w2 ⟨rfl, hb2⟩
    go_wp2
    go_ret
    exact ⟨rfl, below_then HB1.out HB1.out.size hb2⟩
  | false =>
    obtain rfl : (-1 : Int) = r := by simpa using h
    clear h
    go_enter Try.func55, Try.ntmps55
    go_wp2_with fail
    refine (impl_AreasOk.calls k A0 c0 l0 false _ (Kd.C_below HR.out HB) HC.out HT.out).mono ?_
    rintro e w1 ⟨rfl, hb1⟩
    go_wp2
    go_ret
    exact ⟨rfl, below_then HB HB.size hb1⟩


end Go.Proofs.Ythoapmfpokohnaa.P
