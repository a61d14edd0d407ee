-- printed by wip/qd.py
import Derived.Test.YtmpdoodimmmemaaPf0
namespace Go.Proofs.Ytmpdoodimmmemaa.P
open Go.RowKit Go.Proofs.YtmpdoodimmmemaaW.PrintWords Go.Proofs.YtmpdoodimmmemaaW.PrintLast Go.Proofs.YtmpdoodimmmemaaW.PrintMore
attribute [local go_sem] max2_int min2_int max_two min_two max_three min_three max_four min_four Q.cell_set_map
set_option linter.unusedVariables false
set_option linter.unusedSimpArgs false

/-! ### spec_l12Can: function 45 -/
def spec_l12Can.f (a0_0 : Int) (l0_1 : List (S45)) (l0_2 : List Int) (a1 : Int) : Option (Bool) := if 0 ≤ a1 then (if a1 < (l0_1.length : Int) then (if ((rd_T45 l0_1 a1).f3 = true) then (some false) else (if ((rd_T45 l0_1 a1).f0) > 0 then (some true) else (some (decide (((rd_T45 l0_1 a1).f2) > 0))))) else (none)) else (none)
set_option maxHeartbeats 8000000 in
set_option maxRecDepth 100000 in
theorem spec_l12Can.calls (a0_0 : Int) (A0_1 : Option Addr) (c0_1 : Nat) (l0_1 : List (S45)) (A0_2 : Option Addr) (c0_2 : Nat) (l0_2 : List Int) (a1 : Int) (r : Bool) (w : World) (hr0_1 : Kd.C k45 w A0_1 l0_1.length l0_1) (hc0_1 : l0_1.length ≤ c0_1) (hr0_2 : Kd.C (Kd.int .i64) w A0_2 l0_2.length l0_2) (hc0_2 : l0_2.length ≤ c0_2) (h : spec_l12Can.f a0_0 l0_1 l0_2 a1 = some r) :
  Calls Try.prog 45 #[.agg #[.int .i64 a0_0, .slice A0_1 l0_1.length c0_1, .slice A0_2 l0_2.length c0_2], .int .i64 a1] w fun e w' => e = .returned (.bool r) ∧ Below w.heap.size w w' := by
 have hu37 := Try.underlying37
 have hu45 := Try.underlying45
 have HR0_1 := Aside0.mk hr0_1
 have HC0_1 := Aside0.mk hc0_1
 clear hr0_1 hc0_1
 have HR0_2 := Aside0.mk hr0_2
 have HC0_2 := Aside0.mk hc0_2
 clear hr0_2 hc0_2
 have HB := Aside0.mk (Below.refl w.heap.size w)
 have H : (if 0 ≤ a1 then (if a1 < (l0_1.length : Int) then (if ((rd_T45 l0_1 a1).f3 = true) then (some false) else (if ((rd_T45 l0_1 a1).f0) > 0 then (some true) else (some (decide (((rd_T45 l0_1 a1).f2) > 0))))) else (none)) else (none)) = some r := h
 clear h
 by_cases c3 : 0 ≤ a1
 ·
  rw [if_pos c3] at H
  have c3b0 : decide (0 ≤ a1) = true := decide_eq_true c3
  clear c3
  by_cases c4 : a1 < (l0_1.length : Int)
  ·
   rw [if_pos c4] at H
   have c4b0 : decide (a1 < (l0_1.length : Int)) = true := decide_eq_true c4
   clear c4
   obtain ⟨bq5, hbq5⟩ : ∃ b_ : Bool, b_ = ((rd_T45 l0_1 a1).f3) := ⟨_, rfl⟩
   replace H : (if (bq5 = true) then (some false) else (if ((rd_T45 l0_1 a1).f0) > 0 then (some true) else (some (decide (((rd_T45 l0_1 a1).f2) > 0))))) = some r := by rw [← hbq5] at H; exact H
   have Nbq5 := Aside0.mk hbq5
   clear hbq5
   by_cases c6 : (bq5 = true)
   ·
    subst c6
    rw [if_pos rfl] at H
    obtain rfl := Option.some.inj H
    go_enter Try.func45, Try.ntmps45
    go_wp2_with (first | ((with_reducible refine gate_dst (N := 2) rfl ?_); refine box_event ?hg (N := 2) ?hd (cs := #[.int .i64 a0_0, .slice A0_1 l0_1.length c0_1, .slice A0_2 l0_2.length c0_2]) (t := 37) ?hr ?_; (case hd => rfl); (case hg => rfl); (case hr => first | (go_simp; done) | (go_simp; rfl)); intro gb101 hg w7 hbox hb; have BK101 := Aside0.mk (hbox); have GW101 := Aside0.mk ((by rw [hg]; exact (below_size (bz HB.out)) : w.heap.size ≤ gb101)); have GE101 := Aside0.mk ((by rw [hg]; exact (below_size (bz HB.out)) : w.heap.size ≤ gb101)); replace HB := Aside0.mk (below_step (bz HB.out) hb); clear hb hbox hg; obtain ⟨hcz8_0, hcz8_1, hcz8_2⟩ := cz3 BK101.out; obtain ⟨hfz8_0, hfz8_1, hfz8_2⟩ := fz3 BK101.out; have p102 : 0 ≤ (a1 : Int) := of_decide_eq_true zs; have q102 : a1 < (l0_1.length : Int) := of_decide_eq_true zs; obtain ⟨ad102, e102, hx102_0, hx102_1, hx102_2, hx102_3⟩ := at_T45 HR0_1.out a1 p102 q102; (try rw [← Nbq5.out] at hx102_3); cases e102; replace hx102_0 := pw_cell_below HB.out hx102_0; replace hx102_1 := pw_cell_below HB.out hx102_1; replace hx102_2 := pw_cell_below HB.out hx102_2; replace hx102_3 := pw_cell_below HB.out hx102_3; replace p102 := eq_true p102; replace q102 := eq_true q102) | ((with_reducible refine gate_dst (N := 5) rfl ?_); refine box_event ?hg (N := 5) ?hd (cs := #[.int .i64 0, .int .i64 0, .int .i64 0, .bool false]) (t := 45) ?hr ?_; (case hd => rfl); (case hg => rfl); (case hr => first | (go_simp; done) | (go_simp; rfl)); intro gb103 hg w9 hbox hb; have BK103 := Aside0.mk (hbox); have GW103 := Aside0.mk ((by rw [hg]; exact (below_size (bs HB.out GE101.out)) : w.heap.size ≤ gb103)); have GE103 := Aside0.mk ((by rw [hg]; exact (below_size (bs HB.out GE101.out)) : w.heap.size ≤ gb103)); replace HB := Aside0.mk (below_step (bs HB.out GE101.out) hb); have NB101_103 := Aside0.mk ((by rw [hg]; exact Nat.ne_of_lt (blk_lt (g := gb101) (o := .cells #[.int .i64 a0_0, .slice (some ad102) l0_1.length c0_1, .slice A0_2 l0_2.length c0_2] 37 (0, 0)) (kz BK101.out)) : gb101 ≠ gb103)); have NB103_101 := Aside0.mk ((by rw [hg]; exact Nat.ne_of_gt (blk_lt (g := gb101) (o := .cells #[.int .i64 a0_0, .slice (some ad102) l0_1.length c0_1, .slice A0_2 l0_2.length c0_2] 37 (0, 0)) (kz BK101.out)) : gb103 ≠ gb101)); replace BK101 := Aside0.mk (blk_below (g := gb101) (o := .cells #[.int .i64 a0_0, .slice (some ad102) l0_1.length c0_1, .slice A0_2 l0_2.length c0_2] 37 (0, 0)) (kz BK101.out) hb); clear hb hbox hg; have hnb10 := NB103_101.out; have hnc10 := NB101_103.out; obtain ⟨hcz11_0, hcz11_1, hcz11_2, hcz11_3⟩ := cz4 BK103.out; obtain ⟨hfz11_0, hfz11_1, hfz11_2, hfz11_3⟩ := fz4 BK103.out))
    go_ret
    exact ⟨ze, bs2 HB.out GE101.out GE103.out⟩
   ·
    replace c6 := Bool.eq_false_iff.mpr c6
    subst c6
    rw [if_neg nf_] at H
    by_cases c12 : ((rd_T45 l0_1 a1).f0) > 0
    ·
     rw [if_pos c12] at H
     have c12b0 : decide (0 < ((rd_T45 l0_1 a1).f0)) = true := decide_eq_true c12
     clear c12
     obtain rfl := Option.some.inj H
     go_enter Try.func45, Try.ntmps45
     go_wp2_with (first | ((with_reducible refine gate_dst (N := 2) rfl ?_); refine box_event ?hg (N := 2) ?hd (cs := #[.int .i64 a0_0, .slice A0_1 l0_1.length c0_1, .slice A0_2 l0_2.length c0_2]) (t := 37) ?hr ?_; (case hd => rfl); (case hg => rfl); (case hr => first | (go_simp; done) | (go_simp; rfl)); intro gb101 hg w13 hbox hb; have BK101 := Aside0.mk (hbox); have GW101 := Aside0.mk ((by rw [hg]; exact (below_size (bz HB.out)) : w.heap.size ≤ gb101)); have GE101 := Aside0.mk ((by rw [hg]; exact (below_size (bz HB.out)) : w.heap.size ≤ gb101)); replace HB := Aside0.mk (below_step (bz HB.out) hb); clear hb hbox hg; obtain ⟨hcz14_0, hcz14_1, hcz14_2⟩ := cz3 BK101.out; obtain ⟨hfz14_0, hfz14_1, hfz14_2⟩ := fz3 BK101.out; have p102 : 0 ≤ (a1 : Int) := of_decide_eq_true zs; have q102 : a1 < (l0_1.length : Int) := of_decide_eq_true zs; obtain ⟨ad102, e102, hx102_0, hx102_1, hx102_2, hx102_3⟩ := at_T45 HR0_1.out a1 p102 q102; (try rw [← Nbq5.out] at hx102_3); cases e102; replace hx102_0 := pw_cell_below HB.out hx102_0; replace hx102_1 := pw_cell_below HB.out hx102_1; replace hx102_2 := pw_cell_below HB.out hx102_2; replace hx102_3 := pw_cell_below HB.out hx102_3; replace p102 := eq_true p102; replace q102 := eq_true q102) | ((with_reducible refine gate_dst (N := 5) rfl ?_); refine box_event ?hg (N := 5) ?hd (cs := #[.int .i64 0, .int .i64 0, .int .i64 0, .bool false]) (t := 45) ?hr ?_; (case hd => rfl); (case hg => rfl); (case hr => first | (go_simp; done) | (go_simp; rfl)); intro gb103 hg w15 hbox hb; have BK103 := Aside0.mk (hbox); have GW103 := Aside0.mk ((by rw [hg]; exact (below_size (bs HB.out GE101.out)) : w.heap.size ≤ gb103)); have GE103 := Aside0.mk ((by rw [hg]; exact (below_size (bs HB.out GE101.out)) : w.heap.size ≤ gb103)); replace HB := Aside0.mk (below_step (bs HB.out GE101.out) hb); have NB101_103 := Aside0.mk ((by rw [hg]; exact Nat.ne_of_lt (blk_lt (g := gb101) (o := .cells #[.int .i64 a0_0, .slice (some ad102) l0_1.length c0_1, .slice A0_2 l0_2.length c0_2] 37 (0, 0)) (kz BK101.out)) : gb101 ≠ gb103)); have NB103_101 := Aside0.mk ((by rw [hg]; exact Nat.ne_of_gt (blk_lt (g := gb101) (o := .cells #[.int .i64 a0_0, .slice (some ad102) l0_1.length c0_1, .slice A0_2 l0_2.length c0_2] 37 (0, 0)) (kz BK101.out)) : gb103 ≠ gb101)); replace BK101 := Aside0.mk (blk_below (g := gb101) (o := .cells #[.int .i64 a0_0, .slice (some ad102) l0_1.length c0_1, .slice A0_2 l0_2.length c0_2] 37 (0, 0)) (kz BK101.out) hb); clear hb hbox hg; have hnb16 := NB103_101.out; have hnc16 := NB101_103.out; obtain ⟨hcz17_0, hcz17_1, hcz17_2, hcz17_3⟩ := cz4 BK103.out; obtain ⟨hfz17_0, hfz17_1, hfz17_2, hfz17_3⟩ := fz4 BK103.out))
     go_ret
     exact ⟨ze, bs2 HB.out GE101.out GE103.out⟩
    ·
     rw [if_neg c12] at H
     have c12b0 : decide (0 < ((rd_T45 l0_1 a1).f0)) = false := decide_eq_false c12
     clear c12
     obtain rfl := Option.some.inj H
     go_enter Try.func45, Try.ntmps45
     go_wp2_with (first | ((with_reducible refine gate_dst (N := 2) rfl ?_); refine box_event ?hg (N := 2) ?hd (cs := #[.int .i64 a0_0, .slice A0_1 l0_1.length c0_1, .slice A0_2 l0_2.length c0_2]) (t := 37) ?hr ?_; (case hd => rfl); (case hg => rfl); (case hr => first | (go_simp; done) | (go_simp; rfl)); intro gb101 hg w18 hbox hb; have BK101 := Aside0.mk (hbox); have GW101 := Aside0.mk ((by rw [hg]; exact (below_size (bz HB.out)) : w.heap.size ≤ gb101)); have GE101 := Aside0.mk ((by rw [hg]; exact (below_size (bz HB.out)) : w.heap.size ≤ gb101)); replace HB := Aside0.mk (below_step (bz HB.out) hb); clear hb hbox hg; obtain ⟨hcz19_0, hcz19_1, hcz19_2⟩ := cz3 BK101.out; obtain ⟨hfz19_0, hfz19_1, hfz19_2⟩ := fz3 BK101.out; have p102 : 0 ≤ (a1 : Int) := of_decide_eq_true zs; have q102 : a1 < (l0_1.length : Int) := of_decide_eq_true zs; obtain ⟨ad102, e102, hx102_0, hx102_1, hx102_2, hx102_3⟩ := at_T45 HR0_1.out a1 p102 q102; (try rw [← Nbq5.out] at hx102_3); cases e102; replace hx102_0 := pw_cell_below HB.out hx102_0; replace hx102_1 := pw_cell_below HB.out hx102_1; replace hx102_2 := pw_cell_below HB.out hx102_2; replace hx102_3 := pw_cell_below HB.out hx102_3; replace p102 := eq_true p102; replace q102 := eq_true q102) | ((with_reducible refine gate_dst (N := 5) rfl ?_); refine box_event ?hg (N := 5) ?hd (cs := #[.int .i64 0, .int .i64 0, .int .i64 0, .bool false]) (t := 45) ?hr ?_; (case hd => rfl); (case hg => rfl); (case hr => first | (go_simp; done) | (go_simp; rfl)); intro gb103 hg w20 hbox hb; have BK103 := Aside0.mk (hbox); have GW103 := Aside0.mk ((by rw [hg]; exact (below_size (bs HB.out GE101.out)) : w.heap.size ≤ gb103)); have GE103 := Aside0.mk ((by rw [hg]; exact (below_size (bs HB.out GE101.out)) : w.heap.size ≤ gb103)); replace HB := Aside0.mk (below_step (bs HB.out GE101.out) hb); have NB101_103 := Aside0.mk ((by rw [hg]; exact Nat.ne_of_lt (blk_lt (g := gb101) (o := .cells #[.int .i64 a0_0, .slice (some ad102) l0_1.length c0_1, .slice A0_2 l0_2.length c0_2] 37 (0, 0)) (kz BK101.out)) : gb101 ≠ gb103)); have NB103_101 := Aside0.mk ((by rw [hg]; exact Nat.ne_of_gt (blk_lt (g := gb101) (o := .cells #[.int .i64 a0_0, .slice (some ad102) l0_1.length c0_1, .slice A0_2 l0_2.length c0_2] 37 (0, 0)) (kz BK101.out)) : gb103 ≠ gb101)); replace BK101 := Aside0.mk (blk_below (g := gb101) (o := .cells #[.int .i64 a0_0, .slice (some ad102) l0_1.length c0_1, .slice A0_2 l0_2.length c0_2] 37 (0, 0)) (kz BK101.out) hb); clear hb hbox hg; have hnb21 := NB103_101.out; have hnc21 := NB101_103.out; obtain ⟨hcz22_0, hcz22_1, hcz22_2, hcz22_3⟩ := cz4 BK103.out; obtain ⟨hfz22_0, hfz22_1, hfz22_2, hfz22_3⟩ := fz4 BK103.out))
     go_ret
     exact ⟨ze, bs2 HB.out GE101.out GE103.out⟩
  ·
   rw [if_neg c4] at H
   exact absurd H (by simp)
 ·
  rw [if_neg c3] at H
  exact absurd H (by simp)

end Go.Proofs.Ytmpdoodimmmemaa.P
