-- printed by wip/qd.py, laid together by wip/mergepf.py
import Derived.Test.YthoapmfpokohnaaPf0
import Derived.Test.YthoapmfpokohnaaPfM7
namespace Go.Proofs.Ythoapmfpokohnaa.P
open Go.RowKit Go.Proofs.YthoapmfpokohnaaW.PrintWords Go.Proofs.YthoapmfpokohnaaW.PrintLast Go.Proofs.YthoapmfpokohnaaW.PrintMore
attribute [local go_sem] max2_int min2_int max_two min_two max_three min_three max_four min_four Q.cell_set_map Q.str_gtr Q.str_geq Q.str_leq
set_option linter.unusedVariables false
set_option linter.unusedSimpArgs false

/-! ### impl_PagesOk: function 53 -/
mutual
def impl_PagesOk.j0 : Nat → Bool → List ByteArray → List Int → Option (Bool)
 | 0, _, _, _ => none
 | k + 1, x19, x102000, x102001 => if x19 = true then (some false) else (impl_PagesOk.l0 k x102001 (x102001.length : Int) 0 x102000 x102001)
def impl_PagesOk.l0 : Nat → List Int → Int → Int → List ByteArray → List Int → Option (Bool)
 | 0, _, _, _, _, _ => none
 | k + 1, x21, x22, x23, x102000, x102001 => if x23 < x22 then (if 0 ≤ x23 then (if x23 < (x21.length : Int) then (if (rd x21 x23) = 0 then ((impl_in.f (rd x21 x23) 0 99).bind fun t104 => (if t104 = true then (if x23 < (x102000.length : Int) then (if ((rdOf ByteArray.empty x102000 x23).size : Int) = 0 then (impl_PagesOk.l0 k x21 x22 (wrap64 (x23 + 1)) x102000 x102001) else (some false)) else (none)) else (some false))) else ((impl_in.f (rd x21 x23) 0 99).bind fun t106 => (if t106 = true then (if x23 < (x102000.length : Int) then (if ((rdOf ByteArray.empty x102000 x23).size : Int) = 4 then (impl_PagesOk.l0 k x21 x22 (wrap64 (x23 + 1)) x102000 x102001) else (some false)) else (none)) else (some false)))) else (none)) else (none)) else (some true)
end
def impl_PagesOk.f (k : Nat) (l0_0 : List ByteArray) (l0_1 : List Int) : Option (Bool) := if (l0_0.length : Int) = (l0_1.length : Int) then ((impl_in.f (l0_0.length : Int) 1 12).bind fun t102 => (impl_PagesOk.j0 k (!t102) l0_0 l0_1)) else (impl_PagesOk.j0 k true l0_0 l0_1)
theorem impl_PagesOk.mono_l : ∀ k, (∀ y0 y1 y2, LeO (impl_PagesOk.j0 k y0 y1 y2) (impl_PagesOk.j0 (k + 1) y0 y1 y2)) ∧ (∀ y0 y1 y2 y3 y4, LeO (impl_PagesOk.l0 k y0 y1 y2 y3 y4) (impl_PagesOk.l0 (k + 1) y0 y1 y2 y3 y4))
 | 0 => ⟨fun _ _ _ r h => by simp [impl_PagesOk.j0] at h, fun _ _ _ _ _ r h => by simp [impl_PagesOk.l0] at h⟩
 | k + 1 => by
  obtain ⟨ih0, ih1⟩ := impl_PagesOk.mono_l k
  refine ⟨?_, ?_⟩
  ·
   intro y0 y1 y2
   unfold impl_PagesOk.j0
   repeat' first
   | (with_reducible exact ih0 _ _ _)
   | (with_reducible exact ih1 _ _ _ _ _)
   | (with_reducible exact LeO.refl _)
   | (with_reducible exact LeO.none _)
   | (with_reducible refine LeO.ite ?_ ?_)
   | (with_reducible refine LeO.bind ?_ (fun _ => ?_))
   | exact ih0 _ _ _
   | exact ih1 _ _ _ _ _
   | exact LeO.none _
   | refine LeO.ite ?_ ?_
   | refine LeO.bind ?_ (fun _ => ?_)
  ·
   intro y0 y1 y2 y3 y4
   unfold impl_PagesOk.l0
   repeat' first
   | (with_reducible exact ih0 _ _ _)
   | (with_reducible exact ih1 _ _ _ _ _)
   | (with_reducible exact LeO.refl _)
   | (with_reducible exact LeO.none _)
   | (with_reducible refine LeO.ite ?_ ?_)
   | (with_reducible refine LeO.bind ?_ (fun _ => ?_))
   | exact ih0 _ _ _
   | exact ih1 _ _ _ _ _
   | exact LeO.none _
   | refine LeO.ite ?_ ?_
   | refine LeO.bind ?_ (fun _ => ?_)
theorem impl_PagesOk.mono : ∀ a0 a1 k, LeO (impl_PagesOk.f k a0 a1) (impl_PagesOk.f (k + 1) a0 a1) := by
 intro a0 a1 k
 obtain ⟨ih0, ih1⟩ := impl_PagesOk.mono_l k
 unfold impl_PagesOk.f
 repeat' first
   | (with_reducible exact ih0 _ _ _)
   | (with_reducible exact ih1 _ _ _ _ _)
   | (with_reducible exact LeO.refl _)
   | (with_reducible exact LeO.none _)
   | (with_reducible refine LeO.ite ?_ ?_)
   | (with_reducible refine LeO.bind ?_ (fun _ => ?_))
   | exact ih0 _ _ _
   | exact ih1 _ _ _ _ _
   | exact LeO.none _
   | refine LeO.ite ?_ ?_
   | refine LeO.bind ?_ (fun _ => ?_)
set_option maxHeartbeats 8000000 in
set_option maxRecDepth 100000 in
theorem impl_PagesOk.calls (k : Nat) (A0_0 : Option Addr) (c0_0 : Nat) (l0_0 : List ByteArray) (A0_1 : Option Addr) (c0_1 : Nat) (l0_1 : List Int) (r : Bool) (w : World) (hr0_0 : Kd.C Kd.string w A0_0 l0_0.length l0_0) (hc0_0 : l0_0.length ≤ c0_0) (hr0_1 : Kd.C (Kd.int .i64) w A0_1 l0_1.length l0_1) (hc0_1 : l0_1.length ≤ c0_1) (h : impl_PagesOk.f k l0_0 l0_1 = some r) :
  Calls Try.prog 53 #[.agg #[.slice A0_0 l0_0.length c0_0, .slice A0_1 l0_1.length c0_1]] w fun e w' => e = .returned (.bool r) ∧ Below w.heap.size w w' := by
 have hu43 := Try.underlying43; have HR0_0 := Aside0.mk hr0_0; have HC0_0 := Aside0.mk hc0_0; clear hr0_0 hc0_0; have HR0_1 := Aside0.mk hr0_1; have HC0_1 := Aside0.mk hc0_1; clear hr0_1 hc0_1; have HB := Aside0.mk (Below.refl w.heap.size w); have H : (if (l0_0.length : Int) = (l0_1.length : Int) then ((impl_in.f (l0_0.length : Int) 1 12).bind fun t102 => (impl_PagesOk.j0 k (!t102) l0_0 l0_1)) else (impl_PagesOk.j0 k true l0_0 l0_1)) = some r := h; clear h; have HC2 := Aside0.mk H; clear H
 go_enter Try.func53, Try.ntmps53
 go_upto_region 1 with (first | ((with_reducible refine gate_dst (N := 1) rfl ?_); (try (refine gate_guard (by rfl) ?_; dsimp only)); refine box_event ?hg (N := 1) ?hd (cs := #[.slice A0_0 l0_0.length c0_0, .slice A0_1 l0_1.length c0_1]) (t := 43) ?hr ?_; (case hd => rfl); (case hg => rfl); (case hr => first | (go_simp; done) | (go_simp; rfl)); intro gb101 hg w3 hbox hb; have BK101 := Aside0.mk (hbox); have GW101 := Aside0.mk ((by rw [hg]; exact (below_size (bz HB.out)) : w.heap.size ≤ gb101)); have GE101 := GW101; replace HB := Aside0.mk (below_step (bz HB.out) hb); clear hb hbox hg))
 (try simp only [Act.put, List.setIfInBounds_toArray, List.set_cons_zero, List.set_cons_succ])
 go_cut [19] (fun v19 wc => ∃ (kq : Nat) (x19_1 : Bool), v19 = .bool x19_1 ∧ Aside0 (impl_PagesOk.j0 kq x19_1 l0_0 l0_1 = some r) ∧ Aside0 (kq ≤ k) ∧ Aside0 (wc.heap[gb101]? = some (.cells #[(.slice A0_0 l0_0.length c0_0), (.slice A0_1 l0_1.length c0_1)] 43 (0, 0))) ∧ Aside0 (Below w.heap.size w wc))
 case first =>
  have H := HC2.out; clear HC2
  by_cases c4 : (l0_0.length : Int) = (l0_1.length : Int)
  ·
   rw [if_pos c4] at H; have c4b0 : ((l0_0.length : Int) == (l0_1.length : Int)) = true := beq_iff_eq.mpr c4; have c4b1 : ((l0_0.length : Int) != (l0_1.length : Int)) = false := bne_eq_false_iff_eq.mpr c4
   have c4b2 : (l0_0.length == l0_1.length) = true := by first | simpa using c4 | (simp at c4 ⊢; omega)
   clear c4
   (first | rw [c4b0] | (simp only [i64_w, i32_w]; rw [c4b0]) | skip)
   replace H := Option.bind_eq_some_iff.mp H; obtain ⟨t102, A50, H⟩ := H; have A5 := Aside0.mk A50; clear A50; have H' := Aside0.mk H; clear H; obtain ⟨hcz6_0, hcz6_1⟩ := cz2 BK101.out; obtain ⟨hfz6_0, hfz6_1⟩ := fz2 BK101.out
   go_wp2_with (first | (go_at_call 41; (with_reducible refine (impl_in.calls (l0_0.length : Int) 1 12 t102 _ A5.out).mono ?_); rintro e w' ⟨rfl, ⟨nd, rfl⟩⟩))
   go_meet
   case rel => exact ⟨_, (!t102), zr, H', ⟨by first | omega | exact Nat.le_refl _⟩, ⟨kz (BK101.out)⟩, ⟨bs HB.out GE101.out⟩⟩
  ·
   rw [if_neg c4] at H; have c4b0 : ((l0_0.length : Int) == (l0_1.length : Int)) = false := beq_eq_false_iff_ne.mpr c4; have c4b1 : ((l0_0.length : Int) != (l0_1.length : Int)) = true := bne_iff_ne.mpr c4
   have c4b2 : (l0_0.length == l0_1.length) = false := by first | simpa using c4 | (simp at c4 ⊢; omega)
   (first | rw [c4b0] | (simp only [i64_w, i32_w]; rw [c4b0]) | skip)
   have H' := Aside0.mk H; clear H; obtain ⟨hcz7_0, hcz7_1⟩ := cz2 BK101.out; obtain ⟨hfz7_0, hfz7_1⟩ := fz2 BK101.out
   go_wp2
   go_meet
   case rel => exact ⟨_, (true), zr, H', ⟨by first | omega | exact Nat.le_refl _⟩, ⟨kz (BK101.out)⟩, ⟨bs HB.out GE101.out⟩⟩
 case rest =>
  clear HC2
  try clear p2
  try clear c4
  try clear c4b0
  try clear c4b1
  try clear c4b2
  try clear c5
  try clear hcz6_0
  try clear hcz6_1
  try clear hcz7_0
  try clear hcz7_1
  try clear hfz6_0
  try clear hfz6_1
  try clear hfz7_0
  try clear hfz7_1
  obtain ⟨kq, x19_1, rfl, HA, HJ1, BK101, HB⟩ := hcut
  cases kq with
  | zero => exact absurd HA.out (by simp [impl_PagesOk.j0])
  | succ kj1 =>
   have H := HA.out; clear HA; simp only [impl_PagesOk.j0] at H
   by_cases c8 : x19_1 = true
   ·
    subst c8; rw [if_pos rfl] at H; obtain rfl := Option.some.inj H
    go_wp2
    go_ret
    exact ⟨ze, bs HB.out GE101.out⟩
   ·
    replace c8 := Bool.eq_false_iff.mpr c8; subst c8; rw [if_neg nf_] at H; have H' := Aside0.mk H; clear H; obtain ⟨hcz9_0, hcz9_1⟩ := cz2 BK101.out; obtain ⟨hfz9_0, hfz9_1⟩ := fz2 BK101.out
    go_wp2
    go_loopg [23] kj1 (fun kq v23 w' => ∃ (x23_2 : Int), v23 = .int .i64 x23_2 ∧ Aside0 (impl_PagesOk.l0 kq l0_1 (l0_1.length : Int) x23_2 l0_0 l0_1 = some r) ∧ Aside0 (kq ≤ kj1) ∧ Aside0 (w'.heap[gb101]? = some (.cells #[(.slice A0_0 l0_0.length c0_0), (.slice A0_1 l0_1.length c0_1)] 43 (0, 0))) ∧ Aside0 (Below w.heap.size w w'))
    case atStart => exact ⟨(0), zr, H', ⟨Nat.le_refl _⟩, ⟨kz (BK101.out)⟩, ⟨bs HB.out GE101.out⟩⟩
    case round =>
     clear H'
     try clear p2
     try clear c4
     try clear c4b0
     try clear c4b1
     try clear c4b2
     try clear c5
     try clear c8
     try clear hcz6_0
     try clear hcz6_1
     try clear hcz7_0
     try clear hcz7_1
     try clear hcz9_0
     try clear hcz9_1
     try clear hfz6_0
     try clear hfz6_1
     try clear hfz7_0
     try clear hfz7_1
     try clear hfz9_0
     try clear hfz9_1
     try clear p2
     obtain ⟨x23_2, rfl, HA, HK2, BK101, HB⟩ := hrel
     cases gk with
     | zero => exact absurd HA.out (by simp [impl_PagesOk.l0])
     | succ k2 =>
      have H := HA.out; clear HA; simp only [impl_PagesOk.l0] at H
      by_cases c10 : x23_2 < (l0_1.length : Int)
      ·
       rw [if_pos c10] at H; have c10b0 : decide (x23_2 < (l0_1.length : Int)) = true := decide_eq_true c10; clear c10
       by_cases c11 : 0 ≤ x23_2
       ·
        rw [if_pos c11] at H; have c11b0 : decide (0 ≤ x23_2) = true := decide_eq_true c11; clear c11
        by_cases c12 : x23_2 < (l0_1.length : Int)
        ·
         rw [if_pos c12] at H; have c12b0 : decide (x23_2 < (l0_1.length : Int)) = true := decide_eq_true c12; clear c12
         by_cases c13 : (rd l0_1 x23_2) = 0
         ·
          rw [if_pos c13] at H; have c13b0 : ((rd l0_1 x23_2) == 0) = true := beq_iff_eq.mpr c13; have c13b1 : ((rd l0_1 x23_2) != 0) = false := bne_eq_false_iff_eq.mpr c13; clear c13; replace H := Option.bind_eq_some_iff.mp H; obtain ⟨t104, A140, H⟩ := H; have A14 := Aside0.mk A140; clear A140
          by_cases c15 : t104 = true
          ·
           subst c15; rw [if_pos rfl] at H
           by_cases c16 : x23_2 < (l0_0.length : Int)
           ·
            rw [if_pos c16] at H; have c16b0 : decide (x23_2 < (l0_0.length : Int)) = true := decide_eq_true c16; clear c16
            by_cases c17 : ((rdOf ByteArray.empty l0_0 x23_2).size : Int) = 0
            ·
             rw [if_pos c17] at H; have c17b0 : (((rdOf ByteArray.empty l0_0 x23_2).size : Int) == 0) = true := beq_iff_eq.mpr c17; have c17b1 : (((rdOf ByteArray.empty l0_0 x23_2).size : Int) != 0) = false := bne_eq_false_iff_eq.mpr c17; clear c17; have H' := Aside0.mk H; clear H; have p103 : 0 ≤ (x23_2 : Int) := of_decide_eq_true zs; have q103 : x23_2 < (l0_1.length : Int) := of_decide_eq_true zs; obtain ⟨ad103, e103, hx103_0⟩ := Kd.at_int HR0_1.out x23_2 p103 q103; cases e103; replace hx103_0 := pw_cell_below HB.out hx103_0; replace p103 := eq_true p103; replace q103 := eq_true q103
             go_wp2_with (first | ((with_reducible refine gate_callee (f := 41) rfl ?_); refine goesL_ (some 31) rfl rfl Try.func41 zk rfl #[.int .i64 (rd l0_1 x23_2), .int .i64 0, .int .i64 99] rfl zm ?_; (with_reducible refine (impl_in.calls (rd l0_1 x23_2) 0 99 true _ A14.out).mono ?_); rintro e w' ⟨rfl, ⟨nd, rfl⟩⟩; refine ⟨_, rfl, ?_⟩; obtain ⟨hcz18_0, hcz18_1⟩ := cz2 BK101.out; obtain ⟨hfz18_0, hfz18_1⟩ := fz2 BK101.out; have p105 : 0 ≤ (x23_2 : Int) := of_decide_eq_true zs; have q105 : x23_2 < (l0_0.length : Int) := of_decide_eq_true zs; obtain ⟨ad105, e105, hx105_0⟩ := Kd.at_string HR0_0.out x23_2 p105 q105; cases e105; replace hx105_0 := pw_cell_below HB.out hx105_0; replace p105 := eq_true p105; replace q105 := eq_true q105))
             go_roundg k2
             case measure => have := HJ1.out; have := HK2.out; omega
             case rel => exact ⟨(wrap64 (x23_2 + 1)), zr, H', ⟨by have := HJ1.out; have := HK2.out; omega⟩, ⟨kz (BK101.out)⟩, ⟨bs HB.out GE101.out⟩⟩
            ·
             rw [if_neg c17] at H; have c17b0 : (((rdOf ByteArray.empty l0_0 x23_2).size : Int) == 0) = false := beq_eq_false_iff_ne.mpr c17; have c17b1 : (((rdOf ByteArray.empty l0_0 x23_2).size : Int) != 0) = true := bne_iff_ne.mpr c17; obtain rfl := Option.some.inj H; have p103 : 0 ≤ (x23_2 : Int) := of_decide_eq_true zs; have q103 : x23_2 < (l0_1.length : Int) := of_decide_eq_true zs; obtain ⟨ad103, e103, hx103_0⟩ := Kd.at_int HR0_1.out x23_2 p103 q103; cases e103; replace hx103_0 := pw_cell_below HB.out hx103_0; replace p103 := eq_true p103; replace q103 := eq_true q103
             go_wp2_with (first | ((with_reducible refine gate_callee (f := 41) rfl ?_); refine goesL_ (some 31) rfl rfl Try.func41 zk rfl #[.int .i64 (rd l0_1 x23_2), .int .i64 0, .int .i64 99] rfl zm ?_; (with_reducible refine (impl_in.calls (rd l0_1 x23_2) 0 99 true _ A14.out).mono ?_); rintro e w' ⟨rfl, ⟨nd, rfl⟩⟩; refine ⟨_, rfl, ?_⟩; obtain ⟨hcz19_0, hcz19_1⟩ := cz2 BK101.out; obtain ⟨hfz19_0, hfz19_1⟩ := fz2 BK101.out; have p105 : 0 ≤ (x23_2 : Int) := of_decide_eq_true zs; have q105 : x23_2 < (l0_0.length : Int) := of_decide_eq_true zs; obtain ⟨ad105, e105, hx105_0⟩ := Kd.at_string HR0_0.out x23_2 p105 q105; cases e105; replace hx105_0 := pw_cell_below HB.out hx105_0; replace p105 := eq_true p105; replace q105 := eq_true q105))
             go_ret
             exact ⟨ze, bs HB.out GE101.out⟩
           ·
            rw [if_neg c16] at H
            exact absurd H (by simp)
          ·
           replace c15 := Bool.eq_false_iff.mpr c15; subst c15; rw [if_neg nf_] at H; obtain rfl := Option.some.inj H; have p103 : 0 ≤ (x23_2 : Int) := of_decide_eq_true zs; have q103 : x23_2 < (l0_1.length : Int) := of_decide_eq_true zs; obtain ⟨ad103, e103, hx103_0⟩ := Kd.at_int HR0_1.out x23_2 p103 q103; cases e103; replace hx103_0 := pw_cell_below HB.out hx103_0; replace p103 := eq_true p103; replace q103 := eq_true q103
           go_wp2_with (first | ((with_reducible refine gate_callee (f := 41) rfl ?_); refine goesL_ (some 31) rfl rfl Try.func41 zk rfl #[.int .i64 (rd l0_1 x23_2), .int .i64 0, .int .i64 99] rfl zm ?_; (with_reducible refine (impl_in.calls (rd l0_1 x23_2) 0 99 false _ A14.out).mono ?_); rintro e w' ⟨rfl, ⟨nd, rfl⟩⟩; refine ⟨_, rfl, ?_⟩))
           go_ret
           exact ⟨ze, bs HB.out GE101.out⟩
         ·
          rw [if_neg c13] at H; have c13b0 : ((rd l0_1 x23_2) == 0) = false := beq_eq_false_iff_ne.mpr c13; have c13b1 : ((rd l0_1 x23_2) != 0) = true := bne_iff_ne.mpr c13; replace H := Option.bind_eq_some_iff.mp H; obtain ⟨t106, A200, H⟩ := H; have A20 := Aside0.mk A200; clear A200
          by_cases c21 : t106 = true
          ·
           subst c21; rw [if_pos rfl] at H
           by_cases c22 : x23_2 < (l0_0.length : Int)
           ·
            rw [if_pos c22] at H; have c22b0 : decide (x23_2 < (l0_0.length : Int)) = true := decide_eq_true c22; clear c22
            by_cases c23 : ((rdOf ByteArray.empty l0_0 x23_2).size : Int) = 4
            ·
             rw [if_pos c23] at H; have c23b0 : (((rdOf ByteArray.empty l0_0 x23_2).size : Int) == 4) = true := beq_iff_eq.mpr c23; have c23b1 : (((rdOf ByteArray.empty l0_0 x23_2).size : Int) != 4) = false := bne_eq_false_iff_eq.mpr c23; clear c23; have H' := Aside0.mk H; clear H; have p103 : 0 ≤ (x23_2 : Int) := of_decide_eq_true zs; have q103 : x23_2 < (l0_1.length : Int) := of_decide_eq_true zs; obtain ⟨ad103, e103, hx103_0⟩ := Kd.at_int HR0_1.out x23_2 p103 q103; cases e103; replace hx103_0 := pw_cell_below HB.out hx103_0; replace p103 := eq_true p103; replace q103 := eq_true q103
             go_wp2_with (first | ((with_reducible refine gate_callee (f := 41) rfl ?_); refine goesL_ (some 31) rfl rfl Try.func41 zk rfl #[.int .i64 (rd l0_1 x23_2), .int .i64 0, .int .i64 99] rfl zm ?_; (with_reducible refine (impl_in.calls (rd l0_1 x23_2) 0 99 true _ A20.out).mono ?_); rintro e w' ⟨rfl, ⟨nd, rfl⟩⟩; refine ⟨_, rfl, ?_⟩; obtain ⟨hcz24_0, hcz24_1⟩ := cz2 BK101.out; obtain ⟨hfz24_0, hfz24_1⟩ := fz2 BK101.out; have p107 : 0 ≤ (x23_2 : Int) := of_decide_eq_true zs; have q107 : x23_2 < (l0_0.length : Int) := of_decide_eq_true zs; obtain ⟨ad107, e107, hx107_0⟩ := Kd.at_string HR0_0.out x23_2 p107 q107; cases e107; replace hx107_0 := pw_cell_below HB.out hx107_0; replace p107 := eq_true p107; replace q107 := eq_true q107))
             go_roundg k2
             case measure => have := HJ1.out; have := HK2.out; omega
             case rel => exact ⟨(wrap64 (x23_2 + 1)), zr, H', ⟨by have := HJ1.out; have := HK2.out; omega⟩, ⟨kz (BK101.out)⟩, ⟨bs HB.out GE101.out⟩⟩
            ·
             rw [if_neg c23] at H; have c23b0 : (((rdOf ByteArray.empty l0_0 x23_2).size : Int) == 4) = false := beq_eq_false_iff_ne.mpr c23; have c23b1 : (((rdOf ByteArray.empty l0_0 x23_2).size : Int) != 4) = true := bne_iff_ne.mpr c23; obtain rfl := Option.some.inj H; have p103 : 0 ≤ (x23_2 : Int) := of_decide_eq_true zs; have q103 : x23_2 < (l0_1.length : Int) := of_decide_eq_true zs; obtain ⟨ad103, e103, hx103_0⟩ := Kd.at_int HR0_1.out x23_2 p103 q103; cases e103; replace hx103_0 := pw_cell_below HB.out hx103_0; replace p103 := eq_true p103; replace q103 := eq_true q103
             go_wp2_with (first | ((with_reducible refine gate_callee (f := 41) rfl ?_); refine goesL_ (some 31) rfl rfl Try.func41 zk rfl #[.int .i64 (rd l0_1 x23_2), .int .i64 0, .int .i64 99] rfl zm ?_; (with_reducible refine (impl_in.calls (rd l0_1 x23_2) 0 99 true _ A20.out).mono ?_); rintro e w' ⟨rfl, ⟨nd, rfl⟩⟩; refine ⟨_, rfl, ?_⟩; obtain ⟨hcz25_0, hcz25_1⟩ := cz2 BK101.out; obtain ⟨hfz25_0, hfz25_1⟩ := fz2 BK101.out; have p107 : 0 ≤ (x23_2 : Int) := of_decide_eq_true zs; have q107 : x23_2 < (l0_0.length : Int) := of_decide_eq_true zs; obtain ⟨ad107, e107, hx107_0⟩ := Kd.at_string HR0_0.out x23_2 p107 q107; cases e107; replace hx107_0 := pw_cell_below HB.out hx107_0; replace p107 := eq_true p107; replace q107 := eq_true q107))
             go_ret
             exact ⟨ze, bs HB.out GE101.out⟩
           ·
            rw [if_neg c22] at H
            exact absurd H (by simp)
          ·
           replace c21 := Bool.eq_false_iff.mpr c21; subst c21; rw [if_neg nf_] at H; obtain rfl := Option.some.inj H; have p103 : 0 ≤ (x23_2 : Int) := of_decide_eq_true zs; have q103 : x23_2 < (l0_1.length : Int) := of_decide_eq_true zs; obtain ⟨ad103, e103, hx103_0⟩ := Kd.at_int HR0_1.out x23_2 p103 q103; cases e103; replace hx103_0 := pw_cell_below HB.out hx103_0; replace p103 := eq_true p103; replace q103 := eq_true q103
           go_wp2_with (first | ((with_reducible refine gate_callee (f := 41) rfl ?_); refine goesL_ (some 31) rfl rfl Try.func41 zk rfl #[.int .i64 (rd l0_1 x23_2), .int .i64 0, .int .i64 99] rfl zm ?_; (with_reducible refine (impl_in.calls (rd l0_1 x23_2) 0 99 false _ A20.out).mono ?_); rintro e w' ⟨rfl, ⟨nd, rfl⟩⟩; refine ⟨_, rfl, ?_⟩))
           go_ret
           exact ⟨ze, bs HB.out GE101.out⟩
        ·
         rw [if_neg c12] at H
         exact absurd H (by simp)
       ·
        rw [if_neg c11] at H
        exact absurd H (by simp)
      ·
       rw [if_neg c10] at H; have c10b0 : decide (x23_2 < (l0_1.length : Int)) = false := decide_eq_false c10; clear c10; obtain rfl := Option.some.inj H
       go_wp2
       go_ret
       exact ⟨ze, bs HB.out GE101.out⟩

end Go.Proofs.Ythoapmfpokohnaa.P

namespace Go.Proofs.Ythoapmfpokohnaa.P
open Go.RowKit Go.Proofs.YthoapmfpokohnaaW.PrintWords Go.Proofs.YthoapmfpokohnaaW.PrintLast Go.Proofs.YthoapmfpokohnaaW.PrintMore
attribute [local go_sem] max2_int min2_int max_two min_two max_three min_three max_four min_four Q.cell_set_map Q.str_gtr Q.str_geq Q.str_leq
set_option linter.unusedVariables false
set_option linter.unusedSimpArgs false

/-! ### impl_Pages_has: function 56 -/
def impl_Pages_has.f (l0_0 : List ByteArray) (l0_1 : List Int) (a1 : Int) : Option (Bool) := (impl_in.f a1 0 (wrap64 ((l0_1.length : Int) - 1))).bind fun t102 => (if t102 = true then (if 0 ≤ a1 then (if a1 < (l0_1.length : Int) then (some (decide ((rd l0_1 a1) > 0))) else (none)) else (none)) else (some false))
set_option maxHeartbeats 8000000 in
set_option maxRecDepth 100000 in
theorem impl_Pages_has.calls (A0_0 : Option Addr) (c0_0 : Nat) (l0_0 : List ByteArray) (A0_1 : Option Addr) (c0_1 : Nat) (l0_1 : List Int) (a1 : Int) (r : Bool) (w : World) (hr0_0 : Kd.C Kd.string w A0_0 l0_0.length l0_0) (hc0_0 : l0_0.length ≤ c0_0) (hr0_1 : Kd.C (Kd.int .i64) w A0_1 l0_1.length l0_1) (hc0_1 : l0_1.length ≤ c0_1) (h : impl_Pages_has.f l0_0 l0_1 a1 = some r) :
  Calls Try.prog 56 #[.agg #[.slice A0_0 l0_0.length c0_0, .slice A0_1 l0_1.length c0_1], .int .i64 a1] w fun e w' => e = .returned (.bool r) ∧ Below w.heap.size w w' := by
 have hu43 := Try.underlying43
 have HR0_0 := Aside0.mk hr0_0
 have HC0_0 := Aside0.mk hc0_0
 clear hr0_0 hc0_0
 have HR0_1 := Aside0.mk hr0_1
 have HC0_1 := Aside0.mk hc0_1
 clear hr0_1 hc0_1
 have HB := Aside0.mk (Below.refl w.heap.size w)
 have H : ((impl_in.f a1 0 (wrap64 ((l0_1.length : Int) - 1))).bind fun t102 => (if t102 = true then (if 0 ≤ a1 then (if a1 < (l0_1.length : Int) then (some (decide ((rd l0_1 a1) > 0))) else (none)) else (none)) else (some false))) = some r := h
 clear h
 replace H := Option.bind_eq_some_iff.mp H
 obtain ⟨t102, A30, H⟩ := H
 have A3 := Aside0.mk A30
 clear A30
 by_cases c4 : t102 = true
 ·
  subst c4
  rw [if_pos rfl] at H
  by_cases c5 : 0 ≤ a1
  ·
   rw [if_pos c5] at H
   have c5b0 : decide (0 ≤ a1) = true := decide_eq_true c5
   clear c5
   by_cases c6 : a1 < (l0_1.length : Int)
   ·
    rw [if_pos c6] at H
    have c6b0 : decide (a1 < (l0_1.length : Int)) = true := decide_eq_true c6
    clear c6
    obtain rfl := Option.some.inj H
    go_enter Try.func56, Try.ntmps56
    go_wp2_with (first | ((with_reducible refine gate_dst (N := 2) rfl ?_); refine box_event ?hg (N := 2) ?hd (cs := #[.slice A0_0 l0_0.length c0_0, .slice A0_1 l0_1.length c0_1]) (t := 43) ?hr ?_; (case hd => rfl); (case hg => rfl); (case hr => first | (go_simp; done) | (go_simp; rfl)); intro gb101 hg w7 hbox hb; have BK101 := Aside0.mk (hbox); have GW101 := Aside0.mk ((by rw [hg]; exact (below_size (bz HB.out)) : w.heap.size ≤ gb101)); have GE101 := Aside0.mk ((by rw [hg]; exact (below_size (bz HB.out)) : w.heap.size ≤ gb101)); replace HB := Aside0.mk (below_step (bz HB.out) hb); clear hb hbox hg; obtain ⟨hcz8_0, hcz8_1⟩ := cz2 BK101.out; obtain ⟨hfz8_0, hfz8_1⟩ := fz2 BK101.out) | ((with_reducible refine gate_callee (f := 41) rfl ?_); refine goesL_ (some 10) rfl rfl Try.func41 zk rfl #[.int .i64 a1, .int .i64 0, .int .i64 (wrap64 ((l0_1.length : Int) - 1))] rfl zm ?_; (with_reducible refine (impl_in.calls a1 0 (wrap64 ((l0_1.length : Int) - 1)) true _ A3.out).mono ?_); rintro e w' ⟨rfl, ⟨nd, rfl⟩⟩; refine ⟨_, rfl, ?_⟩; have p103 : 0 ≤ (a1 : Int) := of_decide_eq_true zs; have q103 : a1 < (l0_1.length : Int) := of_decide_eq_true zs; obtain ⟨ad103, e103, hx103_0⟩ := Kd.at_int HR0_1.out a1 p103 q103; cases e103; replace hx103_0 := pw_cell_below HB.out hx103_0; replace p103 := eq_true p103; replace q103 := eq_true q103))
    go_ret
    exact ⟨ze, bs HB.out GE101.out⟩
   ·
    rw [if_neg c6] at H
    exact absurd H (by simp)
  ·
   rw [if_neg c5] at H
   exact absurd H (by simp)
 ·
  replace c4 := Bool.eq_false_iff.mpr c4
  subst c4
  rw [if_neg nf_] at H
  obtain rfl := Option.some.inj H
  go_enter Try.func56, Try.ntmps56
  go_wp2_with (first | ((with_reducible refine gate_dst (N := 2) rfl ?_); refine box_event ?hg (N := 2) ?hd (cs := #[.slice A0_0 l0_0.length c0_0, .slice A0_1 l0_1.length c0_1]) (t := 43) ?hr ?_; (case hd => rfl); (case hg => rfl); (case hr => first | (go_simp; done) | (go_simp; rfl)); intro gb101 hg w9 hbox hb; have BK101 := Aside0.mk (hbox); have GW101 := Aside0.mk ((by rw [hg]; exact (below_size (bz HB.out)) : w.heap.size ≤ gb101)); have GE101 := Aside0.mk ((by rw [hg]; exact (below_size (bz HB.out)) : w.heap.size ≤ gb101)); replace HB := Aside0.mk (below_step (bz HB.out) hb); clear hb hbox hg; obtain ⟨hcz10_0, hcz10_1⟩ := cz2 BK101.out; obtain ⟨hfz10_0, hfz10_1⟩ := fz2 BK101.out) | ((with_reducible refine gate_callee (f := 41) rfl ?_); refine goesL_ (some 10) rfl rfl Try.func41 zk rfl #[.int .i64 a1, .int .i64 0, .int .i64 (wrap64 ((l0_1.length : Int) - 1))] rfl zm ?_; (with_reducible refine (impl_in.calls a1 0 (wrap64 ((l0_1.length : Int) - 1)) false _ A3.out).mono ?_); rintro e w' ⟨rfl, ⟨nd, rfl⟩⟩; refine ⟨_, rfl, ?_⟩))
  go_ret
  exact ⟨ze, bs HB.out GE101.out⟩

end Go.Proofs.Ythoapmfpokohnaa.P

namespace Go.Proofs.Ythoapmfpokohnaa.P
open Go.RowKit Go.Proofs.YthoapmfpokohnaaW.PrintWords Go.Proofs.YthoapmfpokohnaaW.PrintLast Go.Proofs.YthoapmfpokohnaaW.PrintMore
attribute [local go_sem] max2_int min2_int max_two min_two max_three min_three max_four min_four Q.cell_set_map Q.str_gtr Q.str_geq Q.str_leq
set_option linter.unusedVariables false
set_option linter.unusedSimpArgs false

/-! ### impl_Space_shared: function 57 -/
def impl_Space_shared.f (k : Nat) (a0_0 : Bool) (l0_1 : List (S108)) (l0_2 : List (S65)) (a1 : Int) : Option (Bool) := (impl_AreasAt.f k l0_1 a1).bind fun t102 => (if t102 ≥ 0 then (if 0 ≤ t102 then (if t102 < (l0_1.length : Int) then (some ((rd_T108 l0_1 t102).f3)) else (none)) else (none)) else (some false))
theorem impl_Space_shared.mono : ∀ a0 a1 a2 a3 k, LeO (impl_Space_shared.f k a0 a1 a2 a3) (impl_Space_shared.f (k + 1) a0 a1 a2 a3) := by
 intro a0 a1 a2 a3 k
 unfold impl_Space_shared.f
 repeat' first
   | (with_reducible exact impl_AreasAt.mono _ _ _)
   | (with_reducible exact LeO.refl _)
   | (with_reducible exact LeO.none _)
   | (with_reducible refine LeO.ite ?_ ?_)
   | (with_reducible refine LeO.bind ?_ (fun _ => ?_))
   | exact impl_AreasAt.mono _ _ _
   | exact LeO.none _
   | refine LeO.ite ?_ ?_
   | refine LeO.bind ?_ (fun _ => ?_)
set_option maxHeartbeats 8000000 in
set_option maxRecDepth 100000 in
theorem impl_Space_shared.calls (k : Nat) (a0_0 : Bool) (A0_1 : Option Addr) (c0_1 : Nat) (l0_1 : List (S108)) (A0_2 : Option Addr) (c0_2 : Nat) (l0_2 : List (S65)) (a1 : Int) (r : Bool) (w : World) (hr0_1 : Kd.C k108 w A0_1 l0_1.length l0_1) (hc0_1 : l0_1.length ≤ c0_1) (hr0_2 : Kd.C k65 w A0_2 l0_2.length l0_2) (hc0_2 : l0_2.length ≤ c0_2) (h : impl_Space_shared.f k a0_0 l0_1 l0_2 a1 = some r) :
  Calls Try.prog 57 #[.agg #[.bool a0_0, .slice A0_1 l0_1.length c0_1, .slice A0_2 l0_2.length c0_2], .int .i64 a1] w fun e w' => e = .returned (.bool r) ∧ Below w.heap.size w w' := by
 have hu63 := Try.underlying63
 have HR0_1 := Aside0.mk hr0_1
 have HC0_1 := Aside0.mk hc0_1
 clear hr0_1 hc0_1
 have HR0_2 := Aside0.mk hr0_2
 have HC0_2 := Aside0.mk hc0_2
 clear hr0_2 hc0_2
 have HB := Aside0.mk (Below.refl w.heap.size w)
 have H : ((impl_AreasAt.f k l0_1 a1).bind fun t102 => (if t102 ≥ 0 then (if 0 ≤ t102 then (if t102 < (l0_1.length : Int) then (some ((rd_T108 l0_1 t102).f3)) else (none)) else (none)) else (some false))) = some r := h
 clear h
 replace H := Option.bind_eq_some_iff.mp H
 obtain ⟨t102, A30, H⟩ := H
 have A3 := Aside0.mk A30
 clear A30
 by_cases c4 : t102 ≥ 0
 ·
  rw [if_pos c4] at H
  have c4b0 : decide (0 ≤ t102) = true := decide_eq_true c4
  clear c4
  by_cases c5 : 0 ≤ t102
  ·
   rw [if_pos c5] at H
   have c5b0 : decide (0 ≤ t102) = true := decide_eq_true c5
   clear c5
   by_cases c6 : t102 < (l0_1.length : Int)
   ·
    rw [if_pos c6] at H
    have c6b0 : decide (t102 < (l0_1.length : Int)) = true := decide_eq_true c6
    clear c6
    obtain rfl := Option.some.inj H
    go_enter Try.func57, Try.ntmps57
    go_wp2_with (first | ((with_reducible refine gate_dst (N := 2) rfl ?_); refine box_event ?hg (N := 2) ?hd (cs := #[.bool a0_0, .slice A0_1 l0_1.length c0_1, .slice A0_2 l0_2.length c0_2]) (t := 63) ?hr ?_; (case hd => rfl); (case hg => rfl); (case hr => first | (go_simp; done) | (go_simp; rfl)); intro gb101 hg w7 hbox hb; have BK101 := Aside0.mk (hbox); have GW101 := Aside0.mk ((by rw [hg]; exact (below_size (bz HB.out)) : w.heap.size ≤ gb101)); have GE101 := Aside0.mk ((by rw [hg]; exact (below_size (bz HB.out)) : w.heap.size ≤ gb101)); replace HB := Aside0.mk (below_step (bz HB.out) hb); clear hb hbox hg; obtain ⟨hcz8_0, hcz8_1, hcz8_2⟩ := cz3 BK101.out; obtain ⟨hfz8_0, hfz8_1, hfz8_2⟩ := fz3 BK101.out) | ((with_reducible refine gate_callee (f := 55) rfl ?_); refine goesL_ (some 9) rfl rfl Try.func55 zk rfl #[.slice A0_1 l0_1.length c0_1, .int .i64 a1] rfl zm ?_; (with_reducible refine (impl_AreasAt.calls k _ _ l0_1 a1 t102 _ ?side1 ?side2 A3.out).mono ?_); (case side1 => exact cz (Kd.C_below HR0_1.out HB.out)); (case side2 => exact HC0_1.out); rintro e w9 ⟨rfl, hb⟩; refine ⟨_, rfl, ?_⟩; replace BK101 := Aside0.mk (blk_below (g := gb101) (o := .cells #[.bool a0_0, .slice A0_1 l0_1.length c0_1, .slice A0_2 l0_2.length c0_2] 63 (0, 0)) (kz BK101.out) hb); replace HB := Aside0.mk (below_step (bs HB.out GE101.out) hb); (try clear hb); obtain ⟨hcz10_0, hcz10_1, hcz10_2⟩ := cz3 BK101.out; obtain ⟨hfz10_0, hfz10_1, hfz10_2⟩ := fz3 BK101.out; have p103 : 0 ≤ (t102 : Int) := of_decide_eq_true zs; have q103 : t102 < (l0_1.length : Int) := of_decide_eq_true zs; obtain ⟨ad103, e103, hx103_0, hx103_1, hx103_2, hx103_3⟩ := at_T108 HR0_1.out t102 p103 q103; cases e103; replace hx103_0 := pw_cell_below HB.out hx103_0; replace hx103_1 := pw_cell_below HB.out hx103_1; replace hx103_2 := pw_cell_below HB.out hx103_2; replace hx103_3 := pw_cell_below HB.out hx103_3; replace p103 := eq_true p103; replace q103 := eq_true q103))
    go_ret
    exact ⟨ze, bs HB.out GE101.out⟩
   ·
    rw [if_neg c6] at H
    exact absurd H (by simp)
  ·
   rw [if_neg c5] at H
   exact absurd H (by simp)
 ·
  rw [if_neg c4] at H
  have c4b0 : decide (0 ≤ t102) = false := decide_eq_false c4
  clear c4
  obtain rfl := Option.some.inj H
  go_enter Try.func57, Try.ntmps57
  go_wp2_with (first | ((with_reducible refine gate_dst (N := 2) rfl ?_); refine box_event ?hg (N := 2) ?hd (cs := #[.bool a0_0, .slice A0_1 l0_1.length c0_1, .slice A0_2 l0_2.length c0_2]) (t := 63) ?hr ?_; (case hd => rfl); (case hg => rfl); (case hr => first | (go_simp; done) | (go_simp; rfl)); intro gb101 hg w11 hbox hb; have BK101 := Aside0.mk (hbox); have GW101 := Aside0.mk ((by rw [hg]; exact (below_size (bz HB.out)) : w.heap.size ≤ gb101)); have GE101 := Aside0.mk ((by rw [hg]; exact (below_size (bz HB.out)) : w.heap.size ≤ gb101)); replace HB := Aside0.mk (below_step (bz HB.out) hb); clear hb hbox hg; obtain ⟨hcz12_0, hcz12_1, hcz12_2⟩ := cz3 BK101.out; obtain ⟨hfz12_0, hfz12_1, hfz12_2⟩ := fz3 BK101.out) | ((with_reducible refine gate_callee (f := 55) rfl ?_); refine goesL_ (some 9) rfl rfl Try.func55 zk rfl #[.slice A0_1 l0_1.length c0_1, .int .i64 a1] rfl zm ?_; (with_reducible refine (impl_AreasAt.calls k _ _ l0_1 a1 t102 _ ?side1 ?side2 A3.out).mono ?_); (case side1 => exact cz (Kd.C_below HR0_1.out HB.out)); (case side2 => exact HC0_1.out); rintro e w13 ⟨rfl, hb⟩; refine ⟨_, rfl, ?_⟩; replace BK101 := Aside0.mk (blk_below (g := gb101) (o := .cells #[.bool a0_0, .slice A0_1 l0_1.length c0_1, .slice A0_2 l0_2.length c0_2] 63 (0, 0)) (kz BK101.out) hb); replace HB := Aside0.mk (below_step (bs HB.out GE101.out) hb); (try clear hb)))
  go_ret
  exact ⟨ze, bs HB.out GE101.out⟩

end Go.Proofs.Ythoapmfpokohnaa.P
