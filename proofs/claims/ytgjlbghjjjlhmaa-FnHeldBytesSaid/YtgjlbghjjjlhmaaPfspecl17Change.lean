-- printed by wip/qd.py
import Derived.Test.YtgjlbghjjjlhmaaPf0
import Derived.Test.YtgjlbghjjjlhmaaPfspecl17Modes
import Derived.Test.YtgjlbghjjjlhmaaPfspecl17Holds
namespace Go.Proofs.Ytgjlbghjjjlhmaa.P
open Go.RowKit Go.Proofs.YtgjlbghjjjlhmaaW.PrintWords Go.Proofs.YtgjlbghjjjlhmaaW.PrintLast Go.Proofs.YtgjlbghjjjlhmaaW.PrintMore
attribute [local go_sem] max2_int min2_int max_two min_two max_three min_three max_four min_four Q.cell_set_map
set_option linter.unusedVariables false
set_option linter.unusedSimpArgs false

/-! ### spec_l17Change: function 66 -/
mutual
def spec_l17Change.l0 : Nat → List (S40) → Int → Int → Int → Int → List (S40) → Int → Option ((List (S40)))
 | 0, _, _, _, _, _, _, _ => none
 | k + 1, x0, x1, x2, x3, x4, x11, x12 => if x12 < 4 then ((spec_l17Modes.f k x0 x12).bind fun t104 => (spec_l17Change.l1 k x0 x1 x2 x3 x4 x11 x12 t104 x2)) else (some x11)
def spec_l17Change.l1 : Nat → List (S40) → Int → Int → Int → Int → List (S40) → Int → List Int → Int → Option ((List (S40)))
 | 0, _, _, _, _, _, _, _, _, _ => none
 | k + 1, x0, x1, x2, x3, x4, x11, x12, x13, x14 => if x14 ≤ x3 then (if x12 = x1 then (if 0 ≤ x14 then (if x14 < (x13.length : Int) then (spec_l17Change.l1 k x0 x1 x2 x3 x4 x11 x12 (x13.set (x14 : Int).toNat x4) (wrap64 (x14 + 1))) else (none)) else (none)) else ((spec_l17Holds.f k x12 x13).bind fun t108 => (if x11.length + t108.length < 4398046511104 then (spec_l17Change.l0 k x0 x1 x2 x3 x4 (x11 ++ t108) (wrap64 (x12 + 1))) else (none)))) else ((spec_l17Holds.f k x12 x13).bind fun t114 => (if x11.length + t114.length < 4398046511104 then (spec_l17Change.l0 k x0 x1 x2 x3 x4 (x11 ++ t114) (wrap64 (x12 + 1))) else (none)))
end
def spec_l17Change.f (k : Nat) (l0 : List (S40)) (a1 : Int) (a2 : Int) (a3 : Int) (a4 : Int) : Option ((List (S40))) := spec_l17Change.l0 k l0 a1 a2 a3 a4 (([] : List (S40))) 0
theorem spec_l17Change.mono_l : ∀ k, (∀ y0 y1 y2 y3 y4 y5 y6, LeO (spec_l17Change.l0 k y0 y1 y2 y3 y4 y5 y6) (spec_l17Change.l0 (k + 1) y0 y1 y2 y3 y4 y5 y6)) ∧ (∀ y0 y1 y2 y3 y4 y5 y6 y7 y8, LeO (spec_l17Change.l1 k y0 y1 y2 y3 y4 y5 y6 y7 y8) (spec_l17Change.l1 (k + 1) y0 y1 y2 y3 y4 y5 y6 y7 y8))
 | 0 => ⟨fun _ _ _ _ _ _ _ r h => by simp [spec_l17Change.l0] at h, fun _ _ _ _ _ _ _ _ _ r h => by simp [spec_l17Change.l1] at h⟩
 | k + 1 => by
  obtain ⟨ih0, ih1⟩ := spec_l17Change.mono_l k
  refine ⟨?_, ?_⟩
  ·
   intro y0 y1 y2 y3 y4 y5 y6
   unfold spec_l17Change.l0
   repeat' first
   | (with_reducible exact ih0 _ _ _ _ _ _ _)
   | (with_reducible exact ih1 _ _ _ _ _ _ _ _ _)
   | (with_reducible exact spec_l17Holds.mono _ _ _)
   | (with_reducible exact spec_l17Modes.mono _ _ _)
   | (with_reducible exact LeO.refl _)
   | (with_reducible exact LeO.none _)
   | (with_reducible refine LeO.ite ?_ ?_)
   | (with_reducible refine LeO.bind ?_ (fun _ => ?_))
   | exact ih0 _ _ _ _ _ _ _
   | exact ih1 _ _ _ _ _ _ _ _ _
   | exact spec_l17Holds.mono _ _ _
   | exact spec_l17Modes.mono _ _ _
   | exact LeO.none _
   | refine LeO.ite ?_ ?_
   | refine LeO.bind ?_ (fun _ => ?_)
  ·
   intro y0 y1 y2 y3 y4 y5 y6 y7 y8
   unfold spec_l17Change.l1
   repeat' first
   | (with_reducible exact ih0 _ _ _ _ _ _ _)
   | (with_reducible exact ih1 _ _ _ _ _ _ _ _ _)
   | (with_reducible exact spec_l17Holds.mono _ _ _)
   | (with_reducible exact spec_l17Modes.mono _ _ _)
   | (with_reducible exact LeO.refl _)
   | (with_reducible exact LeO.none _)
   | (with_reducible refine LeO.ite ?_ ?_)
   | (with_reducible refine LeO.bind ?_ (fun _ => ?_))
   | exact ih0 _ _ _ _ _ _ _
   | exact ih1 _ _ _ _ _ _ _ _ _
   | exact spec_l17Holds.mono _ _ _
   | exact spec_l17Modes.mono _ _ _
   | exact LeO.none _
   | refine LeO.ite ?_ ?_
   | refine LeO.bind ?_ (fun _ => ?_)
theorem spec_l17Change.mono : ∀ a0 a1 a2 a3 a4 k, LeO (spec_l17Change.f k a0 a1 a2 a3 a4) (spec_l17Change.f (k + 1) a0 a1 a2 a3 a4) := by
 intro a0 a1 a2 a3 a4 k
 obtain ⟨ih0, ih1⟩ := spec_l17Change.mono_l k
 unfold spec_l17Change.f
 repeat' first
   | (with_reducible exact ih0 _ _ _ _ _ _ _)
   | (with_reducible exact ih1 _ _ _ _ _ _ _ _ _)
   | (with_reducible exact spec_l17Holds.mono _ _ _)
   | (with_reducible exact spec_l17Modes.mono _ _ _)
   | (with_reducible exact LeO.refl _)
   | (with_reducible exact LeO.none _)
   | (with_reducible refine LeO.ite ?_ ?_)
   | (with_reducible refine LeO.bind ?_ (fun _ => ?_))
   | exact ih0 _ _ _ _ _ _ _
   | exact ih1 _ _ _ _ _ _ _ _ _
   | exact spec_l17Holds.mono _ _ _
   | exact spec_l17Modes.mono _ _ _
   | exact LeO.none _
   | refine LeO.ite ?_ ?_
   | refine LeO.bind ?_ (fun _ => ?_)
set_option maxHeartbeats 8000000 in
set_option maxRecDepth 100000 in
theorem spec_l17Change.calls (k : Nat) (A0 : Option Addr) (c0 : Nat) (l0 : List (S40)) (a1 : Int) (a2 : Int) (a3 : Int) (a4 : Int) (r : List (S40)) (w : World) (hr0 : Kd.C k40 w A0 l0.length l0) (hc0 : l0.length ≤ c0) (h : spec_l17Change.f k l0 a1 a2 a3 a4 = some r) :
  Calls Try.prog 66 #[.slice A0 l0.length c0, .int .i64 a1, .int .i64 a2, .int .i64 a3, .int .i64 a4] w fun e w' => ∃ v0_ : Value, e = .returned (v0_) ∧ Kd.R k40 40 w' w.heap.size (fun _ => True) v0_ r ∧ Below w.heap.size w w' := by
 have HR0 := Aside0.mk hr0; have HC0 := Aside0.mk hc0; clear hr0 hc0; have HB := Aside0.mk (Below.refl w.heap.size w); have H : (spec_l17Change.l0 k l0 a1 a2 a3 a4 (([] : List (S40))) 0) = some r := h; clear h; obtain ⟨y101, hy101⟩ : ∃ y_ : List (S40), y_ = (([] : List (S40))) := ⟨_, rfl⟩
 replace H : (spec_l17Change.l0 k l0 a1 a2 a3 a4 y101 0) = some r := by first | (rw [hy101]; with_reducible exact H) | (have H2_ := (Option.bind_some _ _).symm.trans H; rw [hy101]; with_reducible exact H2_) | (have H2_ := (Option.bind_some _ _).symm.trans H; with_reducible exact H2_) | with_reducible exact H | (rw [hy101]; exact H) | exact H
 have Ny101 := Aside0.mk hy101; clear hy101; have H' := Aside0.mk H; clear H
 go_enter Try.func66, Try.ntmps66
 go_wp2_with (first | ((with_reducible refine gate_dst (N := 15) rfl ?_); refine Kd.R_lit k40 _ 40 ?hg (N := 15) ?hd (xs := ([] : List (S40))) (inner := []) (ok := fun _ => True) (okp := fun _ => True) ?hr ?hp (fun _ hk => hk) trivial (Below.refl _ _) (Nat.le_refl _) (by simp) ?_; (case hd => rfl); (case hg => rfl); (case hr => first | (go_simp; done) | (go_simp; rfl)); (case hp => exact (Reps.none _ _)); intro v102 w6 ho7 hb hg_ hnew_; clear hg_ hnew_; (first | rw [← Ny101.out] at ho7 | (simp only [Int.reduceToNat] at ho7; rw [← Ny101.out] at ho7)); have HO103 := Aside0.mk (Kd.R_lower ho7 (below_size (bz HB.out))); replace HB := Aside0.mk (below_step (bz HB.out) hb); clear hb ho7))
 go_loopg [11, 12] k (fun kq v11 v12 w' => ∃ (x11_1 : List (S40)) (x12_1 : Int), v12 = .int .i64 x12_1 ∧ Aside0 (spec_l17Change.l0 kq l0 a1 a2 a3 a4 x11_1 x12_1 = some r) ∧ Aside0 (kq ≤ k) ∧ Aside0 (Kd.R k40 40 w' w.heap.size (fun _ => True) v11 x11_1) ∧ Aside0 (Below w.heap.size w w'))
 case atStart => exact ⟨(y101), (0), zr, H', ⟨Nat.le_refl _⟩, ⟨rz (HO103.out)⟩, ⟨bz HB.out⟩⟩
 case round =>
  clear H'
  try clear p2
  try clear c6
  obtain ⟨x11_1, x12_1, rfl, HA, HK1, HO_11, HB⟩ := hrel
  cases gk with
  | zero => exact absurd HA.out (by simp [spec_l17Change.l0])
  | succ k1 =>
   have H := HA.out; clear HA; simp only [spec_l17Change.l0] at H
   by_cases c8 : x12_1 < 4
   ·
    rw [if_pos c8] at H; have c8b0 : decide (x12_1 < 4) = true := decide_eq_true c8; clear c8; replace H := Option.bind_eq_some_iff.mp H; obtain ⟨t104, A90, H⟩ := H; have A9 := Aside0.mk A90; clear A90; have H' := Aside0.mk H; clear H
    go_wp2_with (first | ((with_reducible refine gate_callee (f := 44) rfl ?_); refine goesL_ (some 22) rfl rfl Try.func44 zk rfl #[.slice A0 l0.length c0, .int .i64 x12_1] rfl zm ?_; (with_reducible refine (spec_l17Modes.calls k1 _ _ l0 x12_1 t104 _ ?side1 ?side2 A9.out).mono ?_); (case side1 => exact cz (Kd.C_below HR0.out HB.out)); (case side2 => exact HC0.out); rintro e w10 ⟨v105, rfl, ho0, hb⟩; refine ⟨_, rfl, ?_⟩; replace HO_11 := Aside0.mk (Kd.R_below (rz HO_11.out) hb); have HO106 := Aside0.mk (Kd.R_lower ho0 (below_size (bz HB.out))); replace HB := Aside0.mk (below_step (bz HB.out) hb); (try clear hb); (try clear ho0)))
    go_loopg [14] k1 (fun kq v14 w' => ∃ (x13_2 : List Int) (x14_2 : Int), v14 = .int .i64 x14_2 ∧ Aside0 (spec_l17Change.l1 kq l0 a1 a2 a3 a4 x11_1 x12_1 x13_2 x14_2 = some r) ∧ Aside0 (kq ≤ k1) ∧ Aside0 (Kd.R k40 40 w' w.heap.size (fun _ => True) u11 x11_1) ∧ Aside0 (Kd.R (Kd.int .i64) 3 w' w.heap.size (fun _ => True) v105 x13_2) ∧ Aside0 (Below w.heap.size w w'))
    case atStart => exact ⟨(t104), (a2), zr, H', ⟨Nat.le_refl _⟩, ⟨rz (HO_11.out)⟩, ⟨rz (HO106.out)⟩, ⟨bz HB.out⟩⟩
    case round =>
     clear H'
     try clear p2
     try clear c4
     try clear c6
     try clear c8
     try clear c8b0
     try clear p2
     obtain ⟨x13_2, x14_2, rfl, HA, HK2, HO_11, HO_13, HB⟩ := hrel
     cases gk with
     | zero => exact absurd HA.out (by simp [spec_l17Change.l1])
     | succ k2 =>
      have H := HA.out; clear HA; simp only [spec_l17Change.l1] at H
      by_cases c11 : x14_2 ≤ a3
      ·
       rw [if_pos c11] at H; have c11b0 : decide (x14_2 ≤ a3) = true := decide_eq_true c11; clear c11
       by_cases c12 : x12_1 = a1
       ·
        rw [if_pos c12] at H; have c12b0 : (x12_1 == a1) = true := beq_iff_eq.mpr c12; have c12b1 : (x12_1 != a1) = false := bne_eq_false_iff_eq.mpr c12; clear c12
        by_cases c13 : 0 ≤ x14_2
        ·
         rw [if_pos c13] at H; have c13b0 : decide (0 ≤ x14_2) = true := decide_eq_true c13; clear c13
         by_cases c14 : x14_2 < (x13_2.length : Int)
         ·
          rw [if_pos c14] at H; have c14b0 : decide (x14_2 < (x13_2.length : Int)) = true := decide_eq_true c14; clear c14; obtain ⟨y107, hy107⟩ : ∃ y_ : List Int, y_ = (x13_2.set (x14_2 : Int).toNat a4) := ⟨_, rfl⟩
          replace H : (spec_l17Change.l1 k2 l0 a1 a2 a3 a4 x11_1 x12_1 y107 (wrap64 (x14_2 + 1))) = some r := by first | (rw [hy107]; with_reducible exact H) | (have H2_ := (Option.bind_some _ _).symm.trans H; rw [hy107]; with_reducible exact H2_) | (have H2_ := (Option.bind_some _ _).symm.trans H; with_reducible exact H2_) | with_reducible exact H | (rw [hy107]; exact H) | exact H
          have Ny107 := Aside0.mk hy107; clear hy107; have H' := Aside0.mk H; clear H; have p15 : 0 ≤ (x14_2 : Int) := of_decide_eq_true zs; have q15 : (x14_2 : Int) < ((x13_2.length : Int) : Int) := of_decide_eq_true zs; obtain ⟨go15, co15, eo15, gb15, gl15, cl15, HG15⟩ := Kd.R_form HO_13.out (by omega)
          (first | cases eo15 | (injection eo15 with ea_ en_ ec_; (first | subst ea_ | (injection ea_ with ea_; subst ea_)); subst ec_; clear en_))
          have GB15 := Aside0.mk gb15; have GG15 := Aside0.mk HG15; clear gb15 gl15 HG15; obtain ⟨hx15_0, hf15_0⟩ := Kd.R_celln 0 HO_13.out (x14_2 : Int) p15 q15; replace p15 := eq_true p15; replace q15 := eq_true q15; have HP16 := Kd.R_putg HO_13.out (x14_2 : Int) a4
          go_wp2_with (first | ((with_reducible refine gate_store (t := 3) (p := 37) rfl ?_); refine store_event (t := 3) (p := 37) (v := ?vo_w17) (w1 := (wr.setCell ⟨go15, (x14_2 : Int).toNat, none⟩ (.int .i64 a4))) ?hg ?ho ?hn ?hr ?_; (case ho => rfl); (case hg => rfl); (case hn => rfl); (case hr => first | (go_simp; done) | (go_simp; rfl)); intro w17 hw; have hg : wr.grownBy w17 (some go15) := (by rw [hw]; exact HP16.2); have hp_ : Kd.R (Kd.int .i64) 3 w17 w.heap.size (fun _ => True) (.slice (some ⟨go15, 0, none⟩) x13_2.length co15) y107 := (by rw [hw, Ny107.out]; exact HP16.1); clear HP16; replace HO_11 := Aside0.mk (Kd.R_over' (v := (.slice (some ⟨go15, 0, none⟩) x13_2.length co15)) (rz HO_11.out) (Kd.R_typed HO_13.out) (by decide) hg); replace HO_13 := Aside0.mk (hp_); replace HB := Aside0.mk ((by rw [hw]; exact below_set (HB.out) GB15.out : Below w.heap.size w w17)); clear hg hw hp_))
          go_roundg k2
          case measure => have := HK1.out; have := HK2.out; omega
          case rel => exact ⟨(y107), (wrap64 (x14_2 + 1)), zr, H', ⟨by have := HK1.out; have := HK2.out; omega⟩, ⟨rz (HO_11.out)⟩, ⟨rz (HO_13.out)⟩, ⟨bz HB.out⟩⟩
         ·
          rw [if_neg c14] at H
          exact absurd H (by simp)
        ·
         rw [if_neg c13] at H
         exact absurd H (by simp)
       ·
        rw [if_neg c12] at H; have c12b0 : (x12_1 == a1) = false := beq_eq_false_iff_ne.mpr c12; have c12b1 : (x12_1 != a1) = true := bne_iff_ne.mpr c12; replace H := Option.bind_eq_some_iff.mp H; obtain ⟨t108, A180, H⟩ := H; have A18 := Aside0.mk A180; clear A180
        by_cases c19 : x11_1.length + t108.length < 4398046511104
        ·
         rw [if_pos c19] at H; have LMc19 := Aside0.mk c19; clear c19; obtain ⟨y111, hy111⟩ : ∃ y_ : List (S40), y_ = (x11_1 ++ t108) := ⟨_, rfl⟩
         replace H : (spec_l17Change.l0 k2 l0 a1 a2 a3 a4 y111 (wrap64 (x12_1 + 1))) = some r := by first | (rw [hy111]; with_reducible exact H) | (have H2_ := (Option.bind_some _ _).symm.trans H; rw [hy111]; with_reducible exact H2_) | (have H2_ := (Option.bind_some _ _).symm.trans H; with_reducible exact H2_) | with_reducible exact H | (rw [hy111]; exact H) | exact H
         have Ny111 := Aside0.mk hy111; clear hy111; have H' := Aside0.mk H; clear H; obtain ⟨Ao20, co20, eo20⟩ := Kd.R_slice HO_13.out; subst eo20
         go_wp2_with (first | ((with_reducible refine gate_callee (f := 81) rfl ?_); refine goesL_ (some 41) rfl rfl Try.func81 zk rfl #[.int .i64 x12_1, .slice Ao20 x13_2.length co20] rfl zm ?_; (with_reducible refine (spec_l17Holds.calls k2 x12_1 _ _ x13_2 t108 _ ?side1 ?side2 A18.out).mono ?_); (case side1 => exact cz ((Kd.R_reads' HO_13.out).2.2)); (case side2 => exact (Kd.R_reads' HO_13.out).2.1); rintro e w21 ⟨v109, rfl, ho0, hb⟩; refine ⟨_, rfl, ?_⟩; replace HO_13 := Aside0.mk (Kd.R_below (rz HO_13.out) hb); have HO110 := Aside0.mk (Kd.R_lower (Kd.R_new' ho0 (Kd.R_lt (rz HO_11.out))) (below_size (bz HB.out))); replace HO_11 := Aside0.mk (Kd.R_elder' (rz HO_11.out) (Kd.R_base ho0) hb); replace HB := Aside0.mk (below_step (bz HB.out) hb); (try clear hb); (try clear ho0); obtain ⟨Ao23, co23, eo23⟩ := Kd.R_slice HO110.out; subst eo23) | ((with_reducible refine gate_builtin (b := .append) (xs := #[.tmp 38, .tmp 41]) rfl ?_); at_builtin; refine Kd.R_append_rows k40 (w0 := w) w.heap.size rfl (.tmp 38) (.tmp 41) 27 40 (.agg #[(.int .i64 0), (.int .i64 0), (.int .i64 0), (.bool false)]) 32 rfl Try.underlying27 info40 rfl (by decide) (by omega) u11 x11_1 t108 _ _ _ (fun k_ => some k_ ≠ (.slice Ao23 t108.length co23 : Value).ownBlock) (fun _ => False) rfl rfl ?aO ?aR (fun _ _ h => h) (fun _ h => h.elim) ?aF ?aB ?aS ?aL ?_; (case aR => exact cz ((Kd.R_reads' HO110.out).2.2)); (case aB => exact (bz HB.out)); (case aF => exact (fun k_ hk => Kd.fresh' (Kd.R_lt (rz HO110.out)) k_ hk)); (case aO => exact (rz (Kd.R_mono HO_11.out (fun _ hk => hk.2)))); (case aS => exact (below_size (bz HB.out))); (case aL => have := LMc19.out; omega); intro v112 w22 ho hb hg hat; rw [← Ny111.out] at ho; have n0_ := Aside0.mk (Kd.R_over' (rz HO_13.out) (Kd.R_typed (rz HO_11.out)) (by decide) hg); have n1_ := Aside0.mk (Kd.R_after (ok := (fun _ => True)) (rz HO110.out) hg hat); have n2_ := Aside0.mk (hb); have n3_ := Aside0.mk (ho); clear HO_13; clear HO110; clear HB; clear HO_11; have HO_13 := n0_; have HO110 := n1_; have HB := n2_; have HO113 := n3_; clear n0_ n1_ n2_ n3_; clear ho hb hg hat))
         go_roundg k2
         case measure => have := HK1.out; have := HK2.out; omega
         case rel => exact ⟨(y111), (wrap64 (x12_1 + 1)), zr, H', ⟨by have := HK1.out; have := HK2.out; omega⟩, ⟨rz (Kd.R_mono HO113.out (fun _ hk => trivial))⟩, ⟨bz HB.out⟩⟩
        ·
         rw [if_neg c19] at H
         exact absurd H (by simp)
      ·
       rw [if_neg c11] at H; have c11b0 : decide (x14_2 ≤ a3) = false := decide_eq_false c11; clear c11; replace H := Option.bind_eq_some_iff.mp H; obtain ⟨t114, A240, H⟩ := H; have A24 := Aside0.mk A240; clear A240
       by_cases c25 : x11_1.length + t114.length < 4398046511104
       ·
        rw [if_pos c25] at H; have LMc25 := Aside0.mk c25; clear c25; obtain ⟨y117, hy117⟩ : ∃ y_ : List (S40), y_ = (x11_1 ++ t114) := ⟨_, rfl⟩
        replace H : (spec_l17Change.l0 k2 l0 a1 a2 a3 a4 y117 (wrap64 (x12_1 + 1))) = some r := by first | (rw [hy117]; with_reducible exact H) | (have H2_ := (Option.bind_some _ _).symm.trans H; rw [hy117]; with_reducible exact H2_) | (have H2_ := (Option.bind_some _ _).symm.trans H; with_reducible exact H2_) | with_reducible exact H | (rw [hy117]; exact H) | exact H
        have Ny117 := Aside0.mk hy117; clear hy117; have H' := Aside0.mk H; clear H; obtain ⟨Ao26, co26, eo26⟩ := Kd.R_slice HO_13.out; subst eo26
        go_wp2_with (first | ((with_reducible refine gate_callee (f := 81) rfl ?_); refine goesL_ (some 41) rfl rfl Try.func81 zk rfl #[.int .i64 x12_1, .slice Ao26 x13_2.length co26] rfl zm ?_; (with_reducible refine (spec_l17Holds.calls k2 x12_1 _ _ x13_2 t114 _ ?side1 ?side2 A24.out).mono ?_); (case side1 => exact cz ((Kd.R_reads' HO_13.out).2.2)); (case side2 => exact (Kd.R_reads' HO_13.out).2.1); rintro e w27 ⟨v115, rfl, ho0, hb⟩; refine ⟨_, rfl, ?_⟩; replace HO_13 := Aside0.mk (Kd.R_below (rz HO_13.out) hb); have HO116 := Aside0.mk (Kd.R_lower (Kd.R_new' ho0 (Kd.R_lt (rz HO_11.out))) (below_size (bz HB.out))); replace HO_11 := Aside0.mk (Kd.R_elder' (rz HO_11.out) (Kd.R_base ho0) hb); replace HB := Aside0.mk (below_step (bz HB.out) hb); (try clear hb); (try clear ho0); obtain ⟨Ao29, co29, eo29⟩ := Kd.R_slice HO116.out; subst eo29) | ((with_reducible refine gate_builtin (b := .append) (xs := #[.tmp 38, .tmp 41]) rfl ?_); at_builtin; refine Kd.R_append_rows k40 (w0 := w) w.heap.size rfl (.tmp 38) (.tmp 41) 27 40 (.agg #[(.int .i64 0), (.int .i64 0), (.int .i64 0), (.bool false)]) 32 rfl Try.underlying27 info40 rfl (by decide) (by omega) u11 x11_1 t114 _ _ _ (fun k_ => some k_ ≠ (.slice Ao29 t114.length co29 : Value).ownBlock) (fun _ => False) rfl rfl ?aO ?aR (fun _ _ h => h) (fun _ h => h.elim) ?aF ?aB ?aS ?aL ?_; (case aR => exact cz ((Kd.R_reads' HO116.out).2.2)); (case aB => exact (bz HB.out)); (case aF => exact (fun k_ hk => Kd.fresh' (Kd.R_lt (rz HO116.out)) k_ hk)); (case aO => exact (rz (Kd.R_mono HO_11.out (fun _ hk => hk.2)))); (case aS => exact (below_size (bz HB.out))); (case aL => have := LMc25.out; omega); intro v118 w28 ho hb hg hat; rw [← Ny117.out] at ho; have n0_ := Aside0.mk (Kd.R_over' (rz HO_13.out) (Kd.R_typed (rz HO_11.out)) (by decide) hg); have n1_ := Aside0.mk (Kd.R_after (ok := (fun _ => True)) (rz HO116.out) hg hat); have n2_ := Aside0.mk (hb); have n3_ := Aside0.mk (ho); clear HO_13; clear HO116; clear HB; clear HO_11; have HO_13 := n0_; have HO116 := n1_; have HB := n2_; have HO119 := n3_; clear n0_ n1_ n2_ n3_; clear ho hb hg hat))
        go_roundg k2
        case measure => have := HK1.out; have := HK2.out; omega
        case rel => exact ⟨(y117), (wrap64 (x12_1 + 1)), zr, H', ⟨by have := HK1.out; have := HK2.out; omega⟩, ⟨rz (Kd.R_mono HO119.out (fun _ hk => trivial))⟩, ⟨bz HB.out⟩⟩
       ·
        rw [if_neg c25] at H
        exact absurd H (by simp)
   ·
    rw [if_neg c8] at H; have c8b0 : decide (x12_1 < 4) = false := decide_eq_false c8; clear c8; obtain rfl := Option.some.inj H
    go_wp2
    go_ret
    exact ⟨_, ze, by (with_reducible repeat (first | apply Kd.R_alloc | apply Kd.R_drewN | apply Kd.R_drew)); exact HO_11.out, bz HB.out⟩

end Go.Proofs.Ytgjlbghjjjlhmaa.P
