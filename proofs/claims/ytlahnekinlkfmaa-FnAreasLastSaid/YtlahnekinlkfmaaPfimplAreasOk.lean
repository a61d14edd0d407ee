-- printed by this session's own driver (wip/qd.py) out of the translation; Lean checks it
import Derived.Test.YtlahnekinlkfmaaPf0
import Derived.Test.YtlahnekinlkfmaaPfimplAreaOk
import Derived.Test.YtlahnekinlkfmaaPfimplAreaend
namespace Go.Proofs.Ytlahnekinlkfmaa.P
open Go.RowKit Go.Proofs.YtlahnekinlkfmaaW.PrintWords Go.Proofs.YtlahnekinlkfmaaW.PrintLast Go.Proofs.YtlahnekinlkfmaaW.PrintMore
attribute [local go_sem] max2_int min2_int max_two min_two max_three min_three max_four min_four Q.cell_set_map   -- for this text's walks alone
set_option linter.unusedVariables false
set_option linter.unusedSimpArgs false

/-! ### impl_AreasOk: function 21 -/
def impl_AreasOk.l0 : Nat → List (S24) → List (S24) → Int → Int → Option (Bool)
 | 0, _, _, _, _ => none
 | k + 1, x0, x5, x6, x7 => if x7 < x6 then (if 0 ≤ x7 then (if x7 < (x5.length : Int) then ((impl_AreaOk.f ((rd_T24 x5 x7).f0) ((rd_T24 x5 x7).f1) ((rd_T24 x5 x7).f2) ((rd_T24 x5 x7).f3)).bind fun t103 => (if t103 = true then (if x7 > 0 then (if 0 ≤ (wrap64 (x7 - 1)) then (if (wrap64 (x7 - 1)) < (x0.length : Int) then ((impl_Area_end.f ((rd_T24 x0 (wrap64 (x7 - 1))).f0) ((rd_T24 x0 (wrap64 (x7 - 1))).f1) ((rd_T24 x0 (wrap64 (x7 - 1))).f2) ((rd_T24 x0 (wrap64 (x7 - 1))).f3)).bind fun t105 => (if t105 > ((rd_T24 x5 x7).f0) then (some false) else (impl_AreasOk.l0 k x0 x5 x6 (wrap64 (x7 + 1))))) else (none)) else (none)) else (impl_AreasOk.l0 k x0 x5 x6 (wrap64 (x7 + 1)))) else (some false))) else (none)) else (none)) else (some (decide ((x0.length : Int) ≤ 6)))
def impl_AreasOk.f (k : Nat) (l0 : List (S24)) : Option (Bool) := impl_AreasOk.l0 k l0 l0 (l0.length : Int) 0
theorem impl_AreasOk.mono_l : ∀ k, (∀ y0 y1 y2 y3, LeO (impl_AreasOk.l0 k y0 y1 y2 y3) (impl_AreasOk.l0 (k + 1) y0 y1 y2 y3))
 | 0 => fun _ _ _ _ r h => by simp [impl_AreasOk.l0] at h
 | k + 1 => by
  have ih0 := impl_AreasOk.mono_l k
  ·
   intro y0 y1 y2 y3
   unfold impl_AreasOk.l0
   repeat' first
   | (with_reducible exact ih0 _ _ _ _)
   | (with_reducible exact LeO.refl _)
   | (with_reducible exact LeO.none _)
   | (with_reducible refine LeO.ite ?_ ?_)
   | (with_reducible refine LeO.bind ?_ (fun _ => ?_))
   | exact ih0 _ _ _ _
   | exact LeO.none _
   | refine LeO.ite ?_ ?_
   | refine LeO.bind ?_ (fun _ => ?_)
theorem impl_AreasOk.mono : ∀ a0 k, LeO (impl_AreasOk.f k a0) (impl_AreasOk.f (k + 1) a0) := by
 intro a0 k
 have ih0 := impl_AreasOk.mono_l k
 unfold impl_AreasOk.f
 repeat' first
   | (with_reducible exact ih0 _ _ _ _)
   | (with_reducible exact LeO.refl _)
   | (with_reducible exact LeO.none _)
   | (with_reducible refine LeO.ite ?_ ?_)
   | (with_reducible refine LeO.bind ?_ (fun _ => ?_))
   | exact ih0 _ _ _ _
   | exact LeO.none _
   | refine LeO.ite ?_ ?_
   | refine LeO.bind ?_ (fun _ => ?_)
def impl_AreasOk.T4 : Bool × List (List Nat × List Nat) := (true, [([], []), ([0], [0]), ([1], [1]), ([2, 1], [2]), ([3], [3]), ([4, 3], [3, 4]), ([5, 3, 3], [3, 5]), ([6], [6]), ([6], [6]), ([8, 6], [6, 8]), ([7, 9, 6], [6, 7, 9]), ([10, 6], [6, 10]), ([11, 6, 6], [6, 11]), ([6], [6]), ([13, 6], [6, 13]), ([12, 14, 6], [6, 12, 14]), ([6, 15, 3], [3, 6, 15]), ([3, 16], [3, 16])])
def impl_AreasOk.B4 : List Nat := [0, 1, 3, 7, 15, 31, 63, 127, 127, 383, 1023, 2047, 4095, 127, 8319, 32767, 65535, 131071]
theorem impl_AreasOk.tab4 : rtab .any (opsOf Try.f21 4) = impl_AreasOk.T4 := by kernel_rfl
theorem impl_AreasOk.bits4 : waitsOk impl_AreasOk.T4.2 impl_AreasOk.B4 = true := by kernel_rfl
set_option maxHeartbeats 8000000 in
set_option maxRecDepth 100000 in
theorem impl_AreasOk.calls (k : Nat) (A0 : Option Addr) (c0 : Nat) (l0 : List (S24)) (r : Bool) (w : World) (hr0 : Kd.C k24 w A0 l0.length l0) (hc0 : l0.length ≤ c0) (h : impl_AreasOk.f k l0 = some r) :
  Calls Try.prog 21 #[.slice A0 l0.length c0] w fun e w' => e = .returned (.bool r) ∧ Below w.heap.size w w' := by
 have hu24 := Try.underlying24
 have HR0 := Aside0.mk hr0
 have HC0 := Aside0.mk hc0
 clear hr0 hc0
 have HB := Aside0.mk (Below.refl w.heap.size w)
 have H : (impl_AreasOk.l0 k l0 l0 (l0.length : Int) 0) = some r := h
 clear h
 have H' := Aside0.mk H
 clear H
 go_enter Try.func21, Try.ntmps21
 go_wp2
 go_loopg [7] k (fun kq v7 w' => ∃ (x7_1 : Int), v7 = .int .i64 x7_1 ∧ Aside0 (impl_AreasOk.l0 kq l0 l0 (l0.length : Int) x7_1 = some r) ∧ Aside0 (kq ≤ k) ∧ Aside0 (Below w.heap.size w w'))
 case atStart => exact ⟨(0), zr, H', ⟨Nat.le_refl _⟩, ⟨bz HB.out⟩⟩
 case round =>
  clear H'
  obtain ⟨x7_1, rfl, HA, HK1, HB⟩ := hrel
  cases gk with
  | zero => exact absurd HA.out (by simp [impl_AreasOk.l0])
  | succ k1 =>
   have H := HA.out
   clear HA
   simp only [impl_AreasOk.l0] at H
   by_cases c2 : x7_1 < (l0.length : Int)
   ·
    rw [if_pos c2] at H
    have c2b0 : decide (x7_1 < (l0.length : Int)) = true := decide_eq_true c2
    clear c2
    by_cases c3 : 0 ≤ x7_1
    ·
     rw [if_pos c3] at H
     have c3b0 : decide (0 ≤ x7_1) = true := decide_eq_true c3
     clear c3
     by_cases c4 : x7_1 < (l0.length : Int)
     ·
      rw [if_pos c4] at H
      have c4b0 : decide (x7_1 < (l0.length : Int)) = true := decide_eq_true c4
      clear c4
      replace H := Option.bind_eq_some_iff.mp H
      obtain ⟨t103, A50, H⟩ := H
      have A5 := Aside0.mk A50
      clear A50
      by_cases c6 : t103 = true
      ·
       subst c6
       rw [if_pos rfl] at H
       by_cases c7 : x7_1 > 0
       ·
        rw [if_pos c7] at H
        have c7b0 : decide (0 < x7_1) = true := decide_eq_true c7
        clear c7
        obtain ⟨ji8, hji8⟩ : ∃ j_ : Int, (wrap64 (x7_1 - 1)) = j_ := ⟨_, rfl⟩
        replace H : (if 0 ≤ (ji8) then (if (ji8) < (l0.length : Int) then ((impl_Area_end.f ((rd_T24 l0 (ji8)).f0) ((rd_T24 l0 (ji8)).f1) ((rd_T24 l0 (ji8)).f2) ((rd_T24 l0 (ji8)).f3)).bind fun t105 => (if t105 > ((rd_T24 l0 x7_1).f0) then (some false) else (impl_AreasOk.l0 k1 l0 l0 (l0.length : Int) (wrap64 (x7_1 + 1))))) else (none)) else (none)) = some r := by first | (rw [hji8] at H; exact H) | (simp only [hji8] at H ⊢; exact H)
        (try rw [hji8] at A5)
        have hji8w : (IntKind.i64.wrap (x7_1 - 1)) = ji8 := (i64_w _).trans hji8
        by_cases c9 : 0 ≤ (ji8)
        ·
         rw [if_pos c9] at H
         have c9b0 : decide (0 ≤ (ji8)) = true := decide_eq_true c9
         clear c9
         by_cases c10 : (ji8) < (l0.length : Int)
         ·
          rw [if_pos c10] at H
          have c10b0 : decide ((ji8) < (l0.length : Int)) = true := decide_eq_true c10
          clear c10
          replace H := Option.bind_eq_some_iff.mp H
          obtain ⟨t105, A110, H⟩ := H
          have A11 := Aside0.mk A110
          clear A110
          by_cases c12 : t105 > ((rd_T24 l0 x7_1).f0)
          ·
           rw [if_pos c12] at H
           have c12b0 : decide (((rd_T24 l0 x7_1).f0) < t105) = true := decide_eq_true c12
           clear c12
           obtain rfl := Option.some.inj H
           have p101 : 0 ≤ (x7_1 : Int) := of_decide_eq_true zs
           have q101 : x7_1 < (l0.length : Int) := of_decide_eq_true zs
           obtain ⟨ad101, e101, hx101_0, hx101_1, hx101_2, hx101_3⟩ := at_T24 HR0.out x7_1 p101 q101
           cases e101
           replace hx101_0 := pw_cell_below HB.out hx101_0
           replace hx101_1 := pw_cell_below HB.out hx101_1
           replace hx101_2 := pw_cell_below HB.out hx101_2
           replace hx101_3 := pw_cell_below HB.out hx101_3
           replace p101 := eq_true p101
           replace q101 := eq_true q101
           try go_wp2_with (first | ((with_reducible refine gate_dst (N := 4) rfl ?_); refine box_event ?hg (N := 4) ?hd (cs := #[.int .i64 0, .int .i64 0, .bool false, .bool false]) (t := 24) ?hr ?_; (case hd => rfl); (case hg => rfl); (case hr => first | (go_simp; done) | (go_simp; rfl)); intro gb102 hg w13 hbox hb; have BK102 := Aside0.mk (hbox); have GW102 := Aside0.mk ((by rw [hg]; exact (below_size (bz HB.out)) : w.heap.size ≤ gb102)); have GE102 := Aside0.mk ((by rw [hg]; exact (below_size (bz HB.out)) : w.heap.size ≤ gb102)); replace HB := Aside0.mk (below_step (bz HB.out) hb); clear hb hbox hg; have hcz14_0 : w13.cell? ⟨gb102, 0, none⟩ = some (.int .i64 0) := (blk_cell BK102.out 0).trans rfl; have hcz14_1 : w13.cell? ⟨gb102, 1, none⟩ = some (.int .i64 0) := (blk_cell BK102.out 1).trans rfl; have hcz14_2 : w13.cell? ⟨gb102, 2, none⟩ = some (.bool false) := (blk_cell BK102.out 2).trans rfl; have hcz14_3 : w13.cell? ⟨gb102, 3, none⟩ = some (.bool false) := (blk_cell BK102.out 3).trans rfl; have hfz14_0 := blk_frozen BK102.out 0; have hfz14_1 := blk_frozen BK102.out 1; have hfz14_2 := blk_frozen BK102.out 2; have hfz14_3 := blk_frozen BK102.out 3))
           have n0_ : Aside0 (((((w13.setCell ⟨gb102, 0, none⟩ (.int .i64 ((rd_T24 l0 x7_1).f0))).setCell ⟨gb102, 1, none⟩ (.int .i64 ((rd_T24 l0 x7_1).f1))).setCell ⟨gb102, 2, none⟩ (.bool ((rd_T24 l0 x7_1).f2))).setCell ⟨gb102, 3, none⟩ (.bool ((rd_T24 l0 x7_1).f3))).heap[gb102]? = some (.cells #[.int .i64 ((rd_T24 l0 x7_1).f0), .int .i64 ((rd_T24 l0 x7_1).f1), .bool ((rd_T24 l0 x7_1).f2), .bool ((rd_T24 l0 x7_1).f3)] 24 (0, 0))) := ⟨by (with_reducible repeat (first | refine blk_drewN ?_ _ | refine blk_drew ?_ | refine blk_alloc ?_ _)); refine blk_put (cs := #[.int .i64 ((rd_T24 l0 x7_1).f0), .int .i64 ((rd_T24 l0 x7_1).f1), .bool ((rd_T24 l0 x7_1).f2), .bool false]) ?_ 3 _ rfl; (with_reducible repeat (first | refine blk_drewN ?_ _ | refine blk_drew ?_ | refine blk_alloc ?_ _)); refine blk_put (cs := #[.int .i64 ((rd_T24 l0 x7_1).f0), .int .i64 ((rd_T24 l0 x7_1).f1), .bool false, .bool false]) ?_ 2 _ rfl; (with_reducible repeat (first | refine blk_drewN ?_ _ | refine blk_drew ?_ | refine blk_alloc ?_ _)); refine blk_put (cs := #[.int .i64 ((rd_T24 l0 x7_1).f0), .int .i64 0, .bool false, .bool false]) ?_ 1 _ rfl; (with_reducible repeat (first | refine blk_drewN ?_ _ | refine blk_drew ?_ | refine blk_alloc ?_ _)); refine blk_put (cs := #[.int .i64 0, .int .i64 0, .bool false, .bool false]) ?_ 0 _ rfl; (with_reducible repeat (first | refine blk_drewN ?_ _ | refine blk_drew ?_ | refine blk_alloc ?_ _)); exact BK102.out⟩
           have n1_ : Aside0 (Below w.heap.size w ((((w13.setCell ⟨gb102, 0, none⟩ (.int .i64 ((rd_T24 l0 x7_1).f0))).setCell ⟨gb102, 1, none⟩ (.int .i64 ((rd_T24 l0 x7_1).f1))).setCell ⟨gb102, 2, none⟩ (.bool ((rd_T24 l0 x7_1).f2))).setCell ⟨gb102, 3, none⟩ (.bool ((rd_T24 l0 x7_1).f3)))) := ⟨bs HB.out GE102.out⟩
           (try clear BK102)
           (try clear HB)
           generalize ((((w13.setCell ⟨gb102, 0, none⟩ (.int .i64 ((rd_T24 l0 x7_1).f0))).setCell ⟨gb102, 1, none⟩ (.int .i64 ((rd_T24 l0 x7_1).f1))).setCell ⟨gb102, 2, none⟩ (.bool ((rd_T24 l0 x7_1).f2))).setCell ⟨gb102, 3, none⟩ (.bool ((rd_T24 l0 x7_1).f3))) = w15 at n0_ n1_ ⊢
           have BK102 := n0_
           have HB := n1_
           clear n0_ n1_
           replace BK102 := Aside0.mk (blk_drew BK102.out)
           replace HB := Aside0.mk (below_drew1 HB.out)
           have p104 : 0 ≤ ((ji8) : Int) := of_decide_eq_true zs
           have q104 : (ji8) < (l0.length : Int) := of_decide_eq_true zs
           obtain ⟨ad104, e104, hx104_0, hx104_1, hx104_2, hx104_3⟩ := at_T24 HR0.out (ji8) p104 q104
           have hw104_3 := hx104_3
           have hw104_2 := hx104_2
           have hw104_1 := hx104_1
           have hw104_0 := hx104_0
           obtain rfl : ad101 = ad104 := (by injection e104)
           replace hx104_0 := pw_cell_below HB.out hx104_0
           replace hx104_1 := pw_cell_below HB.out hx104_1
           replace hx104_2 := pw_cell_below HB.out hx104_2
           replace hx104_3 := pw_cell_below HB.out hx104_3
           replace p104 := eq_true p104
           replace q104 := eq_true q104
           refine start_ (n := 18) (S := fun w' => w'.cell? ⟨gb102, 0, none⟩ = some (.int .i64 ((rd_T24 l0 x7_1).f0)) ∧ w'.cell? ⟨gb102, 1, none⟩ = some (.int .i64 ((rd_T24 l0 x7_1).f1)) ∧ w'.cell? ⟨gb102, 2, none⟩ = some (.bool ((rd_T24 l0 x7_1).f2)) ∧ w'.cell? ⟨gb102, 3, none⟩ = some (.bool ((rd_T24 l0 x7_1).f3)) ∧ w'.cell? (ad101.add (((ji8)).toNat * 4)) = some (.int .i64 ((rd_T24 l0 (ji8)).f0)) ∧ w'.cell? ⟨(ad101.add (((ji8)).toNat * 4)).block, (ad101.add (((ji8)).toNat * 4)).off + 1, none⟩ = some (.int .i64 ((rd_T24 l0 (ji8)).f1)) ∧ w'.cell? ⟨(ad101.add (((ji8)).toNat * 4)).block, (ad101.add (((ji8)).toNat * 4)).off + 2, none⟩ = some (.bool ((rd_T24 l0 (ji8)).f2)) ∧ w'.cell? ⟨(ad101.add (((ji8)).toNat * 4)).block, (ad101.add (((ji8)).toNat * 4)).off + 3, none⟩ = some (.bool ((rd_T24 l0 (ji8)).f3))) (ds := []) (lb 18 0) zk rfl rfl ⟨(blk_cell BK102.out 0).trans rfl, (blk_cell BK102.out 1).trans rfl, (blk_cell BK102.out 2).trans rfl, (blk_cell BK102.out 3).trans rfl, (pw_cell_below HB.out hw104_0), (pw_cell_below HB.out hw104_1), (pw_cell_below HB.out hw104_2), (pw_cell_below HB.out hw104_3)⟩ (fun hHeld => ?_); refine with_tabW impl_AreasOk.tab4 impl_AreasOk.bits4 (fun HT_ HW_ => ?_)
           generalize w15.drew = w16 at BK102 HB hx104_0 hx104_1 hx104_2 hx104_3 hHeld ⊢
           refine tz 0 (some 12) (lb 18 1) rfl rfl HT_.out HW_.out hHeld ?_
           refine one_ (i := 1) (N := some 13) (lb 18 3) rfl rfl (one_of HT_.out zk) (by decide) (fun K hK => ?_)
           refine goes_ Try.func19 zk rfl #[.agg #[.int .i64 ((rd_T24 l0 x7_1).f0), .int .i64 ((rd_T24 l0 x7_1).f1), .bool ((rd_T24 l0 x7_1).f2), .bool ((rd_T24 l0 x7_1).f3)]] (by rfl) rfl rfl zm ?_
           with_reducible refine (impl_AreaOk.calls ((rd_T24 l0 x7_1).f0) ((rd_T24 l0 x7_1).f1) ((rd_T24 l0 x7_1).f2) ((rd_T24 l0 x7_1).f3) true _ A5.out).mono ?_
           rintro e w17 ⟨rfl, hb⟩
           refine ⟨_, rfl, ?_⟩
           replace BK102 := Aside0.mk (blk_below (g := gb102) (o := .cells #[.int .i64 ((rd_T24 l0 x7_1).f0), .int .i64 ((rd_T24 l0 x7_1).f1), .bool ((rd_T24 l0 x7_1).f2), .bool ((rd_T24 l0 x7_1).f3)] 24 (0, 0)) (kz BK102.out) hb)
           replace HB := Aside0.mk (below_step (bs HB.out GE102.out) hb)
           (try clear hb)
           refine hK.out _ _ ⟨(blk_cell BK102.out 0).trans rfl, (blk_cell BK102.out 1).trans rfl, (blk_cell BK102.out 2).trans rfl, (blk_cell BK102.out 3).trans rfl, (pw_cell_below HB.out hw104_0), (pw_cell_below HB.out hw104_1), (pw_cell_below HB.out hw104_2), (pw_cell_below HB.out hw104_3)⟩ (fun hHeld => ?_)
           clear hK K
           refine norm_ (a' := ?_) ?_ ?_
           rotate_left
           ·
            show Act.put _ (some 13) _ = _
            simp only [Act.put, List.setIfInBounds_toArray, List.set_cons_zero, List.set_cons_succ, i64_w, i32_w]
            rfl
           refine pz 2 (some 14) (lb 18 7) rfl rfl HT_.out ?_
           refine pz 3 (some 15) (lb 18 15) rfl rfl HT_.out ?_
           refine pz 4 (some 16) (lb 18 31) rfl rfl HT_.out ?_
           refine pz 5 (some 17) (lb 18 63) rfl rfl HT_.out ?_
           refine pz 6 (some 18) (lb 18 127) rfl rfl HT_.out ?_
           refine pz 7 (some 19) (lb 18 255) rfl rfl HT_.out ?_
           refine pz 8 (some 20) (lb 18 511) rfl rfl HT_.out ?_
           refine pz 9 (some 21) (lb 18 1023) rfl rfl HT_.out ?_
           refine pz 10 (some 22) (lb 18 2047) rfl rfl HT_.out ?_
           refine pz 13 (some 25) (lb 18 10239) rfl rfl HT_.out ?_
           refine tz 11 (some 23) (lb 18 12287) rfl rfl HT_.out HW_.out hHeld ?_
           refine tz 14 (some 26) (lb 18 28671) rfl rfl HT_.out HW_.out hHeld ?_
           refine one_ (i := 12) (N := some 24) (lb 18 32767) rfl rfl (one_of HT_.out zk) (by decide) (fun K hK => ?_)
           refine goes_ Try.func50 zk rfl #[.agg #[.int .i64 ((rd_T24 l0 (ji8)).f0), .int .i64 ((rd_T24 l0 (ji8)).f1), .bool ((rd_T24 l0 (ji8)).f2), .bool ((rd_T24 l0 (ji8)).f3)]] (by rfl) rfl rfl (by (try simp only [List.map_toArray, List.map_cons, List.map_nil]); first | done | (simp only [hji8]; rfl) | rfl | (simp only [List.length_drop, List.length_take]; rfl)) ?_
           with_reducible refine (impl_Area_end.calls ((rd_T24 l0 (ji8)).f0) ((rd_T24 l0 (ji8)).f1) ((rd_T24 l0 (ji8)).f2) ((rd_T24 l0 (ji8)).f3) t105 _ A11.out).mono ?_
           rintro e w18 ⟨rfl, hb⟩
           refine ⟨_, rfl, ?_⟩
           replace BK102 := Aside0.mk (blk_below (g := gb102) (o := .cells #[.int .i64 ((rd_T24 l0 x7_1).f0), .int .i64 ((rd_T24 l0 x7_1).f1), .bool ((rd_T24 l0 x7_1).f2), .bool ((rd_T24 l0 x7_1).f3)] 24 (0, 0)) (kz BK102.out) hb)
           replace HB := Aside0.mk (below_step (bs HB.out GE102.out) hb)
           (try clear hb)
           refine hK.out _ _ ⟨(blk_cell BK102.out 0).trans rfl, (blk_cell BK102.out 1).trans rfl, (blk_cell BK102.out 2).trans rfl, (blk_cell BK102.out 3).trans rfl, (pw_cell_below HB.out hw104_0), (pw_cell_below HB.out hw104_1), (pw_cell_below HB.out hw104_2), (pw_cell_below HB.out hw104_3)⟩ (fun hHeld => ?_)
           clear hK K
           refine norm_ (a' := ?_) ?_ ?_
           rotate_left
           ·
            show Act.put _ (some 24) _ = _
            simp only [Act.put, List.setIfInBounds_toArray, List.set_cons_zero, List.set_cons_succ, i64_w, i32_w]
            rfl
           refine pz 15 (some 27) (lb 18 65535) rfl rfl HT_.out ?_
           refine pz 16 (some 28) (lb 18 131071) rfl rfl HT_.out ?_
           refine pz 17 (some 29) (lb 18 262143) rfl rfl HT_.out ?_
           refine done_ (done_of HT_.out zk) ?_
           try go_wp2
           go_ret
           exact ⟨by first | rfl | (simp [errW_none, errW_some] <;> rfl) | (simp only [← hji8]; first | rfl | (simp [errW_none, errW_some] <;> rfl)) | (simp [*, errW_none, errW_some] <;> rfl), bs HB.out GE102.out⟩
          ·
           rw [if_neg c12] at H
           have c12b0 : decide (((rd_T24 l0 x7_1).f0) < t105) = false := decide_eq_false c12
           clear c12
           have H' := Aside0.mk H
           clear H
           have p101 : 0 ≤ (x7_1 : Int) := of_decide_eq_true zs
           have q101 : x7_1 < (l0.length : Int) := of_decide_eq_true zs
           obtain ⟨ad101, e101, hx101_0, hx101_1, hx101_2, hx101_3⟩ := at_T24 HR0.out x7_1 p101 q101
           cases e101
           replace hx101_0 := pw_cell_below HB.out hx101_0
           replace hx101_1 := pw_cell_below HB.out hx101_1
           replace hx101_2 := pw_cell_below HB.out hx101_2
           replace hx101_3 := pw_cell_below HB.out hx101_3
           replace p101 := eq_true p101
           replace q101 := eq_true q101
           try go_wp2_with (first | ((with_reducible refine gate_dst (N := 4) rfl ?_); refine box_event ?hg (N := 4) ?hd (cs := #[.int .i64 0, .int .i64 0, .bool false, .bool false]) (t := 24) ?hr ?_; (case hd => rfl); (case hg => rfl); (case hr => first | (go_simp; done) | (go_simp; rfl)); intro gb102 hg w19 hbox hb; have BK102 := Aside0.mk (hbox); have GW102 := Aside0.mk ((by rw [hg]; exact (below_size (bz HB.out)) : w.heap.size ≤ gb102)); have GE102 := Aside0.mk ((by rw [hg]; exact (below_size (bz HB.out)) : w.heap.size ≤ gb102)); replace HB := Aside0.mk (below_step (bz HB.out) hb); clear hb hbox hg; have hcz20_0 : w19.cell? ⟨gb102, 0, none⟩ = some (.int .i64 0) := (blk_cell BK102.out 0).trans rfl; have hcz20_1 : w19.cell? ⟨gb102, 1, none⟩ = some (.int .i64 0) := (blk_cell BK102.out 1).trans rfl; have hcz20_2 : w19.cell? ⟨gb102, 2, none⟩ = some (.bool false) := (blk_cell BK102.out 2).trans rfl; have hcz20_3 : w19.cell? ⟨gb102, 3, none⟩ = some (.bool false) := (blk_cell BK102.out 3).trans rfl; have hfz20_0 := blk_frozen BK102.out 0; have hfz20_1 := blk_frozen BK102.out 1; have hfz20_2 := blk_frozen BK102.out 2; have hfz20_3 := blk_frozen BK102.out 3))
           have n0_ : Aside0 (((((w19.setCell ⟨gb102, 0, none⟩ (.int .i64 ((rd_T24 l0 x7_1).f0))).setCell ⟨gb102, 1, none⟩ (.int .i64 ((rd_T24 l0 x7_1).f1))).setCell ⟨gb102, 2, none⟩ (.bool ((rd_T24 l0 x7_1).f2))).setCell ⟨gb102, 3, none⟩ (.bool ((rd_T24 l0 x7_1).f3))).heap[gb102]? = some (.cells #[.int .i64 ((rd_T24 l0 x7_1).f0), .int .i64 ((rd_T24 l0 x7_1).f1), .bool ((rd_T24 l0 x7_1).f2), .bool ((rd_T24 l0 x7_1).f3)] 24 (0, 0))) := ⟨by (with_reducible repeat (first | refine blk_drewN ?_ _ | refine blk_drew ?_ | refine blk_alloc ?_ _)); refine blk_put (cs := #[.int .i64 ((rd_T24 l0 x7_1).f0), .int .i64 ((rd_T24 l0 x7_1).f1), .bool ((rd_T24 l0 x7_1).f2), .bool false]) ?_ 3 _ rfl; (with_reducible repeat (first | refine blk_drewN ?_ _ | refine blk_drew ?_ | refine blk_alloc ?_ _)); refine blk_put (cs := #[.int .i64 ((rd_T24 l0 x7_1).f0), .int .i64 ((rd_T24 l0 x7_1).f1), .bool false, .bool false]) ?_ 2 _ rfl; (with_reducible repeat (first | refine blk_drewN ?_ _ | refine blk_drew ?_ | refine blk_alloc ?_ _)); refine blk_put (cs := #[.int .i64 ((rd_T24 l0 x7_1).f0), .int .i64 0, .bool false, .bool false]) ?_ 1 _ rfl; (with_reducible repeat (first | refine blk_drewN ?_ _ | refine blk_drew ?_ | refine blk_alloc ?_ _)); refine blk_put (cs := #[.int .i64 0, .int .i64 0, .bool false, .bool false]) ?_ 0 _ rfl; (with_reducible repeat (first | refine blk_drewN ?_ _ | refine blk_drew ?_ | refine blk_alloc ?_ _)); exact BK102.out⟩
           have n1_ : Aside0 (Below w.heap.size w ((((w19.setCell ⟨gb102, 0, none⟩ (.int .i64 ((rd_T24 l0 x7_1).f0))).setCell ⟨gb102, 1, none⟩ (.int .i64 ((rd_T24 l0 x7_1).f1))).setCell ⟨gb102, 2, none⟩ (.bool ((rd_T24 l0 x7_1).f2))).setCell ⟨gb102, 3, none⟩ (.bool ((rd_T24 l0 x7_1).f3)))) := ⟨bs HB.out GE102.out⟩
           (try clear BK102)
           (try clear HB)
           generalize ((((w19.setCell ⟨gb102, 0, none⟩ (.int .i64 ((rd_T24 l0 x7_1).f0))).setCell ⟨gb102, 1, none⟩ (.int .i64 ((rd_T24 l0 x7_1).f1))).setCell ⟨gb102, 2, none⟩ (.bool ((rd_T24 l0 x7_1).f2))).setCell ⟨gb102, 3, none⟩ (.bool ((rd_T24 l0 x7_1).f3))) = w21 at n0_ n1_ ⊢
           have BK102 := n0_
           have HB := n1_
           clear n0_ n1_
           replace BK102 := Aside0.mk (blk_drew BK102.out)
           replace HB := Aside0.mk (below_drew1 HB.out)
           have p104 : 0 ≤ ((ji8) : Int) := of_decide_eq_true zs
           have q104 : (ji8) < (l0.length : Int) := of_decide_eq_true zs
           obtain ⟨ad104, e104, hx104_0, hx104_1, hx104_2, hx104_3⟩ := at_T24 HR0.out (ji8) p104 q104
           have hw104_3 := hx104_3
           have hw104_2 := hx104_2
           have hw104_1 := hx104_1
           have hw104_0 := hx104_0
           obtain rfl : ad101 = ad104 := (by injection e104)
           replace hx104_0 := pw_cell_below HB.out hx104_0
           replace hx104_1 := pw_cell_below HB.out hx104_1
           replace hx104_2 := pw_cell_below HB.out hx104_2
           replace hx104_3 := pw_cell_below HB.out hx104_3
           replace p104 := eq_true p104
           replace q104 := eq_true q104
           refine start_ (n := 18) (S := fun w' => w'.cell? ⟨gb102, 0, none⟩ = some (.int .i64 ((rd_T24 l0 x7_1).f0)) ∧ w'.cell? ⟨gb102, 1, none⟩ = some (.int .i64 ((rd_T24 l0 x7_1).f1)) ∧ w'.cell? ⟨gb102, 2, none⟩ = some (.bool ((rd_T24 l0 x7_1).f2)) ∧ w'.cell? ⟨gb102, 3, none⟩ = some (.bool ((rd_T24 l0 x7_1).f3)) ∧ w'.cell? (ad101.add (((ji8)).toNat * 4)) = some (.int .i64 ((rd_T24 l0 (ji8)).f0)) ∧ w'.cell? ⟨(ad101.add (((ji8)).toNat * 4)).block, (ad101.add (((ji8)).toNat * 4)).off + 1, none⟩ = some (.int .i64 ((rd_T24 l0 (ji8)).f1)) ∧ w'.cell? ⟨(ad101.add (((ji8)).toNat * 4)).block, (ad101.add (((ji8)).toNat * 4)).off + 2, none⟩ = some (.bool ((rd_T24 l0 (ji8)).f2)) ∧ w'.cell? ⟨(ad101.add (((ji8)).toNat * 4)).block, (ad101.add (((ji8)).toNat * 4)).off + 3, none⟩ = some (.bool ((rd_T24 l0 (ji8)).f3))) (ds := []) (lb 18 0) zk rfl rfl ⟨(blk_cell BK102.out 0).trans rfl, (blk_cell BK102.out 1).trans rfl, (blk_cell BK102.out 2).trans rfl, (blk_cell BK102.out 3).trans rfl, (pw_cell_below HB.out hw104_0), (pw_cell_below HB.out hw104_1), (pw_cell_below HB.out hw104_2), (pw_cell_below HB.out hw104_3)⟩ (fun hHeld => ?_); refine with_tabW impl_AreasOk.tab4 impl_AreasOk.bits4 (fun HT_ HW_ => ?_)
           generalize w21.drew = w22 at BK102 HB hx104_0 hx104_1 hx104_2 hx104_3 hHeld ⊢
           refine tz 0 (some 12) (lb 18 1) rfl rfl HT_.out HW_.out hHeld ?_
           refine one_ (i := 1) (N := some 13) (lb 18 3) rfl rfl (one_of HT_.out zk) (by decide) (fun K hK => ?_)
           refine goes_ Try.func19 zk rfl #[.agg #[.int .i64 ((rd_T24 l0 x7_1).f0), .int .i64 ((rd_T24 l0 x7_1).f1), .bool ((rd_T24 l0 x7_1).f2), .bool ((rd_T24 l0 x7_1).f3)]] (by rfl) rfl rfl zm ?_
           with_reducible refine (impl_AreaOk.calls ((rd_T24 l0 x7_1).f0) ((rd_T24 l0 x7_1).f1) ((rd_T24 l0 x7_1).f2) ((rd_T24 l0 x7_1).f3) true _ A5.out).mono ?_
           rintro e w23 ⟨rfl, hb⟩
           refine ⟨_, rfl, ?_⟩
           replace BK102 := Aside0.mk (blk_below (g := gb102) (o := .cells #[.int .i64 ((rd_T24 l0 x7_1).f0), .int .i64 ((rd_T24 l0 x7_1).f1), .bool ((rd_T24 l0 x7_1).f2), .bool ((rd_T24 l0 x7_1).f3)] 24 (0, 0)) (kz BK102.out) hb)
           replace HB := Aside0.mk (below_step (bs HB.out GE102.out) hb)
           (try clear hb)
           refine hK.out _ _ ⟨(blk_cell BK102.out 0).trans rfl, (blk_cell BK102.out 1).trans rfl, (blk_cell BK102.out 2).trans rfl, (blk_cell BK102.out 3).trans rfl, (pw_cell_below HB.out hw104_0), (pw_cell_below HB.out hw104_1), (pw_cell_below HB.out hw104_2), (pw_cell_below HB.out hw104_3)⟩ (fun hHeld => ?_)
           clear hK K
           refine norm_ (a' := ?_) ?_ ?_
           rotate_left
           ·
            show Act.put _ (some 13) _ = _
            simp only [Act.put, List.setIfInBounds_toArray, List.set_cons_zero, List.set_cons_succ, i64_w, i32_w]
            rfl
           refine pz 2 (some 14) (lb 18 7) rfl rfl HT_.out ?_
           refine pz 3 (some 15) (lb 18 15) rfl rfl HT_.out ?_
           refine pz 4 (some 16) (lb 18 31) rfl rfl HT_.out ?_
           refine pz 5 (some 17) (lb 18 63) rfl rfl HT_.out ?_
           refine pz 6 (some 18) (lb 18 127) rfl rfl HT_.out ?_
           refine pz 7 (some 19) (lb 18 255) rfl rfl HT_.out ?_
           refine pz 8 (some 20) (lb 18 511) rfl rfl HT_.out ?_
           refine pz 9 (some 21) (lb 18 1023) rfl rfl HT_.out ?_
           refine pz 10 (some 22) (lb 18 2047) rfl rfl HT_.out ?_
           refine pz 13 (some 25) (lb 18 10239) rfl rfl HT_.out ?_
           refine tz 11 (some 23) (lb 18 12287) rfl rfl HT_.out HW_.out hHeld ?_
           refine tz 14 (some 26) (lb 18 28671) rfl rfl HT_.out HW_.out hHeld ?_
           refine one_ (i := 12) (N := some 24) (lb 18 32767) rfl rfl (one_of HT_.out zk) (by decide) (fun K hK => ?_)
           refine goes_ Try.func50 zk rfl #[.agg #[.int .i64 ((rd_T24 l0 (ji8)).f0), .int .i64 ((rd_T24 l0 (ji8)).f1), .bool ((rd_T24 l0 (ji8)).f2), .bool ((rd_T24 l0 (ji8)).f3)]] (by rfl) rfl rfl (by (try simp only [List.map_toArray, List.map_cons, List.map_nil]); first | done | (simp only [hji8]; rfl) | rfl | (simp only [List.length_drop, List.length_take]; rfl)) ?_
           with_reducible refine (impl_Area_end.calls ((rd_T24 l0 (ji8)).f0) ((rd_T24 l0 (ji8)).f1) ((rd_T24 l0 (ji8)).f2) ((rd_T24 l0 (ji8)).f3) t105 _ A11.out).mono ?_
           rintro e w24 ⟨rfl, hb⟩
           refine ⟨_, rfl, ?_⟩
           replace BK102 := Aside0.mk (blk_below (g := gb102) (o := .cells #[.int .i64 ((rd_T24 l0 x7_1).f0), .int .i64 ((rd_T24 l0 x7_1).f1), .bool ((rd_T24 l0 x7_1).f2), .bool ((rd_T24 l0 x7_1).f3)] 24 (0, 0)) (kz BK102.out) hb)
           replace HB := Aside0.mk (below_step (bs HB.out GE102.out) hb)
           (try clear hb)
           refine hK.out _ _ ⟨(blk_cell BK102.out 0).trans rfl, (blk_cell BK102.out 1).trans rfl, (blk_cell BK102.out 2).trans rfl, (blk_cell BK102.out 3).trans rfl, (pw_cell_below HB.out hw104_0), (pw_cell_below HB.out hw104_1), (pw_cell_below HB.out hw104_2), (pw_cell_below HB.out hw104_3)⟩ (fun hHeld => ?_)
           clear hK K
           refine norm_ (a' := ?_) ?_ ?_
           rotate_left
           ·
            show Act.put _ (some 24) _ = _
            simp only [Act.put, List.setIfInBounds_toArray, List.set_cons_zero, List.set_cons_succ, i64_w, i32_w]
            rfl
           refine pz 15 (some 27) (lb 18 65535) rfl rfl HT_.out ?_
           refine pz 16 (some 28) (lb 18 131071) rfl rfl HT_.out ?_
           refine pz 17 (some 29) (lb 18 262143) rfl rfl HT_.out ?_
           refine done_ (done_of HT_.out zk) ?_
           try go_wp2
           go_roundg k1
           case measure => have := HK1.out; omega
           case rel => exact ⟨(wrap64 (x7_1 + 1)), zr, H', ⟨by have := HK1.out; omega⟩, ⟨bs HB.out GE102.out⟩⟩
         ·
          rw [if_neg c10] at H
          exact absurd H (by simp)
        ·
         rw [if_neg c9] at H
         exact absurd H (by simp)
       ·
        rw [if_neg c7] at H
        have c7b0 : decide (0 < x7_1) = false := decide_eq_false c7
        clear c7
        have H' := Aside0.mk H
        clear H
        have p101 : 0 ≤ (x7_1 : Int) := of_decide_eq_true zs
        have q101 : x7_1 < (l0.length : Int) := of_decide_eq_true zs
        obtain ⟨ad101, e101, hx101_0, hx101_1, hx101_2, hx101_3⟩ := at_T24 HR0.out x7_1 p101 q101
        cases e101
        replace hx101_0 := pw_cell_below HB.out hx101_0
        replace hx101_1 := pw_cell_below HB.out hx101_1
        replace hx101_2 := pw_cell_below HB.out hx101_2
        replace hx101_3 := pw_cell_below HB.out hx101_3
        replace p101 := eq_true p101
        replace q101 := eq_true q101
        try go_wp2_with (first | ((with_reducible refine gate_dst (N := 4) rfl ?_); refine box_event ?hg (N := 4) ?hd (cs := #[.int .i64 0, .int .i64 0, .bool false, .bool false]) (t := 24) ?hr ?_; (case hd => rfl); (case hg => rfl); (case hr => first | (go_simp; done) | (go_simp; rfl)); intro gb102 hg w25 hbox hb; have BK102 := Aside0.mk (hbox); have GW102 := Aside0.mk ((by rw [hg]; exact (below_size (bz HB.out)) : w.heap.size ≤ gb102)); have GE102 := Aside0.mk ((by rw [hg]; exact (below_size (bz HB.out)) : w.heap.size ≤ gb102)); replace HB := Aside0.mk (below_step (bz HB.out) hb); clear hb hbox hg; have hcz26_0 : w25.cell? ⟨gb102, 0, none⟩ = some (.int .i64 0) := (blk_cell BK102.out 0).trans rfl; have hcz26_1 : w25.cell? ⟨gb102, 1, none⟩ = some (.int .i64 0) := (blk_cell BK102.out 1).trans rfl; have hcz26_2 : w25.cell? ⟨gb102, 2, none⟩ = some (.bool false) := (blk_cell BK102.out 2).trans rfl; have hcz26_3 : w25.cell? ⟨gb102, 3, none⟩ = some (.bool false) := (blk_cell BK102.out 3).trans rfl; have hfz26_0 := blk_frozen BK102.out 0; have hfz26_1 := blk_frozen BK102.out 1; have hfz26_2 := blk_frozen BK102.out 2; have hfz26_3 := blk_frozen BK102.out 3))
        have n0_ : Aside0 (((((w25.setCell ⟨gb102, 0, none⟩ (.int .i64 ((rd_T24 l0 x7_1).f0))).setCell ⟨gb102, 1, none⟩ (.int .i64 ((rd_T24 l0 x7_1).f1))).setCell ⟨gb102, 2, none⟩ (.bool ((rd_T24 l0 x7_1).f2))).setCell ⟨gb102, 3, none⟩ (.bool ((rd_T24 l0 x7_1).f3))).heap[gb102]? = some (.cells #[.int .i64 ((rd_T24 l0 x7_1).f0), .int .i64 ((rd_T24 l0 x7_1).f1), .bool ((rd_T24 l0 x7_1).f2), .bool ((rd_T24 l0 x7_1).f3)] 24 (0, 0))) := ⟨by (with_reducible repeat (first | refine blk_drewN ?_ _ | refine blk_drew ?_ | refine blk_alloc ?_ _)); refine blk_put (cs := #[.int .i64 ((rd_T24 l0 x7_1).f0), .int .i64 ((rd_T24 l0 x7_1).f1), .bool ((rd_T24 l0 x7_1).f2), .bool false]) ?_ 3 _ rfl; (with_reducible repeat (first | refine blk_drewN ?_ _ | refine blk_drew ?_ | refine blk_alloc ?_ _)); refine blk_put (cs := #[.int .i64 ((rd_T24 l0 x7_1).f0), .int .i64 ((rd_T24 l0 x7_1).f1), .bool false, .bool false]) ?_ 2 _ rfl; (with_reducible repeat (first | refine blk_drewN ?_ _ | refine blk_drew ?_ | refine blk_alloc ?_ _)); refine blk_put (cs := #[.int .i64 ((rd_T24 l0 x7_1).f0), .int .i64 0, .bool false, .bool false]) ?_ 1 _ rfl; (with_reducible repeat (first | refine blk_drewN ?_ _ | refine blk_drew ?_ | refine blk_alloc ?_ _)); refine blk_put (cs := #[.int .i64 0, .int .i64 0, .bool false, .bool false]) ?_ 0 _ rfl; (with_reducible repeat (first | refine blk_drewN ?_ _ | refine blk_drew ?_ | refine blk_alloc ?_ _)); exact BK102.out⟩
        have n1_ : Aside0 (Below w.heap.size w ((((w25.setCell ⟨gb102, 0, none⟩ (.int .i64 ((rd_T24 l0 x7_1).f0))).setCell ⟨gb102, 1, none⟩ (.int .i64 ((rd_T24 l0 x7_1).f1))).setCell ⟨gb102, 2, none⟩ (.bool ((rd_T24 l0 x7_1).f2))).setCell ⟨gb102, 3, none⟩ (.bool ((rd_T24 l0 x7_1).f3)))) := ⟨bs HB.out GE102.out⟩
        (try clear BK102)
        (try clear HB)
        generalize ((((w25.setCell ⟨gb102, 0, none⟩ (.int .i64 ((rd_T24 l0 x7_1).f0))).setCell ⟨gb102, 1, none⟩ (.int .i64 ((rd_T24 l0 x7_1).f1))).setCell ⟨gb102, 2, none⟩ (.bool ((rd_T24 l0 x7_1).f2))).setCell ⟨gb102, 3, none⟩ (.bool ((rd_T24 l0 x7_1).f3))) = w27 at n0_ n1_ ⊢
        have BK102 := n0_
        have HB := n1_
        clear n0_ n1_
        replace BK102 := Aside0.mk (blk_drew BK102.out)
        replace HB := Aside0.mk (below_drew1 HB.out)
        refine start_ (n := 18) (S := fun w' => w'.cell? ⟨gb102, 0, none⟩ = some (.int .i64 ((rd_T24 l0 x7_1).f0)) ∧ w'.cell? ⟨gb102, 1, none⟩ = some (.int .i64 ((rd_T24 l0 x7_1).f1)) ∧ w'.cell? ⟨gb102, 2, none⟩ = some (.bool ((rd_T24 l0 x7_1).f2)) ∧ w'.cell? ⟨gb102, 3, none⟩ = some (.bool ((rd_T24 l0 x7_1).f3))) (ds := []) (lb 18 0) zk rfl rfl ⟨(blk_cell BK102.out 0).trans rfl, (blk_cell BK102.out 1).trans rfl, (blk_cell BK102.out 2).trans rfl, (blk_cell BK102.out 3).trans rfl⟩ (fun hHeld => ?_); refine with_tabW impl_AreasOk.tab4 impl_AreasOk.bits4 (fun HT_ HW_ => ?_)
        generalize w27.drew = w28 at BK102 HB hHeld ⊢
        refine tz 0 (some 12) (lb 18 1) rfl rfl HT_.out HW_.out hHeld ?_
        refine one_ (i := 1) (N := some 13) (lb 18 3) rfl rfl (one_of HT_.out zk) (by decide) (fun K hK => ?_)
        refine goes_ Try.func19 zk rfl #[.agg #[.int .i64 ((rd_T24 l0 x7_1).f0), .int .i64 ((rd_T24 l0 x7_1).f1), .bool ((rd_T24 l0 x7_1).f2), .bool ((rd_T24 l0 x7_1).f3)]] (by rfl) rfl rfl zm ?_
        with_reducible refine (impl_AreaOk.calls ((rd_T24 l0 x7_1).f0) ((rd_T24 l0 x7_1).f1) ((rd_T24 l0 x7_1).f2) ((rd_T24 l0 x7_1).f3) true _ A5.out).mono ?_
        rintro e w29 ⟨rfl, hb⟩
        refine ⟨_, rfl, ?_⟩
        replace BK102 := Aside0.mk (blk_below (g := gb102) (o := .cells #[.int .i64 ((rd_T24 l0 x7_1).f0), .int .i64 ((rd_T24 l0 x7_1).f1), .bool ((rd_T24 l0 x7_1).f2), .bool ((rd_T24 l0 x7_1).f3)] 24 (0, 0)) (kz BK102.out) hb)
        replace HB := Aside0.mk (below_step (bs HB.out GE102.out) hb)
        (try clear hb)
        refine hK.out _ _ ⟨(blk_cell BK102.out 0).trans rfl, (blk_cell BK102.out 1).trans rfl, (blk_cell BK102.out 2).trans rfl, (blk_cell BK102.out 3).trans rfl⟩ (fun hHeld => ?_)
        clear hK K
        refine norm_ (a' := ?_) ?_ ?_
        rotate_left
        ·
         show Act.put _ (some 13) _ = _
         simp only [Act.put, List.setIfInBounds_toArray, List.set_cons_zero, List.set_cons_succ, i64_w, i32_w]
         rfl
        refine pz 2 (some 14) (lb 18 7) rfl rfl HT_.out ?_
        refine pz 3 (some 15) (lb 18 15) rfl rfl HT_.out ?_
        refine pz 4 (some 16) (lb 18 31) rfl rfl HT_.out ?_
        refine pz 5 (some 17) (lb 18 63) rfl rfl HT_.out ?_
        refine pz 6 (some 18) (lb 18 127) rfl rfl HT_.out ?_
        refine nz 7 (some 19) (lb 18 255) rfl rfl HT_.out ?_
        refine nz 8 (some 20) (lb 18 511) rfl rfl HT_.out ?_
        refine nz 9 (some 21) (lb 18 1023) rfl rfl HT_.out ?_
        refine nz 10 (some 22) (lb 18 2047) rfl rfl HT_.out ?_
        refine nz 11 (some 23) (lb 18 4095) rfl rfl HT_.out ?_
        refine nz 12 (some 24) (lb 18 8191) rfl rfl HT_.out ?_
        refine nz 13 (some 25) (lb 18 16383) rfl rfl HT_.out ?_
        refine nz 14 (some 26) (lb 18 32767) rfl rfl HT_.out ?_
        refine nz 15 (some 27) (lb 18 65535) rfl rfl HT_.out ?_
        refine pz 16 (some 28) (lb 18 131071) rfl rfl HT_.out ?_
        refine pz 17 (some 29) (lb 18 262143) rfl rfl HT_.out ?_
        refine done_ (done_of HT_.out zk) ?_
        try go_wp2
        go_roundg k1
        case measure => have := HK1.out; omega
        case rel => exact ⟨(wrap64 (x7_1 + 1)), zr, H', ⟨by have := HK1.out; omega⟩, ⟨bs HB.out GE102.out⟩⟩
      ·
       replace c6 := Bool.eq_false_iff.mpr c6
       subst c6
       rw [if_neg nf_] at H
       obtain rfl := Option.some.inj H
       have p101 : 0 ≤ (x7_1 : Int) := of_decide_eq_true zs
       have q101 : x7_1 < (l0.length : Int) := of_decide_eq_true zs
       obtain ⟨ad101, e101, hx101_0, hx101_1, hx101_2, hx101_3⟩ := at_T24 HR0.out x7_1 p101 q101
       cases e101
       replace hx101_0 := pw_cell_below HB.out hx101_0
       replace hx101_1 := pw_cell_below HB.out hx101_1
       replace hx101_2 := pw_cell_below HB.out hx101_2
       replace hx101_3 := pw_cell_below HB.out hx101_3
       replace p101 := eq_true p101
       replace q101 := eq_true q101
       try go_wp2_with (first | ((with_reducible refine gate_dst (N := 4) rfl ?_); refine box_event ?hg (N := 4) ?hd (cs := #[.int .i64 0, .int .i64 0, .bool false, .bool false]) (t := 24) ?hr ?_; (case hd => rfl); (case hg => rfl); (case hr => first | (go_simp; done) | (go_simp; rfl)); intro gb102 hg w30 hbox hb; have BK102 := Aside0.mk (hbox); have GW102 := Aside0.mk ((by rw [hg]; exact (below_size (bz HB.out)) : w.heap.size ≤ gb102)); have GE102 := Aside0.mk ((by rw [hg]; exact (below_size (bz HB.out)) : w.heap.size ≤ gb102)); replace HB := Aside0.mk (below_step (bz HB.out) hb); clear hb hbox hg; have hcz31_0 : w30.cell? ⟨gb102, 0, none⟩ = some (.int .i64 0) := (blk_cell BK102.out 0).trans rfl; have hcz31_1 : w30.cell? ⟨gb102, 1, none⟩ = some (.int .i64 0) := (blk_cell BK102.out 1).trans rfl; have hcz31_2 : w30.cell? ⟨gb102, 2, none⟩ = some (.bool false) := (blk_cell BK102.out 2).trans rfl; have hcz31_3 : w30.cell? ⟨gb102, 3, none⟩ = some (.bool false) := (blk_cell BK102.out 3).trans rfl; have hfz31_0 := blk_frozen BK102.out 0; have hfz31_1 := blk_frozen BK102.out 1; have hfz31_2 := blk_frozen BK102.out 2; have hfz31_3 := blk_frozen BK102.out 3))
       have n0_ : Aside0 (((((w30.setCell ⟨gb102, 0, none⟩ (.int .i64 ((rd_T24 l0 x7_1).f0))).setCell ⟨gb102, 1, none⟩ (.int .i64 ((rd_T24 l0 x7_1).f1))).setCell ⟨gb102, 2, none⟩ (.bool ((rd_T24 l0 x7_1).f2))).setCell ⟨gb102, 3, none⟩ (.bool ((rd_T24 l0 x7_1).f3))).heap[gb102]? = some (.cells #[.int .i64 ((rd_T24 l0 x7_1).f0), .int .i64 ((rd_T24 l0 x7_1).f1), .bool ((rd_T24 l0 x7_1).f2), .bool ((rd_T24 l0 x7_1).f3)] 24 (0, 0))) := ⟨by (with_reducible repeat (first | refine blk_drewN ?_ _ | refine blk_drew ?_ | refine blk_alloc ?_ _)); refine blk_put (cs := #[.int .i64 ((rd_T24 l0 x7_1).f0), .int .i64 ((rd_T24 l0 x7_1).f1), .bool ((rd_T24 l0 x7_1).f2), .bool false]) ?_ 3 _ rfl; (with_reducible repeat (first | refine blk_drewN ?_ _ | refine blk_drew ?_ | refine blk_alloc ?_ _)); refine blk_put (cs := #[.int .i64 ((rd_T24 l0 x7_1).f0), .int .i64 ((rd_T24 l0 x7_1).f1), .bool false, .bool false]) ?_ 2 _ rfl; (with_reducible repeat (first | refine blk_drewN ?_ _ | refine blk_drew ?_ | refine blk_alloc ?_ _)); refine blk_put (cs := #[.int .i64 ((rd_T24 l0 x7_1).f0), .int .i64 0, .bool false, .bool false]) ?_ 1 _ rfl; (with_reducible repeat (first | refine blk_drewN ?_ _ | refine blk_drew ?_ | refine blk_alloc ?_ _)); refine blk_put (cs := #[.int .i64 0, .int .i64 0, .bool false, .bool false]) ?_ 0 _ rfl; (with_reducible repeat (first | refine blk_drewN ?_ _ | refine blk_drew ?_ | refine blk_alloc ?_ _)); exact BK102.out⟩
       have n1_ : Aside0 (Below w.heap.size w ((((w30.setCell ⟨gb102, 0, none⟩ (.int .i64 ((rd_T24 l0 x7_1).f0))).setCell ⟨gb102, 1, none⟩ (.int .i64 ((rd_T24 l0 x7_1).f1))).setCell ⟨gb102, 2, none⟩ (.bool ((rd_T24 l0 x7_1).f2))).setCell ⟨gb102, 3, none⟩ (.bool ((rd_T24 l0 x7_1).f3)))) := ⟨bs HB.out GE102.out⟩
       (try clear BK102)
       (try clear HB)
       generalize ((((w30.setCell ⟨gb102, 0, none⟩ (.int .i64 ((rd_T24 l0 x7_1).f0))).setCell ⟨gb102, 1, none⟩ (.int .i64 ((rd_T24 l0 x7_1).f1))).setCell ⟨gb102, 2, none⟩ (.bool ((rd_T24 l0 x7_1).f2))).setCell ⟨gb102, 3, none⟩ (.bool ((rd_T24 l0 x7_1).f3))) = w32 at n0_ n1_ ⊢
       have BK102 := n0_
       have HB := n1_
       clear n0_ n1_
       replace BK102 := Aside0.mk (blk_drew BK102.out)
       replace HB := Aside0.mk (below_drew1 HB.out)
       refine start_ (n := 18) (S := fun w' => w'.cell? ⟨gb102, 0, none⟩ = some (.int .i64 ((rd_T24 l0 x7_1).f0)) ∧ w'.cell? ⟨gb102, 1, none⟩ = some (.int .i64 ((rd_T24 l0 x7_1).f1)) ∧ w'.cell? ⟨gb102, 2, none⟩ = some (.bool ((rd_T24 l0 x7_1).f2)) ∧ w'.cell? ⟨gb102, 3, none⟩ = some (.bool ((rd_T24 l0 x7_1).f3))) (ds := []) (lb 18 0) zk rfl rfl ⟨(blk_cell BK102.out 0).trans rfl, (blk_cell BK102.out 1).trans rfl, (blk_cell BK102.out 2).trans rfl, (blk_cell BK102.out 3).trans rfl⟩ (fun hHeld => ?_); refine with_tabW impl_AreasOk.tab4 impl_AreasOk.bits4 (fun HT_ HW_ => ?_)
       generalize w32.drew = w33 at BK102 HB hHeld ⊢
       refine tz 0 (some 12) (lb 18 1) rfl rfl HT_.out HW_.out hHeld ?_
       refine one_ (i := 1) (N := some 13) (lb 18 3) rfl rfl (one_of HT_.out zk) (by decide) (fun K hK => ?_)
       refine goes_ Try.func19 zk rfl #[.agg #[.int .i64 ((rd_T24 l0 x7_1).f0), .int .i64 ((rd_T24 l0 x7_1).f1), .bool ((rd_T24 l0 x7_1).f2), .bool ((rd_T24 l0 x7_1).f3)]] (by rfl) rfl rfl zm ?_
       with_reducible refine (impl_AreaOk.calls ((rd_T24 l0 x7_1).f0) ((rd_T24 l0 x7_1).f1) ((rd_T24 l0 x7_1).f2) ((rd_T24 l0 x7_1).f3) false _ A5.out).mono ?_
       rintro e w34 ⟨rfl, hb⟩
       refine ⟨_, rfl, ?_⟩
       replace BK102 := Aside0.mk (blk_below (g := gb102) (o := .cells #[.int .i64 ((rd_T24 l0 x7_1).f0), .int .i64 ((rd_T24 l0 x7_1).f1), .bool ((rd_T24 l0 x7_1).f2), .bool ((rd_T24 l0 x7_1).f3)] 24 (0, 0)) (kz BK102.out) hb)
       replace HB := Aside0.mk (below_step (bs HB.out GE102.out) hb)
       (try clear hb)
       refine hK.out _ _ ⟨(blk_cell BK102.out 0).trans rfl, (blk_cell BK102.out 1).trans rfl, (blk_cell BK102.out 2).trans rfl, (blk_cell BK102.out 3).trans rfl⟩ (fun hHeld => ?_)
       clear hK K
       refine norm_ (a' := ?_) ?_ ?_
       rotate_left
       ·
        show Act.put _ (some 13) _ = _
        simp only [Act.put, List.setIfInBounds_toArray, List.set_cons_zero, List.set_cons_succ, i64_w, i32_w]
        rfl
       refine pz 2 (some 14) (lb 18 7) rfl rfl HT_.out ?_
       refine pz 3 (some 15) (lb 18 15) rfl rfl HT_.out ?_
       refine nz 4 (some 16) (lb 18 31) rfl rfl HT_.out ?_
       refine nz 5 (some 17) (lb 18 63) rfl rfl HT_.out ?_
       refine nz 6 (some 18) (lb 18 127) rfl rfl HT_.out ?_
       refine nz 7 (some 19) (lb 18 255) rfl rfl HT_.out ?_
       refine nz 8 (some 20) (lb 18 511) rfl rfl HT_.out ?_
       refine nz 9 (some 21) (lb 18 1023) rfl rfl HT_.out ?_
       refine nz 10 (some 22) (lb 18 2047) rfl rfl HT_.out ?_
       refine nz 11 (some 23) (lb 18 4095) rfl rfl HT_.out ?_
       refine nz 12 (some 24) (lb 18 8191) rfl rfl HT_.out ?_
       refine nz 13 (some 25) (lb 18 16383) rfl rfl HT_.out ?_
       refine nz 14 (some 26) (lb 18 32767) rfl rfl HT_.out ?_
       refine nz 15 (some 27) (lb 18 65535) rfl rfl HT_.out ?_
       refine nz 16 (some 28) (lb 18 131071) rfl rfl HT_.out ?_
       refine pz 17 (some 29) (lb 18 262143) rfl rfl HT_.out ?_
       refine done_ (done_of HT_.out zk) ?_
       try go_wp2
       go_ret
       exact ⟨ze, bs HB.out GE102.out⟩
     ·
      rw [if_neg c4] at H
      exact absurd H (by simp)
    ·
     rw [if_neg c3] at H
     exact absurd H (by simp)
   ·
    rw [if_neg c2] at H
    have c2b0 : decide (x7_1 < (l0.length : Int)) = false := decide_eq_false c2
    clear c2
    obtain rfl := Option.some.inj H
    go_wp2
    go_ret
    exact ⟨ze, bz HB.out⟩

end Go.Proofs.Ytlahnekinlkfmaa.P
