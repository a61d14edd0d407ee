-- printed by this session's own driver (wip/qd.py) out of the translation; Lean checks it
import Derived.Test.YtlahnekinlkfmaaPf0
import Derived.Test.YtlahnekinlkfmaaPfspecAreaOk
namespace Go.Proofs.Ytlahnekinlkfmaa.P
open Go.RowKit Go.Proofs.YtlahnekinlkfmaaW.PrintWords Go.Proofs.YtlahnekinlkfmaaW.PrintLast Go.Proofs.YtlahnekinlkfmaaW.PrintMore
attribute [local go_sem] max2_int min2_int max_two min_two max_three min_three max_four min_four Q.cell_set_map   -- for this text's walks alone
set_option linter.unusedVariables false
set_option linter.unusedSimpArgs false

/-! ### spec_AreasOk: function 23 -/
def spec_AreasOk.l0 : Nat → List (S24) → Int → Option (Bool)
 | 0, _, _ => none
 | k + 1, x0, x3 => if x3 < (x0.length : Int) then (if 0 ≤ x3 then ((spec_AreaOk.f ((rd_T24 x0 x3).f0) ((rd_T24 x0 x3).f1) ((rd_T24 x0 x3).f2) ((rd_T24 x0 x3).f3)).bind fun t102 => (if t102 = true then (if x3 > 0 then (if 0 ≤ (wrap64 (x3 - 1)) then (if (wrap64 (x3 - 1)) < (x0.length : Int) then (if (wrap64 (((rd_T24 x0 (wrap64 (x3 - 1))).f0) + ((rd_T24 x0 (wrap64 (x3 - 1))).f1))) > ((rd_T24 x0 x3).f0) then (some false) else (spec_AreasOk.l0 k x0 (wrap64 (x3 + 1)))) else (none)) else (none)) else (spec_AreasOk.l0 k x0 (wrap64 (x3 + 1)))) else (some false))) else (none)) else (some (decide ((x0.length : Int) ≤ 6)))
def spec_AreasOk.f (k : Nat) (l0 : List (S24)) : Option (Bool) := spec_AreasOk.l0 k l0 0
theorem spec_AreasOk.mono_l : ∀ k, (∀ y0 y1, LeO (spec_AreasOk.l0 k y0 y1) (spec_AreasOk.l0 (k + 1) y0 y1))
 | 0 => fun _ _ r h => by simp [spec_AreasOk.l0] at h
 | k + 1 => by
  have ih0 := spec_AreasOk.mono_l k
  ·
   intro y0 y1
   unfold spec_AreasOk.l0
   repeat' first
   | (with_reducible exact ih0 _ _)
   | (with_reducible exact LeO.refl _)
   | (with_reducible exact LeO.none _)
   | (with_reducible refine LeO.ite ?_ ?_)
   | (with_reducible refine LeO.bind ?_ (fun _ => ?_))
   | exact ih0 _ _
   | exact LeO.none _
   | refine LeO.ite ?_ ?_
   | refine LeO.bind ?_ (fun _ => ?_)
theorem spec_AreasOk.mono : ∀ a0 k, LeO (spec_AreasOk.f k a0) (spec_AreasOk.f (k + 1) a0) := by
 intro a0 k
 have ih0 := spec_AreasOk.mono_l k
 unfold spec_AreasOk.f
 repeat' first
   | (with_reducible exact ih0 _ _)
   | (with_reducible exact LeO.refl _)
   | (with_reducible exact LeO.none _)
   | (with_reducible refine LeO.ite ?_ ?_)
   | (with_reducible refine LeO.bind ?_ (fun _ => ?_))
   | exact ih0 _ _
   | exact LeO.none _
   | refine LeO.ite ?_ ?_
   | refine LeO.bind ?_ (fun _ => ?_)
def spec_AreasOk.T4 : Bool × List (List Nat × List Nat) := (true, [([], []), ([], []), ([0, 1], [0, 1]), ([2], [2]), ([3], [3]), ([4], [4]), ([5, 4], [5]), ([6], [6]), ([7, 6], [6, 7]), ([8, 6, 6], [6, 8]), ([9], [9]), ([9], [9]), ([11, 9], [9, 11]), ([10, 12, 9], [9, 10, 12]), ([13, 9], [9, 13]), ([14, 9], [9, 14]), ([9], [9]), ([9], [9]), ([17, 9], [9, 17]), ([16, 18, 9], [9, 16, 18]), ([19, 9], [9, 19]), ([20, 9], [9, 20]), ([15, 21, 9], [9, 15, 21]), ([9], [9]), ([9], [9]), ([23, 24, 9], [9, 23, 24]), ([25, 9], [9, 25]), ([26, 9], [9, 26]), ([22, 27, 9], [9, 22, 27]), ([9, 28, 6], [6, 9, 28]), ([6, 29], [6, 29])])
def spec_AreasOk.B4 : List Nat := [0, 0, 3, 7, 15, 31, 63, 127, 255, 511, 1023, 1023, 3071, 8191, 16383, 32767, 1023, 1023, 132095, 459775, 984063, 2032639, 4194303, 1023, 1023, 25166847, 58721279, 125830143, 268435455, 536870911, 1073741823]
theorem spec_AreasOk.tab4 : rtab .any (opsOf Try.f23 4) = spec_AreasOk.T4 := by kernel_rfl
theorem spec_AreasOk.bits4 : waitsOk spec_AreasOk.T4.2 spec_AreasOk.B4 = true := by kernel_rfl
set_option maxHeartbeats 8000000 in
set_option maxRecDepth 100000 in
theorem spec_AreasOk.calls (k : Nat) (A0 : Option Addr) (c0 : Nat) (l0 : List (S24)) (r : Bool) (w : World) (hr0 : Kd.C k24 w A0 l0.length l0) (hc0 : l0.length ≤ c0) (h : spec_AreasOk.f k l0 = some r) :
  Calls Try.prog 23 #[.slice A0 l0.length c0] w fun e w' => e = .returned (.bool r) ∧ Below w.heap.size w w' := by
 have hu24 := Try.underlying24
 have HR0 := Aside0.mk hr0
 have HC0 := Aside0.mk hc0
 clear hr0 hc0
 have HB := Aside0.mk (Below.refl w.heap.size w)
 have H : (spec_AreasOk.l0 k l0 0) = some r := h
 clear h
 have H' := Aside0.mk H
 clear H
 go_enter Try.func23, Try.ntmps23
 go_wp2
 go_loopg [3] k (fun kq v3 w' => ∃ (x3_1 : Int), v3 = .int .i64 x3_1 ∧ Aside0 (spec_AreasOk.l0 kq l0 x3_1 = some r) ∧ Aside0 (kq ≤ k) ∧ Aside0 (Below w.heap.size w w'))
 case atStart => exact ⟨(0), zr, H', ⟨Nat.le_refl _⟩, ⟨bz HB.out⟩⟩
 case round =>
  clear H'
  obtain ⟨x3_1, rfl, HA, HK1, HB⟩ := hrel
  cases gk with
  | zero => exact absurd HA.out (by simp [spec_AreasOk.l0])
  | succ k1 =>
   have H := HA.out
   clear HA
   simp only [spec_AreasOk.l0] at H
   by_cases c2 : x3_1 < (l0.length : Int)
   ·
    rw [if_pos c2] at H
    have c2b0 : decide (x3_1 < (l0.length : Int)) = true := decide_eq_true c2
    clear c2
    by_cases c3 : 0 ≤ x3_1
    ·
     rw [if_pos c3] at H
     have c3b0 : decide (0 ≤ x3_1) = true := decide_eq_true c3
     clear c3
     replace H := Option.bind_eq_some_iff.mp H
     obtain ⟨t102, A40, H⟩ := H
     have A4 := Aside0.mk A40
     clear A40
     by_cases c5 : t102 = true
     ·
      subst c5
      rw [if_pos rfl] at H
      by_cases c6 : x3_1 > 0
      ·
       rw [if_pos c6] at H
       have c6b0 : decide (0 < x3_1) = true := decide_eq_true c6
       clear c6
       obtain ⟨ji7, hji7⟩ : ∃ j_ : Int, (wrap64 (x3_1 - 1)) = j_ := ⟨_, rfl⟩
       replace H : (if 0 ≤ (ji7) then (if (ji7) < (l0.length : Int) then (if (wrap64 (((rd_T24 l0 (ji7)).f0) + ((rd_T24 l0 (ji7)).f1))) > ((rd_T24 l0 x3_1).f0) then (some false) else (spec_AreasOk.l0 k1 l0 (wrap64 (x3_1 + 1)))) else (none)) else (none)) = some r := by first | (rw [hji7] at H; exact H) | (simp only [hji7] at H ⊢; exact H)
       (try rw [hji7] at A4)
       have hji7w : (IntKind.i64.wrap (x3_1 - 1)) = ji7 := (i64_w _).trans hji7
       by_cases c8 : 0 ≤ (ji7)
       ·
        rw [if_pos c8] at H
        have c8b0 : decide (0 ≤ (ji7)) = true := decide_eq_true c8
        clear c8
        by_cases c9 : (ji7) < (l0.length : Int)
        ·
         rw [if_pos c9] at H
         have c9b0 : decide ((ji7) < (l0.length : Int)) = true := decide_eq_true c9
         clear c9
         by_cases c10 : (wrap64 (((rd_T24 l0 (ji7)).f0) + ((rd_T24 l0 (ji7)).f1))) > ((rd_T24 l0 x3_1).f0)
         ·
          rw [if_pos c10] at H
          have c10b0 : decide (((rd_T24 l0 x3_1).f0) < (wrap64 (((rd_T24 l0 (ji7)).f0) + ((rd_T24 l0 (ji7)).f1)))) = true := decide_eq_true c10
          clear c10
          obtain rfl := Option.some.inj H
          try go_wp2
          replace HB := Aside0.mk (below_drew1 HB.out)
          have p101 : 0 ≤ (x3_1 : Int) := of_decide_eq_true zs
          have q101 : x3_1 < (l0.length : Int) := of_decide_eq_true zs
          obtain ⟨ad101, e101, hx101_0, hx101_1, hx101_2, hx101_3⟩ := at_T24 HR0.out x3_1 p101 q101
          have hw101_3 := hx101_3
          have hw101_2 := hx101_2
          have hw101_1 := hx101_1
          have hw101_0 := hx101_0
          cases e101
          replace hx101_0 := pw_cell_below HB.out hx101_0
          replace hx101_1 := pw_cell_below HB.out hx101_1
          replace hx101_2 := pw_cell_below HB.out hx101_2
          replace hx101_3 := pw_cell_below HB.out hx101_3
          replace p101 := eq_true p101
          replace q101 := eq_true q101
          have p103 : 0 ≤ ((ji7) : Int) := of_decide_eq_true zs
          have q103 : (ji7) < (l0.length : Int) := of_decide_eq_true zs
          obtain ⟨ad103, e103, hx103_0, hx103_1, hx103_2, hx103_3⟩ := at_T24 HR0.out (ji7) p103 q103
          have hw103_3 := hx103_3
          have hw103_2 := hx103_2
          have hw103_1 := hx103_1
          have hw103_0 := hx103_0
          obtain rfl : ad101 = ad103 := (by injection e103)
          replace hx103_0 := pw_cell_below HB.out hx103_0
          replace hx103_1 := pw_cell_below HB.out hx103_1
          replace hx103_2 := pw_cell_below HB.out hx103_2
          replace hx103_3 := pw_cell_below HB.out hx103_3
          replace p103 := eq_true p103
          replace q103 := eq_true q103
          have p104 : 0 ≤ ((ji7) : Int) := of_decide_eq_true zs
          have q104 : (ji7) < (l0.length : Int) := of_decide_eq_true zs
          obtain ⟨ad104, e104, hx104_0, hx104_1, hx104_2, hx104_3⟩ := at_T24 HR0.out (ji7) p104 q104
          have hw104_3 := hx104_3
          have hw104_2 := hx104_2
          have hw104_1 := hx104_1
          have hw104_0 := hx104_0
          obtain rfl : ad101 = ad104 := (by injection e104)
          replace hx104_0 := pw_cell_below HB.out hx104_0
          replace hx104_1 := pw_cell_below HB.out hx104_1
          replace hx104_2 := pw_cell_below HB.out hx104_2
          replace hx104_3 := pw_cell_below HB.out hx104_3
          replace p104 := eq_true p104
          replace q104 := eq_true q104
          have p105 : 0 ≤ (x3_1 : Int) := of_decide_eq_true zs
          have q105 : x3_1 < (l0.length : Int) := of_decide_eq_true zs
          obtain ⟨ad105, e105, hx105_0, hx105_1, hx105_2, hx105_3⟩ := at_T24 HR0.out x3_1 p105 q105
          have hw105_3 := hx105_3
          have hw105_2 := hx105_2
          have hw105_1 := hx105_1
          have hw105_0 := hx105_0
          obtain rfl : ad101 = ad105 := (by injection e105)
          replace hx105_0 := pw_cell_below HB.out hx105_0
          replace hx105_1 := pw_cell_below HB.out hx105_1
          replace hx105_2 := pw_cell_below HB.out hx105_2
          replace hx105_3 := pw_cell_below HB.out hx105_3
          replace p105 := eq_true p105
          replace q105 := eq_true q105
          refine start_ (n := 31) (S := fun w' => w'.cell? (ad101.add ((x3_1).toNat * 4)) = some (.int .i64 ((rd_T24 l0 x3_1).f0)) ∧ w'.cell? ⟨(ad101.add ((x3_1).toNat * 4)).block, (ad101.add ((x3_1).toNat * 4)).off + 1, none⟩ = some (.int .i64 ((rd_T24 l0 x3_1).f1)) ∧ w'.cell? ⟨(ad101.add ((x3_1).toNat * 4)).block, (ad101.add ((x3_1).toNat * 4)).off + 2, none⟩ = some (.bool ((rd_T24 l0 x3_1).f2)) ∧ w'.cell? ⟨(ad101.add ((x3_1).toNat * 4)).block, (ad101.add ((x3_1).toNat * 4)).off + 3, none⟩ = some (.bool ((rd_T24 l0 x3_1).f3)) ∧ w'.cell? (ad101.add (((ji7)).toNat * 4)) = some (.int .i64 ((rd_T24 l0 (ji7)).f0)) ∧ w'.cell? ⟨(ad101.add (((ji7)).toNat * 4)).block, (ad101.add (((ji7)).toNat * 4)).off + 1, none⟩ = some (.int .i64 ((rd_T24 l0 (ji7)).f1)) ∧ w'.cell? ⟨(ad101.add (((ji7)).toNat * 4)).block, (ad101.add (((ji7)).toNat * 4)).off + 2, none⟩ = some (.bool ((rd_T24 l0 (ji7)).f2)) ∧ w'.cell? ⟨(ad101.add (((ji7)).toNat * 4)).block, (ad101.add (((ji7)).toNat * 4)).off + 3, none⟩ = some (.bool ((rd_T24 l0 (ji7)).f3)) ∧ w'.cell? (ad101.add (((ji7)).toNat * 4)) = some (.int .i64 ((rd_T24 l0 (ji7)).f0)) ∧ w'.cell? ⟨(ad101.add (((ji7)).toNat * 4)).block, (ad101.add (((ji7)).toNat * 4)).off + 1, none⟩ = some (.int .i64 ((rd_T24 l0 (ji7)).f1)) ∧ w'.cell? ⟨(ad101.add (((ji7)).toNat * 4)).block, (ad101.add (((ji7)).toNat * 4)).off + 2, none⟩ = some (.bool ((rd_T24 l0 (ji7)).f2)) ∧ w'.cell? ⟨(ad101.add (((ji7)).toNat * 4)).block, (ad101.add (((ji7)).toNat * 4)).off + 3, none⟩ = some (.bool ((rd_T24 l0 (ji7)).f3)) ∧ w'.cell? (ad101.add ((x3_1).toNat * 4)) = some (.int .i64 ((rd_T24 l0 x3_1).f0)) ∧ w'.cell? ⟨(ad101.add ((x3_1).toNat * 4)).block, (ad101.add ((x3_1).toNat * 4)).off + 1, none⟩ = some (.int .i64 ((rd_T24 l0 x3_1).f1)) ∧ w'.cell? ⟨(ad101.add ((x3_1).toNat * 4)).block, (ad101.add ((x3_1).toNat * 4)).off + 2, none⟩ = some (.bool ((rd_T24 l0 x3_1).f2)) ∧ w'.cell? ⟨(ad101.add ((x3_1).toNat * 4)).block, (ad101.add ((x3_1).toNat * 4)).off + 3, none⟩ = some (.bool ((rd_T24 l0 x3_1).f3))) (ds := []) (lb 31 0) zk rfl rfl ⟨(pw_cell_below HB.out hw101_0), (pw_cell_below HB.out hw101_1), (pw_cell_below HB.out hw101_2), (pw_cell_below HB.out hw101_3), (pw_cell_below HB.out hw103_0), (pw_cell_below HB.out hw103_1), (pw_cell_below HB.out hw103_2), (pw_cell_below HB.out hw103_3), (pw_cell_below HB.out hw104_0), (pw_cell_below HB.out hw104_1), (pw_cell_below HB.out hw104_2), (pw_cell_below HB.out hw104_3), (pw_cell_below HB.out hw105_0), (pw_cell_below HB.out hw105_1), (pw_cell_below HB.out hw105_2), (pw_cell_below HB.out hw105_3)⟩ (fun hHeld => ?_); refine with_tabW spec_AreasOk.tab4 spec_AreasOk.bits4 (fun HT_ HW_ => ?_)
          generalize wr.drew = w11 at HB hx101_0 hx101_1 hx101_2 hx101_3 hx103_0 hx103_1 hx103_2 hx103_3 hx104_0 hx104_1 hx104_2 hx104_3 hx105_0 hx105_1 hx105_2 hx105_3 hHeld ⊢
          refine pz 0 (some 10) (lb 31 1) rfl rfl HT_.out ?_
          refine pz 1 (some 11) (lb 31 3) rfl rfl HT_.out ?_
          refine pz 2 (some 12) (lb 31 7) rfl rfl HT_.out ?_
          refine tz 3 (some 13) (lb 31 15) rfl rfl HT_.out HW_.out hHeld ?_
          refine one_ (i := 4) (N := some 14) (lb 31 31) rfl rfl (one_of HT_.out zk) (by decide) (fun K hK => ?_)
          refine goes_ Try.func20 zk rfl #[.agg #[.int .i64 ((rd_T24 l0 x3_1).f0), .int .i64 ((rd_T24 l0 x3_1).f1), .bool ((rd_T24 l0 x3_1).f2), .bool ((rd_T24 l0 x3_1).f3)]] (by rfl) rfl rfl zm ?_
          with_reducible refine (spec_AreaOk.calls ((rd_T24 l0 x3_1).f0) ((rd_T24 l0 x3_1).f1) ((rd_T24 l0 x3_1).f2) ((rd_T24 l0 x3_1).f3) true _ A4.out).mono ?_
          rintro e w12 ⟨rfl, hb⟩
          refine ⟨_, rfl, ?_⟩
          replace HB := Aside0.mk (below_step (bz HB.out) hb)
          (try clear hb)
          refine hK.out _ _ ⟨(pw_cell_below HB.out hw101_0), (pw_cell_below HB.out hw101_1), (pw_cell_below HB.out hw101_2), (pw_cell_below HB.out hw101_3), (pw_cell_below HB.out hw103_0), (pw_cell_below HB.out hw103_1), (pw_cell_below HB.out hw103_2), (pw_cell_below HB.out hw103_3), (pw_cell_below HB.out hw104_0), (pw_cell_below HB.out hw104_1), (pw_cell_below HB.out hw104_2), (pw_cell_below HB.out hw104_3), (pw_cell_below HB.out hw105_0), (pw_cell_below HB.out hw105_1), (pw_cell_below HB.out hw105_2), (pw_cell_below HB.out hw105_3)⟩ (fun hHeld => ?_)
          clear hK K
          refine norm_ (a' := ?_) ?_ ?_
          rotate_left
          ·
           show Act.put _ (some 14) _ = _
           simp only [Act.put, List.setIfInBounds_toArray, List.set_cons_zero, List.set_cons_succ, i64_w, i32_w]
           rfl
          refine pz 5 (some 15) (lb 31 63) rfl rfl HT_.out ?_
          refine pz 6 (some 16) (lb 31 127) rfl rfl HT_.out ?_
          refine pz 7 (some 17) (lb 31 255) rfl rfl HT_.out ?_
          refine pz 8 (some 18) (lb 31 511) rfl rfl HT_.out ?_
          refine pz 9 (some 19) (lb 31 1023) rfl rfl HT_.out ?_
          refine pz 10 (some 20) (lb 31 2047) rfl rfl HT_.out ?_
          refine pz 11 (some 21) (lb 31 4095) rfl rfl HT_.out ?_
          refine pz 12 (some 22) (lb 31 8191) rfl rfl HT_.out ?_
          refine pz 13 (some 23) (lb 31 16383) rfl rfl HT_.out ?_
          refine pz 14 (some 24) (lb 31 32767) rfl rfl HT_.out ?_
          refine pz 16 (some 26) (lb 31 98303) rfl rfl HT_.out ?_
          refine pz 17 (some 27) (lb 31 229375) rfl rfl HT_.out ?_
          refine pz 18 (some 28) (lb 31 491519) rfl rfl HT_.out ?_
          refine pz 19 (some 29) (lb 31 1015807) rfl rfl HT_.out ?_
          refine pz 20 (some 30) (lb 31 2064383) rfl rfl HT_.out ?_
          refine pz 23 (some 33) (lb 31 10452991) rfl rfl HT_.out ?_
          refine pz 24 (some 34) (lb 31 27230207) rfl rfl HT_.out ?_
          refine pz 25 (some 35) (lb 31 60784639) rfl rfl HT_.out ?_
          refine pz 26 (some 36) (lb 31 127893503) rfl rfl HT_.out ?_
          refine tz 15 (some 25) (lb 31 127926271) rfl rfl HT_.out HW_.out hHeld ?_
          refine tz 21 (some 31) (lb 31 130023423) rfl rfl HT_.out HW_.out hHeld ?_
          refine pz 22 (some 32) (lb 31 134217727) rfl rfl HT_.out ?_
          refine tz 27 (some 37) (lb 31 268435455) rfl rfl HT_.out HW_.out hHeld ?_
          refine pz 28 (some 38) (lb 31 536870911) rfl rfl HT_.out ?_
          refine pz 29 (some 39) (lb 31 1073741823) rfl rfl HT_.out ?_
          refine pz 30 (some 40) (lb 31 2147483647) rfl rfl HT_.out ?_
          refine done_ (done_of HT_.out zk) ?_
          try go_wp2
          go_ret
          exact ⟨by first | rfl | (simp [errW_none, errW_some] <;> rfl) | (simp only [← hji7]; first | rfl | (simp [errW_none, errW_some] <;> rfl)) | (simp [*, errW_none, errW_some] <;> rfl), bz HB.out⟩
         ·
          rw [if_neg c10] at H
          have c10b0 : decide (((rd_T24 l0 x3_1).f0) < (wrap64 (((rd_T24 l0 (ji7)).f0) + ((rd_T24 l0 (ji7)).f1)))) = false := decide_eq_false c10
          clear c10
          have H' := Aside0.mk H
          clear H
          try go_wp2
          replace HB := Aside0.mk (below_drew1 HB.out)
          have p101 : 0 ≤ (x3_1 : Int) := of_decide_eq_true zs
          have q101 : x3_1 < (l0.length : Int) := of_decide_eq_true zs
          obtain ⟨ad101, e101, hx101_0, hx101_1, hx101_2, hx101_3⟩ := at_T24 HR0.out x3_1 p101 q101
          have hw101_3 := hx101_3
          have hw101_2 := hx101_2
          have hw101_1 := hx101_1
          have hw101_0 := hx101_0
          cases e101
          replace hx101_0 := pw_cell_below HB.out hx101_0
          replace hx101_1 := pw_cell_below HB.out hx101_1
          replace hx101_2 := pw_cell_below HB.out hx101_2
          replace hx101_3 := pw_cell_below HB.out hx101_3
          replace p101 := eq_true p101
          replace q101 := eq_true q101
          have p103 : 0 ≤ ((ji7) : Int) := of_decide_eq_true zs
          have q103 : (ji7) < (l0.length : Int) := of_decide_eq_true zs
          obtain ⟨ad103, e103, hx103_0, hx103_1, hx103_2, hx103_3⟩ := at_T24 HR0.out (ji7) p103 q103
          have hw103_3 := hx103_3
          have hw103_2 := hx103_2
          have hw103_1 := hx103_1
          have hw103_0 := hx103_0
          obtain rfl : ad101 = ad103 := (by injection e103)
          replace hx103_0 := pw_cell_below HB.out hx103_0
          replace hx103_1 := pw_cell_below HB.out hx103_1
          replace hx103_2 := pw_cell_below HB.out hx103_2
          replace hx103_3 := pw_cell_below HB.out hx103_3
          replace p103 := eq_true p103
          replace q103 := eq_true q103
          have p104 : 0 ≤ ((ji7) : Int) := of_decide_eq_true zs
          have q104 : (ji7) < (l0.length : Int) := of_decide_eq_true zs
          obtain ⟨ad104, e104, hx104_0, hx104_1, hx104_2, hx104_3⟩ := at_T24 HR0.out (ji7) p104 q104
          have hw104_3 := hx104_3
          have hw104_2 := hx104_2
          have hw104_1 := hx104_1
          have hw104_0 := hx104_0
          obtain rfl : ad101 = ad104 := (by injection e104)
          replace hx104_0 := pw_cell_below HB.out hx104_0
          replace hx104_1 := pw_cell_below HB.out hx104_1
          replace hx104_2 := pw_cell_below HB.out hx104_2
          replace hx104_3 := pw_cell_below HB.out hx104_3
          replace p104 := eq_true p104
          replace q104 := eq_true q104
          have p105 : 0 ≤ (x3_1 : Int) := of_decide_eq_true zs
          have q105 : x3_1 < (l0.length : Int) := of_decide_eq_true zs
          obtain ⟨ad105, e105, hx105_0, hx105_1, hx105_2, hx105_3⟩ := at_T24 HR0.out x3_1 p105 q105
          have hw105_3 := hx105_3
          have hw105_2 := hx105_2
          have hw105_1 := hx105_1
          have hw105_0 := hx105_0
          obtain rfl : ad101 = ad105 := (by injection e105)
          replace hx105_0 := pw_cell_below HB.out hx105_0
          replace hx105_1 := pw_cell_below HB.out hx105_1
          replace hx105_2 := pw_cell_below HB.out hx105_2
          replace hx105_3 := pw_cell_below HB.out hx105_3
          replace p105 := eq_true p105
          replace q105 := eq_true q105
          refine start_ (n := 31) (S := fun w' => w'.cell? (ad101.add ((x3_1).toNat * 4)) = some (.int .i64 ((rd_T24 l0 x3_1).f0)) ∧ w'.cell? ⟨(ad101.add ((x3_1).toNat * 4)).block, (ad101.add ((x3_1).toNat * 4)).off + 1, none⟩ = some (.int .i64 ((rd_T24 l0 x3_1).f1)) ∧ w'.cell? ⟨(ad101.add ((x3_1).toNat * 4)).block, (ad101.add ((x3_1).toNat * 4)).off + 2, none⟩ = some (.bool ((rd_T24 l0 x3_1).f2)) ∧ w'.cell? ⟨(ad101.add ((x3_1).toNat * 4)).block, (ad101.add ((x3_1).toNat * 4)).off + 3, none⟩ = some (.bool ((rd_T24 l0 x3_1).f3)) ∧ w'.cell? (ad101.add (((ji7)).toNat * 4)) = some (.int .i64 ((rd_T24 l0 (ji7)).f0)) ∧ w'.cell? ⟨(ad101.add (((ji7)).toNat * 4)).block, (ad101.add (((ji7)).toNat * 4)).off + 1, none⟩ = some (.int .i64 ((rd_T24 l0 (ji7)).f1)) ∧ w'.cell? ⟨(ad101.add (((ji7)).toNat * 4)).block, (ad101.add (((ji7)).toNat * 4)).off + 2, none⟩ = some (.bool ((rd_T24 l0 (ji7)).f2)) ∧ w'.cell? ⟨(ad101.add (((ji7)).toNat * 4)).block, (ad101.add (((ji7)).toNat * 4)).off + 3, none⟩ = some (.bool ((rd_T24 l0 (ji7)).f3)) ∧ w'.cell? (ad101.add (((ji7)).toNat * 4)) = some (.int .i64 ((rd_T24 l0 (ji7)).f0)) ∧ w'.cell? ⟨(ad101.add (((ji7)).toNat * 4)).block, (ad101.add (((ji7)).toNat * 4)).off + 1, none⟩ = some (.int .i64 ((rd_T24 l0 (ji7)).f1)) ∧ w'.cell? ⟨(ad101.add (((ji7)).toNat * 4)).block, (ad101.add (((ji7)).toNat * 4)).off + 2, none⟩ = some (.bool ((rd_T24 l0 (ji7)).f2)) ∧ w'.cell? ⟨(ad101.add (((ji7)).toNat * 4)).block, (ad101.add (((ji7)).toNat * 4)).off + 3, none⟩ = some (.bool ((rd_T24 l0 (ji7)).f3)) ∧ w'.cell? (ad101.add ((x3_1).toNat * 4)) = some (.int .i64 ((rd_T24 l0 x3_1).f0)) ∧ w'.cell? ⟨(ad101.add ((x3_1).toNat * 4)).block, (ad101.add ((x3_1).toNat * 4)).off + 1, none⟩ = some (.int .i64 ((rd_T24 l0 x3_1).f1)) ∧ w'.cell? ⟨(ad101.add ((x3_1).toNat * 4)).block, (ad101.add ((x3_1).toNat * 4)).off + 2, none⟩ = some (.bool ((rd_T24 l0 x3_1).f2)) ∧ w'.cell? ⟨(ad101.add ((x3_1).toNat * 4)).block, (ad101.add ((x3_1).toNat * 4)).off + 3, none⟩ = some (.bool ((rd_T24 l0 x3_1).f3))) (ds := []) (lb 31 0) zk rfl rfl ⟨(pw_cell_below HB.out hw101_0), (pw_cell_below HB.out hw101_1), (pw_cell_below HB.out hw101_2), (pw_cell_below HB.out hw101_3), (pw_cell_below HB.out hw103_0), (pw_cell_below HB.out hw103_1), (pw_cell_below HB.out hw103_2), (pw_cell_below HB.out hw103_3), (pw_cell_below HB.out hw104_0), (pw_cell_below HB.out hw104_1), (pw_cell_below HB.out hw104_2), (pw_cell_below HB.out hw104_3), (pw_cell_below HB.out hw105_0), (pw_cell_below HB.out hw105_1), (pw_cell_below HB.out hw105_2), (pw_cell_below HB.out hw105_3)⟩ (fun hHeld => ?_); refine with_tabW spec_AreasOk.tab4 spec_AreasOk.bits4 (fun HT_ HW_ => ?_)
          generalize wr.drew = w13 at HB hx101_0 hx101_1 hx101_2 hx101_3 hx103_0 hx103_1 hx103_2 hx103_3 hx104_0 hx104_1 hx104_2 hx104_3 hx105_0 hx105_1 hx105_2 hx105_3 hHeld ⊢
          refine pz 0 (some 10) (lb 31 1) rfl rfl HT_.out ?_
          refine pz 1 (some 11) (lb 31 3) rfl rfl HT_.out ?_
          refine pz 2 (some 12) (lb 31 7) rfl rfl HT_.out ?_
          refine tz 3 (some 13) (lb 31 15) rfl rfl HT_.out HW_.out hHeld ?_
          refine one_ (i := 4) (N := some 14) (lb 31 31) rfl rfl (one_of HT_.out zk) (by decide) (fun K hK => ?_)
          refine goes_ Try.func20 zk rfl #[.agg #[.int .i64 ((rd_T24 l0 x3_1).f0), .int .i64 ((rd_T24 l0 x3_1).f1), .bool ((rd_T24 l0 x3_1).f2), .bool ((rd_T24 l0 x3_1).f3)]] (by rfl) rfl rfl zm ?_
          with_reducible refine (spec_AreaOk.calls ((rd_T24 l0 x3_1).f0) ((rd_T24 l0 x3_1).f1) ((rd_T24 l0 x3_1).f2) ((rd_T24 l0 x3_1).f3) true _ A4.out).mono ?_
          rintro e w14 ⟨rfl, hb⟩
          refine ⟨_, rfl, ?_⟩
          replace HB := Aside0.mk (below_step (bz HB.out) hb)
          (try clear hb)
          refine hK.out _ _ ⟨(pw_cell_below HB.out hw101_0), (pw_cell_below HB.out hw101_1), (pw_cell_below HB.out hw101_2), (pw_cell_below HB.out hw101_3), (pw_cell_below HB.out hw103_0), (pw_cell_below HB.out hw103_1), (pw_cell_below HB.out hw103_2), (pw_cell_below HB.out hw103_3), (pw_cell_below HB.out hw104_0), (pw_cell_below HB.out hw104_1), (pw_cell_below HB.out hw104_2), (pw_cell_below HB.out hw104_3), (pw_cell_below HB.out hw105_0), (pw_cell_below HB.out hw105_1), (pw_cell_below HB.out hw105_2), (pw_cell_below HB.out hw105_3)⟩ (fun hHeld => ?_)
          clear hK K
          refine norm_ (a' := ?_) ?_ ?_
          rotate_left
          ·
           show Act.put _ (some 14) _ = _
           simp only [Act.put, List.setIfInBounds_toArray, List.set_cons_zero, List.set_cons_succ, i64_w, i32_w]
           rfl
          refine pz 5 (some 15) (lb 31 63) rfl rfl HT_.out ?_
          refine pz 6 (some 16) (lb 31 127) rfl rfl HT_.out ?_
          refine pz 7 (some 17) (lb 31 255) rfl rfl HT_.out ?_
          refine pz 8 (some 18) (lb 31 511) rfl rfl HT_.out ?_
          refine pz 9 (some 19) (lb 31 1023) rfl rfl HT_.out ?_
          refine pz 10 (some 20) (lb 31 2047) rfl rfl HT_.out ?_
          refine pz 11 (some 21) (lb 31 4095) rfl rfl HT_.out ?_
          refine pz 12 (some 22) (lb 31 8191) rfl rfl HT_.out ?_
          refine pz 13 (some 23) (lb 31 16383) rfl rfl HT_.out ?_
          refine pz 14 (some 24) (lb 31 32767) rfl rfl HT_.out ?_
          refine pz 16 (some 26) (lb 31 98303) rfl rfl HT_.out ?_
          refine pz 17 (some 27) (lb 31 229375) rfl rfl HT_.out ?_
          refine pz 18 (some 28) (lb 31 491519) rfl rfl HT_.out ?_
          refine pz 19 (some 29) (lb 31 1015807) rfl rfl HT_.out ?_
          refine pz 20 (some 30) (lb 31 2064383) rfl rfl HT_.out ?_
          refine pz 23 (some 33) (lb 31 10452991) rfl rfl HT_.out ?_
          refine pz 24 (some 34) (lb 31 27230207) rfl rfl HT_.out ?_
          refine pz 25 (some 35) (lb 31 60784639) rfl rfl HT_.out ?_
          refine pz 26 (some 36) (lb 31 127893503) rfl rfl HT_.out ?_
          refine tz 15 (some 25) (lb 31 127926271) rfl rfl HT_.out HW_.out hHeld ?_
          refine tz 21 (some 31) (lb 31 130023423) rfl rfl HT_.out HW_.out hHeld ?_
          refine pz 22 (some 32) (lb 31 134217727) rfl rfl HT_.out ?_
          refine tz 27 (some 37) (lb 31 268435455) rfl rfl HT_.out HW_.out hHeld ?_
          refine pz 28 (some 38) (lb 31 536870911) rfl rfl HT_.out ?_
          refine pz 29 (some 39) (lb 31 1073741823) rfl rfl HT_.out ?_
          refine pz 30 (some 40) (lb 31 2147483647) rfl rfl HT_.out ?_
          refine done_ (done_of HT_.out zk) ?_
          try go_wp2
          go_roundg k1
          case measure => have := HK1.out; omega
          case rel => exact ⟨(wrap64 (x3_1 + 1)), zr, H', ⟨by have := HK1.out; omega⟩, ⟨bz HB.out⟩⟩
        ·
         rw [if_neg c9] at H
         exact absurd H (by simp)
       ·
        rw [if_neg c8] at H
        exact absurd H (by simp)
      ·
       rw [if_neg c6] at H
       have c6b0 : decide (0 < x3_1) = false := decide_eq_false c6
       clear c6
       have H' := Aside0.mk H
       clear H
       try go_wp2
       replace HB := Aside0.mk (below_drew1 HB.out)
       have p101 : 0 ≤ (x3_1 : Int) := of_decide_eq_true zs
       have q101 : x3_1 < (l0.length : Int) := of_decide_eq_true zs
       obtain ⟨ad101, e101, hx101_0, hx101_1, hx101_2, hx101_3⟩ := at_T24 HR0.out x3_1 p101 q101
       have hw101_3 := hx101_3
       have hw101_2 := hx101_2
       have hw101_1 := hx101_1
       have hw101_0 := hx101_0
       cases e101
       replace hx101_0 := pw_cell_below HB.out hx101_0
       replace hx101_1 := pw_cell_below HB.out hx101_1
       replace hx101_2 := pw_cell_below HB.out hx101_2
       replace hx101_3 := pw_cell_below HB.out hx101_3
       replace p101 := eq_true p101
       replace q101 := eq_true q101
       refine start_ (n := 31) (S := fun w' => w'.cell? (ad101.add ((x3_1).toNat * 4)) = some (.int .i64 ((rd_T24 l0 x3_1).f0)) ∧ w'.cell? ⟨(ad101.add ((x3_1).toNat * 4)).block, (ad101.add ((x3_1).toNat * 4)).off + 1, none⟩ = some (.int .i64 ((rd_T24 l0 x3_1).f1)) ∧ w'.cell? ⟨(ad101.add ((x3_1).toNat * 4)).block, (ad101.add ((x3_1).toNat * 4)).off + 2, none⟩ = some (.bool ((rd_T24 l0 x3_1).f2)) ∧ w'.cell? ⟨(ad101.add ((x3_1).toNat * 4)).block, (ad101.add ((x3_1).toNat * 4)).off + 3, none⟩ = some (.bool ((rd_T24 l0 x3_1).f3))) (ds := []) (lb 31 0) zk rfl rfl ⟨(pw_cell_below HB.out hw101_0), (pw_cell_below HB.out hw101_1), (pw_cell_below HB.out hw101_2), (pw_cell_below HB.out hw101_3)⟩ (fun hHeld => ?_); refine with_tabW spec_AreasOk.tab4 spec_AreasOk.bits4 (fun HT_ HW_ => ?_)
       generalize wr.drew = w15 at HB hx101_0 hx101_1 hx101_2 hx101_3 hHeld ⊢
       refine pz 0 (some 10) (lb 31 1) rfl rfl HT_.out ?_
       refine pz 1 (some 11) (lb 31 3) rfl rfl HT_.out ?_
       refine pz 2 (some 12) (lb 31 7) rfl rfl HT_.out ?_
       refine tz 3 (some 13) (lb 31 15) rfl rfl HT_.out HW_.out hHeld ?_
       refine one_ (i := 4) (N := some 14) (lb 31 31) rfl rfl (one_of HT_.out zk) (by decide) (fun K hK => ?_)
       refine goes_ Try.func20 zk rfl #[.agg #[.int .i64 ((rd_T24 l0 x3_1).f0), .int .i64 ((rd_T24 l0 x3_1).f1), .bool ((rd_T24 l0 x3_1).f2), .bool ((rd_T24 l0 x3_1).f3)]] (by rfl) rfl rfl zm ?_
       with_reducible refine (spec_AreaOk.calls ((rd_T24 l0 x3_1).f0) ((rd_T24 l0 x3_1).f1) ((rd_T24 l0 x3_1).f2) ((rd_T24 l0 x3_1).f3) true _ A4.out).mono ?_
       rintro e w16 ⟨rfl, hb⟩
       refine ⟨_, rfl, ?_⟩
       replace HB := Aside0.mk (below_step (bz HB.out) hb)
       (try clear hb)
       refine hK.out _ _ ⟨(pw_cell_below HB.out hw101_0), (pw_cell_below HB.out hw101_1), (pw_cell_below HB.out hw101_2), (pw_cell_below HB.out hw101_3)⟩ (fun hHeld => ?_)
       clear hK K
       refine norm_ (a' := ?_) ?_ ?_
       rotate_left
       ·
        show Act.put _ (some 14) _ = _
        simp only [Act.put, List.setIfInBounds_toArray, List.set_cons_zero, List.set_cons_succ, i64_w, i32_w]
        rfl
       refine pz 5 (some 15) (lb 31 63) rfl rfl HT_.out ?_
       refine pz 6 (some 16) (lb 31 127) rfl rfl HT_.out ?_
       refine pz 7 (some 17) (lb 31 255) rfl rfl HT_.out ?_
       refine pz 8 (some 18) (lb 31 511) rfl rfl HT_.out ?_
       refine pz 9 (some 19) (lb 31 1023) rfl rfl HT_.out ?_
       refine nz 10 (some 20) (lb 31 2047) rfl rfl HT_.out ?_
       refine nz 11 (some 21) (lb 31 4095) rfl rfl HT_.out ?_
       refine nz 12 (some 22) (lb 31 8191) rfl rfl HT_.out ?_
       refine nz 13 (some 23) (lb 31 16383) rfl rfl HT_.out ?_
       refine nz 14 (some 24) (lb 31 32767) rfl rfl HT_.out ?_
       refine nz 15 (some 25) (lb 31 65535) rfl rfl HT_.out ?_
       refine nz 16 (some 26) (lb 31 131071) rfl rfl HT_.out ?_
       refine nz 17 (some 27) (lb 31 262143) rfl rfl HT_.out ?_
       refine nz 18 (some 28) (lb 31 524287) rfl rfl HT_.out ?_
       refine nz 19 (some 29) (lb 31 1048575) rfl rfl HT_.out ?_
       refine nz 20 (some 30) (lb 31 2097151) rfl rfl HT_.out ?_
       refine nz 21 (some 31) (lb 31 4194303) rfl rfl HT_.out ?_
       refine nz 22 (some 32) (lb 31 8388607) rfl rfl HT_.out ?_
       refine nz 23 (some 33) (lb 31 16777215) rfl rfl HT_.out ?_
       refine nz 24 (some 34) (lb 31 33554431) rfl rfl HT_.out ?_
       refine nz 25 (some 35) (lb 31 67108863) rfl rfl HT_.out ?_
       refine nz 26 (some 36) (lb 31 134217727) rfl rfl HT_.out ?_
       refine nz 27 (some 37) (lb 31 268435455) rfl rfl HT_.out ?_
       refine nz 28 (some 38) (lb 31 536870911) rfl rfl HT_.out ?_
       refine pz 29 (some 39) (lb 31 1073741823) rfl rfl HT_.out ?_
       refine pz 30 (some 40) (lb 31 2147483647) rfl rfl HT_.out ?_
       refine done_ (done_of HT_.out zk) ?_
       try go_wp2
       go_roundg k1
       case measure => have := HK1.out; omega
       case rel => exact ⟨(wrap64 (x3_1 + 1)), zr, H', ⟨by have := HK1.out; omega⟩, ⟨bz HB.out⟩⟩
     ·
      replace c5 := Bool.eq_false_iff.mpr c5
      subst c5
      rw [if_neg nf_] at H
      obtain rfl := Option.some.inj H
      try go_wp2
      replace HB := Aside0.mk (below_drew1 HB.out)
      have p101 : 0 ≤ (x3_1 : Int) := of_decide_eq_true zs
      have q101 : x3_1 < (l0.length : Int) := of_decide_eq_true zs
      obtain ⟨ad101, e101, hx101_0, hx101_1, hx101_2, hx101_3⟩ := at_T24 HR0.out x3_1 p101 q101
      have hw101_3 := hx101_3
      have hw101_2 := hx101_2
      have hw101_1 := hx101_1
      have hw101_0 := hx101_0
      cases e101
      replace hx101_0 := pw_cell_below HB.out hx101_0
      replace hx101_1 := pw_cell_below HB.out hx101_1
      replace hx101_2 := pw_cell_below HB.out hx101_2
      replace hx101_3 := pw_cell_below HB.out hx101_3
      replace p101 := eq_true p101
      replace q101 := eq_true q101
      refine start_ (n := 31) (S := fun w' => w'.cell? (ad101.add ((x3_1).toNat * 4)) = some (.int .i64 ((rd_T24 l0 x3_1).f0)) ∧ w'.cell? ⟨(ad101.add ((x3_1).toNat * 4)).block, (ad101.add ((x3_1).toNat * 4)).off + 1, none⟩ = some (.int .i64 ((rd_T24 l0 x3_1).f1)) ∧ w'.cell? ⟨(ad101.add ((x3_1).toNat * 4)).block, (ad101.add ((x3_1).toNat * 4)).off + 2, none⟩ = some (.bool ((rd_T24 l0 x3_1).f2)) ∧ w'.cell? ⟨(ad101.add ((x3_1).toNat * 4)).block, (ad101.add ((x3_1).toNat * 4)).off + 3, none⟩ = some (.bool ((rd_T24 l0 x3_1).f3))) (ds := []) (lb 31 0) zk rfl rfl ⟨(pw_cell_below HB.out hw101_0), (pw_cell_below HB.out hw101_1), (pw_cell_below HB.out hw101_2), (pw_cell_below HB.out hw101_3)⟩ (fun hHeld => ?_); refine with_tabW spec_AreasOk.tab4 spec_AreasOk.bits4 (fun HT_ HW_ => ?_)
      generalize wr.drew = w17 at HB hx101_0 hx101_1 hx101_2 hx101_3 hHeld ⊢
      refine pz 0 (some 10) (lb 31 1) rfl rfl HT_.out ?_
      refine pz 1 (some 11) (lb 31 3) rfl rfl HT_.out ?_
      refine pz 2 (some 12) (lb 31 7) rfl rfl HT_.out ?_
      refine tz 3 (some 13) (lb 31 15) rfl rfl HT_.out HW_.out hHeld ?_
      refine one_ (i := 4) (N := some 14) (lb 31 31) rfl rfl (one_of HT_.out zk) (by decide) (fun K hK => ?_)
      refine goes_ Try.func20 zk rfl #[.agg #[.int .i64 ((rd_T24 l0 x3_1).f0), .int .i64 ((rd_T24 l0 x3_1).f1), .bool ((rd_T24 l0 x3_1).f2), .bool ((rd_T24 l0 x3_1).f3)]] (by rfl) rfl rfl zm ?_
      with_reducible refine (spec_AreaOk.calls ((rd_T24 l0 x3_1).f0) ((rd_T24 l0 x3_1).f1) ((rd_T24 l0 x3_1).f2) ((rd_T24 l0 x3_1).f3) false _ A4.out).mono ?_
      rintro e w18 ⟨rfl, hb⟩
      refine ⟨_, rfl, ?_⟩
      replace HB := Aside0.mk (below_step (bz HB.out) hb)
      (try clear hb)
      refine hK.out _ _ ⟨(pw_cell_below HB.out hw101_0), (pw_cell_below HB.out hw101_1), (pw_cell_below HB.out hw101_2), (pw_cell_below HB.out hw101_3)⟩ (fun hHeld => ?_)
      clear hK K
      refine norm_ (a' := ?_) ?_ ?_
      rotate_left
      ·
       show Act.put _ (some 14) _ = _
       simp only [Act.put, List.setIfInBounds_toArray, List.set_cons_zero, List.set_cons_succ, i64_w, i32_w]
       rfl
      refine pz 5 (some 15) (lb 31 63) rfl rfl HT_.out ?_
      refine pz 6 (some 16) (lb 31 127) rfl rfl HT_.out ?_
      refine nz 7 (some 17) (lb 31 255) rfl rfl HT_.out ?_
      refine nz 8 (some 18) (lb 31 511) rfl rfl HT_.out ?_
      refine nz 9 (some 19) (lb 31 1023) rfl rfl HT_.out ?_
      refine nz 10 (some 20) (lb 31 2047) rfl rfl HT_.out ?_
      refine nz 11 (some 21) (lb 31 4095) rfl rfl HT_.out ?_
      refine nz 12 (some 22) (lb 31 8191) rfl rfl HT_.out ?_
      refine nz 13 (some 23) (lb 31 16383) rfl rfl HT_.out ?_
      refine nz 14 (some 24) (lb 31 32767) rfl rfl HT_.out ?_
      refine nz 15 (some 25) (lb 31 65535) rfl rfl HT_.out ?_
      refine nz 16 (some 26) (lb 31 131071) rfl rfl HT_.out ?_
      refine nz 17 (some 27) (lb 31 262143) rfl rfl HT_.out ?_
      refine nz 18 (some 28) (lb 31 524287) rfl rfl HT_.out ?_
      refine nz 19 (some 29) (lb 31 1048575) rfl rfl HT_.out ?_
      refine nz 20 (some 30) (lb 31 2097151) rfl rfl HT_.out ?_
      refine nz 21 (some 31) (lb 31 4194303) rfl rfl HT_.out ?_
      refine nz 22 (some 32) (lb 31 8388607) rfl rfl HT_.out ?_
      refine nz 23 (some 33) (lb 31 16777215) rfl rfl HT_.out ?_
      refine nz 24 (some 34) (lb 31 33554431) rfl rfl HT_.out ?_
      refine nz 25 (some 35) (lb 31 67108863) rfl rfl HT_.out ?_
      refine nz 26 (some 36) (lb 31 134217727) rfl rfl HT_.out ?_
      refine nz 27 (some 37) (lb 31 268435455) rfl rfl HT_.out ?_
      refine nz 28 (some 38) (lb 31 536870911) rfl rfl HT_.out ?_
      refine nz 29 (some 39) (lb 31 1073741823) rfl rfl HT_.out ?_
      refine pz 30 (some 40) (lb 31 2147483647) rfl rfl HT_.out ?_
      refine done_ (done_of HT_.out zk) ?_
      try go_wp2
      go_ret
      exact ⟨ze, bz HB.out⟩
    ·
     rw [if_neg c3] at H
     exact absurd H (by simp)
   ·
    rw [if_neg c2] at H
    have c2b0 : decide (x3_1 < (l0.length : Int)) = false := decide_eq_false c2
    clear c2
    obtain rfl := Option.some.inj H
    go_wp2
    go_ret
    exact ⟨ze, bz HB.out⟩

end Go.Proofs.Ytlahnekinlkfmaa.P
