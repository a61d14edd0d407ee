-- printed by this session's own driver (wip/qd.py) out of the translation; Lean checks it
import Derived.Test.YtlejcgnfpcngbaaPf0
import Derived.Test.YtlejcgnfpcngbaaPfimplbyTime
import Derived.Test.YtlejcgnfpcngbaaQVal
namespace Go.Proofs.Ytlejcgnfpcngbaa.P
open Go.RowKit Go.Proofs.YtlejcgnfpcngbaaW.PrintWords Go.Proofs.YtlejcgnfpcngbaaW.PrintLast Go.Proofs.YtlejcgnfpcngbaaW.PrintMore
attribute [local go_sem] max2_int min2_int max_two min_two max_three min_three max_four min_four Q.cell_set_map   -- for this text's walks alone
set_option linter.unusedVariables false
set_option linter.unusedSimpArgs false

/-! ### slices_BinarySearchFunc_Alarm: function 66 -/
def slices_BinarySearchFunc_Alarm.l0 : Nat → List (S62) → Int → Int → Int → Int → Int → Int → Option (Int × Bool)
 | 0, _, _, _, _, _, _, _ => none
 | k + 1, x0, x8, x9, x10, x102000, x102001, x102002 => if x9 < x10 then (if 0 ≤ (wrap64 ((IntKind.u64.wrap (wrap64 (x9 + x10))) / 2)) then (if (wrap64 ((IntKind.u64.wrap (wrap64 (x9 + x10))) / 2)) < (x0.length : Int) then ((impl_byTime.f ((rd_T62 x0 (wrap64 ((IntKind.u64.wrap (wrap64 (x9 + x10))) / 2))).f0) ((rd_T62 x0 (wrap64 ((IntKind.u64.wrap (wrap64 (x9 + x10))) / 2))).f1) ((rd_T62 x0 (wrap64 ((IntKind.u64.wrap (wrap64 (x9 + x10))) / 2))).f2) x102000 x102001 x102002).bind fun t103 => (if t103 < 0 then (slices_BinarySearchFunc_Alarm.l0 k x0 x8 (wrap64 ((wrap64 ((IntKind.u64.wrap (wrap64 (x9 + x10))) / 2)) + 1)) x10 x102000 x102001 x102002) else (slices_BinarySearchFunc_Alarm.l0 k x0 x8 x9 (wrap64 ((IntKind.u64.wrap (wrap64 (x9 + x10))) / 2)) x102000 x102001 x102002))) else (none)) else (none)) else (if x9 < x8 then (if 0 ≤ x9 then (if x9 < (x0.length : Int) then ((impl_byTime.f ((rd_T62 x0 x9).f0) ((rd_T62 x0 x9).f1) ((rd_T62 x0 x9).f2) x102000 x102001 x102002).bind fun t105 => (some (x9, (t105 == 0)))) else (none)) else (none)) else (some (x9, false)))
def slices_BinarySearchFunc_Alarm.f (k : Nat) (l0 : List (S62)) (a1_0 : Int) (a1_1 : Int) (a1_2 : Int)  : Option (Int × Bool) := slices_BinarySearchFunc_Alarm.l0 k l0 (l0.length : Int) 0 (l0.length : Int) a1_0 a1_1 a1_2
theorem slices_BinarySearchFunc_Alarm.mono_l : ∀ k, (∀ y0 y1 y2 y3 y4 y5 y6, LeO (slices_BinarySearchFunc_Alarm.l0 k y0 y1 y2 y3 y4 y5 y6) (slices_BinarySearchFunc_Alarm.l0 (k + 1) y0 y1 y2 y3 y4 y5 y6))
 | 0 => fun _ _ _ _ _ _ _ r h => by simp [slices_BinarySearchFunc_Alarm.l0] at h
 | k + 1 => by
  have ih0 := slices_BinarySearchFunc_Alarm.mono_l k
  ·
   intro y0 y1 y2 y3 y4 y5 y6
   unfold slices_BinarySearchFunc_Alarm.l0
   repeat' first
   | (with_reducible exact ih0 _ _ _ _ _ _ _)
   | (with_reducible exact LeO.refl _)
   | (with_reducible exact LeO.none _)
   | (with_reducible refine LeO.ite ?_ ?_)
   | (with_reducible refine LeO.bind ?_ (fun _ => ?_))
   | exact ih0 _ _ _ _ _ _ _
   | exact LeO.none _
   | refine LeO.ite ?_ ?_
   | refine LeO.bind ?_ (fun _ => ?_)
theorem slices_BinarySearchFunc_Alarm.mono : ∀ a0 a1 a2 a3 k, LeO (slices_BinarySearchFunc_Alarm.f k a0 a1 a2 a3) (slices_BinarySearchFunc_Alarm.f (k + 1) a0 a1 a2 a3) := by
 intro a0 a1 a2 a3 k
 have ih0 := slices_BinarySearchFunc_Alarm.mono_l k
 unfold slices_BinarySearchFunc_Alarm.f
 repeat' first
   | (with_reducible exact ih0 _ _ _ _ _ _ _)
   | (with_reducible exact LeO.refl _)
   | (with_reducible exact LeO.none _)
   | (with_reducible refine LeO.ite ?_ ?_)
   | (with_reducible refine LeO.bind ?_ (fun _ => ?_))
   | exact ih0 _ _ _ _ _ _ _
   | exact LeO.none _
   | refine LeO.ite ?_ ?_
   | refine LeO.bind ?_ (fun _ => ?_)
def slices_BinarySearchFunc_Alarm.T5 : Bool × List (List Nat × List Nat) := (true, [([], []), ([], []), ([], []), ([1, 2], [1, 2]), ([3], [3]), ([], []), ([0, 4, 5], [0, 4, 5]), ([6], [6])])
def slices_BinarySearchFunc_Alarm.B5 : List Nat := [0, 0, 0, 6, 14, 0, 63, 127]
theorem slices_BinarySearchFunc_Alarm.tab5 : rtab .any (opsOf Try.f66 5) = slices_BinarySearchFunc_Alarm.T5 := by kernel_rfl
theorem slices_BinarySearchFunc_Alarm.bits5 : waitsOk slices_BinarySearchFunc_Alarm.T5.2 slices_BinarySearchFunc_Alarm.B5 = true := by kernel_rfl
def slices_BinarySearchFunc_Alarm.T8 : Bool × List (List Nat × List Nat) := (true, [([], []), ([], []), ([], []), ([1, 2], [1, 2]), ([3], [3]), ([4], [4]), ([4], [4]), ([4], [4]), ([6, 7, 4], [4, 6, 7]), ([8, 4], [4, 8]), ([4], [4]), ([5, 9, 10, 4, 4], [4, 5, 9, 10]), ([11, 4], [4, 11]), ([4, 12], [4, 12]), ([0, 11, 0], [0]), ([13, 14, 0, 1, 2, 3, 4, 5, 6, 7, 8, 9, 10, 11, 12, 13, 14], [13])])
def slices_BinarySearchFunc_Alarm.B8 : List Nat := [0, 0, 0, 6, 14, 30, 30, 30, 222, 478, 30, 2046, 4094, 8190, 4095, 32767]
theorem slices_BinarySearchFunc_Alarm.tab8 : rtab .any (opsOf Try.f66 8) = slices_BinarySearchFunc_Alarm.T8 := by kernel_rfl
theorem slices_BinarySearchFunc_Alarm.bits8 : waitsOk slices_BinarySearchFunc_Alarm.T8.2 slices_BinarySearchFunc_Alarm.B8 = true := by kernel_rfl
set_option maxHeartbeats 8000000 in
set_option maxRecDepth 100000 in
theorem slices_BinarySearchFunc_Alarm.calls (k : Nat) (A0 : Option Addr) (c0 : Nat) (l0 : List (S62)) (a1_0 : Int) (a1_1 : Int) (a1_2 : Int)  (r1 : Int) (r2 : Bool) (w : World) (hr0 : Kd.C k62 w A0 l0.length l0) (hc0 : l0.length ≤ c0) (h : slices_BinarySearchFunc_Alarm.f k l0 a1_0 a1_1 a1_2 = some (r1, r2)) :
  Calls Try.prog 66 #[.slice A0 l0.length c0, .agg #[.int .i64 a1_0, .int .i64 a1_1, .int .i64 a1_2], .func (.func 47) #[] #[]] w fun e w' => e = .returned (.tuple #[.int .i64 r1, .bool r2]) ∧ Below w.heap.size w w' := by
 have hu62 := Try.underlying62; have HR0 := Aside0.mk hr0; have HC0 := Aside0.mk hc0; clear hr0 hc0; have HB := Aside0.mk (Below.refl w.heap.size w); have H : (slices_BinarySearchFunc_Alarm.l0 k l0 (l0.length : Int) 0 (l0.length : Int) a1_0 a1_1 a1_2) = some (r1, r2) := h; clear h; have H' := Aside0.mk H; clear H
 go_enter Try.func66, Try.ntmps66
 go_wp2_with (first | ((with_reducible refine gate_dst (N := 4) rfl ?_); refine box_event ?hg (N := 4) ?hd (cs := #[.int .i64 a1_0, .int .i64 a1_1, .int .i64 a1_2]) (t := 62) ?hr ?_; (case hd => rfl); (case hg => rfl); (case hr => first | (go_simp; done) | (go_simp; rfl)); intro gb101 hg w4 hbox hb; have BK101 := Aside0.mk (hbox); have GW101 := Aside0.mk ((by rw [hg]; exact (below_size (bz HB.out)) : w.heap.size ≤ gb101)); have GE101 := Aside0.mk ((by rw [hg]; exact (below_size (bz HB.out)) : w.heap.size ≤ gb101)); replace HB := Aside0.mk (below_step (bz HB.out) hb); clear hb hbox hg))
 go_loopg [9, 10] k (fun kq v9 v10 w' => ∃ (x9_1 : Int) (x10_1 : Int), v9 = .int .i64 x9_1 ∧ v10 = .int .i64 x10_1 ∧ Aside0 (slices_BinarySearchFunc_Alarm.l0 kq l0 (l0.length : Int) x9_1 x10_1 a1_0 a1_1 a1_2 = some (r1, r2)) ∧ Aside0 (kq ≤ k) ∧ Aside0 (w'.heap[gb101]? = some (.cells #[.int .i64 a1_0, .int .i64 a1_1, .int .i64 a1_2] 62 (0, 0))) ∧ Aside0 (Below w.heap.size w w'))
 case atStart => exact ⟨(0), ((l0.length : Int)), zr, zr, H', ⟨Nat.le_refl _⟩, ⟨kz (BK101.out)⟩, ⟨bs HB.out GE101.out⟩⟩
 case round =>
  clear H'
  try clear p2
  obtain ⟨x9_1, x10_1, rfl, rfl, HA, HK1, BK101, HB⟩ := hrel
  cases gk with
  | zero => exact absurd HA.out (by simp [slices_BinarySearchFunc_Alarm.l0])
  | succ k1 =>
   have H := HA.out; clear HA; simp only [slices_BinarySearchFunc_Alarm.l0] at H
   by_cases c5 : x9_1 < x10_1
   ·
    rw [if_pos c5] at H; have c5b0 : decide (x9_1 < x10_1) = true := decide_eq_true c5; clear c5; obtain ⟨ji6, hji6⟩ : ∃ j_ : Int, (wrap64 ((IntKind.u64.wrap (wrap64 (x9_1 + x10_1))) / 2)) = j_ := ⟨_, rfl⟩
    replace H : (if 0 ≤ (ji6) then (if (ji6) < (l0.length : Int) then ((impl_byTime.f ((rd_T62 l0 (ji6)).f0) ((rd_T62 l0 (ji6)).f1) ((rd_T62 l0 (ji6)).f2) a1_0 a1_1 a1_2).bind fun t103 => (if t103 < 0 then (slices_BinarySearchFunc_Alarm.l0 k1 l0 (l0.length : Int) (wrap64 ((ji6) + 1)) x10_1 a1_0 a1_1 a1_2) else (slices_BinarySearchFunc_Alarm.l0 k1 l0 (l0.length : Int) x9_1 ji6 a1_0 a1_1 a1_2))) else (none)) else (none)) = some (r1, r2) := by first | (rw [hji6] at H; exact H) | (simp only [hji6] at H ⊢; exact H)
    have hji6w : (IntKind.i64.wrap ((IntKind.u64.wrap (wrap64 (x9_1 + x10_1))) / 2)) = ji6 := (i64_w _).trans hji6
    by_cases c7 : 0 ≤ (ji6)
    ·
     rw [if_pos c7] at H; have c7b0 : decide (0 ≤ (ji6)) = true := decide_eq_true c7; clear c7
     by_cases c8 : (ji6) < (l0.length : Int)
     ·
      rw [if_pos c8] at H; have c8b0 : decide ((ji6) < (l0.length : Int)) = true := decide_eq_true c8; clear c8; replace H := Option.bind_eq_some_iff.mp H; obtain ⟨t103, A90, H⟩ := H; have A9 := Aside0.mk A90; clear A90
      by_cases c10 : t103 < 0
      ·
       rw [if_pos c10] at H; have c10b0 : decide (t103 < 0) = true := decide_eq_true c10; clear c10; have H' := Aside0.mk H; clear H
       try go_wp2
       replace BK101 := Aside0.mk (blk_drew BK101.out); replace HB := Aside0.mk (below_drew1 HB.out); have p102 : 0 ≤ ((ji6) : Int) := of_decide_eq_true zs; have q102 : (ji6) < (l0.length : Int) := of_decide_eq_true zs; obtain ⟨ad102, e102, hx102_0, hx102_1, hx102_2⟩ := at_T62 HR0.out (ji6) p102 q102; have hw102_2 := hx102_2; have hw102_1 := hx102_1; have hw102_0 := hx102_0; cases e102; replace hx102_0 := pw_cell_below HB.out hx102_0; replace hx102_1 := pw_cell_below HB.out hx102_1; replace hx102_2 := pw_cell_below HB.out hx102_2; replace p102 := eq_true p102; replace q102 := eq_true q102; refine start_ (n := 8) (S := fun w' => w'.cell? ⟨gb101, 0, none⟩ = some (.int .i64 a1_0) ∧ w'.cell? ⟨gb101, 1, none⟩ = some (.int .i64 a1_1) ∧ w'.cell? ⟨gb101, 2, none⟩ = some (.int .i64 a1_2) ∧ w'.cell? (ad102.add (((ji6)).toNat * 3)) = some (.int .i64 ((rd_T62 l0 (ji6)).f0)) ∧ w'.cell? ⟨(ad102.add (((ji6)).toNat * 3)).block, (ad102.add (((ji6)).toNat * 3)).off + 1, none⟩ = some (.int .i64 ((rd_T62 l0 (ji6)).f1)) ∧ w'.cell? ⟨(ad102.add (((ji6)).toNat * 3)).block, (ad102.add (((ji6)).toNat * 3)).off + 2, none⟩ = some (.int .i64 ((rd_T62 l0 (ji6)).f2))) (ds := []) (lb 8 0) zk rfl rfl ⟨(blk_cell BK101.out 0).trans rfl, (blk_cell BK101.out 1).trans rfl, (blk_cell BK101.out 2).trans rfl, (pw_cell_below HB.out hw102_0), (pw_cell_below HB.out hw102_1), (pw_cell_below HB.out hw102_2)⟩ (fun hHeld => ?_); refine with_tabW slices_BinarySearchFunc_Alarm.tab5 slices_BinarySearchFunc_Alarm.bits5 (fun HT_ HW_ => ?_)
       generalize wr.drew = w11 at BK101 HB hx102_0 hx102_1 hx102_2 hHeld ⊢
       refine pz 0 (some 24) (lb 8 1) rfl rfl HT_.out ?_; refine pz 1 (some 25) (lb 8 3) rfl rfl HT_.out ?_; refine pz 2 (some 26) (lb 8 7) rfl rfl HT_.out ?_; refine pz 3 (some 27) (lb 8 15) rfl rfl HT_.out ?_; refine tz 4 (some 28) (lb 8 31) rfl rfl HT_.out HW_.out hHeld ?_; refine tz 5 (some 29) (lb 8 63) rfl rfl HT_.out HW_.out hHeld ?_; refine one_ (i := 6) (N := some 30) (lb 8 127) rfl rfl (one_of HT_.out zk) (by decide) (fun K hK => ?_); refine Q.goesV_ Try.func47 zk rfl #[.agg #[.int .i64 ((rd_T62 l0 (ji6)).f0), .int .i64 ((rd_T62 l0 (ji6)).f1), .int .i64 ((rd_T62 l0 (ji6)).f2)], .agg #[.int .i64 a1_0, .int .i64 a1_1, .int .i64 a1_2]] (by rfl) rfl rfl (by rfl) (by (try simp only [List.map_toArray, List.map_cons, List.map_nil]); first | done | (simp only [hji6]; rfl) | rfl | (simp only [List.length_drop, List.length_take]; rfl)) ?_; (with_reducible refine (impl_byTime.calls ((rd_T62 l0 (ji6)).f0) ((rd_T62 l0 (ji6)).f1) ((rd_T62 l0 (ji6)).f2) a1_0 a1_1 a1_2 t103 _ A9.out).mono ?_); rintro e w12 ⟨rfl, hb⟩; refine ⟨_, rfl, ?_⟩; replace BK101 := Aside0.mk (blk_below (kz BK101.out) hb); replace HB := Aside0.mk (below_step (bs HB.out GE101.out) hb); (try clear hb); refine hK.out _ _ ⟨(blk_cell BK101.out 0).trans rfl, (blk_cell BK101.out 1).trans rfl, (blk_cell BK101.out 2).trans rfl, (pw_cell_below HB.out hw102_0), (pw_cell_below HB.out hw102_1), (pw_cell_below HB.out hw102_2)⟩ (fun hHeld => ?_); clear hK K; refine norm_ (a' := ?_) ?_ ?_; rotate_left
       ·
        show Act.put _ (some 30) _ = _
        simp only [Act.put, List.setIfInBounds_toArray, List.set_cons_zero, List.set_cons_succ, i64_w, i32_w]
        rfl
       refine pz 7 (some 31) (lb 8 255) rfl rfl HT_.out ?_; refine done_ (done_of HT_.out zk) ?_
       try go_wp2
       go_roundg k1
       case measure => have := HK1.out; omega
       case rel => exact ⟨(wrap64 ((ji6) + 1)), (x10_1), (by first | rfl | (simp; done) | (simp only [← hji6] <;> (first | rfl | simp)) | (simp [*]; done)), zr, H', ⟨by have := HK1.out; omega⟩, ⟨kz (BK101.out)⟩, ⟨bs HB.out GE101.out⟩⟩
      ·
       rw [if_neg c10] at H; have c10b0 : decide (t103 < 0) = false := decide_eq_false c10; clear c10; have H' := Aside0.mk H; clear H
       try go_wp2
       replace BK101 := Aside0.mk (blk_drew BK101.out); replace HB := Aside0.mk (below_drew1 HB.out); have p102 : 0 ≤ ((ji6) : Int) := of_decide_eq_true zs; have q102 : (ji6) < (l0.length : Int) := of_decide_eq_true zs; obtain ⟨ad102, e102, hx102_0, hx102_1, hx102_2⟩ := at_T62 HR0.out (ji6) p102 q102; have hw102_2 := hx102_2; have hw102_1 := hx102_1; have hw102_0 := hx102_0; cases e102; replace hx102_0 := pw_cell_below HB.out hx102_0; replace hx102_1 := pw_cell_below HB.out hx102_1; replace hx102_2 := pw_cell_below HB.out hx102_2; replace p102 := eq_true p102; replace q102 := eq_true q102; refine start_ (n := 8) (S := fun w' => w'.cell? ⟨gb101, 0, none⟩ = some (.int .i64 a1_0) ∧ w'.cell? ⟨gb101, 1, none⟩ = some (.int .i64 a1_1) ∧ w'.cell? ⟨gb101, 2, none⟩ = some (.int .i64 a1_2) ∧ w'.cell? (ad102.add (((ji6)).toNat * 3)) = some (.int .i64 ((rd_T62 l0 (ji6)).f0)) ∧ w'.cell? ⟨(ad102.add (((ji6)).toNat * 3)).block, (ad102.add (((ji6)).toNat * 3)).off + 1, none⟩ = some (.int .i64 ((rd_T62 l0 (ji6)).f1)) ∧ w'.cell? ⟨(ad102.add (((ji6)).toNat * 3)).block, (ad102.add (((ji6)).toNat * 3)).off + 2, none⟩ = some (.int .i64 ((rd_T62 l0 (ji6)).f2))) (ds := []) (lb 8 0) zk rfl rfl ⟨(blk_cell BK101.out 0).trans rfl, (blk_cell BK101.out 1).trans rfl, (blk_cell BK101.out 2).trans rfl, (pw_cell_below HB.out hw102_0), (pw_cell_below HB.out hw102_1), (pw_cell_below HB.out hw102_2)⟩ (fun hHeld => ?_); refine with_tabW slices_BinarySearchFunc_Alarm.tab5 slices_BinarySearchFunc_Alarm.bits5 (fun HT_ HW_ => ?_)
       generalize wr.drew = w13 at BK101 HB hx102_0 hx102_1 hx102_2 hHeld ⊢
       refine pz 0 (some 24) (lb 8 1) rfl rfl HT_.out ?_; refine pz 1 (some 25) (lb 8 3) rfl rfl HT_.out ?_; refine pz 2 (some 26) (lb 8 7) rfl rfl HT_.out ?_; refine pz 3 (some 27) (lb 8 15) rfl rfl HT_.out ?_; refine tz 4 (some 28) (lb 8 31) rfl rfl HT_.out HW_.out hHeld ?_; refine tz 5 (some 29) (lb 8 63) rfl rfl HT_.out HW_.out hHeld ?_; refine one_ (i := 6) (N := some 30) (lb 8 127) rfl rfl (one_of HT_.out zk) (by decide) (fun K hK => ?_); refine Q.goesV_ Try.func47 zk rfl #[.agg #[.int .i64 ((rd_T62 l0 (ji6)).f0), .int .i64 ((rd_T62 l0 (ji6)).f1), .int .i64 ((rd_T62 l0 (ji6)).f2)], .agg #[.int .i64 a1_0, .int .i64 a1_1, .int .i64 a1_2]] (by rfl) rfl rfl (by rfl) (by (try simp only [List.map_toArray, List.map_cons, List.map_nil]); first | done | (simp only [hji6]; rfl) | rfl | (simp only [List.length_drop, List.length_take]; rfl)) ?_; (with_reducible refine (impl_byTime.calls ((rd_T62 l0 (ji6)).f0) ((rd_T62 l0 (ji6)).f1) ((rd_T62 l0 (ji6)).f2) a1_0 a1_1 a1_2 t103 _ A9.out).mono ?_); rintro e w14 ⟨rfl, hb⟩; refine ⟨_, rfl, ?_⟩; replace BK101 := Aside0.mk (blk_below (kz BK101.out) hb); replace HB := Aside0.mk (below_step (bs HB.out GE101.out) hb); (try clear hb); refine hK.out _ _ ⟨(blk_cell BK101.out 0).trans rfl, (blk_cell BK101.out 1).trans rfl, (blk_cell BK101.out 2).trans rfl, (pw_cell_below HB.out hw102_0), (pw_cell_below HB.out hw102_1), (pw_cell_below HB.out hw102_2)⟩ (fun hHeld => ?_); clear hK K; refine norm_ (a' := ?_) ?_ ?_; rotate_left
       ·
        show Act.put _ (some 30) _ = _
        simp only [Act.put, List.setIfInBounds_toArray, List.set_cons_zero, List.set_cons_succ, i64_w, i32_w]
        rfl
       refine pz 7 (some 31) (lb 8 255) rfl rfl HT_.out ?_; refine done_ (done_of HT_.out zk) ?_
       try go_wp2
       go_roundg k1
       case measure => have := HK1.out; omega
       case rel => exact ⟨(x9_1), (ji6), zr, (by first | rfl | (simp; done) | (simp only [← hji6] <;> (first | rfl | simp)) | (simp [*]; done)), H', ⟨by have := HK1.out; omega⟩, ⟨kz (BK101.out)⟩, ⟨bs HB.out GE101.out⟩⟩
     ·
      rw [if_neg c8] at H
      exact absurd H (by simp)
    ·
     rw [if_neg c7] at H
     exact absurd H (by simp)
   ·
    rw [if_neg c5] at H; have c5b0 : decide (x9_1 < x10_1) = false := decide_eq_false c5; clear c5
    by_cases c15 : x9_1 < (l0.length : Int)
    ·
     rw [if_pos c15] at H; have c15b0 : decide (x9_1 < (l0.length : Int)) = true := decide_eq_true c15; clear c15
     by_cases c16 : 0 ≤ x9_1
     ·
      rw [if_pos c16] at H; have c16b0 : decide (0 ≤ x9_1) = true := decide_eq_true c16; clear c16
      by_cases c17 : x9_1 < (l0.length : Int)
      ·
       rw [if_pos c17] at H; have c17b0 : decide (x9_1 < (l0.length : Int)) = true := decide_eq_true c17; clear c17; replace H := Option.bind_eq_some_iff.mp H; obtain ⟨t105, A180, H⟩ := H; have A18 := Aside0.mk A180; clear A180; simp only [Option.some.injEq, Prod.mk.injEq] at H; obtain ⟨rfl, rfl⟩ := H
       try go_wp2
       replace BK101 := Aside0.mk (blk_drew BK101.out); replace HB := Aside0.mk (below_drew1 HB.out); have p104 : 0 ≤ (x9_1 : Int) := of_decide_eq_true zs; have q104 : x9_1 < (l0.length : Int) := of_decide_eq_true zs; obtain ⟨ad104, e104, hx104_0, hx104_1, hx104_2⟩ := at_T62 HR0.out x9_1 p104 q104; have hw104_2 := hx104_2; have hw104_1 := hx104_1; have hw104_0 := hx104_0; cases e104; replace hx104_0 := pw_cell_below HB.out hx104_0; replace hx104_1 := pw_cell_below HB.out hx104_1; replace hx104_2 := pw_cell_below HB.out hx104_2; replace p104 := eq_true p104; replace q104 := eq_true q104; refine start_ (n := 16) (S := fun w' => w'.cell? ⟨gb101, 0, none⟩ = some (.int .i64 a1_0) ∧ w'.cell? ⟨gb101, 1, none⟩ = some (.int .i64 a1_1) ∧ w'.cell? ⟨gb101, 2, none⟩ = some (.int .i64 a1_2) ∧ w'.cell? (ad104.add ((x9_1).toNat * 3)) = some (.int .i64 ((rd_T62 l0 x9_1).f0)) ∧ w'.cell? ⟨(ad104.add ((x9_1).toNat * 3)).block, (ad104.add ((x9_1).toNat * 3)).off + 1, none⟩ = some (.int .i64 ((rd_T62 l0 x9_1).f1)) ∧ w'.cell? ⟨(ad104.add ((x9_1).toNat * 3)).block, (ad104.add ((x9_1).toNat * 3)).off + 2, none⟩ = some (.int .i64 ((rd_T62 l0 x9_1).f2))) (ds := []) (lb 16 0) zk rfl rfl ⟨(blk_cell BK101.out 0).trans rfl, (blk_cell BK101.out 1).trans rfl, (blk_cell BK101.out 2).trans rfl, (pw_cell_below HB.out hw104_0), (pw_cell_below HB.out hw104_1), (pw_cell_below HB.out hw104_2)⟩ (fun hHeld => ?_); refine with_tabW slices_BinarySearchFunc_Alarm.tab8 slices_BinarySearchFunc_Alarm.bits8 (fun HT_ HW_ => ?_)
       generalize wr.drew = w19 at BK101 HB hx104_0 hx104_1 hx104_2 hHeld ⊢
       refine pz 0 (some 35) (lb 16 1) rfl rfl HT_.out ?_; refine pz 1 (some 36) (lb 16 3) rfl rfl HT_.out ?_; refine pz 2 (some 37) (lb 16 7) rfl rfl HT_.out ?_; refine pz 3 (some 38) (lb 16 15) rfl rfl HT_.out ?_; refine pz 4 (some 39) (lb 16 31) rfl rfl HT_.out ?_; refine pz 5 (some 40) (lb 16 63) rfl rfl HT_.out ?_; refine pz 6 (some 41) (lb 16 127) rfl rfl HT_.out ?_; refine pz 7 (some 42) (lb 16 255) rfl rfl HT_.out ?_; refine pz 8 (some 43) (lb 16 511) rfl rfl HT_.out ?_; refine tz 9 (some 44) (lb 16 1023) rfl rfl HT_.out HW_.out hHeld ?_; refine tz 10 (some 45) (lb 16 2047) rfl rfl HT_.out HW_.out hHeld ?_; refine one_ (i := 11) (N := some 46) (lb 16 4095) rfl rfl (one_of HT_.out zk) (by decide) (fun K hK => ?_); refine Q.goesV_ Try.func47 zk rfl #[.agg #[.int .i64 ((rd_T62 l0 x9_1).f0), .int .i64 ((rd_T62 l0 x9_1).f1), .int .i64 ((rd_T62 l0 x9_1).f2)], .agg #[.int .i64 a1_0, .int .i64 a1_1, .int .i64 a1_2]] (by rfl) rfl rfl (by rfl) zm ?_; (with_reducible refine (impl_byTime.calls ((rd_T62 l0 x9_1).f0) ((rd_T62 l0 x9_1).f1) ((rd_T62 l0 x9_1).f2) a1_0 a1_1 a1_2 t105 _ A18.out).mono ?_); rintro e w20 ⟨rfl, hb⟩; refine ⟨_, rfl, ?_⟩; replace BK101 := Aside0.mk (blk_below (kz BK101.out) hb); replace HB := Aside0.mk (below_step (bs HB.out GE101.out) hb); (try clear hb); refine hK.out _ _ ⟨(blk_cell BK101.out 0).trans rfl, (blk_cell BK101.out 1).trans rfl, (blk_cell BK101.out 2).trans rfl, (pw_cell_below HB.out hw104_0), (pw_cell_below HB.out hw104_1), (pw_cell_below HB.out hw104_2)⟩ (fun hHeld => ?_); clear hK K; refine norm_ (a' := ?_) ?_ ?_; rotate_left
       ·
        show Act.put _ (some 46) _ = _
        simp only [Act.put, List.setIfInBounds_toArray, List.set_cons_zero, List.set_cons_succ, i64_w, i32_w]
        rfl
       refine pz 12 (some 47) (lb 16 8191) rfl rfl HT_.out ?_; refine pz 13 (some 48) (lb 16 16383) rfl rfl HT_.out ?_; refine pz 14 (some 6) (lb 16 32767) rfl rfl HT_.out ?_; refine pz 15 (some 7) (lb 16 65535) rfl rfl HT_.out ?_; refine done_ (done_of HT_.out zk) ?_
       try go_wp2
       go_ret2
       exact ⟨ze, bs HB.out GE101.out⟩
      ·
       rw [if_neg c17] at H
       exact absurd H (by simp)
     ·
      rw [if_neg c16] at H
      exact absurd H (by simp)
    ·
     rw [if_neg c15] at H; have c15b0 : decide (x9_1 < (l0.length : Int)) = false := decide_eq_false c15; clear c15; simp only [Option.some.injEq, Prod.mk.injEq] at H; obtain ⟨rfl, rfl⟩ := H
     try go_wp2
     replace BK101 := Aside0.mk (blk_drew BK101.out); replace HB := Aside0.mk (below_drew1 HB.out); refine start_ (n := 16) (S := fun w' => True) (ds := []) (lb 16 0) zk rfl rfl trivial (fun hHeld => ?_); refine with_tabW slices_BinarySearchFunc_Alarm.tab8 slices_BinarySearchFunc_Alarm.bits8 (fun HT_ HW_ => ?_)
     generalize wr.drew = w21 at BK101 HB hHeld ⊢
     refine pz 0 (some 35) (lb 16 1) rfl rfl HT_.out ?_; refine pz 1 (some 36) (lb 16 3) rfl rfl HT_.out ?_; refine pz 2 (some 37) (lb 16 7) rfl rfl HT_.out ?_; refine pz 3 (some 38) (lb 16 15) rfl rfl HT_.out ?_; refine pz 4 (some 39) (lb 16 31) rfl rfl HT_.out ?_; refine nz 5 (some 40) (lb 16 63) rfl rfl HT_.out ?_; refine nz 6 (some 41) (lb 16 127) rfl rfl HT_.out ?_; refine nz 7 (some 42) (lb 16 255) rfl rfl HT_.out ?_; refine nz 8 (some 43) (lb 16 511) rfl rfl HT_.out ?_; refine nz 9 (some 44) (lb 16 1023) rfl rfl HT_.out ?_; refine nz 10 (some 45) (lb 16 2047) rfl rfl HT_.out ?_; refine nz 11 (some 46) (lb 16 4095) rfl rfl HT_.out ?_; refine nz 12 (some 47) (lb 16 8191) rfl rfl HT_.out ?_; refine pz 13 (some 48) (lb 16 16383) rfl rfl HT_.out ?_; refine pz 14 (some 6) (lb 16 32767) rfl rfl HT_.out ?_; refine pz 15 (some 7) (lb 16 65535) rfl rfl HT_.out ?_; refine done_ (done_of HT_.out zk) ?_
     try go_wp2
     go_ret2
     exact ⟨ze, bs HB.out GE101.out⟩

end Go.Proofs.Ytlejcgnfpcngbaa.P
