-- printed by wip/qd.py, laid together by wip/mergepf.py
import Derived.Test.YthoapmfpokohnaaPf0
import Derived.Test.YthoapmfpokohnaaPfM3
import Derived.Test.YthoapmfpokohnaaPfM4
import Derived.Test.YthoapmfpokohnaaPfspecl3Alone
import Derived.Test.YthoapmfpokohnaaQSem9
namespace Go.Proofs.Ythoapmfpokohnaa.P
open Go.RowKit Go.Proofs.YthoapmfpokohnaaW.PrintWords Go.Proofs.YthoapmfpokohnaaW.PrintLast Go.Proofs.YthoapmfpokohnaaW.PrintMore
attribute [local go_sem] max2_int min2_int max_two min_two max_three min_three max_four min_four Q.cell_set_map Q.str_gtr Q.str_geq Q.str_leq
set_option linter.unusedVariables false
set_option linter.unusedSimpArgs false

/-! ### spec_MemOk: function 17 -/
-- IMPORT Derived.Test.YthoapmfpokohnaaQSem9
mutual
def spec_MemOk.j0 : Nat → Bool → List ByteArray → List Int → List ByteArray → List Int → List (S63) → Int → Option (Bool)
 | 0, _, _, _, _, _, _, _ => none
 | k + 1, x44, x102000, x102001, x102002, x102003, x102004, x102005 => if x44 = true then (some false) else (spec_MemOk.l0 k 0 x102000 x102001 x102002 x102003 x102004 x102005)
def spec_MemOk.l0 : Nat → Int → List ByteArray → List Int → List ByteArray → List Int → List (S63) → Int → Option (Bool)
 | 0, _, _, _, _, _, _, _ => none
 | k + 1, x3, x102000, x102001, x102002, x102003, x102004, x102005 => if x3 < 5 then (if 0 ≤ x3 then (if x3 < (x102004.length : Int) then ((spec_l3Space.f k ((rd_T63 x102004 x3).f0) ((rd_T63 x102004 x3).f1) ((rd_T63 x102004 x3).f2)).bind fun t106 => (if t106 = true then (spec_MemOk.l1 k x3 0 x102000 x102001 x102002 x102003 x102004 x102005) else (some false))) else (none)) else (none)) else (spec_MemOk.l2 k 0 x102000 x102001 x102002 x102003 x102004 x102005)
def spec_MemOk.l1 : Nat → Int → Int → List ByteArray → List Int → List ByteArray → List Int → List (S63) → Int → Option (Bool)
 | 0, _, _, _, _, _, _, _, _ => none
 | k + 1, x3, x4, x102000, x102001, x102002, x102003, x102004, x102005 => if 0 ≤ x3 then (if x3 < (x102004.length : Int) then (if x4 < (((rd_T63 x102004 x3).f2).length : Int) then (if 0 ≤ x4 then (if ((rd_T65 ((rd_T63 x102004 x3).f2) x4).f0) = 2 then (if ((rd_T65 ((rd_T63 x102004 x3).f2) x4).f0) = 0 then (spec_MemOk.l1 k x3 (wrap64 (x4 + 1)) x102000 x102001 x102002 x102003 x102004 x102005) else ((spec_l6In.f ((rd_T65 ((rd_T63 x102004 x3).f2) x4).f1) 0 11).bind fun t111 => (if t111 = true then (spec_MemOk.l1 k x3 (wrap64 (x4 + 1)) x102000 x102001 x102002 x102003 x102004 x102005) else (some false)))) else (if ((rd_T65 ((rd_T63 x102004 x3).f2) x4).f0) = 0 then (spec_MemOk.l1 k x3 (wrap64 (x4 + 1)) x102000 x102001 x102002 x102003 x102004 x102005) else ((spec_l6In.f ((rd_T65 ((rd_T63 x102004 x3).f2) x4).f1) 0 11).bind fun t112 => (if t112 = true then (spec_MemOk.l1 k x3 (wrap64 (x4 + 1)) x102000 x102001 x102002 x102003 x102004 x102005) else (some false))))) else (none)) else (spec_MemOk.l0 k (wrap64 (x3 + 1)) x102000 x102001 x102002 x102003 x102004 x102005)) else (none)) else (none)
def spec_MemOk.l2 : Nat → Int → List ByteArray → List Int → List ByteArray → List Int → List (S63) → Int → Option (Bool)
 | 0, _, _, _, _, _, _, _ => none
 | k + 1, x7, x102000, x102001, x102002, x102003, x102004, x102005 => if x7 < 12 then ((spec_l3Told.f k x102000 x102001 x102002 x102003 x102004 x102005 1 x7).bind fun t113 => (if 0 ≤ x7 then (if x7 < (x102001.length : Int) then (if t113 = (rd x102001 x7) then ((spec_l3Alone.f k x102000 x102001 x102002 x102003 x102004 x102005 1 x7).bind fun t115 => (if t115 = true then (spec_MemOk.l2 k (wrap64 (x7 + 1)) x102000 x102001 x102002 x102003 x102004 x102005) else (some false))) else (some false)) else (none)) else (none))) else (spec_MemOk.l3 k 0 x102000 x102001 x102002 x102003 x102004 x102005)
def spec_MemOk.l3 : Nat → Int → List ByteArray → List Int → List ByteArray → List Int → List (S63) → Int → Option (Bool)
 | 0, _, _, _, _, _, _, _ => none
 | k + 1, x8, x102000, x102001, x102002, x102003, x102004, x102005 => if x8 < 12 then ((spec_l3Told.f k x102000 x102001 x102002 x102003 x102004 x102005 2 x8).bind fun t116 => (if 0 ≤ x8 then (if x8 < (x102003.length : Int) then (if t116 = (rd x102003 x8) then ((spec_l3Alone.f k x102000 x102001 x102002 x102003 x102004 x102005 2 x8).bind fun t118 => (if t118 = true then (spec_MemOk.l3 k (wrap64 (x8 + 1)) x102000 x102001 x102002 x102003 x102004 x102005) else (some false))) else (some false)) else (none)) else (none))) else (some true)
end
def spec_MemOk.f (k : Nat) (l0_0 : List ByteArray) (l0_1 : List Int) (l0_2 : List ByteArray) (l0_3 : List Int) (l0_4 : List (S63)) (a0_5 : Int) : Option (Bool) := (spec_PagesOk.f k l0_0 l0_1).bind fun t102 => (if t102 = true then ((spec_PagesOk.f k l0_2 l0_3).bind fun t103 => (if t103 = true then (if (l0_1.length : Int) = 12 then (if (l0_3.length : Int) = 12 then (if (l0_4.length : Int) = 5 then ((spec_l6In.f a0_5 0 11).bind fun t104 => (spec_MemOk.j0 k (!t104) l0_0 l0_1 l0_2 l0_3 l0_4 a0_5)) else (spec_MemOk.j0 k true l0_0 l0_1 l0_2 l0_3 l0_4 a0_5)) else (spec_MemOk.j0 k true l0_0 l0_1 l0_2 l0_3 l0_4 a0_5)) else (spec_MemOk.j0 k true l0_0 l0_1 l0_2 l0_3 l0_4 a0_5)) else (spec_MemOk.j0 k true l0_0 l0_1 l0_2 l0_3 l0_4 a0_5))) else (spec_MemOk.j0 k true l0_0 l0_1 l0_2 l0_3 l0_4 a0_5))
theorem spec_MemOk.mono_l : ∀ k, (∀ y0 y1 y2 y3 y4 y5 y6, LeO (spec_MemOk.j0 k y0 y1 y2 y3 y4 y5 y6) (spec_MemOk.j0 (k + 1) y0 y1 y2 y3 y4 y5 y6)) ∧ (∀ y0 y1 y2 y3 y4 y5 y6, LeO (spec_MemOk.l0 k y0 y1 y2 y3 y4 y5 y6) (spec_MemOk.l0 (k + 1) y0 y1 y2 y3 y4 y5 y6)) ∧ (∀ y0 y1 y2 y3 y4 y5 y6 y7, LeO (spec_MemOk.l1 k y0 y1 y2 y3 y4 y5 y6 y7) (spec_MemOk.l1 (k + 1) y0 y1 y2 y3 y4 y5 y6 y7)) ∧ (∀ y0 y1 y2 y3 y4 y5 y6, LeO (spec_MemOk.l2 k y0 y1 y2 y3 y4 y5 y6) (spec_MemOk.l2 (k + 1) y0 y1 y2 y3 y4 y5 y6)) ∧ (∀ y0 y1 y2 y3 y4 y5 y6, LeO (spec_MemOk.l3 k y0 y1 y2 y3 y4 y5 y6) (spec_MemOk.l3 (k + 1) y0 y1 y2 y3 y4 y5 y6))
 | 0 => ⟨fun _ _ _ _ _ _ _ r h => by simp [spec_MemOk.j0] at h, fun _ _ _ _ _ _ _ r h => by simp [spec_MemOk.l0] at h, fun _ _ _ _ _ _ _ _ r h => by simp [spec_MemOk.l1] at h, fun _ _ _ _ _ _ _ r h => by simp [spec_MemOk.l2] at h, fun _ _ _ _ _ _ _ r h => by simp [spec_MemOk.l3] at h⟩
 | k + 1 => by
  obtain ⟨ih0, ih1, ih2, ih3, ih4⟩ := spec_MemOk.mono_l k
  refine ⟨?_, ?_, ?_, ?_, ?_⟩
  ·
   intro y0 y1 y2 y3 y4 y5 y6
   unfold spec_MemOk.j0
   repeat' first
   | (with_reducible exact ih0 _ _ _ _ _ _ _)
   | (with_reducible exact ih1 _ _ _ _ _ _ _)
   | (with_reducible exact ih2 _ _ _ _ _ _ _ _)
   | (with_reducible exact ih3 _ _ _ _ _ _ _)
   | (with_reducible exact ih4 _ _ _ _ _ _ _)
   | (with_reducible exact spec_PagesOk.mono _ _ _)
   | (with_reducible exact spec_l3Alone.mono _ _ _ _ _ _ _ _ _)
   | (with_reducible exact spec_l3Space.mono _ _ _ _)
   | (with_reducible exact spec_l3Told.mono _ _ _ _ _ _ _ _ _)
   | (with_reducible exact LeO.refl _)
   | (with_reducible exact LeO.none _)
   | (with_reducible refine LeO.ite ?_ ?_)
   | (with_reducible refine LeO.bind ?_ (fun _ => ?_))
   | exact ih0 _ _ _ _ _ _ _
   | exact ih1 _ _ _ _ _ _ _
   | exact ih2 _ _ _ _ _ _ _ _
   | exact ih3 _ _ _ _ _ _ _
   | exact ih4 _ _ _ _ _ _ _
   | exact spec_PagesOk.mono _ _ _
   | exact spec_l3Alone.mono _ _ _ _ _ _ _ _ _
   | exact spec_l3Space.mono _ _ _ _
   | exact spec_l3Told.mono _ _ _ _ _ _ _ _ _
   | exact LeO.none _
   | refine LeO.ite ?_ ?_
   | refine LeO.bind ?_ (fun _ => ?_)
  ·
   intro y0 y1 y2 y3 y4 y5 y6
   unfold spec_MemOk.l0
   repeat' first
   | (with_reducible exact ih0 _ _ _ _ _ _ _)
   | (with_reducible exact ih1 _ _ _ _ _ _ _)
   | (with_reducible exact ih2 _ _ _ _ _ _ _ _)
   | (with_reducible exact ih3 _ _ _ _ _ _ _)
   | (with_reducible exact ih4 _ _ _ _ _ _ _)
   | (with_reducible exact spec_PagesOk.mono _ _ _)
   | (with_reducible exact spec_l3Alone.mono _ _ _ _ _ _ _ _ _)
   | (with_reducible exact spec_l3Space.mono _ _ _ _)
   | (with_reducible exact spec_l3Told.mono _ _ _ _ _ _ _ _ _)
   | (with_reducible exact LeO.refl _)
   | (with_reducible exact LeO.none _)
   | (with_reducible refine LeO.ite ?_ ?_)
   | (with_reducible refine LeO.bind ?_ (fun _ => ?_))
   | exact ih0 _ _ _ _ _ _ _
   | exact ih1 _ _ _ _ _ _ _
   | exact ih2 _ _ _ _ _ _ _ _
   | exact ih3 _ _ _ _ _ _ _
   | exact ih4 _ _ _ _ _ _ _
   | exact spec_PagesOk.mono _ _ _
   | exact spec_l3Alone.mono _ _ _ _ _ _ _ _ _
   | exact spec_l3Space.mono _ _ _ _
   | exact spec_l3Told.mono _ _ _ _ _ _ _ _ _
   | exact LeO.none _
   | refine LeO.ite ?_ ?_
   | refine LeO.bind ?_ (fun _ => ?_)
  ·
   intro y0 y1 y2 y3 y4 y5 y6 y7
   unfold spec_MemOk.l1
   repeat' first
   | (with_reducible exact ih0 _ _ _ _ _ _ _)
   | (with_reducible exact ih1 _ _ _ _ _ _ _)
   | (with_reducible exact ih2 _ _ _ _ _ _ _ _)
   | (with_reducible exact ih3 _ _ _ _ _ _ _)
   | (with_reducible exact ih4 _ _ _ _ _ _ _)
   | (with_reducible exact spec_PagesOk.mono _ _ _)
   | (with_reducible exact spec_l3Alone.mono _ _ _ _ _ _ _ _ _)
   | (with_reducible exact spec_l3Space.mono _ _ _ _)
   | (with_reducible exact spec_l3Told.mono _ _ _ _ _ _ _ _ _)
   | (with_reducible exact LeO.refl _)
   | (with_reducible exact LeO.none _)
   | (with_reducible refine LeO.ite ?_ ?_)
   | (with_reducible refine LeO.bind ?_ (fun _ => ?_))
   | exact ih0 _ _ _ _ _ _ _
   | exact ih1 _ _ _ _ _ _ _
   | exact ih2 _ _ _ _ _ _ _ _
   | exact ih3 _ _ _ _ _ _ _
   | exact ih4 _ _ _ _ _ _ _
   | exact spec_PagesOk.mono _ _ _
   | exact spec_l3Alone.mono _ _ _ _ _ _ _ _ _
   | exact spec_l3Space.mono _ _ _ _
   | exact spec_l3Told.mono _ _ _ _ _ _ _ _ _
   | exact LeO.none _
   | refine LeO.ite ?_ ?_
   | refine LeO.bind ?_ (fun _ => ?_)
  ·
   intro y0 y1 y2 y3 y4 y5 y6
   unfold spec_MemOk.l2
   repeat' first
   | (with_reducible exact ih0 _ _ _ _ _ _ _)
   | (with_reducible exact ih1 _ _ _ _ _ _ _)
   | (with_reducible exact ih2 _ _ _ _ _ _ _ _)
   | (with_reducible exact ih3 _ _ _ _ _ _ _)
   | (with_reducible exact ih4 _ _ _ _ _ _ _)
   | (with_reducible exact spec_PagesOk.mono _ _ _)
   | (with_reducible exact spec_l3Alone.mono _ _ _ _ _ _ _ _ _)
   | (with_reducible exact spec_l3Space.mono _ _ _ _)
   | (with_reducible exact spec_l3Told.mono _ _ _ _ _ _ _ _ _)
   | (with_reducible exact LeO.refl _)
   | (with_reducible exact LeO.none _)
   | (with_reducible refine LeO.ite ?_ ?_)
   | (with_reducible refine LeO.bind ?_ (fun _ => ?_))
   | exact ih0 _ _ _ _ _ _ _
   | exact ih1 _ _ _ _ _ _ _
   | exact ih2 _ _ _ _ _ _ _ _
   | exact ih3 _ _ _ _ _ _ _
   | exact ih4 _ _ _ _ _ _ _
   | exact spec_PagesOk.mono _ _ _
   | exact spec_l3Alone.mono _ _ _ _ _ _ _ _ _
   | exact spec_l3Space.mono _ _ _ _
   | exact spec_l3Told.mono _ _ _ _ _ _ _ _ _
   | exact LeO.none _
   | refine LeO.ite ?_ ?_
   | refine LeO.bind ?_ (fun _ => ?_)
  ·
   intro y0 y1 y2 y3 y4 y5 y6
   unfold spec_MemOk.l3
   repeat' first
   | (with_reducible exact ih0 _ _ _ _ _ _ _)
   | (with_reducible exact ih1 _ _ _ _ _ _ _)
   | (with_reducible exact ih2 _ _ _ _ _ _ _ _)
   | (with_reducible exact ih3 _ _ _ _ _ _ _)
   | (with_reducible exact ih4 _ _ _ _ _ _ _)
   | (with_reducible exact spec_PagesOk.mono _ _ _)
   | (with_reducible exact spec_l3Alone.mono _ _ _ _ _ _ _ _ _)
   | (with_reducible exact spec_l3Space.mono _ _ _ _)
   | (with_reducible exact spec_l3Told.mono _ _ _ _ _ _ _ _ _)
   | (with_reducible exact LeO.refl _)
   | (with_reducible exact LeO.none _)
   | (with_reducible refine LeO.ite ?_ ?_)
   | (with_reducible refine LeO.bind ?_ (fun _ => ?_))
   | exact ih0 _ _ _ _ _ _ _
   | exact ih1 _ _ _ _ _ _ _
   | exact ih2 _ _ _ _ _ _ _ _
   | exact ih3 _ _ _ _ _ _ _
   | exact ih4 _ _ _ _ _ _ _
   | exact spec_PagesOk.mono _ _ _
   | exact spec_l3Alone.mono _ _ _ _ _ _ _ _ _
   | exact spec_l3Space.mono _ _ _ _
   | exact spec_l3Told.mono _ _ _ _ _ _ _ _ _
   | exact LeO.none _
   | refine LeO.ite ?_ ?_
   | refine LeO.bind ?_ (fun _ => ?_)
theorem spec_MemOk.mono : ∀ a0 a1 a2 a3 a4 a5 k, LeO (spec_MemOk.f k a0 a1 a2 a3 a4 a5) (spec_MemOk.f (k + 1) a0 a1 a2 a3 a4 a5) := by
 intro a0 a1 a2 a3 a4 a5 k
 obtain ⟨ih0, ih1, ih2, ih3, ih4⟩ := spec_MemOk.mono_l k
 unfold spec_MemOk.f
 repeat' first
   | (with_reducible exact ih0 _ _ _ _ _ _ _)
   | (with_reducible exact ih1 _ _ _ _ _ _ _)
   | (with_reducible exact ih2 _ _ _ _ _ _ _ _)
   | (with_reducible exact ih3 _ _ _ _ _ _ _)
   | (with_reducible exact ih4 _ _ _ _ _ _ _)
   | (with_reducible exact spec_PagesOk.mono _ _ _)
   | (with_reducible exact spec_l3Alone.mono _ _ _ _ _ _ _ _ _)
   | (with_reducible exact spec_l3Space.mono _ _ _ _)
   | (with_reducible exact spec_l3Told.mono _ _ _ _ _ _ _ _ _)
   | (with_reducible exact LeO.refl _)
   | (with_reducible exact LeO.none _)
   | (with_reducible refine LeO.ite ?_ ?_)
   | (with_reducible refine LeO.bind ?_ (fun _ => ?_))
   | exact ih0 _ _ _ _ _ _ _
   | exact ih1 _ _ _ _ _ _ _
   | exact ih2 _ _ _ _ _ _ _ _
   | exact ih3 _ _ _ _ _ _ _
   | exact ih4 _ _ _ _ _ _ _
   | exact spec_PagesOk.mono _ _ _
   | exact spec_l3Alone.mono _ _ _ _ _ _ _ _ _
   | exact spec_l3Space.mono _ _ _ _
   | exact spec_l3Told.mono _ _ _ _ _ _ _ _ _
   | exact LeO.none _
   | refine LeO.ite ?_ ?_
   | refine LeO.bind ?_ (fun _ => ?_)
def spec_MemOk.T20 : Bool × List (List Nat × List Nat) := (true, [([], []), ([], []), ([0, 1], [0, 1]), ([], []), ([3], [3]), ([4], [4]), ([], []), ([5, 6], [5, 6]), ([7], [7]), ([2, 8], [2, 8]), ([9, 2], [9]), ([10], [10]), ([10], [10]), ([11, 12, 10, 10], [10, 11, 12]), ([13, 10], [10, 13]), ([10, 14], [10, 14])])
def spec_MemOk.B20 : List Nat := [0, 0, 3, 0, 8, 24, 0, 120, 248, 511, 1023, 2047, 2047, 8191, 16383, 32767]
theorem spec_MemOk.tab20 : rtab .any (opsOf Try.f17 20) = spec_MemOk.T20 := by kernel_rfl
theorem spec_MemOk.bits20 : waitsOk spec_MemOk.T20.2 spec_MemOk.B20 = true := by kernel_rfl
def spec_MemOk.T25 : Bool × List (List Nat × List Nat) := (true, [([], []), ([], []), ([0, 1], [0, 1]), ([], []), ([3], [3]), ([4], [4]), ([], []), ([5, 6], [5, 6]), ([7], [7]), ([2, 8], [2, 8]), ([9, 2], [9]), ([10], [10]), ([10], [10]), ([11, 12, 10, 10], [10, 11, 12]), ([13, 10], [10, 13]), ([10, 14], [10, 14])])
def spec_MemOk.B25 : List Nat := [0, 0, 3, 0, 8, 24, 0, 120, 248, 511, 1023, 2047, 2047, 8191, 16383, 32767]
theorem spec_MemOk.tab25 : rtab .any (opsOf Try.f17 25) = spec_MemOk.T25 := by kernel_rfl
theorem spec_MemOk.bits25 : waitsOk spec_MemOk.T25.2 spec_MemOk.B25 = true := by kernel_rfl
set_option maxHeartbeats 8000000 in
set_option maxRecDepth 100000 in
theorem spec_MemOk.calls (k : Nat) (A0_0 : Option Addr) (c0_0 : Nat) (l0_0 : List ByteArray) (A0_1 : Option Addr) (c0_1 : Nat) (l0_1 : List Int) (A0_2 : Option Addr) (c0_2 : Nat) (l0_2 : List ByteArray) (A0_3 : Option Addr) (c0_3 : Nat) (l0_3 : List Int) (A0_4 : Option Addr) (c0_4 : Nat) (l0_4 : List (S63)) (a0_5 : Int) (r : Bool) (w : World) (hr0_0 : Kd.C Kd.string w A0_0 l0_0.length l0_0) (hc0_0 : l0_0.length ≤ c0_0) (hr0_1 : Kd.C (Kd.int .i64) w A0_1 l0_1.length l0_1) (hc0_1 : l0_1.length ≤ c0_1) (hr0_2 : Kd.C Kd.string w A0_2 l0_2.length l0_2) (hc0_2 : l0_2.length ≤ c0_2) (hr0_3 : Kd.C (Kd.int .i64) w A0_3 l0_3.length l0_3) (hc0_3 : l0_3.length ≤ c0_3) (hr0_4 : Kd.C k63 w A0_4 l0_4.length l0_4) (hc0_4 : l0_4.length ≤ c0_4) (h : spec_MemOk.f k l0_0 l0_1 l0_2 l0_3 l0_4 a0_5 = some r) :
  Calls Try.prog 17 #[.agg #[.slice A0_0 l0_0.length c0_0, .slice A0_1 l0_1.length c0_1, .slice A0_2 l0_2.length c0_2, .slice A0_3 l0_3.length c0_3, .slice A0_4 l0_4.length c0_4, .int .i64 a0_5]] w fun e w' => e = .returned (.bool r) ∧ Below w.heap.size w w' := by
 have hu46 := Try.underlying46; have hu43 := Try.underlying43; have hu63 := Try.underlying63; have hu65 := Try.underlying65; have HR0_0 := Aside0.mk hr0_0; have HC0_0 := Aside0.mk hc0_0; clear hr0_0 hc0_0; have HR0_1 := Aside0.mk hr0_1; have HC0_1 := Aside0.mk hc0_1; clear hr0_1 hc0_1; have HR0_2 := Aside0.mk hr0_2; have HC0_2 := Aside0.mk hc0_2; clear hr0_2 hc0_2; have HR0_3 := Aside0.mk hr0_3; have HC0_3 := Aside0.mk hc0_3; clear hr0_3 hc0_3; have HR0_4 := Aside0.mk hr0_4; have HC0_4 := Aside0.mk hc0_4; clear hr0_4 hc0_4; have HB := Aside0.mk (Below.refl w.heap.size w); have H : ((spec_PagesOk.f k l0_0 l0_1).bind fun t102 => (if t102 = true then ((spec_PagesOk.f k l0_2 l0_3).bind fun t103 => (if t103 = true then (if (l0_1.length : Int) = 12 then (if (l0_3.length : Int) = 12 then (if (l0_4.length : Int) = 5 then ((spec_l6In.f a0_5 0 11).bind fun t104 => (spec_MemOk.j0 k (!t104) l0_0 l0_1 l0_2 l0_3 l0_4 a0_5)) else (spec_MemOk.j0 k true l0_0 l0_1 l0_2 l0_3 l0_4 a0_5)) else (spec_MemOk.j0 k true l0_0 l0_1 l0_2 l0_3 l0_4 a0_5)) else (spec_MemOk.j0 k true l0_0 l0_1 l0_2 l0_3 l0_4 a0_5)) else (spec_MemOk.j0 k true l0_0 l0_1 l0_2 l0_3 l0_4 a0_5))) else (spec_MemOk.j0 k true l0_0 l0_1 l0_2 l0_3 l0_4 a0_5))) = some r := h; clear h; have HC2 := Aside0.mk H; clear H
 go_enter Try.func17, Try.ntmps17
 go_upto_region 1 with (first | ((with_reducible refine gate_dst (N := 1) rfl ?_); (try (refine gate_guard (by rfl) ?_; dsimp only)); refine box_event ?hg (N := 1) ?hd (cs := #[.slice A0_0 l0_0.length c0_0, .slice A0_1 l0_1.length c0_1, .slice A0_2 l0_2.length c0_2, .slice A0_3 l0_3.length c0_3, .slice A0_4 l0_4.length c0_4, .int .i64 a0_5]) (t := 46) ?hr ?_; (case hd => rfl); (case hg => rfl); (case hr => first | (go_simp; done) | (go_simp; rfl)); intro gb101 hg w3 hbox hb; have BK101 := Aside0.mk (hbox); have GW101 := Aside0.mk ((by rw [hg]; exact (below_size (bz HB.out)) : w.heap.size ≤ gb101)); have GE101 := GW101; replace HB := Aside0.mk (below_step (bz HB.out) hb); clear hb hbox hg))
 (try simp only [Act.put, List.setIfInBounds_toArray, List.set_cons_zero, List.set_cons_succ])
 go_cut [44] (fun v44 wc => ∃ (kq : Nat) (x44_1 : Bool), v44 = .bool x44_1 ∧ Aside0 (spec_MemOk.j0 kq x44_1 l0_0 l0_1 l0_2 l0_3 l0_4 a0_5 = some r) ∧ Aside0 (kq ≤ k) ∧ Aside0 (wc.heap[gb101]? = some (.cells #[(.slice A0_0 l0_0.length c0_0), (.slice A0_1 l0_1.length c0_1), (.slice A0_2 l0_2.length c0_2), (.slice A0_3 l0_3.length c0_3), (.slice A0_4 l0_4.length c0_4), .int .i64 a0_5] 46 (0, 0))) ∧ Aside0 (Below w.heap.size w wc))
 case first =>
  have H := HC2.out; clear HC2; replace H := Option.bind_eq_some_iff.mp H; obtain ⟨t102, A40, H⟩ := H; have A4 := Aside0.mk A40; clear A40
  by_cases c5 : t102 = true
  rotate_left
  ·
   replace c5 := Bool.eq_false_iff.mpr c5; subst c5; rw [if_neg nf_] at H; have H' := Aside0.mk H; clear H; obtain ⟨hcz36_0, hcz36_1, hcz36_2, hcz36_3, hcz36_4, hcz36_5⟩ := cz6 BK101.out; obtain ⟨hfz36_0, hfz36_1, hfz36_2, hfz36_3, hfz36_4, hfz36_5⟩ := fz6 BK101.out
   go_wp2_with (first | ((with_reducible refine gate_callee (f := 46) rfl ?_); refine goesL_ (some 11) rfl rfl Try.func46 zk rfl #[.agg #[.slice A0_0 l0_0.length c0_0, .slice A0_1 l0_1.length c0_1]] rfl zm ?_; (with_reducible refine (spec_PagesOk.calls k _ _ l0_0 _ _ l0_1 false _ ?side1 ?side2 ?side3 ?side4 A4.out).mono ?_); (case side1 => exact cz (Kd.C_below HR0_0.out HB.out)); (case side2 => exact HC0_0.out); (case side3 => exact cz (Kd.C_below HR0_1.out HB.out)); (case side4 => exact HC0_1.out); rintro e w37 ⟨rfl, hb⟩; refine ⟨_, rfl, ?_⟩; replace BK101 := Aside0.mk (blk_below (kz BK101.out) hb); replace HB := Aside0.mk (below_step (bs HB.out GE101.out) hb); (try clear hb)))
   go_meet
   case rel => exact ⟨_, (true), zr, H', ⟨by first | omega | exact Nat.le_refl _⟩, ⟨kz (BK101.out)⟩, ⟨bs HB.out GE101.out⟩⟩
  subst c5; rw [if_pos rfl] at H; replace H := Option.bind_eq_some_iff.mp H; obtain ⟨t103, A60, H⟩ := H; have A6 := Aside0.mk A60; clear A60
  by_cases c7 : t103 = true
  rotate_left
  ·
   replace c7 := Bool.eq_false_iff.mpr c7; subst c7; rw [if_neg nf_] at H; have H' := Aside0.mk H; clear H; obtain ⟨hcz32_0, hcz32_1, hcz32_2, hcz32_3, hcz32_4, hcz32_5⟩ := cz6 BK101.out; obtain ⟨hfz32_0, hfz32_1, hfz32_2, hfz32_3, hfz32_4, hfz32_5⟩ := fz6 BK101.out
   go_wp2_with (first | ((with_reducible refine gate_callee (f := 46) rfl ?_); refine goesL_ (some 11) rfl rfl Try.func46 zk rfl #[.agg #[.slice A0_0 l0_0.length c0_0, .slice A0_1 l0_1.length c0_1]] rfl zm ?_; (with_reducible refine (spec_PagesOk.calls k _ _ l0_0 _ _ l0_1 true _ ?side1 ?side2 ?side3 ?side4 A4.out).mono ?_); (case side1 => exact cz (Kd.C_below HR0_0.out HB.out)); (case side2 => exact HC0_0.out); (case side3 => exact cz (Kd.C_below HR0_1.out HB.out)); (case side4 => exact HC0_1.out); rintro e w33 ⟨rfl, hb⟩; refine ⟨_, rfl, ?_⟩; replace BK101 := Aside0.mk (blk_below (kz BK101.out) hb); replace HB := Aside0.mk (below_step (bs HB.out GE101.out) hb); (try clear hb); obtain ⟨hcz34_0, hcz34_1, hcz34_2, hcz34_3, hcz34_4, hcz34_5⟩ := cz6 BK101.out; obtain ⟨hfz34_0, hfz34_1, hfz34_2, hfz34_3, hfz34_4, hfz34_5⟩ := fz6 BK101.out) | (go_at_call 46; (with_reducible refine (spec_PagesOk.calls k _ _ l0_2 _ _ l0_3 false _ ?side1 ?side2 ?side3 ?side4 A6.out).mono ?_); (case side1 => exact cz (Kd.C_below HR0_2.out HB.out)); (case side2 => exact HC0_2.out); (case side3 => exact cz (Kd.C_below HR0_3.out HB.out)); (case side4 => exact HC0_3.out); rintro e w35 ⟨rfl, hb⟩; replace BK101 := Aside0.mk (blk_below (kz BK101.out) hb); replace HB := Aside0.mk (below_step (bs HB.out GE101.out) hb); (try clear hb)))
   go_meet
   case rel => exact ⟨_, (true), zr, H', ⟨by first | omega | exact Nat.le_refl _⟩, ⟨kz (BK101.out)⟩, ⟨bs HB.out GE101.out⟩⟩
  subst c7; rw [if_pos rfl] at H
  by_cases c8 : (l0_1.length : Int) = 12
  rotate_left
  ·
   rw [if_neg c8] at H; have c8b0 : ((l0_1.length : Int) == 12) = false := beq_eq_false_iff_ne.mpr c8; have c8b1 : ((l0_1.length : Int) != 12) = true := bne_iff_ne.mpr c8
   (first | rw [c8b0] | (simp only [i64_w, i32_w]; rw [c8b0]) | skip)
   have H' := Aside0.mk H; clear H; obtain ⟨hcz27_0, hcz27_1, hcz27_2, hcz27_3, hcz27_4, hcz27_5⟩ := cz6 BK101.out; obtain ⟨hfz27_0, hfz27_1, hfz27_2, hfz27_3, hfz27_4, hfz27_5⟩ := fz6 BK101.out
   go_wp2_with (first | ((with_reducible refine gate_callee (f := 46) rfl ?_); refine goesL_ (some 11) rfl rfl Try.func46 zk rfl #[.agg #[.slice A0_0 l0_0.length c0_0, .slice A0_1 l0_1.length c0_1]] rfl zm ?_; (with_reducible refine (spec_PagesOk.calls k _ _ l0_0 _ _ l0_1 true _ ?side1 ?side2 ?side3 ?side4 A4.out).mono ?_); (case side1 => exact cz (Kd.C_below HR0_0.out HB.out)); (case side2 => exact HC0_0.out); (case side3 => exact cz (Kd.C_below HR0_1.out HB.out)); (case side4 => exact HC0_1.out); rintro e w28 ⟨rfl, hb⟩; refine ⟨_, rfl, ?_⟩; replace BK101 := Aside0.mk (blk_below (kz BK101.out) hb); replace HB := Aside0.mk (below_step (bs HB.out GE101.out) hb); (try clear hb); obtain ⟨hcz29_0, hcz29_1, hcz29_2, hcz29_3, hcz29_4, hcz29_5⟩ := cz6 BK101.out; obtain ⟨hfz29_0, hfz29_1, hfz29_2, hfz29_3, hfz29_4, hfz29_5⟩ := fz6 BK101.out) | (go_at_call 46; (with_reducible refine (spec_PagesOk.calls k _ _ l0_2 _ _ l0_3 true _ ?side1 ?side2 ?side3 ?side4 A6.out).mono ?_); (case side1 => exact cz (Kd.C_below HR0_2.out HB.out)); (case side2 => exact HC0_2.out); (case side3 => exact cz (Kd.C_below HR0_3.out HB.out)); (case side4 => exact HC0_3.out); rintro e w30 ⟨rfl, hb⟩; replace BK101 := Aside0.mk (blk_below (kz BK101.out) hb); replace HB := Aside0.mk (below_step (bs HB.out GE101.out) hb); (try clear hb); obtain ⟨hcz31_0, hcz31_1, hcz31_2, hcz31_3, hcz31_4, hcz31_5⟩ := cz6 BK101.out; obtain ⟨hfz31_0, hfz31_1, hfz31_2, hfz31_3, hfz31_4, hfz31_5⟩ := fz6 BK101.out))
   go_meet
   case rel => exact ⟨_, (true), zr, H', ⟨by first | omega | exact Nat.le_refl _⟩, ⟨kz (BK101.out)⟩, ⟨bs HB.out GE101.out⟩⟩
  rw [if_pos c8] at H; have c8b0 : ((l0_1.length : Int) == 12) = true := beq_iff_eq.mpr c8; have c8b1 : ((l0_1.length : Int) != 12) = false := bne_eq_false_iff_eq.mpr c8; clear c8
  (first | rw [c8b0] | (simp only [i64_w, i32_w]; rw [c8b0]) | skip)
  by_cases c9 : (l0_3.length : Int) = 12
  rotate_left
  ·
   rw [if_neg c9] at H; have c9b0 : ((l0_3.length : Int) == 12) = false := beq_eq_false_iff_ne.mpr c9; have c9b1 : ((l0_3.length : Int) != 12) = true := bne_iff_ne.mpr c9; have H' := Aside0.mk H; clear H; obtain ⟨hcz22_0, hcz22_1, hcz22_2, hcz22_3, hcz22_4, hcz22_5⟩ := cz6 BK101.out; obtain ⟨hfz22_0, hfz22_1, hfz22_2, hfz22_3, hfz22_4, hfz22_5⟩ := fz6 BK101.out
   go_wp2_with (first | ((with_reducible refine gate_callee (f := 46) rfl ?_); refine goesL_ (some 11) rfl rfl Try.func46 zk rfl #[.agg #[.slice A0_0 l0_0.length c0_0, .slice A0_1 l0_1.length c0_1]] rfl zm ?_; (with_reducible refine (spec_PagesOk.calls k _ _ l0_0 _ _ l0_1 true _ ?side1 ?side2 ?side3 ?side4 A4.out).mono ?_); (case side1 => exact cz (Kd.C_below HR0_0.out HB.out)); (case side2 => exact HC0_0.out); (case side3 => exact cz (Kd.C_below HR0_1.out HB.out)); (case side4 => exact HC0_1.out); rintro e w23 ⟨rfl, hb⟩; refine ⟨_, rfl, ?_⟩; replace BK101 := Aside0.mk (blk_below (kz BK101.out) hb); replace HB := Aside0.mk (below_step (bs HB.out GE101.out) hb); (try clear hb); obtain ⟨hcz24_0, hcz24_1, hcz24_2, hcz24_3, hcz24_4, hcz24_5⟩ := cz6 BK101.out; obtain ⟨hfz24_0, hfz24_1, hfz24_2, hfz24_3, hfz24_4, hfz24_5⟩ := fz6 BK101.out) | (go_at_call 46; (with_reducible refine (spec_PagesOk.calls k _ _ l0_2 _ _ l0_3 true _ ?side1 ?side2 ?side3 ?side4 A6.out).mono ?_); (case side1 => exact cz (Kd.C_below HR0_2.out HB.out)); (case side2 => exact HC0_2.out); (case side3 => exact cz (Kd.C_below HR0_3.out HB.out)); (case side4 => exact HC0_3.out); rintro e w25 ⟨rfl, hb⟩; replace BK101 := Aside0.mk (blk_below (kz BK101.out) hb); replace HB := Aside0.mk (below_step (bs HB.out GE101.out) hb); (try clear hb); obtain ⟨hcz26_0, hcz26_1, hcz26_2, hcz26_3, hcz26_4, hcz26_5⟩ := cz6 BK101.out; obtain ⟨hfz26_0, hfz26_1, hfz26_2, hfz26_3, hfz26_4, hfz26_5⟩ := fz6 BK101.out))
   go_meet
   case rel => exact ⟨_, (true), zr, H', ⟨by first | omega | exact Nat.le_refl _⟩, ⟨kz (BK101.out)⟩, ⟨bs HB.out GE101.out⟩⟩
  rw [if_pos c9] at H; have c9b0 : ((l0_3.length : Int) == 12) = true := beq_iff_eq.mpr c9; have c9b1 : ((l0_3.length : Int) != 12) = false := bne_eq_false_iff_eq.mpr c9; clear c9
  by_cases c10 : (l0_4.length : Int) = 5
  rotate_left
  ·
   rw [if_neg c10] at H; have c10b0 : ((l0_4.length : Int) == 5) = false := beq_eq_false_iff_ne.mpr c10; have c10b1 : ((l0_4.length : Int) != 5) = true := bne_iff_ne.mpr c10; have H' := Aside0.mk H; clear H; obtain ⟨hcz17_0, hcz17_1, hcz17_2, hcz17_3, hcz17_4, hcz17_5⟩ := cz6 BK101.out; obtain ⟨hfz17_0, hfz17_1, hfz17_2, hfz17_3, hfz17_4, hfz17_5⟩ := fz6 BK101.out
   go_wp2_with (first | ((with_reducible refine gate_callee (f := 46) rfl ?_); refine goesL_ (some 11) rfl rfl Try.func46 zk rfl #[.agg #[.slice A0_0 l0_0.length c0_0, .slice A0_1 l0_1.length c0_1]] rfl zm ?_; (with_reducible refine (spec_PagesOk.calls k _ _ l0_0 _ _ l0_1 true _ ?side1 ?side2 ?side3 ?side4 A4.out).mono ?_); (case side1 => exact cz (Kd.C_below HR0_0.out HB.out)); (case side2 => exact HC0_0.out); (case side3 => exact cz (Kd.C_below HR0_1.out HB.out)); (case side4 => exact HC0_1.out); rintro e w18 ⟨rfl, hb⟩; refine ⟨_, rfl, ?_⟩; replace BK101 := Aside0.mk (blk_below (kz BK101.out) hb); replace HB := Aside0.mk (below_step (bs HB.out GE101.out) hb); (try clear hb); obtain ⟨hcz19_0, hcz19_1, hcz19_2, hcz19_3, hcz19_4, hcz19_5⟩ := cz6 BK101.out; obtain ⟨hfz19_0, hfz19_1, hfz19_2, hfz19_3, hfz19_4, hfz19_5⟩ := fz6 BK101.out) | (go_at_call 46; (with_reducible refine (spec_PagesOk.calls k _ _ l0_2 _ _ l0_3 true _ ?side1 ?side2 ?side3 ?side4 A6.out).mono ?_); (case side1 => exact cz (Kd.C_below HR0_2.out HB.out)); (case side2 => exact HC0_2.out); (case side3 => exact cz (Kd.C_below HR0_3.out HB.out)); (case side4 => exact HC0_3.out); rintro e w20 ⟨rfl, hb⟩; replace BK101 := Aside0.mk (blk_below (kz BK101.out) hb); replace HB := Aside0.mk (below_step (bs HB.out GE101.out) hb); (try clear hb); obtain ⟨hcz21_0, hcz21_1, hcz21_2, hcz21_3, hcz21_4, hcz21_5⟩ := cz6 BK101.out; obtain ⟨hfz21_0, hfz21_1, hfz21_2, hfz21_3, hfz21_4, hfz21_5⟩ := fz6 BK101.out))
   go_meet
   case rel => exact ⟨_, (true), zr, H', ⟨by first | omega | exact Nat.le_refl _⟩, ⟨kz (BK101.out)⟩, ⟨bs HB.out GE101.out⟩⟩
  rw [if_pos c10] at H; have c10b0 : ((l0_4.length : Int) == 5) = true := beq_iff_eq.mpr c10; have c10b1 : ((l0_4.length : Int) != 5) = false := bne_eq_false_iff_eq.mpr c10; clear c10; replace H := Option.bind_eq_some_iff.mp H; obtain ⟨t104, A110, H⟩ := H; have A11 := Aside0.mk A110; clear A110; have H' := Aside0.mk H; clear H; obtain ⟨hcz12_0, hcz12_1, hcz12_2, hcz12_3, hcz12_4, hcz12_5⟩ := cz6 BK101.out; obtain ⟨hfz12_0, hfz12_1, hfz12_2, hfz12_3, hfz12_4, hfz12_5⟩ := fz6 BK101.out
  go_wp2_with (first | ((with_reducible refine gate_callee (f := 46) rfl ?_); refine goesL_ (some 11) rfl rfl Try.func46 zk rfl #[.agg #[.slice A0_0 l0_0.length c0_0, .slice A0_1 l0_1.length c0_1]] rfl zm ?_; (with_reducible refine (spec_PagesOk.calls k _ _ l0_0 _ _ l0_1 true _ ?side1 ?side2 ?side3 ?side4 A4.out).mono ?_); (case side1 => exact cz (Kd.C_below HR0_0.out HB.out)); (case side2 => exact HC0_0.out); (case side3 => exact cz (Kd.C_below HR0_1.out HB.out)); (case side4 => exact HC0_1.out); rintro e w13 ⟨rfl, hb⟩; refine ⟨_, rfl, ?_⟩; replace BK101 := Aside0.mk (blk_below (kz BK101.out) hb); replace HB := Aside0.mk (below_step (bs HB.out GE101.out) hb); (try clear hb); obtain ⟨hcz14_0, hcz14_1, hcz14_2, hcz14_3, hcz14_4, hcz14_5⟩ := cz6 BK101.out; obtain ⟨hfz14_0, hfz14_1, hfz14_2, hfz14_3, hfz14_4, hfz14_5⟩ := fz6 BK101.out) | (go_at_call 46; (with_reducible refine (spec_PagesOk.calls k _ _ l0_2 _ _ l0_3 true _ ?side1 ?side2 ?side3 ?side4 A6.out).mono ?_); (case side1 => exact cz (Kd.C_below HR0_2.out HB.out)); (case side2 => exact HC0_2.out); (case side3 => exact cz (Kd.C_below HR0_3.out HB.out)); (case side4 => exact HC0_3.out); rintro e w15 ⟨rfl, hb⟩; replace BK101 := Aside0.mk (blk_below (kz BK101.out) hb); replace HB := Aside0.mk (below_step (bs HB.out GE101.out) hb); (try clear hb); obtain ⟨hcz16_0, hcz16_1, hcz16_2, hcz16_3, hcz16_4, hcz16_5⟩ := cz6 BK101.out; obtain ⟨hfz16_0, hfz16_1, hfz16_2, hfz16_3, hfz16_4, hfz16_5⟩ := fz6 BK101.out) | (go_at_call 47; (with_reducible refine (spec_l6In.calls a0_5 0 11 t104 _ A11.out).mono ?_); rintro e w' ⟨rfl, ⟨nd, rfl⟩⟩))
  go_meet
  case rel => exact ⟨_, (!t104), zr, H', ⟨by first | omega | exact Nat.le_refl _⟩, ⟨kz (BK101.out)⟩, ⟨bs HB.out GE101.out⟩⟩
 case rest =>
  clear HC2
  obtain ⟨kq, x44_1, rfl, HA, HJ1, BK101, HB⟩ := hcut
  cases kq with
  | zero => exact absurd HA.out (by simp [spec_MemOk.j0])
  | succ kj1 =>
   have H := HA.out; clear HA; simp only [spec_MemOk.j0] at H
   by_cases c38 : x44_1 = true
   ·
    subst c38; rw [if_pos rfl] at H; obtain rfl := Option.some.inj H
    go_wp2
    go_ret
    exact ⟨ze, bs HB.out GE101.out⟩
   replace c38 := Bool.eq_false_iff.mpr c38; subst c38; rw [if_neg nf_] at H; have H' := Aside0.mk H; clear H
   go_wp2
   go_loopg [3] kj1 (fun kq v3 w' => ∃ (x3_2 : Int), v3 = .int .i64 x3_2 ∧ Aside0 (spec_MemOk.l0 kq x3_2 l0_0 l0_1 l0_2 l0_3 l0_4 a0_5 = some r) ∧ Aside0 (kq ≤ kj1) ∧ Aside0 (w'.heap[gb101]? = some (.cells #[(.slice A0_0 l0_0.length c0_0), (.slice A0_1 l0_1.length c0_1), (.slice A0_2 l0_2.length c0_2), (.slice A0_3 l0_3.length c0_3), (.slice A0_4 l0_4.length c0_4), .int .i64 a0_5] 46 (0, 0))) ∧ Aside0 (Below w.heap.size w w'))
   case atStart => exact ⟨(0), zr, H', ⟨Nat.le_refl _⟩, ⟨kz (BK101.out)⟩, ⟨bs HB.out GE101.out⟩⟩
   case round =>
    clear H'
    (try clear c38)
    obtain ⟨x3_2, rfl, HA, HK2, BK101, HB⟩ := hrel
    cases gk with
    | zero => exact absurd HA.out (by simp [spec_MemOk.l0])
    | succ k2 =>
     have H := HA.out; clear HA; simp only [spec_MemOk.l0] at H
     by_cases c39 : x3_2 < 5
     ·
      rw [if_pos c39] at H; have c39b0 : decide (x3_2 < 5) = true := decide_eq_true c39; clear c39
      by_cases c40 : 0 ≤ x3_2
      rotate_left
      ·
       rw [if_neg c40] at H
       exact absurd H (by simp)
      rw [if_pos c40] at H; have c40b0 : decide (0 ≤ x3_2) = true := decide_eq_true c40; clear c40
      by_cases c41 : x3_2 < (l0_4.length : Int)
      rotate_left
      ·
       rw [if_neg c41] at H
       exact absurd H (by simp)
      rw [if_pos c41] at H; have c41b0 : decide (x3_2 < (l0_4.length : Int)) = true := decide_eq_true c41; clear c41; replace H := Option.bind_eq_some_iff.mp H; obtain ⟨t106, A420, H⟩ := H; have A42 := Aside0.mk A420; clear A420
      by_cases c43 : t106 = true
      rotate_left
      ·
       replace c43 := Bool.eq_false_iff.mpr c43; subst c43; rw [if_neg nf_] at H; obtain rfl := Option.some.inj H; obtain ⟨hcz82_0, hcz82_1, hcz82_2, hcz82_3, hcz82_4, hcz82_5⟩ := cz6 BK101.out; obtain ⟨hfz82_0, hfz82_1, hfz82_2, hfz82_3, hfz82_4, hfz82_5⟩ := fz6 BK101.out; have p105 : 0 ≤ (x3_2 : Int) := of_decide_eq_true zs; have q105 : x3_2 < (l0_4.length : Int) := of_decide_eq_true zs; obtain ⟨ad105, A105_1, c105_1, A105_2, c105_2, e105, hx105_0, hx105_1, hx105_2, hl105_1, hi105_1, hl105_2, hi105_2⟩ := at_T63 HR0_4.out x3_2 p105 q105; cases e105; replace hx105_0 := pw_cell_below HB.out hx105_0; replace hx105_1 := pw_cell_below HB.out hx105_1; replace hx105_2 := pw_cell_below HB.out hx105_2; have HR105_1 := Aside0.mk hi105_1; have HC105_1 := Aside0.mk hl105_1; clear hi105_1 hl105_1; have HR105_2 := Aside0.mk hi105_2; have HC105_2 := Aside0.mk hl105_2; clear hi105_2 hl105_2; replace p105 := eq_true p105; replace q105 := eq_true q105
       go_wp2_with (first | ((with_reducible refine gate_callee (f := 48) rfl ?_); refine goesL_ (some 54) rfl rfl Try.func48 zk rfl #[.agg #[.bool ((rd_T63 l0_4 x3_2).f0), .slice A105_1 ((rd_T63 l0_4 x3_2).f1).length c105_1, .slice A105_2 ((rd_T63 l0_4 x3_2).f2).length c105_2]] rfl zm ?_; (with_reducible refine (spec_l3Space.calls k2 ((rd_T63 l0_4 x3_2).f0) _ _ ((rd_T63 l0_4 x3_2).f1) _ _ ((rd_T63 l0_4 x3_2).f2) false _ ?side1 ?side2 ?side3 ?side4 A42.out).mono ?_); (case side1 => exact cz (Kd.C_below HR105_1.out HB.out)); (case side2 => exact HC105_1.out); (case side3 => exact cz (Kd.C_below HR105_2.out HB.out)); (case side4 => exact HC105_2.out); rintro e w83 ⟨rfl, hb⟩; refine ⟨_, rfl, ?_⟩; replace BK101 := Aside0.mk (blk_below (kz BK101.out) hb); replace HB := Aside0.mk (below_step (bs HB.out GE101.out) hb); (try clear hb)))
       go_ret
       exact ⟨ze, bs HB.out GE101.out⟩
      subst c43; rw [if_pos rfl] at H; have H' := Aside0.mk H; clear H; obtain ⟨hcz44_0, hcz44_1, hcz44_2, hcz44_3, hcz44_4, hcz44_5⟩ := cz6 BK101.out; obtain ⟨hfz44_0, hfz44_1, hfz44_2, hfz44_3, hfz44_4, hfz44_5⟩ := fz6 BK101.out; have p105 : 0 ≤ (x3_2 : Int) := of_decide_eq_true zs; have q105 : x3_2 < (l0_4.length : Int) := of_decide_eq_true zs; obtain ⟨ad105, A105_1, c105_1, A105_2, c105_2, e105, hx105_0, hx105_1, hx105_2, hl105_1, hi105_1, hl105_2, hi105_2⟩ := at_T63 HR0_4.out x3_2 p105 q105; cases e105; replace hx105_0 := pw_cell_below HB.out hx105_0; replace hx105_1 := pw_cell_below HB.out hx105_1; replace hx105_2 := pw_cell_below HB.out hx105_2; have HR105_1 := Aside0.mk hi105_1; have HC105_1 := Aside0.mk hl105_1; clear hi105_1 hl105_1; have HR105_2 := Aside0.mk hi105_2; have HC105_2 := Aside0.mk hl105_2; clear hi105_2 hl105_2; replace p105 := eq_true p105; replace q105 := eq_true q105
      go_wp2_with (first | ((with_reducible refine gate_callee (f := 48) rfl ?_); refine goesL_ (some 54) rfl rfl Try.func48 zk rfl #[.agg #[.bool ((rd_T63 l0_4 x3_2).f0), .slice A105_1 ((rd_T63 l0_4 x3_2).f1).length c105_1, .slice A105_2 ((rd_T63 l0_4 x3_2).f2).length c105_2]] rfl zm ?_; (with_reducible refine (spec_l3Space.calls k2 ((rd_T63 l0_4 x3_2).f0) _ _ ((rd_T63 l0_4 x3_2).f1) _ _ ((rd_T63 l0_4 x3_2).f2) true _ ?side1 ?side2 ?side3 ?side4 A42.out).mono ?_); (case side1 => exact cz (Kd.C_below HR105_1.out HB.out)); (case side2 => exact HC105_1.out); (case side3 => exact cz (Kd.C_below HR105_2.out HB.out)); (case side4 => exact HC105_2.out); rintro e w45 ⟨rfl, hb⟩; refine ⟨_, rfl, ?_⟩; replace BK101 := Aside0.mk (blk_below (kz BK101.out) hb); replace HB := Aside0.mk (below_step (bs HB.out GE101.out) hb); (try clear hb)))
      go_loopg [4] k2 (fun kq v4 w' => ∃ (x4_3 : Int), v4 = .int .i64 x4_3 ∧ Aside0 (spec_MemOk.l1 kq x3_2 x4_3 l0_0 l0_1 l0_2 l0_3 l0_4 a0_5 = some r) ∧ Aside0 (kq ≤ k2) ∧ Aside0 (w'.heap[gb101]? = some (.cells #[(.slice A0_0 l0_0.length c0_0), (.slice A0_1 l0_1.length c0_1), (.slice A0_2 l0_2.length c0_2), (.slice A0_3 l0_3.length c0_3), (.slice (some ad105) l0_4.length c0_4), .int .i64 a0_5] 46 (0, 0))) ∧ Aside0 (Below w.heap.size w w'))
      case atStart => exact ⟨(0), zr, H', ⟨Nat.le_refl _⟩, ⟨kz (BK101.out)⟩, ⟨bs HB.out GE101.out⟩⟩
      case round =>
       clear H'
       (try clear c38); (try clear c39); (try clear c39b0); (try clear c40); (try clear c40b0); (try clear c41); (try clear c41b0); (try clear c43); (try clear hcz44_0); (try clear hcz44_1); (try clear hcz44_2); (try clear hcz44_3)
       (try clear hcz44_4); (try clear hcz44_5); (try clear hfz44_0); (try clear hfz44_1); (try clear hfz44_2); (try clear hfz44_3); (try clear hfz44_4); (try clear hfz44_5); (try clear hx105_0); (try clear hx105_1); (try clear hx105_2); (try clear p105)
       (try clear q105)
       obtain ⟨x4_3, rfl, HA, HK3, BK101, HB⟩ := hrel
       cases gk with
       | zero => exact absurd HA.out (by simp [spec_MemOk.l1])
       | succ k3 =>
        have H := HA.out; clear HA; simp only [spec_MemOk.l1] at H
        by_cases c46 : 0 ≤ x3_2
        rotate_left
        ·
         rw [if_neg c46] at H
         exact absurd H (by simp)
        rw [if_pos c46] at H; have c46b0 : decide (0 ≤ x3_2) = true := decide_eq_true c46; clear c46
        by_cases c47 : x3_2 < (l0_4.length : Int)
        rotate_left
        ·
         rw [if_neg c47] at H
         exact absurd H (by simp)
        rw [if_pos c47] at H; have c47b0 : decide (x3_2 < (l0_4.length : Int)) = true := decide_eq_true c47; clear c47
        by_cases c48 : x4_3 < (((rd_T63 l0_4 x3_2).f2).length : Int)
        rotate_left
        ·
         rw [if_neg c48] at H; have c48b0 : decide (x4_3 < (((rd_T63 l0_4 x3_2).f2).length : Int)) = false := decide_eq_false c48; clear c48; have H' := Aside0.mk H; clear H; obtain ⟨hcz81_0, hcz81_1, hcz81_2, hcz81_3, hcz81_4, hcz81_5⟩ := cz6 BK101.out; obtain ⟨hfz81_0, hfz81_1, hfz81_2, hfz81_3, hfz81_4, hfz81_5⟩ := fz6 BK101.out; have p107 : 0 ≤ (x3_2 : Int) := of_decide_eq_true zs; have q107 : x3_2 < (l0_4.length : Int) := of_decide_eq_true zs; obtain ⟨ad107, A107_1, c107_1, A107_2, c107_2, e107, hx107_0, hx107_1, hx107_2, hl107_1, hi107_1, hl107_2, hi107_2⟩ := at_T63 HR0_4.out x3_2 p107 q107; obtain rfl : ad105 = ad107 := (by injection e107); replace hx107_0 := pw_cell_below HB.out hx107_0; replace hx107_1 := pw_cell_below HB.out hx107_1; replace hx107_2 := pw_cell_below HB.out hx107_2; have HR107_1 := Aside0.mk hi107_1; have HC107_1 := Aside0.mk hl107_1; clear hi107_1 hl107_1; have HR107_2 := Aside0.mk hi107_2; have HC107_2 := Aside0.mk hl107_2; clear hi107_2 hl107_2; replace p107 := eq_true p107; replace q107 := eq_true q107
         go_wp2
         go_roundg k3
         case measure => have := HJ1.out; have := HK2.out; have := HK3.out; omega
         case rel => exact ⟨(wrap64 (x3_2 + 1)), zr, H', ⟨by have := HJ1.out; have := HK2.out; have := HK3.out; omega⟩, ⟨kz (BK101.out)⟩, ⟨bs HB.out GE101.out⟩⟩
        rw [if_pos c48] at H; have c48b0 : decide (x4_3 < (((rd_T63 l0_4 x3_2).f2).length : Int)) = true := decide_eq_true c48; clear c48
        by_cases c49 : 0 ≤ x4_3
        rotate_left
        ·
         rw [if_neg c49] at H
         exact absurd H (by simp)
        rw [if_pos c49] at H; have c49b0 : decide (0 ≤ x4_3) = true := decide_eq_true c49; clear c49
        by_cases c50 : ((rd_T65 ((rd_T63 l0_4 x3_2).f2) x4_3).f0) = 2
        rotate_left
        ·
         rw [if_neg c50] at H; have c50b0 : (((rd_T65 ((rd_T63 l0_4 x3_2).f2) x4_3).f0) == 2) = false := beq_eq_false_iff_ne.mpr c50; have c50b1 : (((rd_T65 ((rd_T63 l0_4 x3_2).f2) x4_3).f0) != 2) = true := bne_iff_ne.mpr c50
         by_cases c66 : ((rd_T65 ((rd_T63 l0_4 x3_2).f2) x4_3).f0) = 0
         ·
          rw [if_pos c66] at H; have c66b0 : (((rd_T65 ((rd_T63 l0_4 x3_2).f2) x4_3).f0) == 0) = true := beq_iff_eq.mpr c66; have c66b1 : (((rd_T65 ((rd_T63 l0_4 x3_2).f2) x4_3).f0) != 0) = false := bne_eq_false_iff_eq.mpr c66; clear c66; have H' := Aside0.mk H; clear H; obtain ⟨hcz67_0, hcz67_1, hcz67_2, hcz67_3, hcz67_4, hcz67_5⟩ := cz6 BK101.out; obtain ⟨hfz67_0, hfz67_1, hfz67_2, hfz67_3, hfz67_4, hfz67_5⟩ := fz6 BK101.out; have p107 : 0 ≤ (x3_2 : Int) := of_decide_eq_true zs; have q107 : x3_2 < (l0_4.length : Int) := of_decide_eq_true zs; obtain ⟨ad107, A107_1, c107_1, A107_2, c107_2, e107, hx107_0, hx107_1, hx107_2, hl107_1, hi107_1, hl107_2, hi107_2⟩ := at_T63 HR0_4.out x3_2 p107 q107; obtain rfl : ad105 = ad107 := (by injection e107); replace hx107_0 := pw_cell_below HB.out hx107_0; replace hx107_1 := pw_cell_below HB.out hx107_1; replace hx107_2 := pw_cell_below HB.out hx107_2; have HR107_1 := Aside0.mk hi107_1; have HC107_1 := Aside0.mk hl107_1; clear hi107_1 hl107_1; have HR107_2 := Aside0.mk hi107_2; have HC107_2 := Aside0.mk hl107_2; clear hi107_2 hl107_2; replace p107 := eq_true p107; replace q107 := eq_true q107; have p108 : 0 ≤ (x3_2 : Int) := of_decide_eq_true zs; have q108 : x3_2 < (l0_4.length : Int) := of_decide_eq_true zs; obtain ⟨ad108, A108_1, c108_1, A108_2, c108_2, e108, hx108_0, hx108_1, hx108_2, hl108_1, hi108_1, hl108_2, hi108_2⟩ := at_T63 HR0_4.out x3_2 p108 q108; obtain rfl : ad105 = ad108 := (by injection e108); replace hx108_0 := pw_cell_below HB.out hx108_0; replace hx108_1 := pw_cell_below HB.out hx108_1; replace hx108_2 := pw_cell_below HB.out hx108_2; have HR108_1 := Aside0.mk hi108_1; have HC108_1 := Aside0.mk hl108_1; clear hi108_1 hl108_1; have HR108_2 := Aside0.mk hi108_2; have HC108_2 := Aside0.mk hl108_2; clear hi108_2 hl108_2; replace p108 := eq_true p108; replace q108 := eq_true q108; have ea_ := Option.some.inj (hx107_1.symm.trans hx108_1)
          injection ea_ with ea_ en_ ec_
          subst ea_; subst ec_; clear en_; have ea_ := Option.some.inj (hx107_2.symm.trans hx108_2)
          injection ea_ with ea_ en_ ec_
          subst ea_; subst ec_; clear en_; have p109 : 0 ≤ (x4_3 : Int) := of_decide_eq_true zs; have q109 : x4_3 < (((rd_T63 l0_4 x3_2).f2).length : Int) := of_decide_eq_true zs; obtain ⟨ad109, e109, hx109_0, hx109_1, hx109_2, hx109_3⟩ := at_T65 HR108_2.out x4_3 p109 q109; cases e109; replace hx109_0 := pw_cell_below HB.out hx109_0; replace hx109_1 := pw_cell_below HB.out hx109_1; replace hx109_2 := pw_cell_below HB.out hx109_2; replace hx109_3 := pw_cell_below HB.out hx109_3; replace p109 := eq_true p109; replace q109 := eq_true q109
          go_wp2_with (first | ((with_reducible refine gate_dst (N := 5) rfl ?_); (try (refine gate_guard (by rfl) ?_; dsimp only)); refine box_event ?hg (N := 5) ?hd (cs := #[.int .i64 0, .int .i64 0, .bool false, .bool false]) (t := 65) ?hr ?_; (case hd => rfl); (case hg => rfl); (case hr => first | (go_simp; done) | (go_simp; rfl)); intro gb110 hg w68 hbox hb; have BK110 := Aside0.mk (hbox); have GW110 := Aside0.mk ((by rw [hg]; exact (below_size (bs HB.out GE101.out)) : w.heap.size ≤ gb110)); have GE110 := GW110; replace HB := Aside0.mk (below_step (bs HB.out GE101.out) hb); have NB101_110 := Aside0.mk ((by rw [hg]; exact Nat.ne_of_lt (blk_lt (kz BK101.out)) : gb101 ≠ gb110)); have NB110_101 := Aside0.mk NB101_110.out.symm; replace BK101 := Aside0.mk (blk_below (kz BK101.out) hb); clear hb hbox hg; have hnb69 := NB110_101.out; have hnc69 := NB101_110.out; obtain ⟨hcz70_0, hcz70_1, hcz70_2, hcz70_3⟩ := cz4 BK110.out; obtain ⟨hfz70_0, hfz70_1, hfz70_2, hfz70_3⟩ := fz4 BK110.out))
          go_roundg k3
          case measure => have := HJ1.out; have := HK2.out; have := HK3.out; omega
          case rel => exact ⟨(wrap64 (x4_3 + 1)), zr, H', ⟨by have := HJ1.out; have := HK2.out; have := HK3.out; omega⟩, ⟨by (with_reducible repeat (first | refine blk_drewN ?_ _ | refine blk_drew ?_ | refine blk_alloc ?_ _ | refine blk_far ?_ NB101_110.out _)); exact BK101.out⟩, ⟨bs2 HB.out GE101.out GE110.out⟩⟩
         rw [if_neg c66] at H; have c66b0 : (((rd_T65 ((rd_T63 l0_4 x3_2).f2) x4_3).f0) == 0) = false := beq_eq_false_iff_ne.mpr c66; have c66b1 : (((rd_T65 ((rd_T63 l0_4 x3_2).f2) x4_3).f0) != 0) = true := bne_iff_ne.mpr c66; replace H := Option.bind_eq_some_iff.mp H; obtain ⟨t112, A710, H⟩ := H; have A71 := Aside0.mk A710; clear A710
         by_cases c72 : t112 = true
         rotate_left
         ·
          replace c72 := Bool.eq_false_iff.mpr c72; subst c72; rw [if_neg nf_] at H; obtain rfl := Option.some.inj H; obtain ⟨hcz77_0, hcz77_1, hcz77_2, hcz77_3, hcz77_4, hcz77_5⟩ := cz6 BK101.out; obtain ⟨hfz77_0, hfz77_1, hfz77_2, hfz77_3, hfz77_4, hfz77_5⟩ := fz6 BK101.out; have p107 : 0 ≤ (x3_2 : Int) := of_decide_eq_true zs; have q107 : x3_2 < (l0_4.length : Int) := of_decide_eq_true zs; obtain ⟨ad107, A107_1, c107_1, A107_2, c107_2, e107, hx107_0, hx107_1, hx107_2, hl107_1, hi107_1, hl107_2, hi107_2⟩ := at_T63 HR0_4.out x3_2 p107 q107; obtain rfl : ad105 = ad107 := (by injection e107); replace hx107_0 := pw_cell_below HB.out hx107_0; replace hx107_1 := pw_cell_below HB.out hx107_1; replace hx107_2 := pw_cell_below HB.out hx107_2; have HR107_1 := Aside0.mk hi107_1; have HC107_1 := Aside0.mk hl107_1; clear hi107_1 hl107_1; have HR107_2 := Aside0.mk hi107_2; have HC107_2 := Aside0.mk hl107_2; clear hi107_2 hl107_2; replace p107 := eq_true p107; replace q107 := eq_true q107; have p108 : 0 ≤ (x3_2 : Int) := of_decide_eq_true zs; have q108 : x3_2 < (l0_4.length : Int) := of_decide_eq_true zs; obtain ⟨ad108, A108_1, c108_1, A108_2, c108_2, e108, hx108_0, hx108_1, hx108_2, hl108_1, hi108_1, hl108_2, hi108_2⟩ := at_T63 HR0_4.out x3_2 p108 q108; obtain rfl : ad105 = ad108 := (by injection e108); replace hx108_0 := pw_cell_below HB.out hx108_0; replace hx108_1 := pw_cell_below HB.out hx108_1; replace hx108_2 := pw_cell_below HB.out hx108_2; have HR108_1 := Aside0.mk hi108_1; have HC108_1 := Aside0.mk hl108_1; clear hi108_1 hl108_1; have HR108_2 := Aside0.mk hi108_2; have HC108_2 := Aside0.mk hl108_2; clear hi108_2 hl108_2; replace p108 := eq_true p108; replace q108 := eq_true q108; have ea_ := Option.some.inj (hx107_1.symm.trans hx108_1)
          injection ea_ with ea_ en_ ec_
          subst ea_; subst ec_; clear en_; have ea_ := Option.some.inj (hx107_2.symm.trans hx108_2)
          injection ea_ with ea_ en_ ec_
          subst ea_; subst ec_; clear en_; have p109 : 0 ≤ (x4_3 : Int) := of_decide_eq_true zs; have q109 : x4_3 < (((rd_T63 l0_4 x3_2).f2).length : Int) := of_decide_eq_true zs; obtain ⟨ad109, e109, hx109_0, hx109_1, hx109_2, hx109_3⟩ := at_T65 HR108_2.out x4_3 p109 q109; cases e109; replace hx109_0 := pw_cell_below HB.out hx109_0; replace hx109_1 := pw_cell_below HB.out hx109_1; replace hx109_2 := pw_cell_below HB.out hx109_2; replace hx109_3 := pw_cell_below HB.out hx109_3; replace p109 := eq_true p109; replace q109 := eq_true q109
          go_wp2_with (first | ((with_reducible refine gate_dst (N := 5) rfl ?_); (try (refine gate_guard (by rfl) ?_; dsimp only)); refine box_event ?hg (N := 5) ?hd (cs := #[.int .i64 0, .int .i64 0, .bool false, .bool false]) (t := 65) ?hr ?_; (case hd => rfl); (case hg => rfl); (case hr => first | (go_simp; done) | (go_simp; rfl)); intro gb110 hg w78 hbox hb; have BK110 := Aside0.mk (hbox); have GW110 := Aside0.mk ((by rw [hg]; exact (below_size (bs HB.out GE101.out)) : w.heap.size ≤ gb110)); have GE110 := GW110; replace HB := Aside0.mk (below_step (bs HB.out GE101.out) hb); have NB101_110 := Aside0.mk ((by rw [hg]; exact Nat.ne_of_lt (blk_lt (kz BK101.out)) : gb101 ≠ gb110)); have NB110_101 := Aside0.mk NB101_110.out.symm; replace BK101 := Aside0.mk (blk_below (kz BK101.out) hb); clear hb hbox hg; have hnb79 := NB110_101.out; have hnc79 := NB101_110.out; obtain ⟨hcz80_0, hcz80_1, hcz80_2, hcz80_3⟩ := cz4 BK110.out; obtain ⟨hfz80_0, hfz80_1, hfz80_2, hfz80_3⟩ := fz4 BK110.out) | (go_at_call 47; (with_reducible refine (spec_l6In.calls ((rd_T65 ((rd_T63 l0_4 x3_2).f2) x4_3).f1) 0 11 false _ A71.out).mono ?_); rintro e w' ⟨rfl, ⟨nd, rfl⟩⟩))
          go_ret
          exact ⟨ze, bs2 HB.out GE101.out GE110.out⟩
         subst c72; rw [if_pos rfl] at H; have H' := Aside0.mk H; clear H; obtain ⟨hcz73_0, hcz73_1, hcz73_2, hcz73_3, hcz73_4, hcz73_5⟩ := cz6 BK101.out; obtain ⟨hfz73_0, hfz73_1, hfz73_2, hfz73_3, hfz73_4, hfz73_5⟩ := fz6 BK101.out; have p107 : 0 ≤ (x3_2 : Int) := of_decide_eq_true zs; have q107 : x3_2 < (l0_4.length : Int) := of_decide_eq_true zs; obtain ⟨ad107, A107_1, c107_1, A107_2, c107_2, e107, hx107_0, hx107_1, hx107_2, hl107_1, hi107_1, hl107_2, hi107_2⟩ := at_T63 HR0_4.out x3_2 p107 q107; obtain rfl : ad105 = ad107 := (by injection e107); replace hx107_0 := pw_cell_below HB.out hx107_0; replace hx107_1 := pw_cell_below HB.out hx107_1; replace hx107_2 := pw_cell_below HB.out hx107_2; have HR107_1 := Aside0.mk hi107_1; have HC107_1 := Aside0.mk hl107_1; clear hi107_1 hl107_1; have HR107_2 := Aside0.mk hi107_2; have HC107_2 := Aside0.mk hl107_2; clear hi107_2 hl107_2; replace p107 := eq_true p107; replace q107 := eq_true q107; have p108 : 0 ≤ (x3_2 : Int) := of_decide_eq_true zs; have q108 : x3_2 < (l0_4.length : Int) := of_decide_eq_true zs; obtain ⟨ad108, A108_1, c108_1, A108_2, c108_2, e108, hx108_0, hx108_1, hx108_2, hl108_1, hi108_1, hl108_2, hi108_2⟩ := at_T63 HR0_4.out x3_2 p108 q108; obtain rfl : ad105 = ad108 := (by injection e108); replace hx108_0 := pw_cell_below HB.out hx108_0; replace hx108_1 := pw_cell_below HB.out hx108_1; replace hx108_2 := pw_cell_below HB.out hx108_2; have HR108_1 := Aside0.mk hi108_1; have HC108_1 := Aside0.mk hl108_1; clear hi108_1 hl108_1; have HR108_2 := Aside0.mk hi108_2; have HC108_2 := Aside0.mk hl108_2; clear hi108_2 hl108_2; replace p108 := eq_true p108; replace q108 := eq_true q108; have ea_ := Option.some.inj (hx107_1.symm.trans hx108_1)
         injection ea_ with ea_ en_ ec_
         subst ea_; subst ec_; clear en_; have ea_ := Option.some.inj (hx107_2.symm.trans hx108_2)
         injection ea_ with ea_ en_ ec_
         subst ea_; subst ec_; clear en_; have p109 : 0 ≤ (x4_3 : Int) := of_decide_eq_true zs; have q109 : x4_3 < (((rd_T63 l0_4 x3_2).f2).length : Int) := of_decide_eq_true zs; obtain ⟨ad109, e109, hx109_0, hx109_1, hx109_2, hx109_3⟩ := at_T65 HR108_2.out x4_3 p109 q109; cases e109; replace hx109_0 := pw_cell_below HB.out hx109_0; replace hx109_1 := pw_cell_below HB.out hx109_1; replace hx109_2 := pw_cell_below HB.out hx109_2; replace hx109_3 := pw_cell_below HB.out hx109_3; replace p109 := eq_true p109; replace q109 := eq_true q109
         go_wp2_with (first | ((with_reducible refine gate_dst (N := 5) rfl ?_); (try (refine gate_guard (by rfl) ?_; dsimp only)); refine box_event ?hg (N := 5) ?hd (cs := #[.int .i64 0, .int .i64 0, .bool false, .bool false]) (t := 65) ?hr ?_; (case hd => rfl); (case hg => rfl); (case hr => first | (go_simp; done) | (go_simp; rfl)); intro gb110 hg w74 hbox hb; have BK110 := Aside0.mk (hbox); have GW110 := Aside0.mk ((by rw [hg]; exact (below_size (bs HB.out GE101.out)) : w.heap.size ≤ gb110)); have GE110 := GW110; replace HB := Aside0.mk (below_step (bs HB.out GE101.out) hb); have NB101_110 := Aside0.mk ((by rw [hg]; exact Nat.ne_of_lt (blk_lt (kz BK101.out)) : gb101 ≠ gb110)); have NB110_101 := Aside0.mk NB101_110.out.symm; replace BK101 := Aside0.mk (blk_below (kz BK101.out) hb); clear hb hbox hg; have hnb75 := NB110_101.out; have hnc75 := NB101_110.out; obtain ⟨hcz76_0, hcz76_1, hcz76_2, hcz76_3⟩ := cz4 BK110.out; obtain ⟨hfz76_0, hfz76_1, hfz76_2, hfz76_3⟩ := fz4 BK110.out) | (go_at_call 47; (with_reducible refine (spec_l6In.calls ((rd_T65 ((rd_T63 l0_4 x3_2).f2) x4_3).f1) 0 11 true _ A71.out).mono ?_); rintro e w' ⟨rfl, ⟨nd, rfl⟩⟩))
         go_roundg k3
         case measure => have := HJ1.out; have := HK2.out; have := HK3.out; omega
         case rel => exact ⟨(wrap64 (x4_3 + 1)), zr, H', ⟨by have := HJ1.out; have := HK2.out; have := HK3.out; omega⟩, ⟨by (with_reducible repeat (first | refine blk_drewN ?_ _ | refine blk_drew ?_ | refine blk_alloc ?_ _ | refine blk_far ?_ NB101_110.out _)); exact BK101.out⟩, ⟨bs2 HB.out GE101.out GE110.out⟩⟩
        rw [if_pos c50] at H; have c50b0 : (((rd_T65 ((rd_T63 l0_4 x3_2).f2) x4_3).f0) == 2) = true := beq_iff_eq.mpr c50; have c50b1 : (((rd_T65 ((rd_T63 l0_4 x3_2).f2) x4_3).f0) != 2) = false := bne_eq_false_iff_eq.mpr c50; clear c50
        by_cases c51 : ((rd_T65 ((rd_T63 l0_4 x3_2).f2) x4_3).f0) = 0
        ·
         rw [if_pos c51] at H; have c51b0 : (((rd_T65 ((rd_T63 l0_4 x3_2).f2) x4_3).f0) == 0) = true := beq_iff_eq.mpr c51; have c51b1 : (((rd_T65 ((rd_T63 l0_4 x3_2).f2) x4_3).f0) != 0) = false := bne_eq_false_iff_eq.mpr c51; clear c51; have H' := Aside0.mk H; clear H; obtain ⟨hcz52_0, hcz52_1, hcz52_2, hcz52_3, hcz52_4, hcz52_5⟩ := cz6 BK101.out; obtain ⟨hfz52_0, hfz52_1, hfz52_2, hfz52_3, hfz52_4, hfz52_5⟩ := fz6 BK101.out; have p107 : 0 ≤ (x3_2 : Int) := of_decide_eq_true zs; have q107 : x3_2 < (l0_4.length : Int) := of_decide_eq_true zs; obtain ⟨ad107, A107_1, c107_1, A107_2, c107_2, e107, hx107_0, hx107_1, hx107_2, hl107_1, hi107_1, hl107_2, hi107_2⟩ := at_T63 HR0_4.out x3_2 p107 q107; obtain rfl : ad105 = ad107 := (by injection e107); replace hx107_0 := pw_cell_below HB.out hx107_0; replace hx107_1 := pw_cell_below HB.out hx107_1; replace hx107_2 := pw_cell_below HB.out hx107_2; have HR107_1 := Aside0.mk hi107_1; have HC107_1 := Aside0.mk hl107_1; clear hi107_1 hl107_1; have HR107_2 := Aside0.mk hi107_2; have HC107_2 := Aside0.mk hl107_2; clear hi107_2 hl107_2; replace p107 := eq_true p107; replace q107 := eq_true q107; have p108 : 0 ≤ (x3_2 : Int) := of_decide_eq_true zs; have q108 : x3_2 < (l0_4.length : Int) := of_decide_eq_true zs; obtain ⟨ad108, A108_1, c108_1, A108_2, c108_2, e108, hx108_0, hx108_1, hx108_2, hl108_1, hi108_1, hl108_2, hi108_2⟩ := at_T63 HR0_4.out x3_2 p108 q108; obtain rfl : ad105 = ad108 := (by injection e108); replace hx108_0 := pw_cell_below HB.out hx108_0; replace hx108_1 := pw_cell_below HB.out hx108_1; replace hx108_2 := pw_cell_below HB.out hx108_2; have HR108_1 := Aside0.mk hi108_1; have HC108_1 := Aside0.mk hl108_1; clear hi108_1 hl108_1; have HR108_2 := Aside0.mk hi108_2; have HC108_2 := Aside0.mk hl108_2; clear hi108_2 hl108_2; replace p108 := eq_true p108; replace q108 := eq_true q108; have ea_ := Option.some.inj (hx107_1.symm.trans hx108_1)
         injection ea_ with ea_ en_ ec_
         subst ea_; subst ec_; clear en_; have ea_ := Option.some.inj (hx107_2.symm.trans hx108_2)
         injection ea_ with ea_ en_ ec_
         subst ea_; subst ec_; clear en_; have p109 : 0 ≤ (x4_3 : Int) := of_decide_eq_true zs; have q109 : x4_3 < (((rd_T63 l0_4 x3_2).f2).length : Int) := of_decide_eq_true zs; obtain ⟨ad109, e109, hx109_0, hx109_1, hx109_2, hx109_3⟩ := at_T65 HR108_2.out x4_3 p109 q109; cases e109; replace hx109_0 := pw_cell_below HB.out hx109_0; replace hx109_1 := pw_cell_below HB.out hx109_1; replace hx109_2 := pw_cell_below HB.out hx109_2; replace hx109_3 := pw_cell_below HB.out hx109_3; replace p109 := eq_true p109; replace q109 := eq_true q109
         go_wp2_with (first | ((with_reducible refine gate_dst (N := 5) rfl ?_); (try (refine gate_guard (by rfl) ?_; dsimp only)); refine box_event ?hg (N := 5) ?hd (cs := #[.int .i64 0, .int .i64 0, .bool false, .bool false]) (t := 65) ?hr ?_; (case hd => rfl); (case hg => rfl); (case hr => first | (go_simp; done) | (go_simp; rfl)); intro gb110 hg w53 hbox hb; have BK110 := Aside0.mk (hbox); have GW110 := Aside0.mk ((by rw [hg]; exact (below_size (bs HB.out GE101.out)) : w.heap.size ≤ gb110)); have GE110 := GW110; replace HB := Aside0.mk (below_step (bs HB.out GE101.out) hb); have NB101_110 := Aside0.mk ((by rw [hg]; exact Nat.ne_of_lt (blk_lt (kz BK101.out)) : gb101 ≠ gb110)); have NB110_101 := Aside0.mk NB101_110.out.symm; replace BK101 := Aside0.mk (blk_below (kz BK101.out) hb); clear hb hbox hg; have hnb54 := NB110_101.out; have hnc54 := NB101_110.out; obtain ⟨hcz55_0, hcz55_1, hcz55_2, hcz55_3⟩ := cz4 BK110.out; obtain ⟨hfz55_0, hfz55_1, hfz55_2, hfz55_3⟩ := fz4 BK110.out))
         go_roundg k3
         case measure => have := HJ1.out; have := HK2.out; have := HK3.out; omega
         case rel => exact ⟨(wrap64 (x4_3 + 1)), zr, H', ⟨by have := HJ1.out; have := HK2.out; have := HK3.out; omega⟩, ⟨by (with_reducible repeat (first | refine blk_drewN ?_ _ | refine blk_drew ?_ | refine blk_alloc ?_ _ | refine blk_far ?_ NB101_110.out _)); exact BK101.out⟩, ⟨bs2 HB.out GE101.out GE110.out⟩⟩
        rw [if_neg c51] at H; have c51b0 : (((rd_T65 ((rd_T63 l0_4 x3_2).f2) x4_3).f0) == 0) = false := beq_eq_false_iff_ne.mpr c51; have c51b1 : (((rd_T65 ((rd_T63 l0_4 x3_2).f2) x4_3).f0) != 0) = true := bne_iff_ne.mpr c51; replace H := Option.bind_eq_some_iff.mp H; obtain ⟨t111, A560, H⟩ := H; have A56 := Aside0.mk A560; clear A560
        by_cases c57 : t111 = true
        rotate_left
        ·
         replace c57 := Bool.eq_false_iff.mpr c57; subst c57; rw [if_neg nf_] at H; obtain rfl := Option.some.inj H; obtain ⟨hcz62_0, hcz62_1, hcz62_2, hcz62_3, hcz62_4, hcz62_5⟩ := cz6 BK101.out; obtain ⟨hfz62_0, hfz62_1, hfz62_2, hfz62_3, hfz62_4, hfz62_5⟩ := fz6 BK101.out; have p107 : 0 ≤ (x3_2 : Int) := of_decide_eq_true zs; have q107 : x3_2 < (l0_4.length : Int) := of_decide_eq_true zs; obtain ⟨ad107, A107_1, c107_1, A107_2, c107_2, e107, hx107_0, hx107_1, hx107_2, hl107_1, hi107_1, hl107_2, hi107_2⟩ := at_T63 HR0_4.out x3_2 p107 q107; obtain rfl : ad105 = ad107 := (by injection e107); replace hx107_0 := pw_cell_below HB.out hx107_0; replace hx107_1 := pw_cell_below HB.out hx107_1; replace hx107_2 := pw_cell_below HB.out hx107_2; have HR107_1 := Aside0.mk hi107_1; have HC107_1 := Aside0.mk hl107_1; clear hi107_1 hl107_1; have HR107_2 := Aside0.mk hi107_2; have HC107_2 := Aside0.mk hl107_2; clear hi107_2 hl107_2; replace p107 := eq_true p107; replace q107 := eq_true q107; have p108 : 0 ≤ (x3_2 : Int) := of_decide_eq_true zs; have q108 : x3_2 < (l0_4.length : Int) := of_decide_eq_true zs; obtain ⟨ad108, A108_1, c108_1, A108_2, c108_2, e108, hx108_0, hx108_1, hx108_2, hl108_1, hi108_1, hl108_2, hi108_2⟩ := at_T63 HR0_4.out x3_2 p108 q108; obtain rfl : ad105 = ad108 := (by injection e108); replace hx108_0 := pw_cell_below HB.out hx108_0; replace hx108_1 := pw_cell_below HB.out hx108_1; replace hx108_2 := pw_cell_below HB.out hx108_2; have HR108_1 := Aside0.mk hi108_1; have HC108_1 := Aside0.mk hl108_1; clear hi108_1 hl108_1; have HR108_2 := Aside0.mk hi108_2; have HC108_2 := Aside0.mk hl108_2; clear hi108_2 hl108_2; replace p108 := eq_true p108; replace q108 := eq_true q108; have ea_ := Option.some.inj (hx107_1.symm.trans hx108_1)
         injection ea_ with ea_ en_ ec_
         subst ea_; subst ec_; clear en_; have ea_ := Option.some.inj (hx107_2.symm.trans hx108_2)
         injection ea_ with ea_ en_ ec_
         subst ea_; subst ec_; clear en_; have p109 : 0 ≤ (x4_3 : Int) := of_decide_eq_true zs; have q109 : x4_3 < (((rd_T63 l0_4 x3_2).f2).length : Int) := of_decide_eq_true zs; obtain ⟨ad109, e109, hx109_0, hx109_1, hx109_2, hx109_3⟩ := at_T65 HR108_2.out x4_3 p109 q109; cases e109; replace hx109_0 := pw_cell_below HB.out hx109_0; replace hx109_1 := pw_cell_below HB.out hx109_1; replace hx109_2 := pw_cell_below HB.out hx109_2; replace hx109_3 := pw_cell_below HB.out hx109_3; replace p109 := eq_true p109; replace q109 := eq_true q109
         go_wp2_with (first | ((with_reducible refine gate_dst (N := 5) rfl ?_); (try (refine gate_guard (by rfl) ?_; dsimp only)); refine box_event ?hg (N := 5) ?hd (cs := #[.int .i64 0, .int .i64 0, .bool false, .bool false]) (t := 65) ?hr ?_; (case hd => rfl); (case hg => rfl); (case hr => first | (go_simp; done) | (go_simp; rfl)); intro gb110 hg w63 hbox hb; have BK110 := Aside0.mk (hbox); have GW110 := Aside0.mk ((by rw [hg]; exact (below_size (bs HB.out GE101.out)) : w.heap.size ≤ gb110)); have GE110 := GW110; replace HB := Aside0.mk (below_step (bs HB.out GE101.out) hb); have NB101_110 := Aside0.mk ((by rw [hg]; exact Nat.ne_of_lt (blk_lt (kz BK101.out)) : gb101 ≠ gb110)); have NB110_101 := Aside0.mk NB101_110.out.symm; replace BK101 := Aside0.mk (blk_below (kz BK101.out) hb); clear hb hbox hg; have hnb64 := NB110_101.out; have hnc64 := NB101_110.out; obtain ⟨hcz65_0, hcz65_1, hcz65_2, hcz65_3⟩ := cz4 BK110.out; obtain ⟨hfz65_0, hfz65_1, hfz65_2, hfz65_3⟩ := fz4 BK110.out) | (go_at_call 47; (with_reducible refine (spec_l6In.calls ((rd_T65 ((rd_T63 l0_4 x3_2).f2) x4_3).f1) 0 11 false _ A56.out).mono ?_); rintro e w' ⟨rfl, ⟨nd, rfl⟩⟩))
         go_ret
         exact ⟨ze, bs2 HB.out GE101.out GE110.out⟩
        subst c57; rw [if_pos rfl] at H; have H' := Aside0.mk H; clear H; obtain ⟨hcz58_0, hcz58_1, hcz58_2, hcz58_3, hcz58_4, hcz58_5⟩ := cz6 BK101.out; obtain ⟨hfz58_0, hfz58_1, hfz58_2, hfz58_3, hfz58_4, hfz58_5⟩ := fz6 BK101.out; have p107 : 0 ≤ (x3_2 : Int) := of_decide_eq_true zs; have q107 : x3_2 < (l0_4.length : Int) := of_decide_eq_true zs; obtain ⟨ad107, A107_1, c107_1, A107_2, c107_2, e107, hx107_0, hx107_1, hx107_2, hl107_1, hi107_1, hl107_2, hi107_2⟩ := at_T63 HR0_4.out x3_2 p107 q107; obtain rfl : ad105 = ad107 := (by injection e107); replace hx107_0 := pw_cell_below HB.out hx107_0; replace hx107_1 := pw_cell_below HB.out hx107_1; replace hx107_2 := pw_cell_below HB.out hx107_2; have HR107_1 := Aside0.mk hi107_1; have HC107_1 := Aside0.mk hl107_1; clear hi107_1 hl107_1; have HR107_2 := Aside0.mk hi107_2; have HC107_2 := Aside0.mk hl107_2; clear hi107_2 hl107_2; replace p107 := eq_true p107; replace q107 := eq_true q107; have p108 : 0 ≤ (x3_2 : Int) := of_decide_eq_true zs; have q108 : x3_2 < (l0_4.length : Int) := of_decide_eq_true zs; obtain ⟨ad108, A108_1, c108_1, A108_2, c108_2, e108, hx108_0, hx108_1, hx108_2, hl108_1, hi108_1, hl108_2, hi108_2⟩ := at_T63 HR0_4.out x3_2 p108 q108; obtain rfl : ad105 = ad108 := (by injection e108); replace hx108_0 := pw_cell_below HB.out hx108_0; replace hx108_1 := pw_cell_below HB.out hx108_1; replace hx108_2 := pw_cell_below HB.out hx108_2; have HR108_1 := Aside0.mk hi108_1; have HC108_1 := Aside0.mk hl108_1; clear hi108_1 hl108_1; have HR108_2 := Aside0.mk hi108_2; have HC108_2 := Aside0.mk hl108_2; clear hi108_2 hl108_2; replace p108 := eq_true p108; replace q108 := eq_true q108; have ea_ := Option.some.inj (hx107_1.symm.trans hx108_1)
        injection ea_ with ea_ en_ ec_
        subst ea_; subst ec_; clear en_; have ea_ := Option.some.inj (hx107_2.symm.trans hx108_2)
        injection ea_ with ea_ en_ ec_
        subst ea_; subst ec_; clear en_; have p109 : 0 ≤ (x4_3 : Int) := of_decide_eq_true zs; have q109 : x4_3 < (((rd_T63 l0_4 x3_2).f2).length : Int) := of_decide_eq_true zs; obtain ⟨ad109, e109, hx109_0, hx109_1, hx109_2, hx109_3⟩ := at_T65 HR108_2.out x4_3 p109 q109; cases e109; replace hx109_0 := pw_cell_below HB.out hx109_0; replace hx109_1 := pw_cell_below HB.out hx109_1; replace hx109_2 := pw_cell_below HB.out hx109_2; replace hx109_3 := pw_cell_below HB.out hx109_3; replace p109 := eq_true p109; replace q109 := eq_true q109
        go_wp2_with (first | ((with_reducible refine gate_dst (N := 5) rfl ?_); (try (refine gate_guard (by rfl) ?_; dsimp only)); refine box_event ?hg (N := 5) ?hd (cs := #[.int .i64 0, .int .i64 0, .bool false, .bool false]) (t := 65) ?hr ?_; (case hd => rfl); (case hg => rfl); (case hr => first | (go_simp; done) | (go_simp; rfl)); intro gb110 hg w59 hbox hb; have BK110 := Aside0.mk (hbox); have GW110 := Aside0.mk ((by rw [hg]; exact (below_size (bs HB.out GE101.out)) : w.heap.size ≤ gb110)); have GE110 := GW110; replace HB := Aside0.mk (below_step (bs HB.out GE101.out) hb); have NB101_110 := Aside0.mk ((by rw [hg]; exact Nat.ne_of_lt (blk_lt (kz BK101.out)) : gb101 ≠ gb110)); have NB110_101 := Aside0.mk NB101_110.out.symm; replace BK101 := Aside0.mk (blk_below (kz BK101.out) hb); clear hb hbox hg; have hnb60 := NB110_101.out; have hnc60 := NB101_110.out; obtain ⟨hcz61_0, hcz61_1, hcz61_2, hcz61_3⟩ := cz4 BK110.out; obtain ⟨hfz61_0, hfz61_1, hfz61_2, hfz61_3⟩ := fz4 BK110.out) | (go_at_call 47; (with_reducible refine (spec_l6In.calls ((rd_T65 ((rd_T63 l0_4 x3_2).f2) x4_3).f1) 0 11 true _ A56.out).mono ?_); rintro e w' ⟨rfl, ⟨nd, rfl⟩⟩))
        go_roundg k3
        case measure => have := HJ1.out; have := HK2.out; have := HK3.out; omega
        case rel => exact ⟨(wrap64 (x4_3 + 1)), zr, H', ⟨by have := HJ1.out; have := HK2.out; have := HK3.out; omega⟩, ⟨by (with_reducible repeat (first | refine blk_drewN ?_ _ | refine blk_drew ?_ | refine blk_alloc ?_ _ | refine blk_far ?_ NB101_110.out _)); exact BK101.out⟩, ⟨bs2 HB.out GE101.out GE110.out⟩⟩
     rw [if_neg c39] at H; have c39b0 : decide (x3_2 < 5) = false := decide_eq_false c39; clear c39; have H' := Aside0.mk H; clear H
     go_wp2
     go_loopg [7] k2 (fun kq v7 w' => ∃ (x7_3 : Int), v7 = .int .i64 x7_3 ∧ Aside0 (spec_MemOk.l2 kq x7_3 l0_0 l0_1 l0_2 l0_3 l0_4 a0_5 = some r) ∧ Aside0 (kq ≤ k2) ∧ Aside0 (w'.heap[gb101]? = some (.cells #[(.slice A0_0 l0_0.length c0_0), (.slice A0_1 l0_1.length c0_1), (.slice A0_2 l0_2.length c0_2), (.slice A0_3 l0_3.length c0_3), (.slice A0_4 l0_4.length c0_4), .int .i64 a0_5] 46 (0, 0))) ∧ Aside0 (Below w.heap.size w w'))
     case atStart => exact ⟨(0), zr, H', ⟨Nat.le_refl _⟩, ⟨kz (BK101.out)⟩, ⟨bs HB.out GE101.out⟩⟩
     case round =>
      clear H'
      (try clear c39); (try clear c39b0)
      obtain ⟨x7_3, rfl, HA, HK3, BK101, HB⟩ := hrel
      cases gk with
      | zero => exact absurd HA.out (by simp [spec_MemOk.l2])
      | succ k3 =>
       have H := HA.out; clear HA; simp only [spec_MemOk.l2] at H
       by_cases c84 : x7_3 < 12
       ·
        rw [if_pos c84] at H; have c84b0 : decide (x7_3 < 12) = true := decide_eq_true c84; clear c84; replace H := Option.bind_eq_some_iff.mp H; obtain ⟨t113, A850, H⟩ := H; have A85 := Aside0.mk A850; clear A850
        by_cases c86 : 0 ≤ x7_3
        rotate_left
        ·
         rw [if_neg c86] at H
         exact absurd H (by simp)
        rw [if_pos c86] at H; have c86b0 : decide (0 ≤ x7_3) = true := decide_eq_true c86; clear c86
        by_cases c87 : x7_3 < (l0_1.length : Int)
        rotate_left
        ·
         rw [if_neg c87] at H
         exact absurd H (by simp)
        rw [if_pos c87] at H; have c87b0 : decide (x7_3 < (l0_1.length : Int)) = true := decide_eq_true c87; clear c87
        by_cases c88 : t113 = (rd l0_1 x7_3)
        rotate_left
        ·
         rw [if_neg c88] at H; have c88b0 : (t113 == (rd l0_1 x7_3)) = false := beq_eq_false_iff_ne.mpr c88; have c88b1 : (t113 != (rd l0_1 x7_3)) = true := bne_iff_ne.mpr c88; obtain rfl := Option.some.inj H
         try go_wp2
         replace BK101 := Aside0.mk (blk_drew BK101.out); replace HB := Aside0.mk (below_drew1 HB.out); have p114 : 0 ≤ (x7_3 : Int) := of_decide_eq_true zs; have q114 : x7_3 < (l0_1.length : Int) := of_decide_eq_true zs; obtain ⟨ad114, e114, hx114_0⟩ := Kd.at_int HR0_1.out x7_3 p114 q114; have hw114_0 := hx114_0; cases e114; replace hx114_0 := pw_cell_below HB.out hx114_0; replace p114 := eq_true p114; replace q114 := eq_true q114; refine start_ (n := 16) (S := fun w' => w'.cell? ⟨gb101, 0, none⟩ = some (.slice A0_0 l0_0.length c0_0) ∧ w'.cell? ⟨gb101, 1, none⟩ = some (.slice (some ad114) l0_1.length c0_1) ∧ w'.cell? ⟨gb101, 2, none⟩ = some (.slice A0_2 l0_2.length c0_2) ∧ w'.cell? ⟨gb101, 3, none⟩ = some (.slice A0_3 l0_3.length c0_3) ∧ w'.cell? ⟨gb101, 4, none⟩ = some (.slice A0_4 l0_4.length c0_4) ∧ w'.cell? ⟨gb101, 5, none⟩ = some (.int .i64 a0_5) ∧ w'.cell? (ad114.add (x7_3).toNat) = some (.int .i64 (rd l0_1 x7_3))) (ds := []) (lb 16 0) zk rfl rfl ⟨(blk_cell BK101.out 0).trans rfl, (blk_cell BK101.out 1).trans rfl, (blk_cell BK101.out 2).trans rfl, (blk_cell BK101.out 3).trans rfl, (blk_cell BK101.out 4).trans rfl, (blk_cell BK101.out 5).trans rfl, (pw_cell_below HB.out hw114_0)⟩ (fun hHeld => ?_); refine with_tabW spec_MemOk.tab20 spec_MemOk.bits20 (fun HT_ HW_ => ?_)
         generalize wr.drew = w97 at BK101 HB hx114_0 hHeld ⊢
         refine pz 1 (some 95) (lb 16 2) rfl rfl HT_.out ?_; refine pz 3 (some 97) (lb 16 10) rfl rfl HT_.out ?_; refine pz 4 (some 98) (lb 16 26) rfl rfl HT_.out ?_; refine pz 6 (some 100) (lb 16 90) rfl rfl HT_.out ?_; refine tz 0 (some 94) (lb 16 91) rfl rfl HT_.out HW_.out hHeld ?_; refine tz 5 (some 99) (lb 16 123) rfl rfl HT_.out HW_.out hHeld ?_; refine pz 7 (some 101) (lb 16 251) rfl rfl HT_.out ?_; refine tz 8 (some 102) (lb 16 507) rfl rfl HT_.out HW_.out hHeld ?_; refine one_ (i := 2) (N := some 96) (lb 16 511) rfl rfl (one_of HT_.out zk) (by decide) (fun K hK => ?_); refine goes_ Try.func49 zk rfl #[.agg #[.slice A0_0 l0_0.length c0_0, .slice (some ad114) l0_1.length c0_1, .slice A0_2 l0_2.length c0_2, .slice A0_3 l0_3.length c0_3, .slice A0_4 l0_4.length c0_4, .int .i64 a0_5], .int .i64 1, .int .i64 x7_3] (by rfl) rfl rfl zm ?_; (with_reducible refine (spec_l3Told.calls k3 _ _ l0_0 _ _ l0_1 _ _ l0_2 _ _ l0_3 _ _ l0_4 a0_5 1 x7_3 t113 _ ?side1 ?side2 ?side3 ?side4 ?side5 ?side6 ?side7 ?side8 ?side9 ?side10 A85.out).mono ?_); (case side1 => exact cz (Kd.C_below HR0_0.out HB.out)); (case side2 => exact HC0_0.out); (case side3 => exact cz (Kd.C_below HR0_1.out HB.out)); (case side4 => exact HC0_1.out); (case side5 => exact cz (Kd.C_below HR0_2.out HB.out)); (case side6 => exact HC0_2.out); (case side7 => exact cz (Kd.C_below HR0_3.out HB.out)); (case side8 => exact HC0_3.out); (case side9 => exact cz (Kd.C_below HR0_4.out HB.out)); (case side10 => exact HC0_4.out); rintro e w98 ⟨rfl, hb⟩; refine ⟨_, rfl, ?_⟩; replace BK101 := Aside0.mk (blk_below (kz BK101.out) hb); replace HB := Aside0.mk (below_step (bs HB.out GE101.out) hb); (try clear hb); refine hK.out _ _ ⟨(blk_cell BK101.out 0).trans rfl, (blk_cell BK101.out 1).trans rfl, (blk_cell BK101.out 2).trans rfl, (blk_cell BK101.out 3).trans rfl, (blk_cell BK101.out 4).trans rfl, (blk_cell BK101.out 5).trans rfl, (pw_cell_below HB.out hw114_0)⟩ (fun hHeld => ?_); clear hK K; refine nm_ ?_; refine pz 9 (some 103) (lb 16 1023) rfl rfl HT_.out ?_; refine pz 10 (some 104) (lb 16 2047) rfl rfl HT_.out ?_; refine nz 11 (some 105) (lb 16 4095) rfl rfl HT_.out ?_; refine nz 12 (some 106) (lb 16 8191) rfl rfl HT_.out ?_; refine nz 13 (some 107) (lb 16 16383) rfl rfl HT_.out ?_; refine nz 14 (some 108) (lb 16 32767) rfl rfl HT_.out ?_; refine pz 15 (some 109) (lb 16 65535) rfl rfl HT_.out ?_; refine done_ (done_of HT_.out zk) ?_
         try go_wp2
         go_ret
         exact ⟨ze, bs HB.out GE101.out⟩
        rw [if_pos c88] at H; have c88b0 : (t113 == (rd l0_1 x7_3)) = true := beq_iff_eq.mpr c88; have c88b1 : (t113 != (rd l0_1 x7_3)) = false := bne_eq_false_iff_eq.mpr c88; clear c88; replace H := Option.bind_eq_some_iff.mp H; obtain ⟨t115, A890, H⟩ := H; have A89 := Aside0.mk A890; clear A890
        by_cases c90 : t115 = true
        rotate_left
        ·
         replace c90 := Bool.eq_false_iff.mpr c90; subst c90; rw [if_neg nf_] at H; obtain rfl := Option.some.inj H
         try go_wp2
         replace BK101 := Aside0.mk (blk_drew BK101.out); replace HB := Aside0.mk (below_drew1 HB.out); have p114 : 0 ≤ (x7_3 : Int) := of_decide_eq_true zs; have q114 : x7_3 < (l0_1.length : Int) := of_decide_eq_true zs; obtain ⟨ad114, e114, hx114_0⟩ := Kd.at_int HR0_1.out x7_3 p114 q114; have hw114_0 := hx114_0; cases e114; replace hx114_0 := pw_cell_below HB.out hx114_0; replace p114 := eq_true p114; replace q114 := eq_true q114; refine start_ (n := 16) (S := fun w' => w'.cell? ⟨gb101, 0, none⟩ = some (.slice A0_0 l0_0.length c0_0) ∧ w'.cell? ⟨gb101, 1, none⟩ = some (.slice (some ad114) l0_1.length c0_1) ∧ w'.cell? ⟨gb101, 2, none⟩ = some (.slice A0_2 l0_2.length c0_2) ∧ w'.cell? ⟨gb101, 3, none⟩ = some (.slice A0_3 l0_3.length c0_3) ∧ w'.cell? ⟨gb101, 4, none⟩ = some (.slice A0_4 l0_4.length c0_4) ∧ w'.cell? ⟨gb101, 5, none⟩ = some (.int .i64 a0_5) ∧ w'.cell? (ad114.add (x7_3).toNat) = some (.int .i64 (rd l0_1 x7_3))) (ds := []) (lb 16 0) zk rfl rfl ⟨(blk_cell BK101.out 0).trans rfl, (blk_cell BK101.out 1).trans rfl, (blk_cell BK101.out 2).trans rfl, (blk_cell BK101.out 3).trans rfl, (blk_cell BK101.out 4).trans rfl, (blk_cell BK101.out 5).trans rfl, (pw_cell_below HB.out hw114_0)⟩ (fun hHeld => ?_); refine with_tabW spec_MemOk.tab20 spec_MemOk.bits20 (fun HT_ HW_ => ?_)
         generalize wr.drew = w94 at BK101 HB hx114_0 hHeld ⊢
         refine pz 1 (some 95) (lb 16 2) rfl rfl HT_.out ?_; refine pz 3 (some 97) (lb 16 10) rfl rfl HT_.out ?_; refine pz 4 (some 98) (lb 16 26) rfl rfl HT_.out ?_; refine pz 6 (some 100) (lb 16 90) rfl rfl HT_.out ?_; refine tz 0 (some 94) (lb 16 91) rfl rfl HT_.out HW_.out hHeld ?_; refine tz 5 (some 99) (lb 16 123) rfl rfl HT_.out HW_.out hHeld ?_; refine pz 7 (some 101) (lb 16 251) rfl rfl HT_.out ?_; refine tz 8 (some 102) (lb 16 507) rfl rfl HT_.out HW_.out hHeld ?_; refine one_ (i := 2) (N := some 96) (lb 16 511) rfl rfl (one_of HT_.out zk) (by decide) (fun K hK => ?_); refine goes_ Try.func49 zk rfl #[.agg #[.slice A0_0 l0_0.length c0_0, .slice (some ad114) l0_1.length c0_1, .slice A0_2 l0_2.length c0_2, .slice A0_3 l0_3.length c0_3, .slice A0_4 l0_4.length c0_4, .int .i64 a0_5], .int .i64 1, .int .i64 x7_3] (by rfl) rfl rfl zm ?_; (with_reducible refine (spec_l3Told.calls k3 _ _ l0_0 _ _ l0_1 _ _ l0_2 _ _ l0_3 _ _ l0_4 a0_5 1 x7_3 t113 _ ?side1 ?side2 ?side3 ?side4 ?side5 ?side6 ?side7 ?side8 ?side9 ?side10 A85.out).mono ?_); (case side1 => exact cz (Kd.C_below HR0_0.out HB.out)); (case side2 => exact HC0_0.out); (case side3 => exact cz (Kd.C_below HR0_1.out HB.out)); (case side4 => exact HC0_1.out); (case side5 => exact cz (Kd.C_below HR0_2.out HB.out)); (case side6 => exact HC0_2.out); (case side7 => exact cz (Kd.C_below HR0_3.out HB.out)); (case side8 => exact HC0_3.out); (case side9 => exact cz (Kd.C_below HR0_4.out HB.out)); (case side10 => exact HC0_4.out); rintro e w95 ⟨rfl, hb⟩; refine ⟨_, rfl, ?_⟩; replace BK101 := Aside0.mk (blk_below (kz BK101.out) hb); replace HB := Aside0.mk (below_step (bs HB.out GE101.out) hb); (try clear hb); refine hK.out _ _ ⟨(blk_cell BK101.out 0).trans rfl, (blk_cell BK101.out 1).trans rfl, (blk_cell BK101.out 2).trans rfl, (blk_cell BK101.out 3).trans rfl, (blk_cell BK101.out 4).trans rfl, (blk_cell BK101.out 5).trans rfl, (pw_cell_below HB.out hw114_0)⟩ (fun hHeld => ?_); clear hK K; refine nm_ ?_; refine pz 9 (some 103) (lb 16 1023) rfl rfl HT_.out ?_; refine pz 10 (some 104) (lb 16 2047) rfl rfl HT_.out ?_; refine pz 12 (some 106) (lb 16 6143) rfl rfl HT_.out ?_; refine tz 11 (some 105) (lb 16 8191) rfl rfl HT_.out HW_.out hHeld ?_; refine one_ (i := 13) (N := some 107) (lb 16 16383) rfl rfl (one_of HT_.out zk) (by decide) (fun K hK => ?_); refine goes_ Try.func50 zk rfl #[.agg #[.slice A0_0 l0_0.length c0_0, .slice (some ad114) l0_1.length c0_1, .slice A0_2 l0_2.length c0_2, .slice A0_3 l0_3.length c0_3, .slice A0_4 l0_4.length c0_4, .int .i64 a0_5], .int .i64 1, .int .i64 x7_3] (by rfl) rfl rfl zm ?_; (with_reducible refine (spec_l3Alone.calls k3 _ _ l0_0 _ _ l0_1 _ _ l0_2 _ _ l0_3 _ _ l0_4 a0_5 1 x7_3 false _ ?side1 ?side2 ?side3 ?side4 ?side5 ?side6 ?side7 ?side8 ?side9 ?side10 A89.out).mono ?_); (case side1 => exact cz (Kd.C_below HR0_0.out HB.out)); (case side2 => exact HC0_0.out); (case side3 => exact cz (Kd.C_below HR0_1.out HB.out)); (case side4 => exact HC0_1.out); (case side5 => exact cz (Kd.C_below HR0_2.out HB.out)); (case side6 => exact HC0_2.out); (case side7 => exact cz (Kd.C_below HR0_3.out HB.out)); (case side8 => exact HC0_3.out); (case side9 => exact cz (Kd.C_below HR0_4.out HB.out)); (case side10 => exact HC0_4.out); rintro e w96 ⟨rfl, hb⟩; refine ⟨_, rfl, ?_⟩; replace BK101 := Aside0.mk (blk_below (kz BK101.out) hb); replace HB := Aside0.mk (below_step (bs HB.out GE101.out) hb); (try clear hb); refine hK.out _ _ ⟨(blk_cell BK101.out 0).trans rfl, (blk_cell BK101.out 1).trans rfl, (blk_cell BK101.out 2).trans rfl, (blk_cell BK101.out 3).trans rfl, (blk_cell BK101.out 4).trans rfl, (blk_cell BK101.out 5).trans rfl, (pw_cell_below HB.out hw114_0)⟩ (fun hHeld => ?_); clear hK K; refine nm_ ?_; refine pz 14 (some 108) (lb 16 32767) rfl rfl HT_.out ?_; refine pz 15 (some 109) (lb 16 65535) rfl rfl HT_.out ?_; refine done_ (done_of HT_.out zk) ?_
         try go_wp2
         go_ret
         exact ⟨ze, bs HB.out GE101.out⟩
        subst c90; rw [if_pos rfl] at H; have H' := Aside0.mk H; clear H
        try go_wp2
        replace BK101 := Aside0.mk (blk_drew BK101.out); replace HB := Aside0.mk (below_drew1 HB.out); have p114 : 0 ≤ (x7_3 : Int) := of_decide_eq_true zs; have q114 : x7_3 < (l0_1.length : Int) := of_decide_eq_true zs; obtain ⟨ad114, e114, hx114_0⟩ := Kd.at_int HR0_1.out x7_3 p114 q114; have hw114_0 := hx114_0; cases e114; replace hx114_0 := pw_cell_below HB.out hx114_0; replace p114 := eq_true p114; replace q114 := eq_true q114; refine start_ (n := 16) (S := fun w' => w'.cell? ⟨gb101, 0, none⟩ = some (.slice A0_0 l0_0.length c0_0) ∧ w'.cell? ⟨gb101, 1, none⟩ = some (.slice (some ad114) l0_1.length c0_1) ∧ w'.cell? ⟨gb101, 2, none⟩ = some (.slice A0_2 l0_2.length c0_2) ∧ w'.cell? ⟨gb101, 3, none⟩ = some (.slice A0_3 l0_3.length c0_3) ∧ w'.cell? ⟨gb101, 4, none⟩ = some (.slice A0_4 l0_4.length c0_4) ∧ w'.cell? ⟨gb101, 5, none⟩ = some (.int .i64 a0_5) ∧ w'.cell? (ad114.add (x7_3).toNat) = some (.int .i64 (rd l0_1 x7_3))) (ds := []) (lb 16 0) zk rfl rfl ⟨(blk_cell BK101.out 0).trans rfl, (blk_cell BK101.out 1).trans rfl, (blk_cell BK101.out 2).trans rfl, (blk_cell BK101.out 3).trans rfl, (blk_cell BK101.out 4).trans rfl, (blk_cell BK101.out 5).trans rfl, (pw_cell_below HB.out hw114_0)⟩ (fun hHeld => ?_); refine with_tabW spec_MemOk.tab20 spec_MemOk.bits20 (fun HT_ HW_ => ?_)
        generalize wr.drew = w91 at BK101 HB hx114_0 hHeld ⊢
        refine pz 1 (some 95) (lb 16 2) rfl rfl HT_.out ?_; refine pz 3 (some 97) (lb 16 10) rfl rfl HT_.out ?_; refine pz 4 (some 98) (lb 16 26) rfl rfl HT_.out ?_; refine pz 6 (some 100) (lb 16 90) rfl rfl HT_.out ?_; refine tz 0 (some 94) (lb 16 91) rfl rfl HT_.out HW_.out hHeld ?_; refine tz 5 (some 99) (lb 16 123) rfl rfl HT_.out HW_.out hHeld ?_; refine pz 7 (some 101) (lb 16 251) rfl rfl HT_.out ?_; refine tz 8 (some 102) (lb 16 507) rfl rfl HT_.out HW_.out hHeld ?_; refine one_ (i := 2) (N := some 96) (lb 16 511) rfl rfl (one_of HT_.out zk) (by decide) (fun K hK => ?_); refine goes_ Try.func49 zk rfl #[.agg #[.slice A0_0 l0_0.length c0_0, .slice (some ad114) l0_1.length c0_1, .slice A0_2 l0_2.length c0_2, .slice A0_3 l0_3.length c0_3, .slice A0_4 l0_4.length c0_4, .int .i64 a0_5], .int .i64 1, .int .i64 x7_3] (by rfl) rfl rfl zm ?_; (with_reducible refine (spec_l3Told.calls k3 _ _ l0_0 _ _ l0_1 _ _ l0_2 _ _ l0_3 _ _ l0_4 a0_5 1 x7_3 t113 _ ?side1 ?side2 ?side3 ?side4 ?side5 ?side6 ?side7 ?side8 ?side9 ?side10 A85.out).mono ?_); (case side1 => exact cz (Kd.C_below HR0_0.out HB.out)); (case side2 => exact HC0_0.out); (case side3 => exact cz (Kd.C_below HR0_1.out HB.out)); (case side4 => exact HC0_1.out); (case side5 => exact cz (Kd.C_below HR0_2.out HB.out)); (case side6 => exact HC0_2.out); (case side7 => exact cz (Kd.C_below HR0_3.out HB.out)); (case side8 => exact HC0_3.out); (case side9 => exact cz (Kd.C_below HR0_4.out HB.out)); (case side10 => exact HC0_4.out); rintro e w92 ⟨rfl, hb⟩; refine ⟨_, rfl, ?_⟩; replace BK101 := Aside0.mk (blk_below (kz BK101.out) hb); replace HB := Aside0.mk (below_step (bs HB.out GE101.out) hb); (try clear hb); refine hK.out _ _ ⟨(blk_cell BK101.out 0).trans rfl, (blk_cell BK101.out 1).trans rfl, (blk_cell BK101.out 2).trans rfl, (blk_cell BK101.out 3).trans rfl, (blk_cell BK101.out 4).trans rfl, (blk_cell BK101.out 5).trans rfl, (pw_cell_below HB.out hw114_0)⟩ (fun hHeld => ?_); clear hK K; refine nm_ ?_; refine pz 9 (some 103) (lb 16 1023) rfl rfl HT_.out ?_; refine pz 10 (some 104) (lb 16 2047) rfl rfl HT_.out ?_; refine pz 12 (some 106) (lb 16 6143) rfl rfl HT_.out ?_; refine tz 11 (some 105) (lb 16 8191) rfl rfl HT_.out HW_.out hHeld ?_; refine one_ (i := 13) (N := some 107) (lb 16 16383) rfl rfl (one_of HT_.out zk) (by decide) (fun K hK => ?_); refine goes_ Try.func50 zk rfl #[.agg #[.slice A0_0 l0_0.length c0_0, .slice (some ad114) l0_1.length c0_1, .slice A0_2 l0_2.length c0_2, .slice A0_3 l0_3.length c0_3, .slice A0_4 l0_4.length c0_4, .int .i64 a0_5], .int .i64 1, .int .i64 x7_3] (by rfl) rfl rfl zm ?_; (with_reducible refine (spec_l3Alone.calls k3 _ _ l0_0 _ _ l0_1 _ _ l0_2 _ _ l0_3 _ _ l0_4 a0_5 1 x7_3 true _ ?side1 ?side2 ?side3 ?side4 ?side5 ?side6 ?side7 ?side8 ?side9 ?side10 A89.out).mono ?_); (case side1 => exact cz (Kd.C_below HR0_0.out HB.out)); (case side2 => exact HC0_0.out); (case side3 => exact cz (Kd.C_below HR0_1.out HB.out)); (case side4 => exact HC0_1.out); (case side5 => exact cz (Kd.C_below HR0_2.out HB.out)); (case side6 => exact HC0_2.out); (case side7 => exact cz (Kd.C_below HR0_3.out HB.out)); (case side8 => exact HC0_3.out); (case side9 => exact cz (Kd.C_below HR0_4.out HB.out)); (case side10 => exact HC0_4.out); rintro e w93 ⟨rfl, hb⟩; refine ⟨_, rfl, ?_⟩; replace BK101 := Aside0.mk (blk_below (kz BK101.out) hb); replace HB := Aside0.mk (below_step (bs HB.out GE101.out) hb); (try clear hb); refine hK.out _ _ ⟨(blk_cell BK101.out 0).trans rfl, (blk_cell BK101.out 1).trans rfl, (blk_cell BK101.out 2).trans rfl, (blk_cell BK101.out 3).trans rfl, (blk_cell BK101.out 4).trans rfl, (blk_cell BK101.out 5).trans rfl, (pw_cell_below HB.out hw114_0)⟩ (fun hHeld => ?_); clear hK K; refine nm_ ?_; refine pz 14 (some 108) (lb 16 32767) rfl rfl HT_.out ?_; refine pz 15 (some 109) (lb 16 65535) rfl rfl HT_.out ?_; refine done_ (done_of HT_.out zk) ?_
        try go_wp2
        go_roundg k3
        case measure => have := HJ1.out; have := HK2.out; have := HK3.out; omega
        case rel => exact ⟨(wrap64 (x7_3 + 1)), zr, H', ⟨by have := HJ1.out; have := HK2.out; have := HK3.out; omega⟩, ⟨kz (BK101.out)⟩, ⟨bs HB.out GE101.out⟩⟩
       rw [if_neg c84] at H; have c84b0 : decide (x7_3 < 12) = false := decide_eq_false c84; clear c84; have H' := Aside0.mk H; clear H
       go_wp2
       go_loopg [8] k3 (fun kq v8 w' => ∃ (x8_4 : Int), v8 = .int .i64 x8_4 ∧ Aside0 (spec_MemOk.l3 kq x8_4 l0_0 l0_1 l0_2 l0_3 l0_4 a0_5 = some r) ∧ Aside0 (kq ≤ k3) ∧ Aside0 (w'.heap[gb101]? = some (.cells #[(.slice A0_0 l0_0.length c0_0), (.slice A0_1 l0_1.length c0_1), (.slice A0_2 l0_2.length c0_2), (.slice A0_3 l0_3.length c0_3), (.slice A0_4 l0_4.length c0_4), .int .i64 a0_5] 46 (0, 0))) ∧ Aside0 (Below w.heap.size w w'))
       case atStart => exact ⟨(0), zr, H', ⟨Nat.le_refl _⟩, ⟨kz (BK101.out)⟩, ⟨bs HB.out GE101.out⟩⟩
       case round =>
        clear H'
        (try clear c84); (try clear c84b0)
        obtain ⟨x8_4, rfl, HA, HK4, BK101, HB⟩ := hrel
        cases gk with
        | zero => exact absurd HA.out (by simp [spec_MemOk.l3])
        | succ k4 =>
         have H := HA.out; clear HA; simp only [spec_MemOk.l3] at H
         by_cases c99 : x8_4 < 12
         rotate_left
         ·
          rw [if_neg c99] at H; have c99b0 : decide (x8_4 < 12) = false := decide_eq_false c99; clear c99; obtain rfl := Option.some.inj H
          go_wp2
          go_ret
          exact ⟨ze, bs HB.out GE101.out⟩
         rw [if_pos c99] at H; have c99b0 : decide (x8_4 < 12) = true := decide_eq_true c99; clear c99; replace H := Option.bind_eq_some_iff.mp H; obtain ⟨t116, A1000, H⟩ := H; have A100 := Aside0.mk A1000; clear A1000
         by_cases c101 : 0 ≤ x8_4
         rotate_left
         ·
          rw [if_neg c101] at H
          exact absurd H (by simp)
         rw [if_pos c101] at H; have c101b0 : decide (0 ≤ x8_4) = true := decide_eq_true c101; clear c101
         by_cases c102 : x8_4 < (l0_3.length : Int)
         rotate_left
         ·
          rw [if_neg c102] at H
          exact absurd H (by simp)
         rw [if_pos c102] at H; have c102b0 : decide (x8_4 < (l0_3.length : Int)) = true := decide_eq_true c102; clear c102
         by_cases c103 : t116 = (rd l0_3 x8_4)
         rotate_left
         ·
          rw [if_neg c103] at H; have c103b0 : (t116 == (rd l0_3 x8_4)) = false := beq_eq_false_iff_ne.mpr c103; have c103b1 : (t116 != (rd l0_3 x8_4)) = true := bne_iff_ne.mpr c103; obtain rfl := Option.some.inj H
          try go_wp2
          replace BK101 := Aside0.mk (blk_drew BK101.out); replace HB := Aside0.mk (below_drew1 HB.out); have p117 : 0 ≤ (x8_4 : Int) := of_decide_eq_true zs; have q117 : x8_4 < (l0_3.length : Int) := of_decide_eq_true zs; obtain ⟨ad117, e117, hx117_0⟩ := Kd.at_int HR0_3.out x8_4 p117 q117; have hw117_0 := hx117_0; cases e117; replace hx117_0 := pw_cell_below HB.out hx117_0; replace p117 := eq_true p117; replace q117 := eq_true q117; refine start_ (n := 16) (S := fun w' => w'.cell? ⟨gb101, 0, none⟩ = some (.slice A0_0 l0_0.length c0_0) ∧ w'.cell? ⟨gb101, 1, none⟩ = some (.slice A0_1 l0_1.length c0_1) ∧ w'.cell? ⟨gb101, 2, none⟩ = some (.slice A0_2 l0_2.length c0_2) ∧ w'.cell? ⟨gb101, 3, none⟩ = some (.slice (some ad117) l0_3.length c0_3) ∧ w'.cell? ⟨gb101, 4, none⟩ = some (.slice A0_4 l0_4.length c0_4) ∧ w'.cell? ⟨gb101, 5, none⟩ = some (.int .i64 a0_5) ∧ w'.cell? (ad117.add (x8_4).toNat) = some (.int .i64 (rd l0_3 x8_4))) (ds := []) (lb 16 0) zk rfl rfl ⟨(blk_cell BK101.out 0).trans rfl, (blk_cell BK101.out 1).trans rfl, (blk_cell BK101.out 2).trans rfl, (blk_cell BK101.out 3).trans rfl, (blk_cell BK101.out 4).trans rfl, (blk_cell BK101.out 5).trans rfl, (pw_cell_below HB.out hw117_0)⟩ (fun hHeld => ?_); refine with_tabW spec_MemOk.tab25 spec_MemOk.bits25 (fun HT_ HW_ => ?_)
          generalize wr.drew = w112 at BK101 HB hx117_0 hHeld ⊢
          refine pz 1 (some 115) (lb 16 2) rfl rfl HT_.out ?_; refine pz 3 (some 117) (lb 16 10) rfl rfl HT_.out ?_; refine pz 4 (some 118) (lb 16 26) rfl rfl HT_.out ?_; refine pz 6 (some 120) (lb 16 90) rfl rfl HT_.out ?_; refine tz 0 (some 114) (lb 16 91) rfl rfl HT_.out HW_.out hHeld ?_; refine tz 5 (some 119) (lb 16 123) rfl rfl HT_.out HW_.out hHeld ?_; refine pz 7 (some 121) (lb 16 251) rfl rfl HT_.out ?_; refine tz 8 (some 122) (lb 16 507) rfl rfl HT_.out HW_.out hHeld ?_; refine one_ (i := 2) (N := some 116) (lb 16 511) rfl rfl (one_of HT_.out zk) (by decide) (fun K hK => ?_); refine goes_ Try.func49 zk rfl #[.agg #[.slice A0_0 l0_0.length c0_0, .slice A0_1 l0_1.length c0_1, .slice A0_2 l0_2.length c0_2, .slice (some ad117) l0_3.length c0_3, .slice A0_4 l0_4.length c0_4, .int .i64 a0_5], .int .i64 2, .int .i64 x8_4] (by rfl) rfl rfl zm ?_; (with_reducible refine (spec_l3Told.calls k4 _ _ l0_0 _ _ l0_1 _ _ l0_2 _ _ l0_3 _ _ l0_4 a0_5 2 x8_4 t116 _ ?side1 ?side2 ?side3 ?side4 ?side5 ?side6 ?side7 ?side8 ?side9 ?side10 A100.out).mono ?_); (case side1 => exact cz (Kd.C_below HR0_0.out HB.out)); (case side2 => exact HC0_0.out); (case side3 => exact cz (Kd.C_below HR0_1.out HB.out)); (case side4 => exact HC0_1.out); (case side5 => exact cz (Kd.C_below HR0_2.out HB.out)); (case side6 => exact HC0_2.out); (case side7 => exact cz (Kd.C_below HR0_3.out HB.out)); (case side8 => exact HC0_3.out); (case side9 => exact cz (Kd.C_below HR0_4.out HB.out)); (case side10 => exact HC0_4.out); rintro e w113 ⟨rfl, hb⟩; refine ⟨_, rfl, ?_⟩; replace BK101 := Aside0.mk (blk_below (kz BK101.out) hb); replace HB := Aside0.mk (below_step (bs HB.out GE101.out) hb); (try clear hb); refine hK.out _ _ ⟨(blk_cell BK101.out 0).trans rfl, (blk_cell BK101.out 1).trans rfl, (blk_cell BK101.out 2).trans rfl, (blk_cell BK101.out 3).trans rfl, (blk_cell BK101.out 4).trans rfl, (blk_cell BK101.out 5).trans rfl, (pw_cell_below HB.out hw117_0)⟩ (fun hHeld => ?_); clear hK K; refine nm_ ?_; refine pz 9 (some 123) (lb 16 1023) rfl rfl HT_.out ?_; refine pz 10 (some 124) (lb 16 2047) rfl rfl HT_.out ?_; refine nz 11 (some 125) (lb 16 4095) rfl rfl HT_.out ?_; refine nz 12 (some 126) (lb 16 8191) rfl rfl HT_.out ?_; refine nz 13 (some 127) (lb 16 16383) rfl rfl HT_.out ?_; refine nz 14 (some 128) (lb 16 32767) rfl rfl HT_.out ?_; refine pz 15 (some 129) (lb 16 65535) rfl rfl HT_.out ?_; refine done_ (done_of HT_.out zk) ?_
          try go_wp2
          go_ret
          exact ⟨ze, bs HB.out GE101.out⟩
         rw [if_pos c103] at H; have c103b0 : (t116 == (rd l0_3 x8_4)) = true := beq_iff_eq.mpr c103; have c103b1 : (t116 != (rd l0_3 x8_4)) = false := bne_eq_false_iff_eq.mpr c103; clear c103; replace H := Option.bind_eq_some_iff.mp H; obtain ⟨t118, A1040, H⟩ := H; have A104 := Aside0.mk A1040; clear A1040
         by_cases c105 : t118 = true
         rotate_left
         ·
          replace c105 := Bool.eq_false_iff.mpr c105; subst c105; rw [if_neg nf_] at H; obtain rfl := Option.some.inj H
          try go_wp2
          replace BK101 := Aside0.mk (blk_drew BK101.out); replace HB := Aside0.mk (below_drew1 HB.out); have p117 : 0 ≤ (x8_4 : Int) := of_decide_eq_true zs; have q117 : x8_4 < (l0_3.length : Int) := of_decide_eq_true zs; obtain ⟨ad117, e117, hx117_0⟩ := Kd.at_int HR0_3.out x8_4 p117 q117; have hw117_0 := hx117_0; cases e117; replace hx117_0 := pw_cell_below HB.out hx117_0; replace p117 := eq_true p117; replace q117 := eq_true q117; refine start_ (n := 16) (S := fun w' => w'.cell? ⟨gb101, 0, none⟩ = some (.slice A0_0 l0_0.length c0_0) ∧ w'.cell? ⟨gb101, 1, none⟩ = some (.slice A0_1 l0_1.length c0_1) ∧ w'.cell? ⟨gb101, 2, none⟩ = some (.slice A0_2 l0_2.length c0_2) ∧ w'.cell? ⟨gb101, 3, none⟩ = some (.slice (some ad117) l0_3.length c0_3) ∧ w'.cell? ⟨gb101, 4, none⟩ = some (.slice A0_4 l0_4.length c0_4) ∧ w'.cell? ⟨gb101, 5, none⟩ = some (.int .i64 a0_5) ∧ w'.cell? (ad117.add (x8_4).toNat) = some (.int .i64 (rd l0_3 x8_4))) (ds := []) (lb 16 0) zk rfl rfl ⟨(blk_cell BK101.out 0).trans rfl, (blk_cell BK101.out 1).trans rfl, (blk_cell BK101.out 2).trans rfl, (blk_cell BK101.out 3).trans rfl, (blk_cell BK101.out 4).trans rfl, (blk_cell BK101.out 5).trans rfl, (pw_cell_below HB.out hw117_0)⟩ (fun hHeld => ?_); refine with_tabW spec_MemOk.tab25 spec_MemOk.bits25 (fun HT_ HW_ => ?_)
          generalize wr.drew = w109 at BK101 HB hx117_0 hHeld ⊢
          refine pz 1 (some 115) (lb 16 2) rfl rfl HT_.out ?_; refine pz 3 (some 117) (lb 16 10) rfl rfl HT_.out ?_; refine pz 4 (some 118) (lb 16 26) rfl rfl HT_.out ?_; refine pz 6 (some 120) (lb 16 90) rfl rfl HT_.out ?_; refine tz 0 (some 114) (lb 16 91) rfl rfl HT_.out HW_.out hHeld ?_; refine tz 5 (some 119) (lb 16 123) rfl rfl HT_.out HW_.out hHeld ?_; refine pz 7 (some 121) (lb 16 251) rfl rfl HT_.out ?_; refine tz 8 (some 122) (lb 16 507) rfl rfl HT_.out HW_.out hHeld ?_; refine one_ (i := 2) (N := some 116) (lb 16 511) rfl rfl (one_of HT_.out zk) (by decide) (fun K hK => ?_); refine goes_ Try.func49 zk rfl #[.agg #[.slice A0_0 l0_0.length c0_0, .slice A0_1 l0_1.length c0_1, .slice A0_2 l0_2.length c0_2, .slice (some ad117) l0_3.length c0_3, .slice A0_4 l0_4.length c0_4, .int .i64 a0_5], .int .i64 2, .int .i64 x8_4] (by rfl) rfl rfl zm ?_; (with_reducible refine (spec_l3Told.calls k4 _ _ l0_0 _ _ l0_1 _ _ l0_2 _ _ l0_3 _ _ l0_4 a0_5 2 x8_4 t116 _ ?side1 ?side2 ?side3 ?side4 ?side5 ?side6 ?side7 ?side8 ?side9 ?side10 A100.out).mono ?_); (case side1 => exact cz (Kd.C_below HR0_0.out HB.out)); (case side2 => exact HC0_0.out); (case side3 => exact cz (Kd.C_below HR0_1.out HB.out)); (case side4 => exact HC0_1.out); (case side5 => exact cz (Kd.C_below HR0_2.out HB.out)); (case side6 => exact HC0_2.out); (case side7 => exact cz (Kd.C_below HR0_3.out HB.out)); (case side8 => exact HC0_3.out); (case side9 => exact cz (Kd.C_below HR0_4.out HB.out)); (case side10 => exact HC0_4.out); rintro e w110 ⟨rfl, hb⟩; refine ⟨_, rfl, ?_⟩; replace BK101 := Aside0.mk (blk_below (kz BK101.out) hb); replace HB := Aside0.mk (below_step (bs HB.out GE101.out) hb); (try clear hb); refine hK.out _ _ ⟨(blk_cell BK101.out 0).trans rfl, (blk_cell BK101.out 1).trans rfl, (blk_cell BK101.out 2).trans rfl, (blk_cell BK101.out 3).trans rfl, (blk_cell BK101.out 4).trans rfl, (blk_cell BK101.out 5).trans rfl, (pw_cell_below HB.out hw117_0)⟩ (fun hHeld => ?_); clear hK K; refine nm_ ?_; refine pz 9 (some 123) (lb 16 1023) rfl rfl HT_.out ?_; refine pz 10 (some 124) (lb 16 2047) rfl rfl HT_.out ?_; refine pz 12 (some 126) (lb 16 6143) rfl rfl HT_.out ?_; refine tz 11 (some 125) (lb 16 8191) rfl rfl HT_.out HW_.out hHeld ?_; refine one_ (i := 13) (N := some 127) (lb 16 16383) rfl rfl (one_of HT_.out zk) (by decide) (fun K hK => ?_); refine goes_ Try.func50 zk rfl #[.agg #[.slice A0_0 l0_0.length c0_0, .slice A0_1 l0_1.length c0_1, .slice A0_2 l0_2.length c0_2, .slice (some ad117) l0_3.length c0_3, .slice A0_4 l0_4.length c0_4, .int .i64 a0_5], .int .i64 2, .int .i64 x8_4] (by rfl) rfl rfl zm ?_; (with_reducible refine (spec_l3Alone.calls k4 _ _ l0_0 _ _ l0_1 _ _ l0_2 _ _ l0_3 _ _ l0_4 a0_5 2 x8_4 false _ ?side1 ?side2 ?side3 ?side4 ?side5 ?side6 ?side7 ?side8 ?side9 ?side10 A104.out).mono ?_); (case side1 => exact cz (Kd.C_below HR0_0.out HB.out)); (case side2 => exact HC0_0.out); (case side3 => exact cz (Kd.C_below HR0_1.out HB.out)); (case side4 => exact HC0_1.out); (case side5 => exact cz (Kd.C_below HR0_2.out HB.out)); (case side6 => exact HC0_2.out); (case side7 => exact cz (Kd.C_below HR0_3.out HB.out)); (case side8 => exact HC0_3.out); (case side9 => exact cz (Kd.C_below HR0_4.out HB.out)); (case side10 => exact HC0_4.out); rintro e w111 ⟨rfl, hb⟩; refine ⟨_, rfl, ?_⟩; replace BK101 := Aside0.mk (blk_below (kz BK101.out) hb); replace HB := Aside0.mk (below_step (bs HB.out GE101.out) hb); (try clear hb); refine hK.out _ _ ⟨(blk_cell BK101.out 0).trans rfl, (blk_cell BK101.out 1).trans rfl, (blk_cell BK101.out 2).trans rfl, (blk_cell BK101.out 3).trans rfl, (blk_cell BK101.out 4).trans rfl, (blk_cell BK101.out 5).trans rfl, (pw_cell_below HB.out hw117_0)⟩ (fun hHeld => ?_); clear hK K; refine nm_ ?_; refine pz 14 (some 128) (lb 16 32767) rfl rfl HT_.out ?_; refine pz 15 (some 129) (lb 16 65535) rfl rfl HT_.out ?_; refine done_ (done_of HT_.out zk) ?_
          try go_wp2
          go_ret
          exact ⟨ze, bs HB.out GE101.out⟩
         subst c105; rw [if_pos rfl] at H; have H' := Aside0.mk H; clear H
         try go_wp2
         replace BK101 := Aside0.mk (blk_drew BK101.out); replace HB := Aside0.mk (below_drew1 HB.out); have p117 : 0 ≤ (x8_4 : Int) := of_decide_eq_true zs; have q117 : x8_4 < (l0_3.length : Int) := of_decide_eq_true zs; obtain ⟨ad117, e117, hx117_0⟩ := Kd.at_int HR0_3.out x8_4 p117 q117; have hw117_0 := hx117_0; cases e117; replace hx117_0 := pw_cell_below HB.out hx117_0; replace p117 := eq_true p117; replace q117 := eq_true q117; refine start_ (n := 16) (S := fun w' => w'.cell? ⟨gb101, 0, none⟩ = some (.slice A0_0 l0_0.length c0_0) ∧ w'.cell? ⟨gb101, 1, none⟩ = some (.slice A0_1 l0_1.length c0_1) ∧ w'.cell? ⟨gb101, 2, none⟩ = some (.slice A0_2 l0_2.length c0_2) ∧ w'.cell? ⟨gb101, 3, none⟩ = some (.slice (some ad117) l0_3.length c0_3) ∧ w'.cell? ⟨gb101, 4, none⟩ = some (.slice A0_4 l0_4.length c0_4) ∧ w'.cell? ⟨gb101, 5, none⟩ = some (.int .i64 a0_5) ∧ w'.cell? (ad117.add (x8_4).toNat) = some (.int .i64 (rd l0_3 x8_4))) (ds := []) (lb 16 0) zk rfl rfl ⟨(blk_cell BK101.out 0).trans rfl, (blk_cell BK101.out 1).trans rfl, (blk_cell BK101.out 2).trans rfl, (blk_cell BK101.out 3).trans rfl, (blk_cell BK101.out 4).trans rfl, (blk_cell BK101.out 5).trans rfl, (pw_cell_below HB.out hw117_0)⟩ (fun hHeld => ?_); refine with_tabW spec_MemOk.tab25 spec_MemOk.bits25 (fun HT_ HW_ => ?_)
         generalize wr.drew = w106 at BK101 HB hx117_0 hHeld ⊢
         refine pz 1 (some 115) (lb 16 2) rfl rfl HT_.out ?_; refine pz 3 (some 117) (lb 16 10) rfl rfl HT_.out ?_; refine pz 4 (some 118) (lb 16 26) rfl rfl HT_.out ?_; refine pz 6 (some 120) (lb 16 90) rfl rfl HT_.out ?_; refine tz 0 (some 114) (lb 16 91) rfl rfl HT_.out HW_.out hHeld ?_; refine tz 5 (some 119) (lb 16 123) rfl rfl HT_.out HW_.out hHeld ?_; refine pz 7 (some 121) (lb 16 251) rfl rfl HT_.out ?_; refine tz 8 (some 122) (lb 16 507) rfl rfl HT_.out HW_.out hHeld ?_; refine one_ (i := 2) (N := some 116) (lb 16 511) rfl rfl (one_of HT_.out zk) (by decide) (fun K hK => ?_); refine goes_ Try.func49 zk rfl #[.agg #[.slice A0_0 l0_0.length c0_0, .slice A0_1 l0_1.length c0_1, .slice A0_2 l0_2.length c0_2, .slice (some ad117) l0_3.length c0_3, .slice A0_4 l0_4.length c0_4, .int .i64 a0_5], .int .i64 2, .int .i64 x8_4] (by rfl) rfl rfl zm ?_; (with_reducible refine (spec_l3Told.calls k4 _ _ l0_0 _ _ l0_1 _ _ l0_2 _ _ l0_3 _ _ l0_4 a0_5 2 x8_4 t116 _ ?side1 ?side2 ?side3 ?side4 ?side5 ?side6 ?side7 ?side8 ?side9 ?side10 A100.out).mono ?_); (case side1 => exact cz (Kd.C_below HR0_0.out HB.out)); (case side2 => exact HC0_0.out); (case side3 => exact cz (Kd.C_below HR0_1.out HB.out)); (case side4 => exact HC0_1.out); (case side5 => exact cz (Kd.C_below HR0_2.out HB.out)); (case side6 => exact HC0_2.out); (case side7 => exact cz (Kd.C_below HR0_3.out HB.out)); (case side8 => exact HC0_3.out); (case side9 => exact cz (Kd.C_below HR0_4.out HB.out)); (case side10 => exact HC0_4.out); rintro e w107 ⟨rfl, hb⟩; refine ⟨_, rfl, ?_⟩; replace BK101 := Aside0.mk (blk_below (kz BK101.out) hb); replace HB := Aside0.mk (below_step (bs HB.out GE101.out) hb); (try clear hb); refine hK.out _ _ ⟨(blk_cell BK101.out 0).trans rfl, (blk_cell BK101.out 1).trans rfl, (blk_cell BK101.out 2).trans rfl, (blk_cell BK101.out 3).trans rfl, (blk_cell BK101.out 4).trans rfl, (blk_cell BK101.out 5).trans rfl, (pw_cell_below HB.out hw117_0)⟩ (fun hHeld => ?_); clear hK K; refine nm_ ?_; refine pz 9 (some 123) (lb 16 1023) rfl rfl HT_.out ?_; refine pz 10 (some 124) (lb 16 2047) rfl rfl HT_.out ?_; refine pz 12 (some 126) (lb 16 6143) rfl rfl HT_.out ?_; refine tz 11 (some 125) (lb 16 8191) rfl rfl HT_.out HW_.out hHeld ?_; refine one_ (i := 13) (N := some 127) (lb 16 16383) rfl rfl (one_of HT_.out zk) (by decide) (fun K hK => ?_); refine goes_ Try.func50 zk rfl #[.agg #[.slice A0_0 l0_0.length c0_0, .slice A0_1 l0_1.length c0_1, .slice A0_2 l0_2.length c0_2, .slice (some ad117) l0_3.length c0_3, .slice A0_4 l0_4.length c0_4, .int .i64 a0_5], .int .i64 2, .int .i64 x8_4] (by rfl) rfl rfl zm ?_; (with_reducible refine (spec_l3Alone.calls k4 _ _ l0_0 _ _ l0_1 _ _ l0_2 _ _ l0_3 _ _ l0_4 a0_5 2 x8_4 true _ ?side1 ?side2 ?side3 ?side4 ?side5 ?side6 ?side7 ?side8 ?side9 ?side10 A104.out).mono ?_); (case side1 => exact cz (Kd.C_below HR0_0.out HB.out)); (case side2 => exact HC0_0.out); (case side3 => exact cz (Kd.C_below HR0_1.out HB.out)); (case side4 => exact HC0_1.out); (case side5 => exact cz (Kd.C_below HR0_2.out HB.out)); (case side6 => exact HC0_2.out); (case side7 => exact cz (Kd.C_below HR0_3.out HB.out)); (case side8 => exact HC0_3.out); (case side9 => exact cz (Kd.C_below HR0_4.out HB.out)); (case side10 => exact HC0_4.out); rintro e w108 ⟨rfl, hb⟩; refine ⟨_, rfl, ?_⟩; replace BK101 := Aside0.mk (blk_below (kz BK101.out) hb); replace HB := Aside0.mk (below_step (bs HB.out GE101.out) hb); (try clear hb); refine hK.out _ _ ⟨(blk_cell BK101.out 0).trans rfl, (blk_cell BK101.out 1).trans rfl, (blk_cell BK101.out 2).trans rfl, (blk_cell BK101.out 3).trans rfl, (blk_cell BK101.out 4).trans rfl, (blk_cell BK101.out 5).trans rfl, (pw_cell_below HB.out hw117_0)⟩ (fun hHeld => ?_); clear hK K; refine nm_ ?_; refine pz 14 (some 128) (lb 16 32767) rfl rfl HT_.out ?_; refine pz 15 (some 129) (lb 16 65535) rfl rfl HT_.out ?_; refine done_ (done_of HT_.out zk) ?_
         try go_wp2
         go_roundg k4
         case measure => have := HJ1.out; have := HK2.out; have := HK3.out; have := HK4.out; omega
         case rel => exact ⟨(wrap64 (x8_4 + 1)), zr, H', ⟨by have := HJ1.out; have := HK2.out; have := HK3.out; have := HK4.out; omega⟩, ⟨kz (BK101.out)⟩, ⟨bs HB.out GE101.out⟩⟩

end Go.Proofs.Ythoapmfpokohnaa.P

namespace Go.Proofs.Ythoapmfpokohnaa.P
open Go.RowKit Go.Proofs.YthoapmfpokohnaaW.PrintWords Go.Proofs.YthoapmfpokohnaaW.PrintLast Go.Proofs.YthoapmfpokohnaaW.PrintMore
attribute [local go_sem] max2_int min2_int max_two min_two max_three min_three max_four min_four Q.cell_set_map Q.str_gtr Q.str_geq Q.str_leq
set_option linter.unusedVariables false
set_option linter.unusedSimpArgs false

/-! ### spec_l3Who: function 60 -/
def spec_l3Who.f (l0_0 : List ByteArray) (l0_1 : List Int) (l0_2 : List ByteArray) (l0_3 : List Int) (l0_4 : List (S63)) (a0_5 : Int) (a1 : Int) : Option (Bool) := (spec_l6In.f a1 0 (wrap64 ((l0_4.length : Int) - 1))).bind fun t102 => (if t102 = true then (if 0 ≤ a1 then (if a1 < (l0_4.length : Int) then (some ((rd_T63 l0_4 a1).f0)) else (none)) else (none)) else (some false))
set_option maxHeartbeats 8000000 in
set_option maxRecDepth 100000 in
theorem spec_l3Who.calls (A0_0 : Option Addr) (c0_0 : Nat) (l0_0 : List ByteArray) (A0_1 : Option Addr) (c0_1 : Nat) (l0_1 : List Int) (A0_2 : Option Addr) (c0_2 : Nat) (l0_2 : List ByteArray) (A0_3 : Option Addr) (c0_3 : Nat) (l0_3 : List Int) (A0_4 : Option Addr) (c0_4 : Nat) (l0_4 : List (S63)) (a0_5 : Int) (a1 : Int) (r : Bool) (w : World) (hr0_0 : Kd.C Kd.string w A0_0 l0_0.length l0_0) (hc0_0 : l0_0.length ≤ c0_0) (hr0_1 : Kd.C (Kd.int .i64) w A0_1 l0_1.length l0_1) (hc0_1 : l0_1.length ≤ c0_1) (hr0_2 : Kd.C Kd.string w A0_2 l0_2.length l0_2) (hc0_2 : l0_2.length ≤ c0_2) (hr0_3 : Kd.C (Kd.int .i64) w A0_3 l0_3.length l0_3) (hc0_3 : l0_3.length ≤ c0_3) (hr0_4 : Kd.C k63 w A0_4 l0_4.length l0_4) (hc0_4 : l0_4.length ≤ c0_4) (h : spec_l3Who.f l0_0 l0_1 l0_2 l0_3 l0_4 a0_5 a1 = some r) :
  Calls Try.prog 60 #[.agg #[.slice A0_0 l0_0.length c0_0, .slice A0_1 l0_1.length c0_1, .slice A0_2 l0_2.length c0_2, .slice A0_3 l0_3.length c0_3, .slice A0_4 l0_4.length c0_4, .int .i64 a0_5], .int .i64 a1] w fun e w' => e = .returned (.bool r) ∧ Below w.heap.size w w' := by
 have hu46 := Try.underlying46
 have HR0_0 := Aside0.mk hr0_0
 have HC0_0 := Aside0.mk hc0_0
 clear hr0_0 hc0_0
 have HR0_1 := Aside0.mk hr0_1
 have HC0_1 := Aside0.mk hc0_1
 clear hr0_1 hc0_1
 have HR0_2 := Aside0.mk hr0_2
 have HC0_2 := Aside0.mk hc0_2
 clear hr0_2 hc0_2
 have HR0_3 := Aside0.mk hr0_3
 have HC0_3 := Aside0.mk hc0_3
 clear hr0_3 hc0_3
 have HR0_4 := Aside0.mk hr0_4
 have HC0_4 := Aside0.mk hc0_4
 clear hr0_4 hc0_4
 have HB := Aside0.mk (Below.refl w.heap.size w)
 have H : ((spec_l6In.f a1 0 (wrap64 ((l0_4.length : Int) - 1))).bind fun t102 => (if t102 = true then (if 0 ≤ a1 then (if a1 < (l0_4.length : Int) then (some ((rd_T63 l0_4 a1).f0)) else (none)) else (none)) else (some false))) = some r := h
 clear h
 replace H := Option.bind_eq_some_iff.mp H
 obtain ⟨t102, A30, H⟩ := H
 have A3 := Aside0.mk A30
 clear A30
 by_cases c4 : t102 = true
 ·
  subst c4
  rw [if_pos rfl] at H
  by_cases c5 : 0 ≤ a1
  ·
   rw [if_pos c5] at H
   have c5b0 : decide (0 ≤ a1) = true := decide_eq_true c5
   clear c5
   by_cases c6 : a1 < (l0_4.length : Int)
   ·
    rw [if_pos c6] at H
    have c6b0 : decide (a1 < (l0_4.length : Int)) = true := decide_eq_true c6
    clear c6
    obtain rfl := Option.some.inj H
    go_enter Try.func60, Try.ntmps60
    go_wp2_with (first | ((with_reducible refine gate_dst (N := 2) rfl ?_); refine box_event ?hg (N := 2) ?hd (cs := #[.slice A0_0 l0_0.length c0_0, .slice A0_1 l0_1.length c0_1, .slice A0_2 l0_2.length c0_2, .slice A0_3 l0_3.length c0_3, .slice A0_4 l0_4.length c0_4, .int .i64 a0_5]) (t := 46) ?hr ?_; (case hd => rfl); (case hg => rfl); (case hr => first | (go_simp; done) | (go_simp; rfl)); intro gb101 hg w7 hbox hb; have BK101 := Aside0.mk (hbox); have GW101 := Aside0.mk ((by rw [hg]; exact (below_size (bz HB.out)) : w.heap.size ≤ gb101)); have GE101 := Aside0.mk ((by rw [hg]; exact (below_size (bz HB.out)) : w.heap.size ≤ gb101)); replace HB := Aside0.mk (below_step (bz HB.out) hb); clear hb hbox hg; have hcz8_0 : w7.cell? ⟨gb101, 0, none⟩ = some (.slice A0_0 l0_0.length c0_0) := (blk_cell BK101.out 0).trans rfl; have hcz8_1 : w7.cell? ⟨gb101, 1, none⟩ = some (.slice A0_1 l0_1.length c0_1) := (blk_cell BK101.out 1).trans rfl; have hcz8_2 : w7.cell? ⟨gb101, 2, none⟩ = some (.slice A0_2 l0_2.length c0_2) := (blk_cell BK101.out 2).trans rfl; have hcz8_3 : w7.cell? ⟨gb101, 3, none⟩ = some (.slice A0_3 l0_3.length c0_3) := (blk_cell BK101.out 3).trans rfl; have hcz8_4 : w7.cell? ⟨gb101, 4, none⟩ = some (.slice A0_4 l0_4.length c0_4) := (blk_cell BK101.out 4).trans rfl; have hcz8_5 : w7.cell? ⟨gb101, 5, none⟩ = some (.int .i64 a0_5) := (blk_cell BK101.out 5).trans rfl; have hfz8_0 := blk_frozen BK101.out 0; have hfz8_1 := blk_frozen BK101.out 1; have hfz8_2 := blk_frozen BK101.out 2; have hfz8_3 := blk_frozen BK101.out 3; have hfz8_4 := blk_frozen BK101.out 4; have hfz8_5 := blk_frozen BK101.out 5) | ((with_reducible refine gate_callee (f := 47) rfl ?_); refine goesL_ (some 10) rfl rfl Try.func47 zk rfl #[.int .i64 a1, .int .i64 0, .int .i64 (wrap64 ((l0_4.length : Int) - 1))] rfl zm ?_; (with_reducible refine (spec_l6In.calls a1 0 (wrap64 ((l0_4.length : Int) - 1)) true _ A3.out).mono ?_); rintro e w' ⟨rfl, ⟨nd, rfl⟩⟩; refine ⟨_, rfl, ?_⟩; have p103 : 0 ≤ (a1 : Int) := of_decide_eq_true zs; have q103 : a1 < (l0_4.length : Int) := of_decide_eq_true zs; obtain ⟨ad103, A103_1, c103_1, A103_2, c103_2, e103, hx103_0, hx103_1, hx103_2, hl103_1, hi103_1, hl103_2, hi103_2⟩ := at_T63 HR0_4.out a1 p103 q103; cases e103; replace hx103_0 := pw_cell_below HB.out hx103_0; replace hx103_1 := pw_cell_below HB.out hx103_1; replace hx103_2 := pw_cell_below HB.out hx103_2; have HR103_1 := Aside0.mk hi103_1; have HC103_1 := Aside0.mk hl103_1; clear hi103_1 hl103_1; have HR103_2 := Aside0.mk hi103_2; have HC103_2 := Aside0.mk hl103_2; clear hi103_2 hl103_2; replace p103 := eq_true p103; replace q103 := eq_true q103))
    go_ret
    exact ⟨ze, bs HB.out GE101.out⟩
   ·
    rw [if_neg c6] at H
    exact absurd H (by simp)
  ·
   rw [if_neg c5] at H
   exact absurd H (by simp)
 ·
  replace c4 := Bool.eq_false_iff.mpr c4
  subst c4
  rw [if_neg nf_] at H
  obtain rfl := Option.some.inj H
  go_enter Try.func60, Try.ntmps60
  go_wp2_with (first | ((with_reducible refine gate_dst (N := 2) rfl ?_); refine box_event ?hg (N := 2) ?hd (cs := #[.slice A0_0 l0_0.length c0_0, .slice A0_1 l0_1.length c0_1, .slice A0_2 l0_2.length c0_2, .slice A0_3 l0_3.length c0_3, .slice A0_4 l0_4.length c0_4, .int .i64 a0_5]) (t := 46) ?hr ?_; (case hd => rfl); (case hg => rfl); (case hr => first | (go_simp; done) | (go_simp; rfl)); intro gb101 hg w9 hbox hb; have BK101 := Aside0.mk (hbox); have GW101 := Aside0.mk ((by rw [hg]; exact (below_size (bz HB.out)) : w.heap.size ≤ gb101)); have GE101 := Aside0.mk ((by rw [hg]; exact (below_size (bz HB.out)) : w.heap.size ≤ gb101)); replace HB := Aside0.mk (below_step (bz HB.out) hb); clear hb hbox hg; have hcz10_0 : w9.cell? ⟨gb101, 0, none⟩ = some (.slice A0_0 l0_0.length c0_0) := (blk_cell BK101.out 0).trans rfl; have hcz10_1 : w9.cell? ⟨gb101, 1, none⟩ = some (.slice A0_1 l0_1.length c0_1) := (blk_cell BK101.out 1).trans rfl; have hcz10_2 : w9.cell? ⟨gb101, 2, none⟩ = some (.slice A0_2 l0_2.length c0_2) := (blk_cell BK101.out 2).trans rfl; have hcz10_3 : w9.cell? ⟨gb101, 3, none⟩ = some (.slice A0_3 l0_3.length c0_3) := (blk_cell BK101.out 3).trans rfl; have hcz10_4 : w9.cell? ⟨gb101, 4, none⟩ = some (.slice A0_4 l0_4.length c0_4) := (blk_cell BK101.out 4).trans rfl; have hcz10_5 : w9.cell? ⟨gb101, 5, none⟩ = some (.int .i64 a0_5) := (blk_cell BK101.out 5).trans rfl; have hfz10_0 := blk_frozen BK101.out 0; have hfz10_1 := blk_frozen BK101.out 1; have hfz10_2 := blk_frozen BK101.out 2; have hfz10_3 := blk_frozen BK101.out 3; have hfz10_4 := blk_frozen BK101.out 4; have hfz10_5 := blk_frozen BK101.out 5) | ((with_reducible refine gate_callee (f := 47) rfl ?_); refine goesL_ (some 10) rfl rfl Try.func47 zk rfl #[.int .i64 a1, .int .i64 0, .int .i64 (wrap64 ((l0_4.length : Int) - 1))] rfl zm ?_; (with_reducible refine (spec_l6In.calls a1 0 (wrap64 ((l0_4.length : Int) - 1)) false _ A3.out).mono ?_); rintro e w' ⟨rfl, ⟨nd, rfl⟩⟩; refine ⟨_, rfl, ?_⟩))
  go_ret
  exact ⟨ze, bs HB.out GE101.out⟩

end Go.Proofs.Ythoapmfpokohnaa.P
