-- printed by wip/qd.py
import Derived.Test.YtmpdoodimmmemaaPf0
import Derived.Test.YtmpdoodimmmemaaPfimplin
import Derived.Test.YtmpdoodimmmemaaPfslicesContainsint
namespace Go.Proofs.Ytmpdoodimmmemaa.P
open Go.RowKit Go.Proofs.YtmpdoodimmmemaaW.PrintWords Go.Proofs.YtmpdoodimmmemaaW.PrintLast Go.Proofs.YtmpdoodimmmemaaW.PrintMore
attribute [local go_sem] max2_int min2_int max_two min_two max_three min_three max_four min_four Q.cell_set_map
set_option linter.unusedVariables false
set_option linter.unusedSimpArgs false

/-! ### impl_LockOk: function 29 -/
mutual
def impl_LockOk.j0 : Nat → Bool → Int → List (S45) → List Int → Option (Bool)
 | 0, _, _, _, _ => none
 | k + 1, x16, x102000, x102001, x102002 => if x16 = true then (some false) else (impl_LockOk.l0 k 0 x102001 (x102001.length : Int) 0 x102000 x102001 x102002)
def impl_LockOk.l0 : Nat → Int → List (S45) → Int → Int → Int → List (S45) → List Int → Option (Bool)
 | 0, _, _, _, _, _, _, _ => none
 | k + 1, x3, x18, x19, x20, x102000, x102001, x102002 => if x20 < x19 then (if 0 ≤ x20 then (if x20 < (x18.length : Int) then ((impl_in.f ((rd_T45 x18 x20).f0) 0 6).bind fun t106 => (if t106 = true then ((impl_in.f ((rd_T45 x18 x20).f1) 0 2).bind fun t107 => (if t107 = true then (if ((rd_T45 x18 x20).f1) > 0 then (if ((rd_T45 x18 x20).f0) = 1 then ((impl_in.f ((rd_T45 x18 x20).f2) 0 3).bind fun t108 => (if t108 = true then (if ((rd_T45 x18 x20).f0) > 0 then (if ((rd_T45 x18 x20).f2) = 0 then (impl_LockOk.j2 k x3 x20 x18 x19 x20 true x102000 x102001 x102002 ((rd_T45 x18 x20).f0) ((rd_T45 x18 x20).f1) ((rd_T45 x18 x20).f2) ((rd_T45 x18 x20).f3)) else (if (rd_T45 x18 x20).f3 = true then (impl_LockOk.j2 k x3 x20 x18 x19 x20 (((rd_T45 x18 x20).f0) != 3) x102000 x102001 x102002 ((rd_T45 x18 x20).f0) ((rd_T45 x18 x20).f1) ((rd_T45 x18 x20).f2) true) else (impl_LockOk.j2 k x3 x20 x18 x19 x20 false x102000 x102001 x102002 ((rd_T45 x18 x20).f0) ((rd_T45 x18 x20).f1) ((rd_T45 x18 x20).f2) false))) else (if (rd_T45 x18 x20).f3 = true then (impl_LockOk.j2 k x3 x20 x18 x19 x20 (((rd_T45 x18 x20).f0) != 3) x102000 x102001 x102002 ((rd_T45 x18 x20).f0) ((rd_T45 x18 x20).f1) ((rd_T45 x18 x20).f2) true) else (impl_LockOk.j2 k x3 x20 x18 x19 x20 false x102000 x102001 x102002 ((rd_T45 x18 x20).f0) ((rd_T45 x18 x20).f1) ((rd_T45 x18 x20).f2) false))) else (impl_LockOk.j2 k x3 x20 x18 x19 x20 true x102000 x102001 x102002 ((rd_T45 x18 x20).f0) ((rd_T45 x18 x20).f1) ((rd_T45 x18 x20).f2) ((rd_T45 x18 x20).f3)))) else (impl_LockOk.j2 k x3 x20 x18 x19 x20 true x102000 x102001 x102002 ((rd_T45 x18 x20).f0) ((rd_T45 x18 x20).f1) ((rd_T45 x18 x20).f2) ((rd_T45 x18 x20).f3))) else ((impl_in.f ((rd_T45 x18 x20).f2) 0 3).bind fun t109 => (if t109 = true then (if ((rd_T45 x18 x20).f0) > 0 then (if ((rd_T45 x18 x20).f2) = 0 then (impl_LockOk.j2 k x3 x20 x18 x19 x20 true x102000 x102001 x102002 ((rd_T45 x18 x20).f0) ((rd_T45 x18 x20).f1) ((rd_T45 x18 x20).f2) ((rd_T45 x18 x20).f3)) else (if (rd_T45 x18 x20).f3 = true then (impl_LockOk.j2 k x3 x20 x18 x19 x20 (((rd_T45 x18 x20).f0) != 3) x102000 x102001 x102002 ((rd_T45 x18 x20).f0) ((rd_T45 x18 x20).f1) ((rd_T45 x18 x20).f2) true) else (impl_LockOk.j2 k x3 x20 x18 x19 x20 false x102000 x102001 x102002 ((rd_T45 x18 x20).f0) ((rd_T45 x18 x20).f1) ((rd_T45 x18 x20).f2) false))) else (if (rd_T45 x18 x20).f3 = true then (impl_LockOk.j2 k x3 x20 x18 x19 x20 (((rd_T45 x18 x20).f0) != 3) x102000 x102001 x102002 ((rd_T45 x18 x20).f0) ((rd_T45 x18 x20).f1) ((rd_T45 x18 x20).f2) true) else (impl_LockOk.j2 k x3 x20 x18 x19 x20 false x102000 x102001 x102002 ((rd_T45 x18 x20).f0) ((rd_T45 x18 x20).f1) ((rd_T45 x18 x20).f2) false))) else (impl_LockOk.j2 k x3 x20 x18 x19 x20 true x102000 x102001 x102002 ((rd_T45 x18 x20).f0) ((rd_T45 x18 x20).f1) ((rd_T45 x18 x20).f2) ((rd_T45 x18 x20).f3))))) else (impl_LockOk.j2 k x3 x20 x18 x19 x20 true x102000 x102001 x102002 ((rd_T45 x18 x20).f0) ((rd_T45 x18 x20).f1) ((rd_T45 x18 x20).f2) ((rd_T45 x18 x20).f3)))) else (impl_LockOk.j2 k x3 x20 x18 x19 x20 true x102000 x102001 x102002 ((rd_T45 x18 x20).f0) ((rd_T45 x18 x20).f1) ((rd_T45 x18 x20).f2) ((rd_T45 x18 x20).f3)))) else (none)) else (none)) else (some (x3 == (x102002.length : Int)))
def impl_LockOk.j2 : Nat → Int → Int → List (S45) → Int → Int → Bool → Int → List (S45) → List Int → Int → Int → Int → Bool → Option (Bool)
 | 0, _, _, _, _, _, _, _, _, _, _, _, _, _ => none
 | k + 1, x3, x4, x18, x19, x20, x69, x102000, x102001, x102002, x106000, x106001, x106002, x106003 => if x69 = true then (some false) else (if x106003 = true then ((slices_Contains_int.f k x102002 x4).bind fun t110 => (if (x106003 != t110) = true then (some false) else (impl_LockOk.l0 k (wrap64 (x3 + 1)) x18 x19 (wrap64 (x20 + 1)) x102000 x102001 x102002))) else ((slices_Contains_int.f k x102002 x4).bind fun t111 => (if (x106003 != t111) = true then (some false) else (impl_LockOk.l0 k x3 x18 x19 (wrap64 (x20 + 1)) x102000 x102001 x102002))))
end
def impl_LockOk.f (k : Nat) (a0_0 : Int) (l0_1 : List (S45)) (l0_2 : List Int) : Option (Bool) := (impl_in.f a0_0 0 2).bind fun t102 => (if t102 = true then ((impl_in.f (l0_1.length : Int) 1 4).bind fun t103 => (impl_LockOk.j0 k (!t103) a0_0 l0_1 l0_2)) else (impl_LockOk.j0 k true a0_0 l0_1 l0_2))
theorem impl_LockOk.mono_l : ∀ k, (∀ y0 y1 y2 y3, LeO (impl_LockOk.j0 k y0 y1 y2 y3) (impl_LockOk.j0 (k + 1) y0 y1 y2 y3)) ∧ (∀ y0 y1 y2 y3 y4 y5 y6, LeO (impl_LockOk.l0 k y0 y1 y2 y3 y4 y5 y6) (impl_LockOk.l0 (k + 1) y0 y1 y2 y3 y4 y5 y6)) ∧ (∀ y0 y1 y2 y3 y4 y5 y6 y7 y8 y9 y10 y11 y12, LeO (impl_LockOk.j2 k y0 y1 y2 y3 y4 y5 y6 y7 y8 y9 y10 y11 y12) (impl_LockOk.j2 (k + 1) y0 y1 y2 y3 y4 y5 y6 y7 y8 y9 y10 y11 y12))
 | 0 => ⟨fun _ _ _ _ r h => by simp [impl_LockOk.j0] at h, fun _ _ _ _ _ _ _ r h => by simp [impl_LockOk.l0] at h, fun _ _ _ _ _ _ _ _ _ _ _ _ _ r h => by simp [impl_LockOk.j2] at h⟩
 | k + 1 => by
  obtain ⟨ih0, ih1, ih2⟩ := impl_LockOk.mono_l k
  refine ⟨?_, ?_, ?_⟩
  ·
   intro y0 y1 y2 y3
   unfold impl_LockOk.j0
   repeat' first
   | (with_reducible exact ih0 _ _ _ _)
   | (with_reducible exact ih1 _ _ _ _ _ _ _)
   | (with_reducible exact ih2 _ _ _ _ _ _ _ _ _ _ _ _ _)
   | (with_reducible exact slices_Contains_int.mono _ _ _)
   | (with_reducible exact LeO.refl _)
   | (with_reducible exact LeO.none _)
   | (with_reducible refine LeO.ite ?_ ?_)
   | (with_reducible refine LeO.bind ?_ (fun _ => ?_))
   | exact ih0 _ _ _ _
   | exact ih1 _ _ _ _ _ _ _
   | exact ih2 _ _ _ _ _ _ _ _ _ _ _ _ _
   | exact slices_Contains_int.mono _ _ _
   | exact LeO.none _
   | refine LeO.ite ?_ ?_
   | refine LeO.bind ?_ (fun _ => ?_)
  ·
   intro y0 y1 y2 y3 y4 y5 y6
   unfold impl_LockOk.l0
   repeat' first
   | (with_reducible exact ih0 _ _ _ _)
   | (with_reducible exact ih1 _ _ _ _ _ _ _)
   | (with_reducible exact ih2 _ _ _ _ _ _ _ _ _ _ _ _ _)
   | (with_reducible exact slices_Contains_int.mono _ _ _)
   | (with_reducible exact LeO.refl _)
   | (with_reducible exact LeO.none _)
   | (with_reducible refine LeO.ite ?_ ?_)
   | (with_reducible refine LeO.bind ?_ (fun _ => ?_))
   | exact ih0 _ _ _ _
   | exact ih1 _ _ _ _ _ _ _
   | exact ih2 _ _ _ _ _ _ _ _ _ _ _ _ _
   | exact slices_Contains_int.mono _ _ _
   | exact LeO.none _
   | refine LeO.ite ?_ ?_
   | refine LeO.bind ?_ (fun _ => ?_)
  ·
   intro y0 y1 y2 y3 y4 y5 y6 y7 y8 y9 y10 y11 y12
   unfold impl_LockOk.j2
   repeat' first
   | (with_reducible exact ih0 _ _ _ _)
   | (with_reducible exact ih1 _ _ _ _ _ _ _)
   | (with_reducible exact ih2 _ _ _ _ _ _ _ _ _ _ _ _ _)
   | (with_reducible exact slices_Contains_int.mono _ _ _)
   | (with_reducible exact LeO.refl _)
   | (with_reducible exact LeO.none _)
   | (with_reducible refine LeO.ite ?_ ?_)
   | (with_reducible refine LeO.bind ?_ (fun _ => ?_))
   | exact ih0 _ _ _ _
   | exact ih1 _ _ _ _ _ _ _
   | exact ih2 _ _ _ _ _ _ _ _ _ _ _ _ _
   | exact slices_Contains_int.mono _ _ _
   | exact LeO.none _
   | refine LeO.ite ?_ ?_
   | refine LeO.bind ?_ (fun _ => ?_)
theorem impl_LockOk.mono : ∀ a0 a1 a2 k, LeO (impl_LockOk.f k a0 a1 a2) (impl_LockOk.f (k + 1) a0 a1 a2) := by
 intro a0 a1 a2 k
 obtain ⟨ih0, ih1, ih2⟩ := impl_LockOk.mono_l k
 unfold impl_LockOk.f
 repeat' first
   | (with_reducible exact ih0 _ _ _ _)
   | (with_reducible exact ih1 _ _ _ _ _ _ _)
   | (with_reducible exact ih2 _ _ _ _ _ _ _ _ _ _ _ _ _)
   | (with_reducible exact slices_Contains_int.mono _ _ _)
   | (with_reducible exact LeO.refl _)
   | (with_reducible exact LeO.none _)
   | (with_reducible refine LeO.ite ?_ ?_)
   | (with_reducible refine LeO.bind ?_ (fun _ => ?_))
   | exact ih0 _ _ _ _
   | exact ih1 _ _ _ _ _ _ _
   | exact ih2 _ _ _ _ _ _ _ _ _ _ _ _ _
   | exact slices_Contains_int.mono _ _ _
   | exact LeO.none _
   | refine LeO.ite ?_ ?_
   | refine LeO.bind ?_ (fun _ => ?_)
set_option maxHeartbeats 8000000 in
set_option maxRecDepth 100000 in
theorem impl_LockOk.calls (k : Nat) (a0_0 : Int) (A0_1 : Option Addr) (c0_1 : Nat) (l0_1 : List (S45)) (A0_2 : Option Addr) (c0_2 : Nat) (l0_2 : List Int) (r : Bool) (w : World) (hr0_1 : Kd.C k45 w A0_1 l0_1.length l0_1) (hc0_1 : l0_1.length ≤ c0_1) (hr0_2 : Kd.C (Kd.int .i64) w A0_2 l0_2.length l0_2) (hc0_2 : l0_2.length ≤ c0_2) (h : impl_LockOk.f k a0_0 l0_1 l0_2 = some r) :
  Calls Try.prog 29 #[.agg #[.int .i64 a0_0, .slice A0_1 l0_1.length c0_1, .slice A0_2 l0_2.length c0_2]] w fun e w' => e = .returned (.bool r) ∧ Below w.heap.size w w' := by
 have hu37 := Try.underlying37; have hu45 := Try.underlying45; have HR0_1 := Aside0.mk hr0_1; have HC0_1 := Aside0.mk hc0_1; clear hr0_1 hc0_1; have HR0_2 := Aside0.mk hr0_2; have HC0_2 := Aside0.mk hc0_2; clear hr0_2 hc0_2; have HB := Aside0.mk (Below.refl w.heap.size w); have H : ((impl_in.f a0_0 0 2).bind fun t102 => (if t102 = true then ((impl_in.f (l0_1.length : Int) 1 4).bind fun t103 => (impl_LockOk.j0 k (!t103) a0_0 l0_1 l0_2)) else (impl_LockOk.j0 k true a0_0 l0_1 l0_2))) = some r := h; clear h; have HC2 := Aside0.mk H; clear H
 go_enter Try.func29, Try.ntmps29
 go_upto_region 1 with (first | ((with_reducible refine gate_dst (N := 1) rfl ?_); (try (refine gate_guard (by rfl) ?_; dsimp only)); refine box_event ?hg (N := 1) ?hd (cs := #[.int .i64 a0_0, .slice A0_1 l0_1.length c0_1, .slice A0_2 l0_2.length c0_2]) (t := 37) ?hr ?_; (case hd => rfl); (case hg => rfl); (case hr => first | (go_simp; done) | (go_simp; rfl)); intro gb101 hg w3 hbox hb; have BK101 := Aside0.mk (hbox); have GW101 := Aside0.mk ((by rw [hg]; exact (below_size (bz HB.out)) : w.heap.size ≤ gb101)); have GE101 := GW101; replace HB := Aside0.mk (below_step (bz HB.out) hb); clear hb hbox hg))
 repeat (go_quiet (first | ((with_reducible refine gate_dst (N := 1) rfl ?_); (try (refine gate_guard (by rfl) ?_; dsimp only)); refine box_event ?hg (N := 1) ?hd (cs := #[.int .i64 a0_0, .slice A0_1 l0_1.length c0_1, .slice A0_2 l0_2.length c0_2]) (t := 37) ?hr ?_; (case hd => rfl); (case hg => rfl); (case hr => first | (go_simp; done) | (go_simp; rfl)); intro gb101 hg w3 hbox hb; have BK101 := Aside0.mk (hbox); have GW101 := Aside0.mk ((by rw [hg]; exact (below_size (bz HB.out)) : w.heap.size ≤ gb101)); have GE101 := GW101; replace HB := Aside0.mk (below_step (bz HB.out) hb); clear hb hbox hg)); go_upto_region 1 with (first | ((with_reducible refine gate_dst (N := 1) rfl ?_); (try (refine gate_guard (by rfl) ?_; dsimp only)); refine box_event ?hg (N := 1) ?hd (cs := #[.int .i64 a0_0, .slice A0_1 l0_1.length c0_1, .slice A0_2 l0_2.length c0_2]) (t := 37) ?hr ?_; (case hd => rfl); (case hg => rfl); (case hr => first | (go_simp; done) | (go_simp; rfl)); intro gb101 hg w3 hbox hb; have BK101 := Aside0.mk (hbox); have GW101 := Aside0.mk ((by rw [hg]; exact (below_size (bz HB.out)) : w.heap.size ≤ gb101)); have GE101 := GW101; replace HB := Aside0.mk (below_step (bz HB.out) hb); clear hb hbox hg)))
 (try simp only [Act.put, List.setIfInBounds_toArray, List.set_cons_zero, List.set_cons_succ])
 go_cut [16] (fun v16 wc => ∃ (kq : Nat) (x16_1 : Bool), v16 = .bool x16_1 ∧ Aside0 (impl_LockOk.j0 kq x16_1 a0_0 l0_1 l0_2 = some r) ∧ Aside0 (kq ≤ k) ∧ Aside0 (wc.heap[gb101]? = some (.cells #[.int .i64 a0_0, (.slice A0_1 l0_1.length c0_1), (.slice A0_2 l0_2.length c0_2)] 37 (0, 0))) ∧ Aside0 (Below w.heap.size w wc))
 case first =>
  have H := HC2.out; clear HC2; replace H := Option.bind_eq_some_iff.mp H; obtain ⟨t102, A40, H⟩ := H; have A4 := Aside0.mk A40; clear A40
  by_cases c5 : t102 = true
  ·
   subst c5; rw [if_pos rfl] at H; replace H := Option.bind_eq_some_iff.mp H; obtain ⟨t103, A60, H⟩ := H; have A6 := Aside0.mk A60; clear A60; have H' := Aside0.mk H; clear H; obtain ⟨hcz7_0, hcz7_1, hcz7_2⟩ := cz3 BK101.out; obtain ⟨hfz7_0, hfz7_1, hfz7_2⟩ := fz3 BK101.out
   go_wp2_with (first | (go_at_call 42; (with_reducible refine (impl_in.calls a0_0 0 2 true _ A4.out).mono ?_); rintro e w' ⟨rfl, ⟨nd, rfl⟩⟩; (try first | exact ⟨rfl, _, World.drewN_drewN _ _ _⟩ | exact ⟨rfl, _, Eq.trans (World.drewN_drewN _ _ _) (congrArg (World.drewN _) (Nat.add_assoc _ _ _))⟩)) | (go_at_call 42; (with_reducible refine (impl_in.calls (l0_1.length : Int) 1 4 t103 _ A6.out).mono ?_); rintro e w' ⟨rfl, ⟨nd, rfl⟩⟩; (try first | exact ⟨rfl, _, World.drewN_drewN _ _ _⟩ | exact ⟨rfl, _, Eq.trans (World.drewN_drewN _ _ _) (congrArg (World.drewN _) (Nat.add_assoc _ _ _))⟩)))
   repeat (go_quiet (first | (go_at_call 42; (with_reducible refine (impl_in.calls a0_0 0 2 true _ A4.out).mono ?_); rintro e w' ⟨rfl, ⟨nd, rfl⟩⟩; (try first | exact ⟨rfl, _, World.drewN_drewN _ _ _⟩ | exact ⟨rfl, _, Eq.trans (World.drewN_drewN _ _ _) (congrArg (World.drewN _) (Nat.add_assoc _ _ _))⟩)) | (go_at_call 42; (with_reducible refine (impl_in.calls (l0_1.length : Int) 1 4 t103 _ A6.out).mono ?_); rintro e w' ⟨rfl, ⟨nd, rfl⟩⟩; (try first | exact ⟨rfl, _, World.drewN_drewN _ _ _⟩ | exact ⟨rfl, _, Eq.trans (World.drewN_drewN _ _ _) (congrArg (World.drewN _) (Nat.add_assoc _ _ _))⟩))); try go_wp2_with (first | (go_at_call 42; (with_reducible refine (impl_in.calls a0_0 0 2 true _ A4.out).mono ?_); rintro e w' ⟨rfl, ⟨nd, rfl⟩⟩; (try first | exact ⟨rfl, _, World.drewN_drewN _ _ _⟩ | exact ⟨rfl, _, Eq.trans (World.drewN_drewN _ _ _) (congrArg (World.drewN _) (Nat.add_assoc _ _ _))⟩)) | (go_at_call 42; (with_reducible refine (impl_in.calls (l0_1.length : Int) 1 4 t103 _ A6.out).mono ?_); rintro e w' ⟨rfl, ⟨nd, rfl⟩⟩; (try first | exact ⟨rfl, _, World.drewN_drewN _ _ _⟩ | exact ⟨rfl, _, Eq.trans (World.drewN_drewN _ _ _) (congrArg (World.drewN _) (Nat.add_assoc _ _ _))⟩))))
   go_meet
   case rel => exact ⟨_, (!t103), zr, H', ⟨by first | omega | exact Nat.le_refl _⟩, ⟨kz (BK101.out)⟩, ⟨bs HB.out GE101.out⟩⟩
  ·
   replace c5 := Bool.eq_false_iff.mpr c5; subst c5; rw [if_neg nf_] at H; have H' := Aside0.mk H; clear H; obtain ⟨hcz8_0, hcz8_1, hcz8_2⟩ := cz3 BK101.out; obtain ⟨hfz8_0, hfz8_1, hfz8_2⟩ := fz3 BK101.out
   go_wp2_with (first | (go_at_call 42; (with_reducible refine (impl_in.calls a0_0 0 2 false _ A4.out).mono ?_); rintro e w' ⟨rfl, ⟨nd, rfl⟩⟩; (try first | exact ⟨rfl, _, World.drewN_drewN _ _ _⟩ | exact ⟨rfl, _, Eq.trans (World.drewN_drewN _ _ _) (congrArg (World.drewN _) (Nat.add_assoc _ _ _))⟩)))
   repeat (go_quiet (first | (go_at_call 42; (with_reducible refine (impl_in.calls a0_0 0 2 false _ A4.out).mono ?_); rintro e w' ⟨rfl, ⟨nd, rfl⟩⟩; (try first | exact ⟨rfl, _, World.drewN_drewN _ _ _⟩ | exact ⟨rfl, _, Eq.trans (World.drewN_drewN _ _ _) (congrArg (World.drewN _) (Nat.add_assoc _ _ _))⟩))); try go_wp2_with (first | (go_at_call 42; (with_reducible refine (impl_in.calls a0_0 0 2 false _ A4.out).mono ?_); rintro e w' ⟨rfl, ⟨nd, rfl⟩⟩; (try first | exact ⟨rfl, _, World.drewN_drewN _ _ _⟩ | exact ⟨rfl, _, Eq.trans (World.drewN_drewN _ _ _) (congrArg (World.drewN _) (Nat.add_assoc _ _ _))⟩))))
   go_meet
   case rel => exact ⟨_, (true), zr, H', ⟨by first | omega | exact Nat.le_refl _⟩, ⟨kz (BK101.out)⟩, ⟨bs HB.out GE101.out⟩⟩
 case rest =>
  clear HC2
  try clear c2
  try clear p2
  try clear c5
  try clear hcz7_0
  try clear hcz7_1
  try clear hcz7_2
  try clear hcz8_0
  try clear hcz8_1
  try clear hcz8_2
  try clear hfz7_0
  try clear hfz7_1
  try clear hfz7_2
  try clear hfz8_0
  try clear hfz8_1
  try clear hfz8_2
  obtain ⟨kq, x16_1, rfl, HA, HJ1, BK101, HB⟩ := hcut
  cases kq with
  | zero => exact absurd HA.out (by simp [impl_LockOk.j0])
  | succ kj1 =>
   have H := HA.out; clear HA; simp only [impl_LockOk.j0] at H
   by_cases c9 : x16_1 = true
   ·
    subst c9; rw [if_pos rfl] at H; obtain rfl := Option.some.inj H
    go_wp2
    repeat (go_quiet (fail); try go_wp2)
    go_ret
    exact ⟨ze, bs HB.out GE101.out⟩
   ·
    replace c9 := Bool.eq_false_iff.mpr c9; subst c9; rw [if_neg nf_] at H; have H' := Aside0.mk H; clear H; obtain ⟨hcz10_0, hcz10_1, hcz10_2⟩ := cz3 BK101.out; obtain ⟨hfz10_0, hfz10_1, hfz10_2⟩ := fz3 BK101.out
    go_wp2
    repeat (go_quiet (fail); try go_wp2)
    go_loopg [3, 20] kj1 (fun kq v3 v20 w' => ∃ (x3_2 : Int) (x20_2 : Int), v3 = .int .i64 x3_2 ∧ v20 = .int .i64 x20_2 ∧ Aside0 (impl_LockOk.l0 kq x3_2 l0_1 (l0_1.length : Int) x20_2 a0_0 l0_1 l0_2 = some r) ∧ Aside0 (kq ≤ kj1) ∧ Aside0 (w'.heap[gb101]? = some (.cells #[.int .i64 a0_0, (.slice A0_1 l0_1.length c0_1), (.slice A0_2 l0_2.length c0_2)] 37 (0, 0))) ∧ Aside0 (Below w.heap.size w w'))
    case atStart => exact ⟨(0), (0), zr, zr, H', ⟨Nat.le_refl _⟩, ⟨kz (BK101.out)⟩, ⟨bs HB.out GE101.out⟩⟩
    case round =>
     clear H'
     try clear c2
     try clear p2
     try clear c5
     try clear c9
     try clear hcz10_0
     try clear hcz10_1
     try clear hcz10_2
     try clear hcz7_0
     try clear hcz7_1
     try clear hcz7_2
     try clear hcz8_0
     try clear hcz8_1
     try clear hcz8_2
     try clear hfz10_0
     try clear hfz10_1
     try clear hfz10_2
     try clear hfz7_0
     try clear hfz7_1
     try clear hfz7_2
     try clear hfz8_0
     try clear hfz8_1
     try clear hfz8_2
     try clear p2
     obtain ⟨x3_2, x20_2, rfl, rfl, HA, HK2, BK101, HB⟩ := hrel
     cases gk with
     | zero => exact absurd HA.out (by simp [impl_LockOk.l0])
     | succ k2 =>
      have H := HA.out; clear HA; simp only [impl_LockOk.l0] at H
      by_cases c11 : x20_2 < (l0_1.length : Int)
      ·
       rw [if_pos c11] at H; have c11b0 : decide (x20_2 < (l0_1.length : Int)) = true := decide_eq_true c11; clear c11
       by_cases c12 : 0 ≤ x20_2
       ·
        rw [if_pos c12] at H; have c12b0 : decide (0 ≤ x20_2) = true := decide_eq_true c12; clear c12
        by_cases c13 : x20_2 < (l0_1.length : Int)
        ·
         rw [if_pos c13] at H; have c13b0 : decide (x20_2 < (l0_1.length : Int)) = true := decide_eq_true c13; clear c13; have HC14 := Aside0.mk H; clear H; have p104 : 0 ≤ (x20_2 : Int) := of_decide_eq_true zs; have q104 : x20_2 < (l0_1.length : Int) := of_decide_eq_true zs; obtain ⟨ad104, e104, hx104_0, hx104_1, hx104_2, hx104_3⟩ := at_T45 HR0_1.out x20_2 p104 q104; cases e104; replace hx104_0 := pw_cell_below HB.out hx104_0; replace hx104_1 := pw_cell_below HB.out hx104_1; replace hx104_2 := pw_cell_below HB.out hx104_2; replace hx104_3 := pw_cell_below HB.out hx104_3; replace p104 := eq_true p104; replace q104 := eq_true q104
         go_upto_region 7 with (first | ((with_reducible refine gate_dst (N := 5) rfl ?_); (try (refine gate_guard (by rfl) ?_; dsimp only)); refine box_event ?hg (N := 5) ?hd (cs := #[.int .i64 0, .int .i64 0, .int .i64 0, .bool false]) (t := 45) ?hr ?_; (case hd => rfl); (case hg => rfl); (case hr => first | (go_simp; done) | (go_simp; rfl)); intro gb105 hg w15 hbox hb; have BK105 := Aside0.mk (hbox); have GW105 := Aside0.mk ((by rw [hg]; exact (below_size (bs HB.out GE101.out)) : w.heap.size ≤ gb105)); have GE105 := GW105; replace HB := Aside0.mk (below_step (bs HB.out GE101.out) hb); have NB101_105 := Aside0.mk ((by rw [hg]; exact Nat.ne_of_lt (blk_lt (kz BK101.out)) : gb101 ≠ gb105)); have NB105_101 := Aside0.mk NB101_105.out.symm; replace BK101 := Aside0.mk (blk_below (kz BK101.out) hb); clear hb hbox hg; have hnb16 := NB105_101.out; have hnc16 := NB101_105.out; obtain ⟨hcz17_0, hcz17_1, hcz17_2, hcz17_3⟩ := cz4 BK105.out; obtain ⟨hfz17_0, hfz17_1, hfz17_2, hfz17_3⟩ := fz4 BK105.out))
         repeat (go_quiet (first | ((with_reducible refine gate_dst (N := 5) rfl ?_); (try (refine gate_guard (by rfl) ?_; dsimp only)); refine box_event ?hg (N := 5) ?hd (cs := #[.int .i64 0, .int .i64 0, .int .i64 0, .bool false]) (t := 45) ?hr ?_; (case hd => rfl); (case hg => rfl); (case hr => first | (go_simp; done) | (go_simp; rfl)); intro gb105 hg w15 hbox hb; have BK105 := Aside0.mk (hbox); have GW105 := Aside0.mk ((by rw [hg]; exact (below_size (bs HB.out GE101.out)) : w.heap.size ≤ gb105)); have GE105 := GW105; replace HB := Aside0.mk (below_step (bs HB.out GE101.out) hb); have NB101_105 := Aside0.mk ((by rw [hg]; exact Nat.ne_of_lt (blk_lt (kz BK101.out)) : gb101 ≠ gb105)); have NB105_101 := Aside0.mk NB101_105.out.symm; replace BK101 := Aside0.mk (blk_below (kz BK101.out) hb); clear hb hbox hg; have hnb16 := NB105_101.out; have hnc16 := NB101_105.out; obtain ⟨hcz17_0, hcz17_1, hcz17_2, hcz17_3⟩ := cz4 BK105.out; obtain ⟨hfz17_0, hfz17_1, hfz17_2, hfz17_3⟩ := fz4 BK105.out)); go_upto_region 7 with (first | ((with_reducible refine gate_dst (N := 5) rfl ?_); (try (refine gate_guard (by rfl) ?_; dsimp only)); refine box_event ?hg (N := 5) ?hd (cs := #[.int .i64 0, .int .i64 0, .int .i64 0, .bool false]) (t := 45) ?hr ?_; (case hd => rfl); (case hg => rfl); (case hr => first | (go_simp; done) | (go_simp; rfl)); intro gb105 hg w15 hbox hb; have BK105 := Aside0.mk (hbox); have GW105 := Aside0.mk ((by rw [hg]; exact (below_size (bs HB.out GE101.out)) : w.heap.size ≤ gb105)); have GE105 := GW105; replace HB := Aside0.mk (below_step (bs HB.out GE101.out) hb); have NB101_105 := Aside0.mk ((by rw [hg]; exact Nat.ne_of_lt (blk_lt (kz BK101.out)) : gb101 ≠ gb105)); have NB105_101 := Aside0.mk NB101_105.out.symm; replace BK101 := Aside0.mk (blk_below (kz BK101.out) hb); clear hb hbox hg; have hnb16 := NB105_101.out; have hnc16 := NB101_105.out; obtain ⟨hcz17_0, hcz17_1, hcz17_2, hcz17_3⟩ := cz4 BK105.out; obtain ⟨hfz17_0, hfz17_1, hfz17_2, hfz17_3⟩ := fz4 BK105.out)))
         (try simp only [Act.put, List.setIfInBounds_toArray, List.set_cons_zero, List.set_cons_succ])
         go_cut [69] (fun v69 wc => ∃ (kq : Nat) (x69_13 : Bool), v69 = .bool x69_13 ∧ Aside0 (impl_LockOk.j2 kq x3_2 x20_2 l0_1 (l0_1.length : Int) x20_2 x69_13 a0_0 l0_1 l0_2 ((rd_T45 l0_1 x20_2).f0) ((rd_T45 l0_1 x20_2).f1) ((rd_T45 l0_1 x20_2).f2) ((rd_T45 l0_1 x20_2).f3) = some r) ∧ Aside0 (kq ≤ k2) ∧ Aside0 (wc.heap[gb101]? = some (.cells #[.int .i64 a0_0, (.slice (some ad104) l0_1.length c0_1), (.slice A0_2 l0_2.length c0_2)] 37 (0, 0))) ∧ Aside0 (wc.heap[gb105]? = some (.cells #[.int .i64 ((rd_T45 l0_1 x20_2).f0), .int .i64 ((rd_T45 l0_1 x20_2).f1), .int .i64 ((rd_T45 l0_1 x20_2).f2), .bool ((rd_T45 l0_1 x20_2).f3)] 45 (0, 0))) ∧ Aside0 (Below w.heap.size w wc))
         case first =>
          have H := HC14.out; clear HC14; replace H := Option.bind_eq_some_iff.mp H; obtain ⟨t106, A180, H⟩ := H; have A18 := Aside0.mk A180; clear A180
          by_cases c19 : t106 = true
          ·
           subst c19; rw [if_pos rfl] at H; replace H := Option.bind_eq_some_iff.mp H; obtain ⟨t107, A200, H⟩ := H; have A20 := Aside0.mk A200; clear A200
           by_cases c21 : t107 = true
           ·
            subst c21; rw [if_pos rfl] at H
            by_cases c22 : ((rd_T45 l0_1 x20_2).f1) > 0
            ·
             rw [if_pos c22] at H; have c22b0 : decide (0 < ((rd_T45 l0_1 x20_2).f1)) = true := decide_eq_true c22; clear c22
             (first | rw [c22b0] | (simp only [i64_w, i32_w]; rw [c22b0]) | skip)
             by_cases c23 : ((rd_T45 l0_1 x20_2).f0) = 1
             ·
              rw [if_pos c23] at H; have c23b0 : (((rd_T45 l0_1 x20_2).f0) == 1) = true := beq_iff_eq.mpr c23; have c23b1 : (((rd_T45 l0_1 x20_2).f0) != 1) = false := bne_eq_false_iff_eq.mpr c23; clear c23; replace H := Option.bind_eq_some_iff.mp H; obtain ⟨t108, A240, H⟩ := H; have A24 := Aside0.mk A240; clear A240
              by_cases c25 : t108 = true
              ·
               subst c25; rw [if_pos rfl] at H
               by_cases c26 : ((rd_T45 l0_1 x20_2).f0) > 0
               ·
                rw [if_pos c26] at H; have c26b0 : decide (0 < ((rd_T45 l0_1 x20_2).f0)) = true := decide_eq_true c26; clear c26
                by_cases c27 : ((rd_T45 l0_1 x20_2).f2) = 0
                ·
                 rw [if_pos c27] at H; have c27b0 : (((rd_T45 l0_1 x20_2).f2) == 0) = true := beq_iff_eq.mpr c27; have c27b1 : (((rd_T45 l0_1 x20_2).f2) != 0) = false := bne_eq_false_iff_eq.mpr c27; clear c27; have H' := Aside0.mk H; clear H; have hnb28 := NB105_101.out; have hnc28 := NB101_105.out; obtain ⟨hcz29_0, hcz29_1, hcz29_2, hcz29_3⟩ := cz4 BK105.out; obtain ⟨hfz29_0, hfz29_1, hfz29_2, hfz29_3⟩ := fz4 BK105.out
                 go_wp2_with (first | (go_at_call 42; (with_reducible refine (impl_in.calls ((rd_T45 l0_1 x20_2).f0) 0 6 true _ A18.out).mono ?_); rintro e w' ⟨rfl, ⟨nd, rfl⟩⟩; (try first | exact ⟨rfl, _, World.drewN_drewN _ _ _⟩ | exact ⟨rfl, _, Eq.trans (World.drewN_drewN _ _ _) (congrArg (World.drewN _) (Nat.add_assoc _ _ _))⟩)) | (go_at_call 42; (with_reducible refine (impl_in.calls ((rd_T45 l0_1 x20_2).f1) 0 2 true _ A20.out).mono ?_); rintro e w' ⟨rfl, ⟨nd, rfl⟩⟩; (try first | exact ⟨rfl, _, World.drewN_drewN _ _ _⟩ | exact ⟨rfl, _, Eq.trans (World.drewN_drewN _ _ _) (congrArg (World.drewN _) (Nat.add_assoc _ _ _))⟩)) | (go_at_call 42; (with_reducible refine (impl_in.calls ((rd_T45 l0_1 x20_2).f2) 0 3 true _ A24.out).mono ?_); rintro e w' ⟨rfl, ⟨nd, rfl⟩⟩; (try first | exact ⟨rfl, _, World.drewN_drewN _ _ _⟩ | exact ⟨rfl, _, Eq.trans (World.drewN_drewN _ _ _) (congrArg (World.drewN _) (Nat.add_assoc _ _ _))⟩)))
                 repeat (go_quiet (first | (go_at_call 42; (with_reducible refine (impl_in.calls ((rd_T45 l0_1 x20_2).f0) 0 6 true _ A18.out).mono ?_); rintro e w' ⟨rfl, ⟨nd, rfl⟩⟩; (try first | exact ⟨rfl, _, World.drewN_drewN _ _ _⟩ | exact ⟨rfl, _, Eq.trans (World.drewN_drewN _ _ _) (congrArg (World.drewN _) (Nat.add_assoc _ _ _))⟩)) | (go_at_call 42; (with_reducible refine (impl_in.calls ((rd_T45 l0_1 x20_2).f1) 0 2 true _ A20.out).mono ?_); rintro e w' ⟨rfl, ⟨nd, rfl⟩⟩; (try first | exact ⟨rfl, _, World.drewN_drewN _ _ _⟩ | exact ⟨rfl, _, Eq.trans (World.drewN_drewN _ _ _) (congrArg (World.drewN _) (Nat.add_assoc _ _ _))⟩)) | (go_at_call 42; (with_reducible refine (impl_in.calls ((rd_T45 l0_1 x20_2).f2) 0 3 true _ A24.out).mono ?_); rintro e w' ⟨rfl, ⟨nd, rfl⟩⟩; (try first | exact ⟨rfl, _, World.drewN_drewN _ _ _⟩ | exact ⟨rfl, _, Eq.trans (World.drewN_drewN _ _ _) (congrArg (World.drewN _) (Nat.add_assoc _ _ _))⟩))); try go_wp2_with (first | (go_at_call 42; (with_reducible refine (impl_in.calls ((rd_T45 l0_1 x20_2).f0) 0 6 true _ A18.out).mono ?_); rintro e w' ⟨rfl, ⟨nd, rfl⟩⟩; (try first | exact ⟨rfl, _, World.drewN_drewN _ _ _⟩ | exact ⟨rfl, _, Eq.trans (World.drewN_drewN _ _ _) (congrArg (World.drewN _) (Nat.add_assoc _ _ _))⟩)) | (go_at_call 42; (with_reducible refine (impl_in.calls ((rd_T45 l0_1 x20_2).f1) 0 2 true _ A20.out).mono ?_); rintro e w' ⟨rfl, ⟨nd, rfl⟩⟩; (try first | exact ⟨rfl, _, World.drewN_drewN _ _ _⟩ | exact ⟨rfl, _, Eq.trans (World.drewN_drewN _ _ _) (congrArg (World.drewN _) (Nat.add_assoc _ _ _))⟩)) | (go_at_call 42; (with_reducible refine (impl_in.calls ((rd_T45 l0_1 x20_2).f2) 0 3 true _ A24.out).mono ?_); rintro e w' ⟨rfl, ⟨nd, rfl⟩⟩; (try first | exact ⟨rfl, _, World.drewN_drewN _ _ _⟩ | exact ⟨rfl, _, Eq.trans (World.drewN_drewN _ _ _) (congrArg (World.drewN _) (Nat.add_assoc _ _ _))⟩))))
                 go_meet
                 case rel => exact ⟨_, (true), zr, H', ⟨by have := HJ1.out; have := HK2.out; first | omega | exact Nat.le_refl _⟩, ⟨by (with_reducible repeat (first | refine blk_drewN ?_ _ | refine blk_drew ?_ | refine blk_alloc ?_ _ | refine blk_far ?_ NB101_105.out _)); exact BK101.out⟩, ⟨by (with_reducible repeat (first | refine blk_drewN ?_ _ | refine blk_drew ?_ | refine blk_alloc ?_ _)); refine blk_put (cs := #[.int .i64 ((rd_T45 l0_1 x20_2).f0), .int .i64 ((rd_T45 l0_1 x20_2).f1), .int .i64 ((rd_T45 l0_1 x20_2).f2), .bool false]) ?_ 3 _ rfl; (with_reducible repeat (first | refine blk_drewN ?_ _ | refine blk_drew ?_ | refine blk_alloc ?_ _)); refine blk_put (cs := #[.int .i64 ((rd_T45 l0_1 x20_2).f0), .int .i64 ((rd_T45 l0_1 x20_2).f1), .int .i64 0, .bool false]) ?_ 2 _ rfl; (with_reducible repeat (first | refine blk_drewN ?_ _ | refine blk_drew ?_ | refine blk_alloc ?_ _)); refine blk_put (cs := #[.int .i64 ((rd_T45 l0_1 x20_2).f0), .int .i64 0, .int .i64 0, .bool false]) ?_ 1 _ rfl; (with_reducible repeat (first | refine blk_drewN ?_ _ | refine blk_drew ?_ | refine blk_alloc ?_ _)); refine blk_put (cs := #[.int .i64 0, .int .i64 0, .int .i64 0, .bool false]) ?_ 0 _ rfl; (with_reducible repeat (first | refine blk_drewN ?_ _ | refine blk_drew ?_ | refine blk_alloc ?_ _)); exact BK105.out⟩, ⟨bs2 HB.out GE101.out GE105.out⟩⟩
                ·
                 rw [if_neg c27] at H; have c27b0 : (((rd_T45 l0_1 x20_2).f2) == 0) = false := beq_eq_false_iff_ne.mpr c27; have c27b1 : (((rd_T45 l0_1 x20_2).f2) != 0) = true := bne_iff_ne.mpr c27; obtain ⟨bq30, hbq30⟩ : ∃ b_ : Bool, b_ = ((rd_T45 l0_1 x20_2).f3) := ⟨_, rfl⟩
                 replace H : (if bq30 = true then (impl_LockOk.j2 k2 x3_2 x20_2 l0_1 (l0_1.length : Int) x20_2 (((rd_T45 l0_1 x20_2).f0) != 3) a0_0 l0_1 l0_2 ((rd_T45 l0_1 x20_2).f0) ((rd_T45 l0_1 x20_2).f1) ((rd_T45 l0_1 x20_2).f2) true) else (impl_LockOk.j2 k2 x3_2 x20_2 l0_1 (l0_1.length : Int) x20_2 false a0_0 l0_1 l0_2 ((rd_T45 l0_1 x20_2).f0) ((rd_T45 l0_1 x20_2).f1) ((rd_T45 l0_1 x20_2).f2) false)) = some r := by rw [← hbq30] at H; exact H
                 have Nbq30 := Aside0.mk hbq30; clear hbq30
                 by_cases c31 : bq30 = true
                 ·
                  subst c31; have fbq30 : ((rd_T45 l0_1 x20_2).f3) = true := Nbq30.out.symm; rw [if_pos rfl] at H; have H' := Aside0.mk H; clear H; have hnb32 := NB105_101.out; have hnc32 := NB101_105.out; obtain ⟨hcz33_0, hcz33_1, hcz33_2, hcz33_3⟩ := cz4 BK105.out; obtain ⟨hfz33_0, hfz33_1, hfz33_2, hfz33_3⟩ := fz4 BK105.out
                  go_wp2_with (first | (go_at_call 42; (with_reducible refine (impl_in.calls ((rd_T45 l0_1 x20_2).f0) 0 6 true _ A18.out).mono ?_); rintro e w' ⟨rfl, ⟨nd, rfl⟩⟩; (try first | exact ⟨rfl, _, World.drewN_drewN _ _ _⟩ | exact ⟨rfl, _, Eq.trans (World.drewN_drewN _ _ _) (congrArg (World.drewN _) (Nat.add_assoc _ _ _))⟩)) | (go_at_call 42; (with_reducible refine (impl_in.calls ((rd_T45 l0_1 x20_2).f1) 0 2 true _ A20.out).mono ?_); rintro e w' ⟨rfl, ⟨nd, rfl⟩⟩; (try first | exact ⟨rfl, _, World.drewN_drewN _ _ _⟩ | exact ⟨rfl, _, Eq.trans (World.drewN_drewN _ _ _) (congrArg (World.drewN _) (Nat.add_assoc _ _ _))⟩)) | (go_at_call 42; (with_reducible refine (impl_in.calls ((rd_T45 l0_1 x20_2).f2) 0 3 true _ A24.out).mono ?_); rintro e w' ⟨rfl, ⟨nd, rfl⟩⟩; (try first | exact ⟨rfl, _, World.drewN_drewN _ _ _⟩ | exact ⟨rfl, _, Eq.trans (World.drewN_drewN _ _ _) (congrArg (World.drewN _) (Nat.add_assoc _ _ _))⟩)))
                  repeat (go_quiet (first | (go_at_call 42; (with_reducible refine (impl_in.calls ((rd_T45 l0_1 x20_2).f0) 0 6 true _ A18.out).mono ?_); rintro e w' ⟨rfl, ⟨nd, rfl⟩⟩; (try first | exact ⟨rfl, _, World.drewN_drewN _ _ _⟩ | exact ⟨rfl, _, Eq.trans (World.drewN_drewN _ _ _) (congrArg (World.drewN _) (Nat.add_assoc _ _ _))⟩)) | (go_at_call 42; (with_reducible refine (impl_in.calls ((rd_T45 l0_1 x20_2).f1) 0 2 true _ A20.out).mono ?_); rintro e w' ⟨rfl, ⟨nd, rfl⟩⟩; (try first | exact ⟨rfl, _, World.drewN_drewN _ _ _⟩ | exact ⟨rfl, _, Eq.trans (World.drewN_drewN _ _ _) (congrArg (World.drewN _) (Nat.add_assoc _ _ _))⟩)) | (go_at_call 42; (with_reducible refine (impl_in.calls ((rd_T45 l0_1 x20_2).f2) 0 3 true _ A24.out).mono ?_); rintro e w' ⟨rfl, ⟨nd, rfl⟩⟩; (try first | exact ⟨rfl, _, World.drewN_drewN _ _ _⟩ | exact ⟨rfl, _, Eq.trans (World.drewN_drewN _ _ _) (congrArg (World.drewN _) (Nat.add_assoc _ _ _))⟩))); try go_wp2_with (first | (go_at_call 42; (with_reducible refine (impl_in.calls ((rd_T45 l0_1 x20_2).f0) 0 6 true _ A18.out).mono ?_); rintro e w' ⟨rfl, ⟨nd, rfl⟩⟩; (try first | exact ⟨rfl, _, World.drewN_drewN _ _ _⟩ | exact ⟨rfl, _, Eq.trans (World.drewN_drewN _ _ _) (congrArg (World.drewN _) (Nat.add_assoc _ _ _))⟩)) | (go_at_call 42; (with_reducible refine (impl_in.calls ((rd_T45 l0_1 x20_2).f1) 0 2 true _ A20.out).mono ?_); rintro e w' ⟨rfl, ⟨nd, rfl⟩⟩; (try first | exact ⟨rfl, _, World.drewN_drewN _ _ _⟩ | exact ⟨rfl, _, Eq.trans (World.drewN_drewN _ _ _) (congrArg (World.drewN _) (Nat.add_assoc _ _ _))⟩)) | (go_at_call 42; (with_reducible refine (impl_in.calls ((rd_T45 l0_1 x20_2).f2) 0 3 true _ A24.out).mono ?_); rintro e w' ⟨rfl, ⟨nd, rfl⟩⟩; (try first | exact ⟨rfl, _, World.drewN_drewN _ _ _⟩ | exact ⟨rfl, _, Eq.trans (World.drewN_drewN _ _ _) (congrArg (World.drewN _) (Nat.add_assoc _ _ _))⟩))))
                  go_meet
                  case rel => (try simp only [fbq30]); exact ⟨_, ((((rd_T45 l0_1 x20_2).f0) != 3)), zr, H', ⟨by have := HJ1.out; have := HK2.out; first | omega | exact Nat.le_refl _⟩, ⟨by (with_reducible repeat (first | refine blk_drewN ?_ _ | refine blk_drew ?_ | refine blk_alloc ?_ _ | refine blk_far ?_ NB101_105.out _)); exact BK101.out⟩, ⟨by (with_reducible repeat (first | refine blk_drewN ?_ _ | refine blk_drew ?_ | refine blk_alloc ?_ _)); refine blk_put (cs := #[.int .i64 ((rd_T45 l0_1 x20_2).f0), .int .i64 ((rd_T45 l0_1 x20_2).f1), .int .i64 ((rd_T45 l0_1 x20_2).f2), .bool false]) ?_ 3 _ rfl; (with_reducible repeat (first | refine blk_drewN ?_ _ | refine blk_drew ?_ | refine blk_alloc ?_ _)); refine blk_put (cs := #[.int .i64 ((rd_T45 l0_1 x20_2).f0), .int .i64 ((rd_T45 l0_1 x20_2).f1), .int .i64 0, .bool false]) ?_ 2 _ rfl; (with_reducible repeat (first | refine blk_drewN ?_ _ | refine blk_drew ?_ | refine blk_alloc ?_ _)); refine blk_put (cs := #[.int .i64 ((rd_T45 l0_1 x20_2).f0), .int .i64 0, .int .i64 0, .bool false]) ?_ 1 _ rfl; (with_reducible repeat (first | refine blk_drewN ?_ _ | refine blk_drew ?_ | refine blk_alloc ?_ _)); refine blk_put (cs := #[.int .i64 0, .int .i64 0, .int .i64 0, .bool false]) ?_ 0 _ rfl; (with_reducible repeat (first | refine blk_drewN ?_ _ | refine blk_drew ?_ | refine blk_alloc ?_ _)); exact BK105.out⟩, ⟨bs2 HB.out GE101.out GE105.out⟩⟩
                 ·
                  replace c31 := Bool.eq_false_iff.mpr c31; subst c31; have fbq30 : ((rd_T45 l0_1 x20_2).f3) = false := Nbq30.out.symm; rw [if_neg nf_] at H; have H' := Aside0.mk H; clear H; have hnb34 := NB105_101.out; have hnc34 := NB101_105.out; obtain ⟨hcz35_0, hcz35_1, hcz35_2, hcz35_3⟩ := cz4 BK105.out; obtain ⟨hfz35_0, hfz35_1, hfz35_2, hfz35_3⟩ := fz4 BK105.out
                  go_wp2_with (first | (go_at_call 42; (with_reducible refine (impl_in.calls ((rd_T45 l0_1 x20_2).f0) 0 6 true _ A18.out).mono ?_); rintro e w' ⟨rfl, ⟨nd, rfl⟩⟩; (try first | exact ⟨rfl, _, World.drewN_drewN _ _ _⟩ | exact ⟨rfl, _, Eq.trans (World.drewN_drewN _ _ _) (congrArg (World.drewN _) (Nat.add_assoc _ _ _))⟩)) | (go_at_call 42; (with_reducible refine (impl_in.calls ((rd_T45 l0_1 x20_2).f1) 0 2 true _ A20.out).mono ?_); rintro e w' ⟨rfl, ⟨nd, rfl⟩⟩; (try first | exact ⟨rfl, _, World.drewN_drewN _ _ _⟩ | exact ⟨rfl, _, Eq.trans (World.drewN_drewN _ _ _) (congrArg (World.drewN _) (Nat.add_assoc _ _ _))⟩)) | (go_at_call 42; (with_reducible refine (impl_in.calls ((rd_T45 l0_1 x20_2).f2) 0 3 true _ A24.out).mono ?_); rintro e w' ⟨rfl, ⟨nd, rfl⟩⟩; (try first | exact ⟨rfl, _, World.drewN_drewN _ _ _⟩ | exact ⟨rfl, _, Eq.trans (World.drewN_drewN _ _ _) (congrArg (World.drewN _) (Nat.add_assoc _ _ _))⟩)))
                  repeat (go_quiet (first | (go_at_call 42; (with_reducible refine (impl_in.calls ((rd_T45 l0_1 x20_2).f0) 0 6 true _ A18.out).mono ?_); rintro e w' ⟨rfl, ⟨nd, rfl⟩⟩; (try first | exact ⟨rfl, _, World.drewN_drewN _ _ _⟩ | exact ⟨rfl, _, Eq.trans (World.drewN_drewN _ _ _) (congrArg (World.drewN _) (Nat.add_assoc _ _ _))⟩)) | (go_at_call 42; (with_reducible refine (impl_in.calls ((rd_T45 l0_1 x20_2).f1) 0 2 true _ A20.out).mono ?_); rintro e w' ⟨rfl, ⟨nd, rfl⟩⟩; (try first | exact ⟨rfl, _, World.drewN_drewN _ _ _⟩ | exact ⟨rfl, _, Eq.trans (World.drewN_drewN _ _ _) (congrArg (World.drewN _) (Nat.add_assoc _ _ _))⟩)) | (go_at_call 42; (with_reducible refine (impl_in.calls ((rd_T45 l0_1 x20_2).f2) 0 3 true _ A24.out).mono ?_); rintro e w' ⟨rfl, ⟨nd, rfl⟩⟩; (try first | exact ⟨rfl, _, World.drewN_drewN _ _ _⟩ | exact ⟨rfl, _, Eq.trans (World.drewN_drewN _ _ _) (congrArg (World.drewN _) (Nat.add_assoc _ _ _))⟩))); try go_wp2_with (first | (go_at_call 42; (with_reducible refine (impl_in.calls ((rd_T45 l0_1 x20_2).f0) 0 6 true _ A18.out).mono ?_); rintro e w' ⟨rfl, ⟨nd, rfl⟩⟩; (try first | exact ⟨rfl, _, World.drewN_drewN _ _ _⟩ | exact ⟨rfl, _, Eq.trans (World.drewN_drewN _ _ _) (congrArg (World.drewN _) (Nat.add_assoc _ _ _))⟩)) | (go_at_call 42; (with_reducible refine (impl_in.calls ((rd_T45 l0_1 x20_2).f1) 0 2 true _ A20.out).mono ?_); rintro e w' ⟨rfl, ⟨nd, rfl⟩⟩; (try first | exact ⟨rfl, _, World.drewN_drewN _ _ _⟩ | exact ⟨rfl, _, Eq.trans (World.drewN_drewN _ _ _) (congrArg (World.drewN _) (Nat.add_assoc _ _ _))⟩)) | (go_at_call 42; (with_reducible refine (impl_in.calls ((rd_T45 l0_1 x20_2).f2) 0 3 true _ A24.out).mono ?_); rintro e w' ⟨rfl, ⟨nd, rfl⟩⟩; (try first | exact ⟨rfl, _, World.drewN_drewN _ _ _⟩ | exact ⟨rfl, _, Eq.trans (World.drewN_drewN _ _ _) (congrArg (World.drewN _) (Nat.add_assoc _ _ _))⟩))))
                  go_meet
                  case rel => (try simp only [fbq30]); exact ⟨_, (false), zr, H', ⟨by have := HJ1.out; have := HK2.out; first | omega | exact Nat.le_refl _⟩, ⟨by (with_reducible repeat (first | refine blk_drewN ?_ _ | refine blk_drew ?_ | refine blk_alloc ?_ _ | refine blk_far ?_ NB101_105.out _)); exact BK101.out⟩, ⟨by (with_reducible repeat (first | refine blk_drewN ?_ _ | refine blk_drew ?_ | refine blk_alloc ?_ _)); refine blk_put (cs := #[.int .i64 ((rd_T45 l0_1 x20_2).f0), .int .i64 ((rd_T45 l0_1 x20_2).f1), .int .i64 ((rd_T45 l0_1 x20_2).f2), .bool false]) ?_ 3 _ rfl; (with_reducible repeat (first | refine blk_drewN ?_ _ | refine blk_drew ?_ | refine blk_alloc ?_ _)); refine blk_put (cs := #[.int .i64 ((rd_T45 l0_1 x20_2).f0), .int .i64 ((rd_T45 l0_1 x20_2).f1), .int .i64 0, .bool false]) ?_ 2 _ rfl; (with_reducible repeat (first | refine blk_drewN ?_ _ | refine blk_drew ?_ | refine blk_alloc ?_ _)); refine blk_put (cs := #[.int .i64 ((rd_T45 l0_1 x20_2).f0), .int .i64 0, .int .i64 0, .bool false]) ?_ 1 _ rfl; (with_reducible repeat (first | refine blk_drewN ?_ _ | refine blk_drew ?_ | refine blk_alloc ?_ _)); refine blk_put (cs := #[.int .i64 0, .int .i64 0, .int .i64 0, .bool false]) ?_ 0 _ rfl; (with_reducible repeat (first | refine blk_drewN ?_ _ | refine blk_drew ?_ | refine blk_alloc ?_ _)); exact BK105.out⟩, ⟨bs2 HB.out GE101.out GE105.out⟩⟩
               ·
                rw [if_neg c26] at H; have c26b0 : decide (0 < ((rd_T45 l0_1 x20_2).f0)) = false := decide_eq_false c26; clear c26; obtain ⟨bq36, hbq36⟩ : ∃ b_ : Bool, b_ = ((rd_T45 l0_1 x20_2).f3) := ⟨_, rfl⟩
                replace H : (if bq36 = true then (impl_LockOk.j2 k2 x3_2 x20_2 l0_1 (l0_1.length : Int) x20_2 (((rd_T45 l0_1 x20_2).f0) != 3) a0_0 l0_1 l0_2 ((rd_T45 l0_1 x20_2).f0) ((rd_T45 l0_1 x20_2).f1) ((rd_T45 l0_1 x20_2).f2) true) else (impl_LockOk.j2 k2 x3_2 x20_2 l0_1 (l0_1.length : Int) x20_2 false a0_0 l0_1 l0_2 ((rd_T45 l0_1 x20_2).f0) ((rd_T45 l0_1 x20_2).f1) ((rd_T45 l0_1 x20_2).f2) false)) = some r := by rw [← hbq36] at H; exact H
                have Nbq36 := Aside0.mk hbq36; clear hbq36
                by_cases c37 : bq36 = true
                ·
                 subst c37; have fbq36 : ((rd_T45 l0_1 x20_2).f3) = true := Nbq36.out.symm; rw [if_pos rfl] at H; have H' := Aside0.mk H; clear H; have hnb38 := NB105_101.out; have hnc38 := NB101_105.out; obtain ⟨hcz39_0, hcz39_1, hcz39_2, hcz39_3⟩ := cz4 BK105.out; obtain ⟨hfz39_0, hfz39_1, hfz39_2, hfz39_3⟩ := fz4 BK105.out
                 go_wp2_with (first | (go_at_call 42; (with_reducible refine (impl_in.calls ((rd_T45 l0_1 x20_2).f0) 0 6 true _ A18.out).mono ?_); rintro e w' ⟨rfl, ⟨nd, rfl⟩⟩; (try first | exact ⟨rfl, _, World.drewN_drewN _ _ _⟩ | exact ⟨rfl, _, Eq.trans (World.drewN_drewN _ _ _) (congrArg (World.drewN _) (Nat.add_assoc _ _ _))⟩)) | (go_at_call 42; (with_reducible refine (impl_in.calls ((rd_T45 l0_1 x20_2).f1) 0 2 true _ A20.out).mono ?_); rintro e w' ⟨rfl, ⟨nd, rfl⟩⟩; (try first | exact ⟨rfl, _, World.drewN_drewN _ _ _⟩ | exact ⟨rfl, _, Eq.trans (World.drewN_drewN _ _ _) (congrArg (World.drewN _) (Nat.add_assoc _ _ _))⟩)) | (go_at_call 42; (with_reducible refine (impl_in.calls ((rd_T45 l0_1 x20_2).f2) 0 3 true _ A24.out).mono ?_); rintro e w' ⟨rfl, ⟨nd, rfl⟩⟩; (try first | exact ⟨rfl, _, World.drewN_drewN _ _ _⟩ | exact ⟨rfl, _, Eq.trans (World.drewN_drewN _ _ _) (congrArg (World.drewN _) (Nat.add_assoc _ _ _))⟩)))
                 repeat (go_quiet (first | (go_at_call 42; (with_reducible refine (impl_in.calls ((rd_T45 l0_1 x20_2).f0) 0 6 true _ A18.out).mono ?_); rintro e w' ⟨rfl, ⟨nd, rfl⟩⟩; (try first | exact ⟨rfl, _, World.drewN_drewN _ _ _⟩ | exact ⟨rfl, _, Eq.trans (World.drewN_drewN _ _ _) (congrArg (World.drewN _) (Nat.add_assoc _ _ _))⟩)) | (go_at_call 42; (with_reducible refine (impl_in.calls ((rd_T45 l0_1 x20_2).f1) 0 2 true _ A20.out).mono ?_); rintro e w' ⟨rfl, ⟨nd, rfl⟩⟩; (try first | exact ⟨rfl, _, World.drewN_drewN _ _ _⟩ | exact ⟨rfl, _, Eq.trans (World.drewN_drewN _ _ _) (congrArg (World.drewN _) (Nat.add_assoc _ _ _))⟩)) | (go_at_call 42; (with_reducible refine (impl_in.calls ((rd_T45 l0_1 x20_2).f2) 0 3 true _ A24.out).mono ?_); rintro e w' ⟨rfl, ⟨nd, rfl⟩⟩; (try first | exact ⟨rfl, _, World.drewN_drewN _ _ _⟩ | exact ⟨rfl, _, Eq.trans (World.drewN_drewN _ _ _) (congrArg (World.drewN _) (Nat.add_assoc _ _ _))⟩))); try go_wp2_with (first | (go_at_call 42; (with_reducible refine (impl_in.calls ((rd_T45 l0_1 x20_2).f0) 0 6 true _ A18.out).mono ?_); rintro e w' ⟨rfl, ⟨nd, rfl⟩⟩; (try first | exact ⟨rfl, _, World.drewN_drewN _ _ _⟩ | exact ⟨rfl, _, Eq.trans (World.drewN_drewN _ _ _) (congrArg (World.drewN _) (Nat.add_assoc _ _ _))⟩)) | (go_at_call 42; (with_reducible refine (impl_in.calls ((rd_T45 l0_1 x20_2).f1) 0 2 true _ A20.out).mono ?_); rintro e w' ⟨rfl, ⟨nd, rfl⟩⟩; (try first | exact ⟨rfl, _, World.drewN_drewN _ _ _⟩ | exact ⟨rfl, _, Eq.trans (World.drewN_drewN _ _ _) (congrArg (World.drewN _) (Nat.add_assoc _ _ _))⟩)) | (go_at_call 42; (with_reducible refine (impl_in.calls ((rd_T45 l0_1 x20_2).f2) 0 3 true _ A24.out).mono ?_); rintro e w' ⟨rfl, ⟨nd, rfl⟩⟩; (try first | exact ⟨rfl, _, World.drewN_drewN _ _ _⟩ | exact ⟨rfl, _, Eq.trans (World.drewN_drewN _ _ _) (congrArg (World.drewN _) (Nat.add_assoc _ _ _))⟩))))
                 go_meet
                 case rel => (try simp only [fbq30]); (try simp only [fbq36]); exact ⟨_, ((((rd_T45 l0_1 x20_2).f0) != 3)), zr, H', ⟨by have := HJ1.out; have := HK2.out; first | omega | exact Nat.le_refl _⟩, ⟨by (with_reducible repeat (first | refine blk_drewN ?_ _ | refine blk_drew ?_ | refine blk_alloc ?_ _ | refine blk_far ?_ NB101_105.out _)); exact BK101.out⟩, ⟨by (with_reducible repeat (first | refine blk_drewN ?_ _ | refine blk_drew ?_ | refine blk_alloc ?_ _)); refine blk_put (cs := #[.int .i64 ((rd_T45 l0_1 x20_2).f0), .int .i64 ((rd_T45 l0_1 x20_2).f1), .int .i64 ((rd_T45 l0_1 x20_2).f2), .bool false]) ?_ 3 _ rfl; (with_reducible repeat (first | refine blk_drewN ?_ _ | refine blk_drew ?_ | refine blk_alloc ?_ _)); refine blk_put (cs := #[.int .i64 ((rd_T45 l0_1 x20_2).f0), .int .i64 ((rd_T45 l0_1 x20_2).f1), .int .i64 0, .bool false]) ?_ 2 _ rfl; (with_reducible repeat (first | refine blk_drewN ?_ _ | refine blk_drew ?_ | refine blk_alloc ?_ _)); refine blk_put (cs := #[.int .i64 ((rd_T45 l0_1 x20_2).f0), .int .i64 0, .int .i64 0, .bool false]) ?_ 1 _ rfl; (with_reducible repeat (first | refine blk_drewN ?_ _ | refine blk_drew ?_ | refine blk_alloc ?_ _)); refine blk_put (cs := #[.int .i64 0, .int .i64 0, .int .i64 0, .bool false]) ?_ 0 _ rfl; (with_reducible repeat (first | refine blk_drewN ?_ _ | refine blk_drew ?_ | refine blk_alloc ?_ _)); exact BK105.out⟩, ⟨bs2 HB.out GE101.out GE105.out⟩⟩
                ·
                 replace c37 := Bool.eq_false_iff.mpr c37; subst c37; have fbq36 : ((rd_T45 l0_1 x20_2).f3) = false := Nbq36.out.symm; rw [if_neg nf_] at H; have H' := Aside0.mk H; clear H; have hnb40 := NB105_101.out; have hnc40 := NB101_105.out; obtain ⟨hcz41_0, hcz41_1, hcz41_2, hcz41_3⟩ := cz4 BK105.out; obtain ⟨hfz41_0, hfz41_1, hfz41_2, hfz41_3⟩ := fz4 BK105.out
                 go_wp2_with (first | (go_at_call 42; (with_reducible refine (impl_in.calls ((rd_T45 l0_1 x20_2).f0) 0 6 true _ A18.out).mono ?_); rintro e w' ⟨rfl, ⟨nd, rfl⟩⟩; (try first | exact ⟨rfl, _, World.drewN_drewN _ _ _⟩ | exact ⟨rfl, _, Eq.trans (World.drewN_drewN _ _ _) (congrArg (World.drewN _) (Nat.add_assoc _ _ _))⟩)) | (go_at_call 42; (with_reducible refine (impl_in.calls ((rd_T45 l0_1 x20_2).f1) 0 2 true _ A20.out).mono ?_); rintro e w' ⟨rfl, ⟨nd, rfl⟩⟩; (try first | exact ⟨rfl, _, World.drewN_drewN _ _ _⟩ | exact ⟨rfl, _, Eq.trans (World.drewN_drewN _ _ _) (congrArg (World.drewN _) (Nat.add_assoc _ _ _))⟩)) | (go_at_call 42; (with_reducible refine (impl_in.calls ((rd_T45 l0_1 x20_2).f2) 0 3 true _ A24.out).mono ?_); rintro e w' ⟨rfl, ⟨nd, rfl⟩⟩; (try first | exact ⟨rfl, _, World.drewN_drewN _ _ _⟩ | exact ⟨rfl, _, Eq.trans (World.drewN_drewN _ _ _) (congrArg (World.drewN _) (Nat.add_assoc _ _ _))⟩)))
                 repeat (go_quiet (first | (go_at_call 42; (with_reducible refine (impl_in.calls ((rd_T45 l0_1 x20_2).f0) 0 6 true _ A18.out).mono ?_); rintro e w' ⟨rfl, ⟨nd, rfl⟩⟩; (try first | exact ⟨rfl, _, World.drewN_drewN _ _ _⟩ | exact ⟨rfl, _, Eq.trans (World.drewN_drewN _ _ _) (congrArg (World.drewN _) (Nat.add_assoc _ _ _))⟩)) | (go_at_call 42; (with_reducible refine (impl_in.calls ((rd_T45 l0_1 x20_2).f1) 0 2 true _ A20.out).mono ?_); rintro e w' ⟨rfl, ⟨nd, rfl⟩⟩; (try first | exact ⟨rfl, _, World.drewN_drewN _ _ _⟩ | exact ⟨rfl, _, Eq.trans (World.drewN_drewN _ _ _) (congrArg (World.drewN _) (Nat.add_assoc _ _ _))⟩)) | (go_at_call 42; (with_reducible refine (impl_in.calls ((rd_T45 l0_1 x20_2).f2) 0 3 true _ A24.out).mono ?_); rintro e w' ⟨rfl, ⟨nd, rfl⟩⟩; (try first | exact ⟨rfl, _, World.drewN_drewN _ _ _⟩ | exact ⟨rfl, _, Eq.trans (World.drewN_drewN _ _ _) (congrArg (World.drewN _) (Nat.add_assoc _ _ _))⟩))); try go_wp2_with (first | (go_at_call 42; (with_reducible refine (impl_in.calls ((rd_T45 l0_1 x20_2).f0) 0 6 true _ A18.out).mono ?_); rintro e w' ⟨rfl, ⟨nd, rfl⟩⟩; (try first | exact ⟨rfl, _, World.drewN_drewN _ _ _⟩ | exact ⟨rfl, _, Eq.trans (World.drewN_drewN _ _ _) (congrArg (World.drewN _) (Nat.add_assoc _ _ _))⟩)) | (go_at_call 42; (with_reducible refine (impl_in.calls ((rd_T45 l0_1 x20_2).f1) 0 2 true _ A20.out).mono ?_); rintro e w' ⟨rfl, ⟨nd, rfl⟩⟩; (try first | exact ⟨rfl, _, World.drewN_drewN _ _ _⟩ | exact ⟨rfl, _, Eq.trans (World.drewN_drewN _ _ _) (congrArg (World.drewN _) (Nat.add_assoc _ _ _))⟩)) | (go_at_call 42; (with_reducible refine (impl_in.calls ((rd_T45 l0_1 x20_2).f2) 0 3 true _ A24.out).mono ?_); rintro e w' ⟨rfl, ⟨nd, rfl⟩⟩; (try first | exact ⟨rfl, _, World.drewN_drewN _ _ _⟩ | exact ⟨rfl, _, Eq.trans (World.drewN_drewN _ _ _) (congrArg (World.drewN _) (Nat.add_assoc _ _ _))⟩))))
                 go_meet
                 case rel => (try simp only [fbq30]); (try simp only [fbq36]); exact ⟨_, (false), zr, H', ⟨by have := HJ1.out; have := HK2.out; first | omega | exact Nat.le_refl _⟩, ⟨by (with_reducible repeat (first | refine blk_drewN ?_ _ | refine blk_drew ?_ | refine blk_alloc ?_ _ | refine blk_far ?_ NB101_105.out _)); exact BK101.out⟩, ⟨by (with_reducible repeat (first | refine blk_drewN ?_ _ | refine blk_drew ?_ | refine blk_alloc ?_ _)); refine blk_put (cs := #[.int .i64 ((rd_T45 l0_1 x20_2).f0), .int .i64 ((rd_T45 l0_1 x20_2).f1), .int .i64 ((rd_T45 l0_1 x20_2).f2), .bool false]) ?_ 3 _ rfl; (with_reducible repeat (first | refine blk_drewN ?_ _ | refine blk_drew ?_ | refine blk_alloc ?_ _)); refine blk_put (cs := #[.int .i64 ((rd_T45 l0_1 x20_2).f0), .int .i64 ((rd_T45 l0_1 x20_2).f1), .int .i64 0, .bool false]) ?_ 2 _ rfl; (with_reducible repeat (first | refine blk_drewN ?_ _ | refine blk_drew ?_ | refine blk_alloc ?_ _)); refine blk_put (cs := #[.int .i64 ((rd_T45 l0_1 x20_2).f0), .int .i64 0, .int .i64 0, .bool false]) ?_ 1 _ rfl; (with_reducible repeat (first | refine blk_drewN ?_ _ | refine blk_drew ?_ | refine blk_alloc ?_ _)); refine blk_put (cs := #[.int .i64 0, .int .i64 0, .int .i64 0, .bool false]) ?_ 0 _ rfl; (with_reducible repeat (first | refine blk_drewN ?_ _ | refine blk_drew ?_ | refine blk_alloc ?_ _)); exact BK105.out⟩, ⟨bs2 HB.out GE101.out GE105.out⟩⟩
              ·
               replace c25 := Bool.eq_false_iff.mpr c25; subst c25; rw [if_neg nf_] at H; have H' := Aside0.mk H; clear H; have hnb42 := NB105_101.out; have hnc42 := NB101_105.out; obtain ⟨hcz43_0, hcz43_1, hcz43_2, hcz43_3⟩ := cz4 BK105.out; obtain ⟨hfz43_0, hfz43_1, hfz43_2, hfz43_3⟩ := fz4 BK105.out
               go_wp2_with (first | (go_at_call 42; (with_reducible refine (impl_in.calls ((rd_T45 l0_1 x20_2).f0) 0 6 true _ A18.out).mono ?_); rintro e w' ⟨rfl, ⟨nd, rfl⟩⟩; (try first | exact ⟨rfl, _, World.drewN_drewN _ _ _⟩ | exact ⟨rfl, _, Eq.trans (World.drewN_drewN _ _ _) (congrArg (World.drewN _) (Nat.add_assoc _ _ _))⟩)) | (go_at_call 42; (with_reducible refine (impl_in.calls ((rd_T45 l0_1 x20_2).f1) 0 2 true _ A20.out).mono ?_); rintro e w' ⟨rfl, ⟨nd, rfl⟩⟩; (try first | exact ⟨rfl, _, World.drewN_drewN _ _ _⟩ | exact ⟨rfl, _, Eq.trans (World.drewN_drewN _ _ _) (congrArg (World.drewN _) (Nat.add_assoc _ _ _))⟩)) | (go_at_call 42; (with_reducible refine (impl_in.calls ((rd_T45 l0_1 x20_2).f2) 0 3 false _ A24.out).mono ?_); rintro e w' ⟨rfl, ⟨nd, rfl⟩⟩; (try first | exact ⟨rfl, _, World.drewN_drewN _ _ _⟩ | exact ⟨rfl, _, Eq.trans (World.drewN_drewN _ _ _) (congrArg (World.drewN _) (Nat.add_assoc _ _ _))⟩)))
               repeat (go_quiet (first | (go_at_call 42; (with_reducible refine (impl_in.calls ((rd_T45 l0_1 x20_2).f0) 0 6 true _ A18.out).mono ?_); rintro e w' ⟨rfl, ⟨nd, rfl⟩⟩; (try first | exact ⟨rfl, _, World.drewN_drewN _ _ _⟩ | exact ⟨rfl, _, Eq.trans (World.drewN_drewN _ _ _) (congrArg (World.drewN _) (Nat.add_assoc _ _ _))⟩)) | (go_at_call 42; (with_reducible refine (impl_in.calls ((rd_T45 l0_1 x20_2).f1) 0 2 true _ A20.out).mono ?_); rintro e w' ⟨rfl, ⟨nd, rfl⟩⟩; (try first | exact ⟨rfl, _, World.drewN_drewN _ _ _⟩ | exact ⟨rfl, _, Eq.trans (World.drewN_drewN _ _ _) (congrArg (World.drewN _) (Nat.add_assoc _ _ _))⟩)) | (go_at_call 42; (with_reducible refine (impl_in.calls ((rd_T45 l0_1 x20_2).f2) 0 3 false _ A24.out).mono ?_); rintro e w' ⟨rfl, ⟨nd, rfl⟩⟩; (try first | exact ⟨rfl, _, World.drewN_drewN _ _ _⟩ | exact ⟨rfl, _, Eq.trans (World.drewN_drewN _ _ _) (congrArg (World.drewN _) (Nat.add_assoc _ _ _))⟩))); try go_wp2_with (first | (go_at_call 42; (with_reducible refine (impl_in.calls ((rd_T45 l0_1 x20_2).f0) 0 6 true _ A18.out).mono ?_); rintro e w' ⟨rfl, ⟨nd, rfl⟩⟩; (try first | exact ⟨rfl, _, World.drewN_drewN _ _ _⟩ | exact ⟨rfl, _, Eq.trans (World.drewN_drewN _ _ _) (congrArg (World.drewN _) (Nat.add_assoc _ _ _))⟩)) | (go_at_call 42; (with_reducible refine (impl_in.calls ((rd_T45 l0_1 x20_2).f1) 0 2 true _ A20.out).mono ?_); rintro e w' ⟨rfl, ⟨nd, rfl⟩⟩; (try first | exact ⟨rfl, _, World.drewN_drewN _ _ _⟩ | exact ⟨rfl, _, Eq.trans (World.drewN_drewN _ _ _) (congrArg (World.drewN _) (Nat.add_assoc _ _ _))⟩)) | (go_at_call 42; (with_reducible refine (impl_in.calls ((rd_T45 l0_1 x20_2).f2) 0 3 false _ A24.out).mono ?_); rintro e w' ⟨rfl, ⟨nd, rfl⟩⟩; (try first | exact ⟨rfl, _, World.drewN_drewN _ _ _⟩ | exact ⟨rfl, _, Eq.trans (World.drewN_drewN _ _ _) (congrArg (World.drewN _) (Nat.add_assoc _ _ _))⟩))))
               go_meet
               case rel => (try simp only [fbq30]); (try simp only [fbq36]); exact ⟨_, (true), zr, H', ⟨by have := HJ1.out; have := HK2.out; first | omega | exact Nat.le_refl _⟩, ⟨by (with_reducible repeat (first | refine blk_drewN ?_ _ | refine blk_drew ?_ | refine blk_alloc ?_ _ | refine blk_far ?_ NB101_105.out _)); exact BK101.out⟩, ⟨by (with_reducible repeat (first | refine blk_drewN ?_ _ | refine blk_drew ?_ | refine blk_alloc ?_ _)); refine blk_put (cs := #[.int .i64 ((rd_T45 l0_1 x20_2).f0), .int .i64 ((rd_T45 l0_1 x20_2).f1), .int .i64 ((rd_T45 l0_1 x20_2).f2), .bool false]) ?_ 3 _ rfl; (with_reducible repeat (first | refine blk_drewN ?_ _ | refine blk_drew ?_ | refine blk_alloc ?_ _)); refine blk_put (cs := #[.int .i64 ((rd_T45 l0_1 x20_2).f0), .int .i64 ((rd_T45 l0_1 x20_2).f1), .int .i64 0, .bool false]) ?_ 2 _ rfl; (with_reducible repeat (first | refine blk_drewN ?_ _ | refine blk_drew ?_ | refine blk_alloc ?_ _)); refine blk_put (cs := #[.int .i64 ((rd_T45 l0_1 x20_2).f0), .int .i64 0, .int .i64 0, .bool false]) ?_ 1 _ rfl; (with_reducible repeat (first | refine blk_drewN ?_ _ | refine blk_drew ?_ | refine blk_alloc ?_ _)); refine blk_put (cs := #[.int .i64 0, .int .i64 0, .int .i64 0, .bool false]) ?_ 0 _ rfl; (with_reducible repeat (first | refine blk_drewN ?_ _ | refine blk_drew ?_ | refine blk_alloc ?_ _)); exact BK105.out⟩, ⟨bs2 HB.out GE101.out GE105.out⟩⟩
             ·
              rw [if_neg c23] at H; have c23b0 : (((rd_T45 l0_1 x20_2).f0) == 1) = false := beq_eq_false_iff_ne.mpr c23; have c23b1 : (((rd_T45 l0_1 x20_2).f0) != 1) = true := bne_iff_ne.mpr c23; have H' := Aside0.mk H; clear H; have hnb44 := NB105_101.out; have hnc44 := NB101_105.out; obtain ⟨hcz45_0, hcz45_1, hcz45_2, hcz45_3⟩ := cz4 BK105.out; obtain ⟨hfz45_0, hfz45_1, hfz45_2, hfz45_3⟩ := fz4 BK105.out
              go_wp2_with (first | (go_at_call 42; (with_reducible refine (impl_in.calls ((rd_T45 l0_1 x20_2).f0) 0 6 true _ A18.out).mono ?_); rintro e w' ⟨rfl, ⟨nd, rfl⟩⟩; (try first | exact ⟨rfl, _, World.drewN_drewN _ _ _⟩ | exact ⟨rfl, _, Eq.trans (World.drewN_drewN _ _ _) (congrArg (World.drewN _) (Nat.add_assoc _ _ _))⟩)) | (go_at_call 42; (with_reducible refine (impl_in.calls ((rd_T45 l0_1 x20_2).f1) 0 2 true _ A20.out).mono ?_); rintro e w' ⟨rfl, ⟨nd, rfl⟩⟩; (try first | exact ⟨rfl, _, World.drewN_drewN _ _ _⟩ | exact ⟨rfl, _, Eq.trans (World.drewN_drewN _ _ _) (congrArg (World.drewN _) (Nat.add_assoc _ _ _))⟩)))
              repeat (go_quiet (first | (go_at_call 42; (with_reducible refine (impl_in.calls ((rd_T45 l0_1 x20_2).f0) 0 6 true _ A18.out).mono ?_); rintro e w' ⟨rfl, ⟨nd, rfl⟩⟩; (try first | exact ⟨rfl, _, World.drewN_drewN _ _ _⟩ | exact ⟨rfl, _, Eq.trans (World.drewN_drewN _ _ _) (congrArg (World.drewN _) (Nat.add_assoc _ _ _))⟩)) | (go_at_call 42; (with_reducible refine (impl_in.calls ((rd_T45 l0_1 x20_2).f1) 0 2 true _ A20.out).mono ?_); rintro e w' ⟨rfl, ⟨nd, rfl⟩⟩; (try first | exact ⟨rfl, _, World.drewN_drewN _ _ _⟩ | exact ⟨rfl, _, Eq.trans (World.drewN_drewN _ _ _) (congrArg (World.drewN _) (Nat.add_assoc _ _ _))⟩))); try go_wp2_with (first | (go_at_call 42; (with_reducible refine (impl_in.calls ((rd_T45 l0_1 x20_2).f0) 0 6 true _ A18.out).mono ?_); rintro e w' ⟨rfl, ⟨nd, rfl⟩⟩; (try first | exact ⟨rfl, _, World.drewN_drewN _ _ _⟩ | exact ⟨rfl, _, Eq.trans (World.drewN_drewN _ _ _) (congrArg (World.drewN _) (Nat.add_assoc _ _ _))⟩)) | (go_at_call 42; (with_reducible refine (impl_in.calls ((rd_T45 l0_1 x20_2).f1) 0 2 true _ A20.out).mono ?_); rintro e w' ⟨rfl, ⟨nd, rfl⟩⟩; (try first | exact ⟨rfl, _, World.drewN_drewN _ _ _⟩ | exact ⟨rfl, _, Eq.trans (World.drewN_drewN _ _ _) (congrArg (World.drewN _) (Nat.add_assoc _ _ _))⟩))))
              go_meet
              case rel => (try simp only [fbq30]); (try simp only [fbq36]); exact ⟨_, (true), zr, H', ⟨by have := HJ1.out; have := HK2.out; first | omega | exact Nat.le_refl _⟩, ⟨by (with_reducible repeat (first | refine blk_drewN ?_ _ | refine blk_drew ?_ | refine blk_alloc ?_ _ | refine blk_far ?_ NB101_105.out _)); exact BK101.out⟩, ⟨by (with_reducible repeat (first | refine blk_drewN ?_ _ | refine blk_drew ?_ | refine blk_alloc ?_ _)); refine blk_put (cs := #[.int .i64 ((rd_T45 l0_1 x20_2).f0), .int .i64 ((rd_T45 l0_1 x20_2).f1), .int .i64 ((rd_T45 l0_1 x20_2).f2), .bool false]) ?_ 3 _ rfl; (with_reducible repeat (first | refine blk_drewN ?_ _ | refine blk_drew ?_ | refine blk_alloc ?_ _)); refine blk_put (cs := #[.int .i64 ((rd_T45 l0_1 x20_2).f0), .int .i64 ((rd_T45 l0_1 x20_2).f1), .int .i64 0, .bool false]) ?_ 2 _ rfl; (with_reducible repeat (first | refine blk_drewN ?_ _ | refine blk_drew ?_ | refine blk_alloc ?_ _)); refine blk_put (cs := #[.int .i64 ((rd_T45 l0_1 x20_2).f0), .int .i64 0, .int .i64 0, .bool false]) ?_ 1 _ rfl; (with_reducible repeat (first | refine blk_drewN ?_ _ | refine blk_drew ?_ | refine blk_alloc ?_ _)); refine blk_put (cs := #[.int .i64 0, .int .i64 0, .int .i64 0, .bool false]) ?_ 0 _ rfl; (with_reducible repeat (first | refine blk_drewN ?_ _ | refine blk_drew ?_ | refine blk_alloc ?_ _)); exact BK105.out⟩, ⟨bs2 HB.out GE101.out GE105.out⟩⟩
            ·
             rw [if_neg c22] at H; have c22b0 : decide (0 < ((rd_T45 l0_1 x20_2).f1)) = false := decide_eq_false c22; clear c22
             (first | rw [c22b0] | (simp only [i64_w, i32_w]; rw [c22b0]) | skip)
             replace H := Option.bind_eq_some_iff.mp H; obtain ⟨t109, A460, H⟩ := H; have A46 := Aside0.mk A460; clear A460
             by_cases c47 : t109 = true
             ·
              subst c47; rw [if_pos rfl] at H
              by_cases c48 : ((rd_T45 l0_1 x20_2).f0) > 0
              ·
               rw [if_pos c48] at H; have c48b0 : decide (0 < ((rd_T45 l0_1 x20_2).f0)) = true := decide_eq_true c48; clear c48
               by_cases c49 : ((rd_T45 l0_1 x20_2).f2) = 0
               ·
                rw [if_pos c49] at H; have c49b0 : (((rd_T45 l0_1 x20_2).f2) == 0) = true := beq_iff_eq.mpr c49; have c49b1 : (((rd_T45 l0_1 x20_2).f2) != 0) = false := bne_eq_false_iff_eq.mpr c49; clear c49; have H' := Aside0.mk H; clear H; have hnb50 := NB105_101.out; have hnc50 := NB101_105.out; obtain ⟨hcz51_0, hcz51_1, hcz51_2, hcz51_3⟩ := cz4 BK105.out; obtain ⟨hfz51_0, hfz51_1, hfz51_2, hfz51_3⟩ := fz4 BK105.out
                go_wp2_with (first | (go_at_call 42; (with_reducible refine (impl_in.calls ((rd_T45 l0_1 x20_2).f0) 0 6 true _ A18.out).mono ?_); rintro e w' ⟨rfl, ⟨nd, rfl⟩⟩; (try first | exact ⟨rfl, _, World.drewN_drewN _ _ _⟩ | exact ⟨rfl, _, Eq.trans (World.drewN_drewN _ _ _) (congrArg (World.drewN _) (Nat.add_assoc _ _ _))⟩)) | (go_at_call 42; (with_reducible refine (impl_in.calls ((rd_T45 l0_1 x20_2).f1) 0 2 true _ A20.out).mono ?_); rintro e w' ⟨rfl, ⟨nd, rfl⟩⟩; (try first | exact ⟨rfl, _, World.drewN_drewN _ _ _⟩ | exact ⟨rfl, _, Eq.trans (World.drewN_drewN _ _ _) (congrArg (World.drewN _) (Nat.add_assoc _ _ _))⟩)) | (go_at_call 42; (with_reducible refine (impl_in.calls ((rd_T45 l0_1 x20_2).f2) 0 3 true _ A46.out).mono ?_); rintro e w' ⟨rfl, ⟨nd, rfl⟩⟩; (try first | exact ⟨rfl, _, World.drewN_drewN _ _ _⟩ | exact ⟨rfl, _, Eq.trans (World.drewN_drewN _ _ _) (congrArg (World.drewN _) (Nat.add_assoc _ _ _))⟩)))
                repeat (go_quiet (first | (go_at_call 42; (with_reducible refine (impl_in.calls ((rd_T45 l0_1 x20_2).f0) 0 6 true _ A18.out).mono ?_); rintro e w' ⟨rfl, ⟨nd, rfl⟩⟩; (try first | exact ⟨rfl, _, World.drewN_drewN _ _ _⟩ | exact ⟨rfl, _, Eq.trans (World.drewN_drewN _ _ _) (congrArg (World.drewN _) (Nat.add_assoc _ _ _))⟩)) | (go_at_call 42; (with_reducible refine (impl_in.calls ((rd_T45 l0_1 x20_2).f1) 0 2 true _ A20.out).mono ?_); rintro e w' ⟨rfl, ⟨nd, rfl⟩⟩; (try first | exact ⟨rfl, _, World.drewN_drewN _ _ _⟩ | exact ⟨rfl, _, Eq.trans (World.drewN_drewN _ _ _) (congrArg (World.drewN _) (Nat.add_assoc _ _ _))⟩)) | (go_at_call 42; (with_reducible refine (impl_in.calls ((rd_T45 l0_1 x20_2).f2) 0 3 true _ A46.out).mono ?_); rintro e w' ⟨rfl, ⟨nd, rfl⟩⟩; (try first | exact ⟨rfl, _, World.drewN_drewN _ _ _⟩ | exact ⟨rfl, _, Eq.trans (World.drewN_drewN _ _ _) (congrArg (World.drewN _) (Nat.add_assoc _ _ _))⟩))); try go_wp2_with (first | (go_at_call 42; (with_reducible refine (impl_in.calls ((rd_T45 l0_1 x20_2).f0) 0 6 true _ A18.out).mono ?_); rintro e w' ⟨rfl, ⟨nd, rfl⟩⟩; (try first | exact ⟨rfl, _, World.drewN_drewN _ _ _⟩ | exact ⟨rfl, _, Eq.trans (World.drewN_drewN _ _ _) (congrArg (World.drewN _) (Nat.add_assoc _ _ _))⟩)) | (go_at_call 42; (with_reducible refine (impl_in.calls ((rd_T45 l0_1 x20_2).f1) 0 2 true _ A20.out).mono ?_); rintro e w' ⟨rfl, ⟨nd, rfl⟩⟩; (try first | exact ⟨rfl, _, World.drewN_drewN _ _ _⟩ | exact ⟨rfl, _, Eq.trans (World.drewN_drewN _ _ _) (congrArg (World.drewN _) (Nat.add_assoc _ _ _))⟩)) | (go_at_call 42; (with_reducible refine (impl_in.calls ((rd_T45 l0_1 x20_2).f2) 0 3 true _ A46.out).mono ?_); rintro e w' ⟨rfl, ⟨nd, rfl⟩⟩; (try first | exact ⟨rfl, _, World.drewN_drewN _ _ _⟩ | exact ⟨rfl, _, Eq.trans (World.drewN_drewN _ _ _) (congrArg (World.drewN _) (Nat.add_assoc _ _ _))⟩))))
                go_meet
                case rel => (try simp only [fbq30]); (try simp only [fbq36]); exact ⟨_, (true), zr, H', ⟨by have := HJ1.out; have := HK2.out; first | omega | exact Nat.le_refl _⟩, ⟨by (with_reducible repeat (first | refine blk_drewN ?_ _ | refine blk_drew ?_ | refine blk_alloc ?_ _ | refine blk_far ?_ NB101_105.out _)); exact BK101.out⟩, ⟨by (with_reducible repeat (first | refine blk_drewN ?_ _ | refine blk_drew ?_ | refine blk_alloc ?_ _)); refine blk_put (cs := #[.int .i64 ((rd_T45 l0_1 x20_2).f0), .int .i64 ((rd_T45 l0_1 x20_2).f1), .int .i64 ((rd_T45 l0_1 x20_2).f2), .bool false]) ?_ 3 _ rfl; (with_reducible repeat (first | refine blk_drewN ?_ _ | refine blk_drew ?_ | refine blk_alloc ?_ _)); refine blk_put (cs := #[.int .i64 ((rd_T45 l0_1 x20_2).f0), .int .i64 ((rd_T45 l0_1 x20_2).f1), .int .i64 0, .bool false]) ?_ 2 _ rfl; (with_reducible repeat (first | refine blk_drewN ?_ _ | refine blk_drew ?_ | refine blk_alloc ?_ _)); refine blk_put (cs := #[.int .i64 ((rd_T45 l0_1 x20_2).f0), .int .i64 0, .int .i64 0, .bool false]) ?_ 1 _ rfl; (with_reducible repeat (first | refine blk_drewN ?_ _ | refine blk_drew ?_ | refine blk_alloc ?_ _)); refine blk_put (cs := #[.int .i64 0, .int .i64 0, .int .i64 0, .bool false]) ?_ 0 _ rfl; (with_reducible repeat (first | refine blk_drewN ?_ _ | refine blk_drew ?_ | refine blk_alloc ?_ _)); exact BK105.out⟩, ⟨bs2 HB.out GE101.out GE105.out⟩⟩
               ·
                rw [if_neg c49] at H; have c49b0 : (((rd_T45 l0_1 x20_2).f2) == 0) = false := beq_eq_false_iff_ne.mpr c49; have c49b1 : (((rd_T45 l0_1 x20_2).f2) != 0) = true := bne_iff_ne.mpr c49; obtain ⟨bq52, hbq52⟩ : ∃ b_ : Bool, b_ = ((rd_T45 l0_1 x20_2).f3) := ⟨_, rfl⟩
                replace H : (if bq52 = true then (impl_LockOk.j2 k2 x3_2 x20_2 l0_1 (l0_1.length : Int) x20_2 (((rd_T45 l0_1 x20_2).f0) != 3) a0_0 l0_1 l0_2 ((rd_T45 l0_1 x20_2).f0) ((rd_T45 l0_1 x20_2).f1) ((rd_T45 l0_1 x20_2).f2) true) else (impl_LockOk.j2 k2 x3_2 x20_2 l0_1 (l0_1.length : Int) x20_2 false a0_0 l0_1 l0_2 ((rd_T45 l0_1 x20_2).f0) ((rd_T45 l0_1 x20_2).f1) ((rd_T45 l0_1 x20_2).f2) false)) = some r := by rw [← hbq52] at H; exact H
                have Nbq52 := Aside0.mk hbq52; clear hbq52
                by_cases c53 : bq52 = true
                ·
                 subst c53; have fbq52 : ((rd_T45 l0_1 x20_2).f3) = true := Nbq52.out.symm; rw [if_pos rfl] at H; have H' := Aside0.mk H; clear H; have hnb54 := NB105_101.out; have hnc54 := NB101_105.out; obtain ⟨hcz55_0, hcz55_1, hcz55_2, hcz55_3⟩ := cz4 BK105.out; obtain ⟨hfz55_0, hfz55_1, hfz55_2, hfz55_3⟩ := fz4 BK105.out
                 go_wp2_with (first | (go_at_call 42; (with_reducible refine (impl_in.calls ((rd_T45 l0_1 x20_2).f0) 0 6 true _ A18.out).mono ?_); rintro e w' ⟨rfl, ⟨nd, rfl⟩⟩; (try first | exact ⟨rfl, _, World.drewN_drewN _ _ _⟩ | exact ⟨rfl, _, Eq.trans (World.drewN_drewN _ _ _) (congrArg (World.drewN _) (Nat.add_assoc _ _ _))⟩)) | (go_at_call 42; (with_reducible refine (impl_in.calls ((rd_T45 l0_1 x20_2).f1) 0 2 true _ A20.out).mono ?_); rintro e w' ⟨rfl, ⟨nd, rfl⟩⟩; (try first | exact ⟨rfl, _, World.drewN_drewN _ _ _⟩ | exact ⟨rfl, _, Eq.trans (World.drewN_drewN _ _ _) (congrArg (World.drewN _) (Nat.add_assoc _ _ _))⟩)) | (go_at_call 42; (with_reducible refine (impl_in.calls ((rd_T45 l0_1 x20_2).f2) 0 3 true _ A46.out).mono ?_); rintro e w' ⟨rfl, ⟨nd, rfl⟩⟩; (try first | exact ⟨rfl, _, World.drewN_drewN _ _ _⟩ | exact ⟨rfl, _, Eq.trans (World.drewN_drewN _ _ _) (congrArg (World.drewN _) (Nat.add_assoc _ _ _))⟩)))
                 repeat (go_quiet (first | (go_at_call 42; (with_reducible refine (impl_in.calls ((rd_T45 l0_1 x20_2).f0) 0 6 true _ A18.out).mono ?_); rintro e w' ⟨rfl, ⟨nd, rfl⟩⟩; (try first | exact ⟨rfl, _, World.drewN_drewN _ _ _⟩ | exact ⟨rfl, _, Eq.trans (World.drewN_drewN _ _ _) (congrArg (World.drewN _) (Nat.add_assoc _ _ _))⟩)) | (go_at_call 42; (with_reducible refine (impl_in.calls ((rd_T45 l0_1 x20_2).f1) 0 2 true _ A20.out).mono ?_); rintro e w' ⟨rfl, ⟨nd, rfl⟩⟩; (try first | exact ⟨rfl, _, World.drewN_drewN _ _ _⟩ | exact ⟨rfl, _, Eq.trans (World.drewN_drewN _ _ _) (congrArg (World.drewN _) (Nat.add_assoc _ _ _))⟩)) | (go_at_call 42; (with_reducible refine (impl_in.calls ((rd_T45 l0_1 x20_2).f2) 0 3 true _ A46.out).mono ?_); rintro e w' ⟨rfl, ⟨nd, rfl⟩⟩; (try first | exact ⟨rfl, _, World.drewN_drewN _ _ _⟩ | exact ⟨rfl, _, Eq.trans (World.drewN_drewN _ _ _) (congrArg (World.drewN _) (Nat.add_assoc _ _ _))⟩))); try go_wp2_with (first | (go_at_call 42; (with_reducible refine (impl_in.calls ((rd_T45 l0_1 x20_2).f0) 0 6 true _ A18.out).mono ?_); rintro e w' ⟨rfl, ⟨nd, rfl⟩⟩; (try first | exact ⟨rfl, _, World.drewN_drewN _ _ _⟩ | exact ⟨rfl, _, Eq.trans (World.drewN_drewN _ _ _) (congrArg (World.drewN _) (Nat.add_assoc _ _ _))⟩)) | (go_at_call 42; (with_reducible refine (impl_in.calls ((rd_T45 l0_1 x20_2).f1) 0 2 true _ A20.out).mono ?_); rintro e w' ⟨rfl, ⟨nd, rfl⟩⟩; (try first | exact ⟨rfl, _, World.drewN_drewN _ _ _⟩ | exact ⟨rfl, _, Eq.trans (World.drewN_drewN _ _ _) (congrArg (World.drewN _) (Nat.add_assoc _ _ _))⟩)) | (go_at_call 42; (with_reducible refine (impl_in.calls ((rd_T45 l0_1 x20_2).f2) 0 3 true _ A46.out).mono ?_); rintro e w' ⟨rfl, ⟨nd, rfl⟩⟩; (try first | exact ⟨rfl, _, World.drewN_drewN _ _ _⟩ | exact ⟨rfl, _, Eq.trans (World.drewN_drewN _ _ _) (congrArg (World.drewN _) (Nat.add_assoc _ _ _))⟩))))
                 go_meet
                 case rel => (try simp only [fbq30]); (try simp only [fbq36]); (try simp only [fbq52]); exact ⟨_, ((((rd_T45 l0_1 x20_2).f0) != 3)), zr, H', ⟨by have := HJ1.out; have := HK2.out; first | omega | exact Nat.le_refl _⟩, ⟨by (with_reducible repeat (first | refine blk_drewN ?_ _ | refine blk_drew ?_ | refine blk_alloc ?_ _ | refine blk_far ?_ NB101_105.out _)); exact BK101.out⟩, ⟨by (with_reducible repeat (first | refine blk_drewN ?_ _ | refine blk_drew ?_ | refine blk_alloc ?_ _)); refine blk_put (cs := #[.int .i64 ((rd_T45 l0_1 x20_2).f0), .int .i64 ((rd_T45 l0_1 x20_2).f1), .int .i64 ((rd_T45 l0_1 x20_2).f2), .bool false]) ?_ 3 _ rfl; (with_reducible repeat (first | refine blk_drewN ?_ _ | refine blk_drew ?_ | refine blk_alloc ?_ _)); refine blk_put (cs := #[.int .i64 ((rd_T45 l0_1 x20_2).f0), .int .i64 ((rd_T45 l0_1 x20_2).f1), .int .i64 0, .bool false]) ?_ 2 _ rfl; (with_reducible repeat (first | refine blk_drewN ?_ _ | refine blk_drew ?_ | refine blk_alloc ?_ _)); refine blk_put (cs := #[.int .i64 ((rd_T45 l0_1 x20_2).f0), .int .i64 0, .int .i64 0, .bool false]) ?_ 1 _ rfl; (with_reducible repeat (first | refine blk_drewN ?_ _ | refine blk_drew ?_ | refine blk_alloc ?_ _)); refine blk_put (cs := #[.int .i64 0, .int .i64 0, .int .i64 0, .bool false]) ?_ 0 _ rfl; (with_reducible repeat (first | refine blk_drewN ?_ _ | refine blk_drew ?_ | refine blk_alloc ?_ _)); exact BK105.out⟩, ⟨bs2 HB.out GE101.out GE105.out⟩⟩
                ·
                 replace c53 := Bool.eq_false_iff.mpr c53; subst c53; have fbq52 : ((rd_T45 l0_1 x20_2).f3) = false := Nbq52.out.symm; rw [if_neg nf_] at H; have H' := Aside0.mk H; clear H; have hnb56 := NB105_101.out; have hnc56 := NB101_105.out; obtain ⟨hcz57_0, hcz57_1, hcz57_2, hcz57_3⟩ := cz4 BK105.out; obtain ⟨hfz57_0, hfz57_1, hfz57_2, hfz57_3⟩ := fz4 BK105.out
                 go_wp2_with (first | (go_at_call 42; (with_reducible refine (impl_in.calls ((rd_T45 l0_1 x20_2).f0) 0 6 true _ A18.out).mono ?_); rintro e w' ⟨rfl, ⟨nd, rfl⟩⟩; (try first | exact ⟨rfl, _, World.drewN_drewN _ _ _⟩ | exact ⟨rfl, _, Eq.trans (World.drewN_drewN _ _ _) (congrArg (World.drewN _) (Nat.add_assoc _ _ _))⟩)) | (go_at_call 42; (with_reducible refine (impl_in.calls ((rd_T45 l0_1 x20_2).f1) 0 2 true _ A20.out).mono ?_); rintro e w' ⟨rfl, ⟨nd, rfl⟩⟩; (try first | exact ⟨rfl, _, World.drewN_drewN _ _ _⟩ | exact ⟨rfl, _, Eq.trans (World.drewN_drewN _ _ _) (congrArg (World.drewN _) (Nat.add_assoc _ _ _))⟩)) | (go_at_call 42; (with_reducible refine (impl_in.calls ((rd_T45 l0_1 x20_2).f2) 0 3 true _ A46.out).mono ?_); rintro e w' ⟨rfl, ⟨nd, rfl⟩⟩; (try first | exact ⟨rfl, _, World.drewN_drewN _ _ _⟩ | exact ⟨rfl, _, Eq.trans (World.drewN_drewN _ _ _) (congrArg (World.drewN _) (Nat.add_assoc _ _ _))⟩)))
                 repeat (go_quiet (first | (go_at_call 42; (with_reducible refine (impl_in.calls ((rd_T45 l0_1 x20_2).f0) 0 6 true _ A18.out).mono ?_); rintro e w' ⟨rfl, ⟨nd, rfl⟩⟩; (try first | exact ⟨rfl, _, World.drewN_drewN _ _ _⟩ | exact ⟨rfl, _, Eq.trans (World.drewN_drewN _ _ _) (congrArg (World.drewN _) (Nat.add_assoc _ _ _))⟩)) | (go_at_call 42; (with_reducible refine (impl_in.calls ((rd_T45 l0_1 x20_2).f1) 0 2 true _ A20.out).mono ?_); rintro e w' ⟨rfl, ⟨nd, rfl⟩⟩; (try first | exact ⟨rfl, _, World.drewN_drewN _ _ _⟩ | exact ⟨rfl, _, Eq.trans (World.drewN_drewN _ _ _) (congrArg (World.drewN _) (Nat.add_assoc _ _ _))⟩)) | (go_at_call 42; (with_reducible refine (impl_in.calls ((rd_T45 l0_1 x20_2).f2) 0 3 true _ A46.out).mono ?_); rintro e w' ⟨rfl, ⟨nd, rfl⟩⟩; (try first | exact ⟨rfl, _, World.drewN_drewN _ _ _⟩ | exact ⟨rfl, _, Eq.trans (World.drewN_drewN _ _ _) (congrArg (World.drewN _) (Nat.add_assoc _ _ _))⟩))); try go_wp2_with (first | (go_at_call 42; (with_reducible refine (impl_in.calls ((rd_T45 l0_1 x20_2).f0) 0 6 true _ A18.out).mono ?_); rintro e w' ⟨rfl, ⟨nd, rfl⟩⟩; (try first | exact ⟨rfl, _, World.drewN_drewN _ _ _⟩ | exact ⟨rfl, _, Eq.trans (World.drewN_drewN _ _ _) (congrArg (World.drewN _) (Nat.add_assoc _ _ _))⟩)) | (go_at_call 42; (with_reducible refine (impl_in.calls ((rd_T45 l0_1 x20_2).f1) 0 2 true _ A20.out).mono ?_); rintro e w' ⟨rfl, ⟨nd, rfl⟩⟩; (try first | exact ⟨rfl, _, World.drewN_drewN _ _ _⟩ | exact ⟨rfl, _, Eq.trans (World.drewN_drewN _ _ _) (congrArg (World.drewN _) (Nat.add_assoc _ _ _))⟩)) | (go_at_call 42; (with_reducible refine (impl_in.calls ((rd_T45 l0_1 x20_2).f2) 0 3 true _ A46.out).mono ?_); rintro e w' ⟨rfl, ⟨nd, rfl⟩⟩; (try first | exact ⟨rfl, _, World.drewN_drewN _ _ _⟩ | exact ⟨rfl, _, Eq.trans (World.drewN_drewN _ _ _) (congrArg (World.drewN _) (Nat.add_assoc _ _ _))⟩))))
                 go_meet
                 case rel => (try simp only [fbq30]); (try simp only [fbq36]); (try simp only [fbq52]); exact ⟨_, (false), zr, H', ⟨by have := HJ1.out; have := HK2.out; first | omega | exact Nat.le_refl _⟩, ⟨by (with_reducible repeat (first | refine blk_drewN ?_ _ | refine blk_drew ?_ | refine blk_alloc ?_ _ | refine blk_far ?_ NB101_105.out _)); exact BK101.out⟩, ⟨by (with_reducible repeat (first | refine blk_drewN ?_ _ | refine blk_drew ?_ | refine blk_alloc ?_ _)); refine blk_put (cs := #[.int .i64 ((rd_T45 l0_1 x20_2).f0), .int .i64 ((rd_T45 l0_1 x20_2).f1), .int .i64 ((rd_T45 l0_1 x20_2).f2), .bool false]) ?_ 3 _ rfl; (with_reducible repeat (first | refine blk_drewN ?_ _ | refine blk_drew ?_ | refine blk_alloc ?_ _)); refine blk_put (cs := #[.int .i64 ((rd_T45 l0_1 x20_2).f0), .int .i64 ((rd_T45 l0_1 x20_2).f1), .int .i64 0, .bool false]) ?_ 2 _ rfl; (with_reducible repeat (first | refine blk_drewN ?_ _ | refine blk_drew ?_ | refine blk_alloc ?_ _)); refine blk_put (cs := #[.int .i64 ((rd_T45 l0_1 x20_2).f0), .int .i64 0, .int .i64 0, .bool false]) ?_ 1 _ rfl; (with_reducible repeat (first | refine blk_drewN ?_ _ | refine blk_drew ?_ | refine blk_alloc ?_ _)); refine blk_put (cs := #[.int .i64 0, .int .i64 0, .int .i64 0, .bool false]) ?_ 0 _ rfl; (with_reducible repeat (first | refine blk_drewN ?_ _ | refine blk_drew ?_ | refine blk_alloc ?_ _)); exact BK105.out⟩, ⟨bs2 HB.out GE101.out GE105.out⟩⟩
              ·
               rw [if_neg c48] at H; have c48b0 : decide (0 < ((rd_T45 l0_1 x20_2).f0)) = false := decide_eq_false c48; clear c48; obtain ⟨bq58, hbq58⟩ : ∃ b_ : Bool, b_ = ((rd_T45 l0_1 x20_2).f3) := ⟨_, rfl⟩
               replace H : (if bq58 = true then (impl_LockOk.j2 k2 x3_2 x20_2 l0_1 (l0_1.length : Int) x20_2 (((rd_T45 l0_1 x20_2).f0) != 3) a0_0 l0_1 l0_2 ((rd_T45 l0_1 x20_2).f0) ((rd_T45 l0_1 x20_2).f1) ((rd_T45 l0_1 x20_2).f2) true) else (impl_LockOk.j2 k2 x3_2 x20_2 l0_1 (l0_1.length : Int) x20_2 false a0_0 l0_1 l0_2 ((rd_T45 l0_1 x20_2).f0) ((rd_T45 l0_1 x20_2).f1) ((rd_T45 l0_1 x20_2).f2) false)) = some r := by rw [← hbq58] at H; exact H
               have Nbq58 := Aside0.mk hbq58; clear hbq58
               by_cases c59 : bq58 = true
               ·
                subst c59; have fbq58 : ((rd_T45 l0_1 x20_2).f3) = true := Nbq58.out.symm; rw [if_pos rfl] at H; have H' := Aside0.mk H; clear H; have hnb60 := NB105_101.out; have hnc60 := NB101_105.out; obtain ⟨hcz61_0, hcz61_1, hcz61_2, hcz61_3⟩ := cz4 BK105.out; obtain ⟨hfz61_0, hfz61_1, hfz61_2, hfz61_3⟩ := fz4 BK105.out
                go_wp2_with (first | (go_at_call 42; (with_reducible refine (impl_in.calls ((rd_T45 l0_1 x20_2).f0) 0 6 true _ A18.out).mono ?_); rintro e w' ⟨rfl, ⟨nd, rfl⟩⟩; (try first | exact ⟨rfl, _, World.drewN_drewN _ _ _⟩ | exact ⟨rfl, _, Eq.trans (World.drewN_drewN _ _ _) (congrArg (World.drewN _) (Nat.add_assoc _ _ _))⟩)) | (go_at_call 42; (with_reducible refine (impl_in.calls ((rd_T45 l0_1 x20_2).f1) 0 2 true _ A20.out).mono ?_); rintro e w' ⟨rfl, ⟨nd, rfl⟩⟩; (try first | exact ⟨rfl, _, World.drewN_drewN _ _ _⟩ | exact ⟨rfl, _, Eq.trans (World.drewN_drewN _ _ _) (congrArg (World.drewN _) (Nat.add_assoc _ _ _))⟩)) | (go_at_call 42; (with_reducible refine (impl_in.calls ((rd_T45 l0_1 x20_2).f2) 0 3 true _ A46.out).mono ?_); rintro e w' ⟨rfl, ⟨nd, rfl⟩⟩; (try first | exact ⟨rfl, _, World.drewN_drewN _ _ _⟩ | exact ⟨rfl, _, Eq.trans (World.drewN_drewN _ _ _) (congrArg (World.drewN _) (Nat.add_assoc _ _ _))⟩)))
                repeat (go_quiet (first | (go_at_call 42; (with_reducible refine (impl_in.calls ((rd_T45 l0_1 x20_2).f0) 0 6 true _ A18.out).mono ?_); rintro e w' ⟨rfl, ⟨nd, rfl⟩⟩; (try first | exact ⟨rfl, _, World.drewN_drewN _ _ _⟩ | exact ⟨rfl, _, Eq.trans (World.drewN_drewN _ _ _) (congrArg (World.drewN _) (Nat.add_assoc _ _ _))⟩)) | (go_at_call 42; (with_reducible refine (impl_in.calls ((rd_T45 l0_1 x20_2).f1) 0 2 true _ A20.out).mono ?_); rintro e w' ⟨rfl, ⟨nd, rfl⟩⟩; (try first | exact ⟨rfl, _, World.drewN_drewN _ _ _⟩ | exact ⟨rfl, _, Eq.trans (World.drewN_drewN _ _ _) (congrArg (World.drewN _) (Nat.add_assoc _ _ _))⟩)) | (go_at_call 42; (with_reducible refine (impl_in.calls ((rd_T45 l0_1 x20_2).f2) 0 3 true _ A46.out).mono ?_); rintro e w' ⟨rfl, ⟨nd, rfl⟩⟩; (try first | exact ⟨rfl, _, World.drewN_drewN _ _ _⟩ | exact ⟨rfl, _, Eq.trans (World.drewN_drewN _ _ _) (congrArg (World.drewN _) (Nat.add_assoc _ _ _))⟩))); try go_wp2_with (first | (go_at_call 42; (with_reducible refine (impl_in.calls ((rd_T45 l0_1 x20_2).f0) 0 6 true _ A18.out).mono ?_); rintro e w' ⟨rfl, ⟨nd, rfl⟩⟩; (try first | exact ⟨rfl, _, World.drewN_drewN _ _ _⟩ | exact ⟨rfl, _, Eq.trans (World.drewN_drewN _ _ _) (congrArg (World.drewN _) (Nat.add_assoc _ _ _))⟩)) | (go_at_call 42; (with_reducible refine (impl_in.calls ((rd_T45 l0_1 x20_2).f1) 0 2 true _ A20.out).mono ?_); rintro e w' ⟨rfl, ⟨nd, rfl⟩⟩; (try first | exact ⟨rfl, _, World.drewN_drewN _ _ _⟩ | exact ⟨rfl, _, Eq.trans (World.drewN_drewN _ _ _) (congrArg (World.drewN _) (Nat.add_assoc _ _ _))⟩)) | (go_at_call 42; (with_reducible refine (impl_in.calls ((rd_T45 l0_1 x20_2).f2) 0 3 true _ A46.out).mono ?_); rintro e w' ⟨rfl, ⟨nd, rfl⟩⟩; (try first | exact ⟨rfl, _, World.drewN_drewN _ _ _⟩ | exact ⟨rfl, _, Eq.trans (World.drewN_drewN _ _ _) (congrArg (World.drewN _) (Nat.add_assoc _ _ _))⟩))))
                go_meet
                case rel => (try simp only [fbq30]); (try simp only [fbq36]); (try simp only [fbq52]); (try simp only [fbq58]); exact ⟨_, ((((rd_T45 l0_1 x20_2).f0) != 3)), zr, H', ⟨by have := HJ1.out; have := HK2.out; first | omega | exact Nat.le_refl _⟩, ⟨by (with_reducible repeat (first | refine blk_drewN ?_ _ | refine blk_drew ?_ | refine blk_alloc ?_ _ | refine blk_far ?_ NB101_105.out _)); exact BK101.out⟩, ⟨by (with_reducible repeat (first | refine blk_drewN ?_ _ | refine blk_drew ?_ | refine blk_alloc ?_ _)); refine blk_put (cs := #[.int .i64 ((rd_T45 l0_1 x20_2).f0), .int .i64 ((rd_T45 l0_1 x20_2).f1), .int .i64 ((rd_T45 l0_1 x20_2).f2), .bool false]) ?_ 3 _ rfl; (with_reducible repeat (first | refine blk_drewN ?_ _ | refine blk_drew ?_ | refine blk_alloc ?_ _)); refine blk_put (cs := #[.int .i64 ((rd_T45 l0_1 x20_2).f0), .int .i64 ((rd_T45 l0_1 x20_2).f1), .int .i64 0, .bool false]) ?_ 2 _ rfl; (with_reducible repeat (first | refine blk_drewN ?_ _ | refine blk_drew ?_ | refine blk_alloc ?_ _)); refine blk_put (cs := #[.int .i64 ((rd_T45 l0_1 x20_2).f0), .int .i64 0, .int .i64 0, .bool false]) ?_ 1 _ rfl; (with_reducible repeat (first | refine blk_drewN ?_ _ | refine blk_drew ?_ | refine blk_alloc ?_ _)); refine blk_put (cs := #[.int .i64 0, .int .i64 0, .int .i64 0, .bool false]) ?_ 0 _ rfl; (with_reducible repeat (first | refine blk_drewN ?_ _ | refine blk_drew ?_ | refine blk_alloc ?_ _)); exact BK105.out⟩, ⟨bs2 HB.out GE101.out GE105.out⟩⟩
               ·
                replace c59 := Bool.eq_false_iff.mpr c59; subst c59; have fbq58 : ((rd_T45 l0_1 x20_2).f3) = false := Nbq58.out.symm; rw [if_neg nf_] at H; have H' := Aside0.mk H; clear H; have hnb62 := NB105_101.out; have hnc62 := NB101_105.out; obtain ⟨hcz63_0, hcz63_1, hcz63_2, hcz63_3⟩ := cz4 BK105.out; obtain ⟨hfz63_0, hfz63_1, hfz63_2, hfz63_3⟩ := fz4 BK105.out
                go_wp2_with (first | (go_at_call 42; (with_reducible refine (impl_in.calls ((rd_T45 l0_1 x20_2).f0) 0 6 true _ A18.out).mono ?_); rintro e w' ⟨rfl, ⟨nd, rfl⟩⟩; (try first | exact ⟨rfl, _, World.drewN_drewN _ _ _⟩ | exact ⟨rfl, _, Eq.trans (World.drewN_drewN _ _ _) (congrArg (World.drewN _) (Nat.add_assoc _ _ _))⟩)) | (go_at_call 42; (with_reducible refine (impl_in.calls ((rd_T45 l0_1 x20_2).f1) 0 2 true _ A20.out).mono ?_); rintro e w' ⟨rfl, ⟨nd, rfl⟩⟩; (try first | exact ⟨rfl, _, World.drewN_drewN _ _ _⟩ | exact ⟨rfl, _, Eq.trans (World.drewN_drewN _ _ _) (congrArg (World.drewN _) (Nat.add_assoc _ _ _))⟩)) | (go_at_call 42; (with_reducible refine (impl_in.calls ((rd_T45 l0_1 x20_2).f2) 0 3 true _ A46.out).mono ?_); rintro e w' ⟨rfl, ⟨nd, rfl⟩⟩; (try first | exact ⟨rfl, _, World.drewN_drewN _ _ _⟩ | exact ⟨rfl, _, Eq.trans (World.drewN_drewN _ _ _) (congrArg (World.drewN _) (Nat.add_assoc _ _ _))⟩)))
                repeat (go_quiet (first | (go_at_call 42; (with_reducible refine (impl_in.calls ((rd_T45 l0_1 x20_2).f0) 0 6 true _ A18.out).mono ?_); rintro e w' ⟨rfl, ⟨nd, rfl⟩⟩; (try first | exact ⟨rfl, _, World.drewN_drewN _ _ _⟩ | exact ⟨rfl, _, Eq.trans (World.drewN_drewN _ _ _) (congrArg (World.drewN _) (Nat.add_assoc _ _ _))⟩)) | (go_at_call 42; (with_reducible refine (impl_in.calls ((rd_T45 l0_1 x20_2).f1) 0 2 true _ A20.out).mono ?_); rintro e w' ⟨rfl, ⟨nd, rfl⟩⟩; (try first | exact ⟨rfl, _, World.drewN_drewN _ _ _⟩ | exact ⟨rfl, _, Eq.trans (World.drewN_drewN _ _ _) (congrArg (World.drewN _) (Nat.add_assoc _ _ _))⟩)) | (go_at_call 42; (with_reducible refine (impl_in.calls ((rd_T45 l0_1 x20_2).f2) 0 3 true _ A46.out).mono ?_); rintro e w' ⟨rfl, ⟨nd, rfl⟩⟩; (try first | exact ⟨rfl, _, World.drewN_drewN _ _ _⟩ | exact ⟨rfl, _, Eq.trans (World.drewN_drewN _ _ _) (congrArg (World.drewN _) (Nat.add_assoc _ _ _))⟩))); try go_wp2_with (first | (go_at_call 42; (with_reducible refine (impl_in.calls ((rd_T45 l0_1 x20_2).f0) 0 6 true _ A18.out).mono ?_); rintro e w' ⟨rfl, ⟨nd, rfl⟩⟩; (try first | exact ⟨rfl, _, World.drewN_drewN _ _ _⟩ | exact ⟨rfl, _, Eq.trans (World.drewN_drewN _ _ _) (congrArg (World.drewN _) (Nat.add_assoc _ _ _))⟩)) | (go_at_call 42; (with_reducible refine (impl_in.calls ((rd_T45 l0_1 x20_2).f1) 0 2 true _ A20.out).mono ?_); rintro e w' ⟨rfl, ⟨nd, rfl⟩⟩; (try first | exact ⟨rfl, _, World.drewN_drewN _ _ _⟩ | exact ⟨rfl, _, Eq.trans (World.drewN_drewN _ _ _) (congrArg (World.drewN _) (Nat.add_assoc _ _ _))⟩)) | (go_at_call 42; (with_reducible refine (impl_in.calls ((rd_T45 l0_1 x20_2).f2) 0 3 true _ A46.out).mono ?_); rintro e w' ⟨rfl, ⟨nd, rfl⟩⟩; (try first | exact ⟨rfl, _, World.drewN_drewN _ _ _⟩ | exact ⟨rfl, _, Eq.trans (World.drewN_drewN _ _ _) (congrArg (World.drewN _) (Nat.add_assoc _ _ _))⟩))))
                go_meet
                case rel => (try simp only [fbq30]); (try simp only [fbq36]); (try simp only [fbq52]); (try simp only [fbq58]); exact ⟨_, (false), zr, H', ⟨by have := HJ1.out; have := HK2.out; first | omega | exact Nat.le_refl _⟩, ⟨by (with_reducible repeat (first | refine blk_drewN ?_ _ | refine blk_drew ?_ | refine blk_alloc ?_ _ | refine blk_far ?_ NB101_105.out _)); exact BK101.out⟩, ⟨by (with_reducible repeat (first | refine blk_drewN ?_ _ | refine blk_drew ?_ | refine blk_alloc ?_ _)); refine blk_put (cs := #[.int .i64 ((rd_T45 l0_1 x20_2).f0), .int .i64 ((rd_T45 l0_1 x20_2).f1), .int .i64 ((rd_T45 l0_1 x20_2).f2), .bool false]) ?_ 3 _ rfl; (with_reducible repeat (first | refine blk_drewN ?_ _ | refine blk_drew ?_ | refine blk_alloc ?_ _)); refine blk_put (cs := #[.int .i64 ((rd_T45 l0_1 x20_2).f0), .int .i64 ((rd_T45 l0_1 x20_2).f1), .int .i64 0, .bool false]) ?_ 2 _ rfl; (with_reducible repeat (first | refine blk_drewN ?_ _ | refine blk_drew ?_ | refine blk_alloc ?_ _)); refine blk_put (cs := #[.int .i64 ((rd_T45 l0_1 x20_2).f0), .int .i64 0, .int .i64 0, .bool false]) ?_ 1 _ rfl; (with_reducible repeat (first | refine blk_drewN ?_ _ | refine blk_drew ?_ | refine blk_alloc ?_ _)); refine blk_put (cs := #[.int .i64 0, .int .i64 0, .int .i64 0, .bool false]) ?_ 0 _ rfl; (with_reducible repeat (first | refine blk_drewN ?_ _ | refine blk_drew ?_ | refine blk_alloc ?_ _)); exact BK105.out⟩, ⟨bs2 HB.out GE101.out GE105.out⟩⟩
             ·
              replace c47 := Bool.eq_false_iff.mpr c47; subst c47; rw [if_neg nf_] at H; have H' := Aside0.mk H; clear H; have hnb64 := NB105_101.out; have hnc64 := NB101_105.out; obtain ⟨hcz65_0, hcz65_1, hcz65_2, hcz65_3⟩ := cz4 BK105.out; obtain ⟨hfz65_0, hfz65_1, hfz65_2, hfz65_3⟩ := fz4 BK105.out
              go_wp2_with (first | (go_at_call 42; (with_reducible refine (impl_in.calls ((rd_T45 l0_1 x20_2).f0) 0 6 true _ A18.out).mono ?_); rintro e w' ⟨rfl, ⟨nd, rfl⟩⟩; (try first | exact ⟨rfl, _, World.drewN_drewN _ _ _⟩ | exact ⟨rfl, _, Eq.trans (World.drewN_drewN _ _ _) (congrArg (World.drewN _) (Nat.add_assoc _ _ _))⟩)) | (go_at_call 42; (with_reducible refine (impl_in.calls ((rd_T45 l0_1 x20_2).f1) 0 2 true _ A20.out).mono ?_); rintro e w' ⟨rfl, ⟨nd, rfl⟩⟩; (try first | exact ⟨rfl, _, World.drewN_drewN _ _ _⟩ | exact ⟨rfl, _, Eq.trans (World.drewN_drewN _ _ _) (congrArg (World.drewN _) (Nat.add_assoc _ _ _))⟩)) | (go_at_call 42; (with_reducible refine (impl_in.calls ((rd_T45 l0_1 x20_2).f2) 0 3 false _ A46.out).mono ?_); rintro e w' ⟨rfl, ⟨nd, rfl⟩⟩; (try first | exact ⟨rfl, _, World.drewN_drewN _ _ _⟩ | exact ⟨rfl, _, Eq.trans (World.drewN_drewN _ _ _) (congrArg (World.drewN _) (Nat.add_assoc _ _ _))⟩)))
              repeat (go_quiet (first | (go_at_call 42; (with_reducible refine (impl_in.calls ((rd_T45 l0_1 x20_2).f0) 0 6 true _ A18.out).mono ?_); rintro e w' ⟨rfl, ⟨nd, rfl⟩⟩; (try first | exact ⟨rfl, _, World.drewN_drewN _ _ _⟩ | exact ⟨rfl, _, Eq.trans (World.drewN_drewN _ _ _) (congrArg (World.drewN _) (Nat.add_assoc _ _ _))⟩)) | (go_at_call 42; (with_reducible refine (impl_in.calls ((rd_T45 l0_1 x20_2).f1) 0 2 true _ A20.out).mono ?_); rintro e w' ⟨rfl, ⟨nd, rfl⟩⟩; (try first | exact ⟨rfl, _, World.drewN_drewN _ _ _⟩ | exact ⟨rfl, _, Eq.trans (World.drewN_drewN _ _ _) (congrArg (World.drewN _) (Nat.add_assoc _ _ _))⟩)) | (go_at_call 42; (with_reducible refine (impl_in.calls ((rd_T45 l0_1 x20_2).f2) 0 3 false _ A46.out).mono ?_); rintro e w' ⟨rfl, ⟨nd, rfl⟩⟩; (try first | exact ⟨rfl, _, World.drewN_drewN _ _ _⟩ | exact ⟨rfl, _, Eq.trans (World.drewN_drewN _ _ _) (congrArg (World.drewN _) (Nat.add_assoc _ _ _))⟩))); try go_wp2_with (first | (go_at_call 42; (with_reducible refine (impl_in.calls ((rd_T45 l0_1 x20_2).f0) 0 6 true _ A18.out).mono ?_); rintro e w' ⟨rfl, ⟨nd, rfl⟩⟩; (try first | exact ⟨rfl, _, World.drewN_drewN _ _ _⟩ | exact ⟨rfl, _, Eq.trans (World.drewN_drewN _ _ _) (congrArg (World.drewN _) (Nat.add_assoc _ _ _))⟩)) | (go_at_call 42; (with_reducible refine (impl_in.calls ((rd_T45 l0_1 x20_2).f1) 0 2 true _ A20.out).mono ?_); rintro e w' ⟨rfl, ⟨nd, rfl⟩⟩; (try first | exact ⟨rfl, _, World.drewN_drewN _ _ _⟩ | exact ⟨rfl, _, Eq.trans (World.drewN_drewN _ _ _) (congrArg (World.drewN _) (Nat.add_assoc _ _ _))⟩)) | (go_at_call 42; (with_reducible refine (impl_in.calls ((rd_T45 l0_1 x20_2).f2) 0 3 false _ A46.out).mono ?_); rintro e w' ⟨rfl, ⟨nd, rfl⟩⟩; (try first | exact ⟨rfl, _, World.drewN_drewN _ _ _⟩ | exact ⟨rfl, _, Eq.trans (World.drewN_drewN _ _ _) (congrArg (World.drewN _) (Nat.add_assoc _ _ _))⟩))))
              go_meet
              case rel => (try simp only [fbq30]); (try simp only [fbq36]); (try simp only [fbq52]); (try simp only [fbq58]); exact ⟨_, (true), zr, H', ⟨by have := HJ1.out; have := HK2.out; first | omega | exact Nat.le_refl _⟩, ⟨by (with_reducible repeat (first | refine blk_drewN ?_ _ | refine blk_drew ?_ | refine blk_alloc ?_ _ | refine blk_far ?_ NB101_105.out _)); exact BK101.out⟩, ⟨by (with_reducible repeat (first | refine blk_drewN ?_ _ | refine blk_drew ?_ | refine blk_alloc ?_ _)); refine blk_put (cs := #[.int .i64 ((rd_T45 l0_1 x20_2).f0), .int .i64 ((rd_T45 l0_1 x20_2).f1), .int .i64 ((rd_T45 l0_1 x20_2).f2), .bool false]) ?_ 3 _ rfl; (with_reducible repeat (first | refine blk_drewN ?_ _ | refine blk_drew ?_ | refine blk_alloc ?_ _)); refine blk_put (cs := #[.int .i64 ((rd_T45 l0_1 x20_2).f0), .int .i64 ((rd_T45 l0_1 x20_2).f1), .int .i64 0, .bool false]) ?_ 2 _ rfl; (with_reducible repeat (first | refine blk_drewN ?_ _ | refine blk_drew ?_ | refine blk_alloc ?_ _)); refine blk_put (cs := #[.int .i64 ((rd_T45 l0_1 x20_2).f0), .int .i64 0, .int .i64 0, .bool false]) ?_ 1 _ rfl; (with_reducible repeat (first | refine blk_drewN ?_ _ | refine blk_drew ?_ | refine blk_alloc ?_ _)); refine blk_put (cs := #[.int .i64 0, .int .i64 0, .int .i64 0, .bool false]) ?_ 0 _ rfl; (with_reducible repeat (first | refine blk_drewN ?_ _ | refine blk_drew ?_ | refine blk_alloc ?_ _)); exact BK105.out⟩, ⟨bs2 HB.out GE101.out GE105.out⟩⟩
           ·
            replace c21 := Bool.eq_false_iff.mpr c21; subst c21; rw [if_neg nf_] at H; have H' := Aside0.mk H; clear H; have hnb66 := NB105_101.out; have hnc66 := NB101_105.out; obtain ⟨hcz67_0, hcz67_1, hcz67_2, hcz67_3⟩ := cz4 BK105.out; obtain ⟨hfz67_0, hfz67_1, hfz67_2, hfz67_3⟩ := fz4 BK105.out
            go_wp2_with (first | (go_at_call 42; (with_reducible refine (impl_in.calls ((rd_T45 l0_1 x20_2).f0) 0 6 true _ A18.out).mono ?_); rintro e w' ⟨rfl, ⟨nd, rfl⟩⟩; (try first | exact ⟨rfl, _, World.drewN_drewN _ _ _⟩ | exact ⟨rfl, _, Eq.trans (World.drewN_drewN _ _ _) (congrArg (World.drewN _) (Nat.add_assoc _ _ _))⟩)) | (go_at_call 42; (with_reducible refine (impl_in.calls ((rd_T45 l0_1 x20_2).f1) 0 2 false _ A20.out).mono ?_); rintro e w' ⟨rfl, ⟨nd, rfl⟩⟩; (try first | exact ⟨rfl, _, World.drewN_drewN _ _ _⟩ | exact ⟨rfl, _, Eq.trans (World.drewN_drewN _ _ _) (congrArg (World.drewN _) (Nat.add_assoc _ _ _))⟩)))
            repeat (go_quiet (first | (go_at_call 42; (with_reducible refine (impl_in.calls ((rd_T45 l0_1 x20_2).f0) 0 6 true _ A18.out).mono ?_); rintro e w' ⟨rfl, ⟨nd, rfl⟩⟩; (try first | exact ⟨rfl, _, World.drewN_drewN _ _ _⟩ | exact ⟨rfl, _, Eq.trans (World.drewN_drewN _ _ _) (congrArg (World.drewN _) (Nat.add_assoc _ _ _))⟩)) | (go_at_call 42; (with_reducible refine (impl_in.calls ((rd_T45 l0_1 x20_2).f1) 0 2 false _ A20.out).mono ?_); rintro e w' ⟨rfl, ⟨nd, rfl⟩⟩; (try first | exact ⟨rfl, _, World.drewN_drewN _ _ _⟩ | exact ⟨rfl, _, Eq.trans (World.drewN_drewN _ _ _) (congrArg (World.drewN _) (Nat.add_assoc _ _ _))⟩))); try go_wp2_with (first | (go_at_call 42; (with_reducible refine (impl_in.calls ((rd_T45 l0_1 x20_2).f0) 0 6 true _ A18.out).mono ?_); rintro e w' ⟨rfl, ⟨nd, rfl⟩⟩; (try first | exact ⟨rfl, _, World.drewN_drewN _ _ _⟩ | exact ⟨rfl, _, Eq.trans (World.drewN_drewN _ _ _) (congrArg (World.drewN _) (Nat.add_assoc _ _ _))⟩)) | (go_at_call 42; (with_reducible refine (impl_in.calls ((rd_T45 l0_1 x20_2).f1) 0 2 false _ A20.out).mono ?_); rintro e w' ⟨rfl, ⟨nd, rfl⟩⟩; (try first | exact ⟨rfl, _, World.drewN_drewN _ _ _⟩ | exact ⟨rfl, _, Eq.trans (World.drewN_drewN _ _ _) (congrArg (World.drewN _) (Nat.add_assoc _ _ _))⟩))))
            go_meet
            case rel => (try simp only [fbq30]); (try simp only [fbq36]); (try simp only [fbq52]); (try simp only [fbq58]); exact ⟨_, (true), zr, H', ⟨by have := HJ1.out; have := HK2.out; first | omega | exact Nat.le_refl _⟩, ⟨by (with_reducible repeat (first | refine blk_drewN ?_ _ | refine blk_drew ?_ | refine blk_alloc ?_ _ | refine blk_far ?_ NB101_105.out _)); exact BK101.out⟩, ⟨by (with_reducible repeat (first | refine blk_drewN ?_ _ | refine blk_drew ?_ | refine blk_alloc ?_ _)); refine blk_put (cs := #[.int .i64 ((rd_T45 l0_1 x20_2).f0), .int .i64 ((rd_T45 l0_1 x20_2).f1), .int .i64 ((rd_T45 l0_1 x20_2).f2), .bool false]) ?_ 3 _ rfl; (with_reducible repeat (first | refine blk_drewN ?_ _ | refine blk_drew ?_ | refine blk_alloc ?_ _)); refine blk_put (cs := #[.int .i64 ((rd_T45 l0_1 x20_2).f0), .int .i64 ((rd_T45 l0_1 x20_2).f1), .int .i64 0, .bool false]) ?_ 2 _ rfl; (with_reducible repeat (first | refine blk_drewN ?_ _ | refine blk_drew ?_ | refine blk_alloc ?_ _)); refine blk_put (cs := #[.int .i64 ((rd_T45 l0_1 x20_2).f0), .int .i64 0, .int .i64 0, .bool false]) ?_ 1 _ rfl; (with_reducible repeat (first | refine blk_drewN ?_ _ | refine blk_drew ?_ | refine blk_alloc ?_ _)); refine blk_put (cs := #[.int .i64 0, .int .i64 0, .int .i64 0, .bool false]) ?_ 0 _ rfl; (with_reducible repeat (first | refine blk_drewN ?_ _ | refine blk_drew ?_ | refine blk_alloc ?_ _)); exact BK105.out⟩, ⟨bs2 HB.out GE101.out GE105.out⟩⟩
          ·
           replace c19 := Bool.eq_false_iff.mpr c19; subst c19; rw [if_neg nf_] at H; have H' := Aside0.mk H; clear H; have hnb68 := NB105_101.out; have hnc68 := NB101_105.out; obtain ⟨hcz69_0, hcz69_1, hcz69_2, hcz69_3⟩ := cz4 BK105.out; obtain ⟨hfz69_0, hfz69_1, hfz69_2, hfz69_3⟩ := fz4 BK105.out
           go_wp2_with (first | (go_at_call 42; (with_reducible refine (impl_in.calls ((rd_T45 l0_1 x20_2).f0) 0 6 false _ A18.out).mono ?_); rintro e w' ⟨rfl, ⟨nd, rfl⟩⟩; (try first | exact ⟨rfl, _, World.drewN_drewN _ _ _⟩ | exact ⟨rfl, _, Eq.trans (World.drewN_drewN _ _ _) (congrArg (World.drewN _) (Nat.add_assoc _ _ _))⟩)))
           repeat (go_quiet (first | (go_at_call 42; (with_reducible refine (impl_in.calls ((rd_T45 l0_1 x20_2).f0) 0 6 false _ A18.out).mono ?_); rintro e w' ⟨rfl, ⟨nd, rfl⟩⟩; (try first | exact ⟨rfl, _, World.drewN_drewN _ _ _⟩ | exact ⟨rfl, _, Eq.trans (World.drewN_drewN _ _ _) (congrArg (World.drewN _) (Nat.add_assoc _ _ _))⟩))); try go_wp2_with (first | (go_at_call 42; (with_reducible refine (impl_in.calls ((rd_T45 l0_1 x20_2).f0) 0 6 false _ A18.out).mono ?_); rintro e w' ⟨rfl, ⟨nd, rfl⟩⟩; (try first | exact ⟨rfl, _, World.drewN_drewN _ _ _⟩ | exact ⟨rfl, _, Eq.trans (World.drewN_drewN _ _ _) (congrArg (World.drewN _) (Nat.add_assoc _ _ _))⟩))))
           go_meet
           case rel => (try simp only [fbq30]); (try simp only [fbq36]); (try simp only [fbq52]); (try simp only [fbq58]); exact ⟨_, (true), zr, H', ⟨by have := HJ1.out; have := HK2.out; first | omega | exact Nat.le_refl _⟩, ⟨by (with_reducible repeat (first | refine blk_drewN ?_ _ | refine blk_drew ?_ | refine blk_alloc ?_ _ | refine blk_far ?_ NB101_105.out _)); exact BK101.out⟩, ⟨by (with_reducible repeat (first | refine blk_drewN ?_ _ | refine blk_drew ?_ | refine blk_alloc ?_ _)); refine blk_put (cs := #[.int .i64 ((rd_T45 l0_1 x20_2).f0), .int .i64 ((rd_T45 l0_1 x20_2).f1), .int .i64 ((rd_T45 l0_1 x20_2).f2), .bool false]) ?_ 3 _ rfl; (with_reducible repeat (first | refine blk_drewN ?_ _ | refine blk_drew ?_ | refine blk_alloc ?_ _)); refine blk_put (cs := #[.int .i64 ((rd_T45 l0_1 x20_2).f0), .int .i64 ((rd_T45 l0_1 x20_2).f1), .int .i64 0, .bool false]) ?_ 2 _ rfl; (with_reducible repeat (first | refine blk_drewN ?_ _ | refine blk_drew ?_ | refine blk_alloc ?_ _)); refine blk_put (cs := #[.int .i64 ((rd_T45 l0_1 x20_2).f0), .int .i64 0, .int .i64 0, .bool false]) ?_ 1 _ rfl; (with_reducible repeat (first | refine blk_drewN ?_ _ | refine blk_drew ?_ | refine blk_alloc ?_ _)); refine blk_put (cs := #[.int .i64 0, .int .i64 0, .int .i64 0, .bool false]) ?_ 0 _ rfl; (with_reducible repeat (first | refine blk_drewN ?_ _ | refine blk_drew ?_ | refine blk_alloc ?_ _)); exact BK105.out⟩, ⟨bs2 HB.out GE101.out GE105.out⟩⟩
         case rest =>
          clear HC14
          try clear c1
          try clear p1
          try clear q1
          try clear hx1
          try clear c2
          try clear p2
          try clear c3
          try clear q3
          try clear c4
          try clear c5
          try clear q5
          try clear c6
          try clear c9
          try clear p10
          try clear q10
          try clear hx10
          try clear c11
          try clear c11b0
          try clear c12
          try clear c12b0
          try clear c13
          try clear c13b0
          try clear c16
          try clear c19
          try clear c21
          try clear c22
          try clear c22b0
          try clear c23
          try clear c23b0
          try clear c23b1
          try clear c25
          try clear c26
          try clear c26b0
          try clear c27
          try clear c27b0
          try clear c27b1
          try clear c28
          try clear c29
          try clear q30
          try clear c31
          try clear c32
          try clear c34
          try clear q36
          try clear c37
          try clear c38
          try clear c40
          try clear c42
          try clear c44
          try clear c47
          try clear c48
          try clear c48b0
          try clear c49
          try clear c49b0
          try clear c49b1
          try clear c50
          try clear q52
          try clear c53
          try clear c54
          try clear c56
          try clear q58
          try clear c59
          try clear c60
          try clear c62
          try clear c64
          try clear c66
          try clear c68
          try clear hcz10_0
          try clear hcz10_1
          try clear hcz10_2
          try clear hcz17_0
          try clear hcz17_1
          try clear hcz17_2
          try clear hcz17_3
          try clear hcz29_0
          try clear hcz29_1
          try clear hcz29_2
          try clear hcz29_3
          try clear hcz33_0
          try clear hcz33_1
          try clear hcz33_2
          try clear hcz33_3
          try clear hcz35_0
          try clear hcz35_1
          try clear hcz35_2
          try clear hcz35_3
          try clear hcz39_0
          try clear hcz39_1
          try clear hcz39_2
          try clear hcz39_3
          try clear hcz41_0
          try clear hcz41_1
          try clear hcz41_2
          try clear hcz41_3
          try clear hcz43_0
          try clear hcz43_1
          try clear hcz43_2
          try clear hcz43_3
          try clear hcz45_0
          try clear hcz45_1
          try clear hcz45_2
          try clear hcz45_3
          try clear hcz51_0
          try clear hcz51_1
          try clear hcz51_2
          try clear hcz51_3
          try clear hcz55_0
          try clear hcz55_1
          try clear hcz55_2
          try clear hcz55_3
          try clear hcz57_0
          try clear hcz57_1
          try clear hcz57_2
          try clear hcz57_3
          try clear hcz61_0
          try clear hcz61_1
          try clear hcz61_2
          try clear hcz61_3
          try clear hcz63_0
          try clear hcz63_1
          try clear hcz63_2
          try clear hcz63_3
          try clear hcz65_0
          try clear hcz65_1
          try clear hcz65_2
          try clear hcz65_3
          try clear hcz67_0
          try clear hcz67_1
          try clear hcz67_2
          try clear hcz67_3
          try clear hcz69_0
          try clear hcz69_1
          try clear hcz69_2
          try clear hcz69_3
          try clear hcz7_0
          try clear hcz7_1
          try clear hcz7_2
          try clear hcz8_0
          try clear hcz8_1
          try clear hcz8_2
          try clear hfz10_0
          try clear hfz10_1
          try clear hfz10_2
          try clear hfz17_0
          try clear hfz17_1
          try clear hfz17_2
          try clear hfz17_3
          try clear hfz29_0
          try clear hfz29_1
          try clear hfz29_2
          try clear hfz29_3
          try clear hfz33_0
          try clear hfz33_1
          try clear hfz33_2
          try clear hfz33_3
          try clear hfz35_0
          try clear hfz35_1
          try clear hfz35_2
          try clear hfz35_3
          try clear hfz39_0
          try clear hfz39_1
          try clear hfz39_2
          try clear hfz39_3
          try clear hfz41_0
          try clear hfz41_1
          try clear hfz41_2
          try clear hfz41_3
          try clear hfz43_0
          try clear hfz43_1
          try clear hfz43_2
          try clear hfz43_3
          try clear hfz45_0
          try clear hfz45_1
          try clear hfz45_2
          try clear hfz45_3
          try clear hfz51_0
          try clear hfz51_1
          try clear hfz51_2
          try clear hfz51_3
          try clear hfz55_0
          try clear hfz55_1
          try clear hfz55_2
          try clear hfz55_3
          try clear hfz57_0
          try clear hfz57_1
          try clear hfz57_2
          try clear hfz57_3
          try clear hfz61_0
          try clear hfz61_1
          try clear hfz61_2
          try clear hfz61_3
          try clear hfz63_0
          try clear hfz63_1
          try clear hfz63_2
          try clear hfz63_3
          try clear hfz65_0
          try clear hfz65_1
          try clear hfz65_2
          try clear hfz65_3
          try clear hfz67_0
          try clear hfz67_1
          try clear hfz67_2
          try clear hfz67_3
          try clear hfz69_0
          try clear hfz69_1
          try clear hfz69_2
          try clear hfz69_3
          try clear hfz7_0
          try clear hfz7_1
          try clear hfz7_2
          try clear hfz8_0
          try clear hfz8_1
          try clear hfz8_2
          try clear hx104_0
          try clear hx104_1
          try clear hx104_2
          try clear hx104_3
          try clear p104
          try clear p2
          try clear q104
          obtain ⟨kq, x69_13, rfl, HA, HJ13, BK101, BK105, HB⟩ := hcut
          cases kq with
          | zero => exact absurd HA.out (by simp [impl_LockOk.j2])
          | succ kj13 =>
           have H := HA.out; clear HA; simp only [impl_LockOk.j2] at H
           by_cases c70 : x69_13 = true
           ·
            subst c70; rw [if_pos rfl] at H; obtain rfl := Option.some.inj H
            go_wp2
            repeat (go_quiet (fail); try go_wp2)
            go_ret
            exact ⟨ze, bs2 HB.out GE101.out GE105.out⟩
           ·
            replace c70 := Bool.eq_false_iff.mpr c70; subst c70; rw [if_neg nf_] at H
            by_cases c71 : ((rd_T45 l0_1 x20_2).f3) = true
            ·
             rw [if_pos c71] at H; have c71b0 : ((rd_T45 l0_1 x20_2).f3) = true := c71; clear c71; replace H := Option.bind_eq_some_iff.mp H; obtain ⟨t110, A720, H⟩ := H; have A72 := Aside0.mk A720; clear A720
             by_cases c73 : (((rd_T45 l0_1 x20_2).f3) != t110) = true
             ·
              rw [if_pos c73] at H; have c73b0 : (((rd_T45 l0_1 x20_2).f3) != t110) = true := c73; (try (have fc73b0_true : t110 = true := by simpa [c71b0] using c73b0)); (try (have fc73b0_false : t110 = false := by simpa [c71b0] using c73b0)); (try (have c73b1 : decide (((rd_T45 l0_1 x20_2).f3) = t110) = false := by simpa using c73)); (try (have c73b2 : (((rd_T45 l0_1 x20_2).f3) == t110) = false := by simpa using c73)); (try (have c73b3 : ¬ (((rd_T45 l0_1 x20_2).f3) = t110) := by simpa using c73)); clear c73; obtain rfl := Option.some.inj H; have hnb74 := NB105_101.out; have hnc74 := NB101_105.out; obtain ⟨hcz75_0, hcz75_1, hcz75_2, hcz75_3⟩ := cz4 BK105.out; obtain ⟨hfz75_0, hfz75_1, hfz75_2, hfz75_3⟩ := fz4 BK105.out; obtain ⟨hcz76_0, hcz76_1, hcz76_2⟩ := cz3 BK101.out; obtain ⟨hfz76_0, hfz76_1, hfz76_2⟩ := fz3 BK101.out
              go_wp2_with (first | (go_at_call 43; (with_reducible refine (slices_Contains_int.calls kj13 _ _ l0_2 x20_2 t110 _ ?side1 ?side2 A72.out).mono ?_); (case side1 => exact cz (Kd.C_below HR0_2.out HB.out)); (case side2 => exact HC0_2.out); rintro e w' ⟨rfl, ⟨nd, rfl⟩⟩; (try first | exact ⟨rfl, _, World.drewN_drewN _ _ _⟩ | exact ⟨rfl, _, Eq.trans (World.drewN_drewN _ _ _) (congrArg (World.drewN _) (Nat.add_assoc _ _ _))⟩)))
              repeat (go_quiet (first | (go_at_call 43; (with_reducible refine (slices_Contains_int.calls kj13 _ _ l0_2 x20_2 t110 _ ?side1 ?side2 A72.out).mono ?_); (case side1 => exact cz (Kd.C_below HR0_2.out HB.out)); (case side2 => exact HC0_2.out); rintro e w' ⟨rfl, ⟨nd, rfl⟩⟩; (try first | exact ⟨rfl, _, World.drewN_drewN _ _ _⟩ | exact ⟨rfl, _, Eq.trans (World.drewN_drewN _ _ _) (congrArg (World.drewN _) (Nat.add_assoc _ _ _))⟩))); try go_wp2_with (first | (go_at_call 43; (with_reducible refine (slices_Contains_int.calls kj13 _ _ l0_2 x20_2 t110 _ ?side1 ?side2 A72.out).mono ?_); (case side1 => exact cz (Kd.C_below HR0_2.out HB.out)); (case side2 => exact HC0_2.out); rintro e w' ⟨rfl, ⟨nd, rfl⟩⟩; (try first | exact ⟨rfl, _, World.drewN_drewN _ _ _⟩ | exact ⟨rfl, _, Eq.trans (World.drewN_drewN _ _ _) (congrArg (World.drewN _) (Nat.add_assoc _ _ _))⟩))))
              go_ret
              exact ⟨ze, bs2 HB.out GE101.out GE105.out⟩
             ·
              rw [if_neg c73] at H
              have c73b0 : (((rd_T45 l0_1 x20_2).f3) != t110) = false := by simpa using c73
              (try (have fc73b0_true : t110 = true := by simpa [c71b0] using c73b0)); (try (have fc73b0_false : t110 = false := by simpa [c71b0] using c73b0)); (try (have c73b1 : decide (((rd_T45 l0_1 x20_2).f3) = t110) = true := by simpa using c73)); (try (have c73b2 : (((rd_T45 l0_1 x20_2).f3) == t110) = true := by simpa using c73)); clear c73; have H' := Aside0.mk H; clear H; have hnb77 := NB105_101.out; have hnc77 := NB101_105.out; obtain ⟨hcz78_0, hcz78_1, hcz78_2, hcz78_3⟩ := cz4 BK105.out; obtain ⟨hfz78_0, hfz78_1, hfz78_2, hfz78_3⟩ := fz4 BK105.out; obtain ⟨hcz79_0, hcz79_1, hcz79_2⟩ := cz3 BK101.out; obtain ⟨hfz79_0, hfz79_1, hfz79_2⟩ := fz3 BK101.out
              go_wp2_with (first | (go_at_call 43; (with_reducible refine (slices_Contains_int.calls kj13 _ _ l0_2 x20_2 t110 _ ?side1 ?side2 A72.out).mono ?_); (case side1 => exact cz (Kd.C_below HR0_2.out HB.out)); (case side2 => exact HC0_2.out); rintro e w' ⟨rfl, ⟨nd, rfl⟩⟩; (try first | exact ⟨rfl, _, World.drewN_drewN _ _ _⟩ | exact ⟨rfl, _, Eq.trans (World.drewN_drewN _ _ _) (congrArg (World.drewN _) (Nat.add_assoc _ _ _))⟩)))
              repeat (go_quiet (first | (go_at_call 43; (with_reducible refine (slices_Contains_int.calls kj13 _ _ l0_2 x20_2 t110 _ ?side1 ?side2 A72.out).mono ?_); (case side1 => exact cz (Kd.C_below HR0_2.out HB.out)); (case side2 => exact HC0_2.out); rintro e w' ⟨rfl, ⟨nd, rfl⟩⟩; (try first | exact ⟨rfl, _, World.drewN_drewN _ _ _⟩ | exact ⟨rfl, _, Eq.trans (World.drewN_drewN _ _ _) (congrArg (World.drewN _) (Nat.add_assoc _ _ _))⟩))); try go_wp2_with (first | (go_at_call 43; (with_reducible refine (slices_Contains_int.calls kj13 _ _ l0_2 x20_2 t110 _ ?side1 ?side2 A72.out).mono ?_); (case side1 => exact cz (Kd.C_below HR0_2.out HB.out)); (case side2 => exact HC0_2.out); rintro e w' ⟨rfl, ⟨nd, rfl⟩⟩; (try first | exact ⟨rfl, _, World.drewN_drewN _ _ _⟩ | exact ⟨rfl, _, Eq.trans (World.drewN_drewN _ _ _) (congrArg (World.drewN _) (Nat.add_assoc _ _ _))⟩))))
              go_roundg kj13
              case measure => have := HJ1.out; have := HK2.out; have := HJ13.out; omega
              case rel => (try simp only [fbq30]); (try simp only [fbq36]); (try simp only [fbq52]); (try simp only [fbq58]); exact ⟨(wrap64 (x3_2 + 1)), (wrap64 (x20_2 + 1)), zr, zr, H', ⟨by have := HJ1.out; have := HK2.out; have := HJ13.out; omega⟩, ⟨kz (BK101.out)⟩, ⟨bs2 HB.out GE101.out GE105.out⟩⟩
            ·
             rw [if_neg c71] at H
             have c71b0 : ((rd_T45 l0_1 x20_2).f3) = false := by simpa using c71
             clear c71; replace H := Option.bind_eq_some_iff.mp H; obtain ⟨t111, A800, H⟩ := H; have A80 := Aside0.mk A800; clear A800
             by_cases c81 : (((rd_T45 l0_1 x20_2).f3) != t111) = true
             ·
              rw [if_pos c81] at H; have c81b0 : (((rd_T45 l0_1 x20_2).f3) != t111) = true := c81; (try (have fc81b0_true : t111 = true := by simpa [c71b0] using c81b0)); (try (have fc81b0_false : t111 = false := by simpa [c71b0] using c81b0)); (try (have c81b1 : decide (((rd_T45 l0_1 x20_2).f3) = t111) = false := by simpa using c81)); (try (have c81b2 : (((rd_T45 l0_1 x20_2).f3) == t111) = false := by simpa using c81)); (try (have c81b3 : ¬ (((rd_T45 l0_1 x20_2).f3) = t111) := by simpa using c81)); clear c81; obtain rfl := Option.some.inj H; have hnb82 := NB105_101.out; have hnc82 := NB101_105.out; obtain ⟨hcz83_0, hcz83_1, hcz83_2, hcz83_3⟩ := cz4 BK105.out; obtain ⟨hfz83_0, hfz83_1, hfz83_2, hfz83_3⟩ := fz4 BK105.out; obtain ⟨hcz84_0, hcz84_1, hcz84_2⟩ := cz3 BK101.out; obtain ⟨hfz84_0, hfz84_1, hfz84_2⟩ := fz3 BK101.out
              go_wp2_with (first | (go_at_call 43; (with_reducible refine (slices_Contains_int.calls kj13 _ _ l0_2 x20_2 t111 _ ?side1 ?side2 A80.out).mono ?_); (case side1 => exact cz (Kd.C_below HR0_2.out HB.out)); (case side2 => exact HC0_2.out); rintro e w' ⟨rfl, ⟨nd, rfl⟩⟩; (try first | exact ⟨rfl, _, World.drewN_drewN _ _ _⟩ | exact ⟨rfl, _, Eq.trans (World.drewN_drewN _ _ _) (congrArg (World.drewN _) (Nat.add_assoc _ _ _))⟩)))
              repeat (go_quiet (first | (go_at_call 43; (with_reducible refine (slices_Contains_int.calls kj13 _ _ l0_2 x20_2 t111 _ ?side1 ?side2 A80.out).mono ?_); (case side1 => exact cz (Kd.C_below HR0_2.out HB.out)); (case side2 => exact HC0_2.out); rintro e w' ⟨rfl, ⟨nd, rfl⟩⟩; (try first | exact ⟨rfl, _, World.drewN_drewN _ _ _⟩ | exact ⟨rfl, _, Eq.trans (World.drewN_drewN _ _ _) (congrArg (World.drewN _) (Nat.add_assoc _ _ _))⟩))); try go_wp2_with (first | (go_at_call 43; (with_reducible refine (slices_Contains_int.calls kj13 _ _ l0_2 x20_2 t111 _ ?side1 ?side2 A80.out).mono ?_); (case side1 => exact cz (Kd.C_below HR0_2.out HB.out)); (case side2 => exact HC0_2.out); rintro e w' ⟨rfl, ⟨nd, rfl⟩⟩; (try first | exact ⟨rfl, _, World.drewN_drewN _ _ _⟩ | exact ⟨rfl, _, Eq.trans (World.drewN_drewN _ _ _) (congrArg (World.drewN _) (Nat.add_assoc _ _ _))⟩))))
              go_ret
              exact ⟨ze, bs2 HB.out GE101.out GE105.out⟩
             ·
              rw [if_neg c81] at H
              have c81b0 : (((rd_T45 l0_1 x20_2).f3) != t111) = false := by simpa using c81
              (try (have fc81b0_true : t111 = true := by simpa [c71b0] using c81b0)); (try (have fc81b0_false : t111 = false := by simpa [c71b0] using c81b0)); (try (have c81b1 : decide (((rd_T45 l0_1 x20_2).f3) = t111) = true := by simpa using c81)); (try (have c81b2 : (((rd_T45 l0_1 x20_2).f3) == t111) = true := by simpa using c81)); clear c81; have H' := Aside0.mk H; clear H; have hnb85 := NB105_101.out; have hnc85 := NB101_105.out; obtain ⟨hcz86_0, hcz86_1, hcz86_2, hcz86_3⟩ := cz4 BK105.out; obtain ⟨hfz86_0, hfz86_1, hfz86_2, hfz86_3⟩ := fz4 BK105.out; obtain ⟨hcz87_0, hcz87_1, hcz87_2⟩ := cz3 BK101.out; obtain ⟨hfz87_0, hfz87_1, hfz87_2⟩ := fz3 BK101.out
              go_wp2_with (first | (go_at_call 43; (with_reducible refine (slices_Contains_int.calls kj13 _ _ l0_2 x20_2 t111 _ ?side1 ?side2 A80.out).mono ?_); (case side1 => exact cz (Kd.C_below HR0_2.out HB.out)); (case side2 => exact HC0_2.out); rintro e w' ⟨rfl, ⟨nd, rfl⟩⟩; (try first | exact ⟨rfl, _, World.drewN_drewN _ _ _⟩ | exact ⟨rfl, _, Eq.trans (World.drewN_drewN _ _ _) (congrArg (World.drewN _) (Nat.add_assoc _ _ _))⟩)))
              repeat (go_quiet (first | (go_at_call 43; (with_reducible refine (slices_Contains_int.calls kj13 _ _ l0_2 x20_2 t111 _ ?side1 ?side2 A80.out).mono ?_); (case side1 => exact cz (Kd.C_below HR0_2.out HB.out)); (case side2 => exact HC0_2.out); rintro e w' ⟨rfl, ⟨nd, rfl⟩⟩; (try first | exact ⟨rfl, _, World.drewN_drewN _ _ _⟩ | exact ⟨rfl, _, Eq.trans (World.drewN_drewN _ _ _) (congrArg (World.drewN _) (Nat.add_assoc _ _ _))⟩))); try go_wp2_with (first | (go_at_call 43; (with_reducible refine (slices_Contains_int.calls kj13 _ _ l0_2 x20_2 t111 _ ?side1 ?side2 A80.out).mono ?_); (case side1 => exact cz (Kd.C_below HR0_2.out HB.out)); (case side2 => exact HC0_2.out); rintro e w' ⟨rfl, ⟨nd, rfl⟩⟩; (try first | exact ⟨rfl, _, World.drewN_drewN _ _ _⟩ | exact ⟨rfl, _, Eq.trans (World.drewN_drewN _ _ _) (congrArg (World.drewN _) (Nat.add_assoc _ _ _))⟩))))
              go_roundg kj13
              case measure => have := HJ1.out; have := HK2.out; have := HJ13.out; omega
              case rel => (try simp only [fbq30]); (try simp only [fbq36]); (try simp only [fbq52]); (try simp only [fbq58]); exact ⟨(x3_2), (wrap64 (x20_2 + 1)), zr, zr, H', ⟨by have := HJ1.out; have := HK2.out; have := HJ13.out; omega⟩, ⟨kz (BK101.out)⟩, ⟨bs2 HB.out GE101.out GE105.out⟩⟩
        ·
         rw [if_neg c13] at H
         exact absurd H (by simp)
       ·
        rw [if_neg c12] at H
        exact absurd H (by simp)
      ·
       rw [if_neg c11] at H; have c11b0 : decide (x20_2 < (l0_1.length : Int)) = false := decide_eq_false c11; clear c11; obtain rfl := Option.some.inj H; obtain ⟨hcz88_0, hcz88_1, hcz88_2⟩ := cz3 BK101.out; obtain ⟨hfz88_0, hfz88_1, hfz88_2⟩ := fz3 BK101.out
       go_wp2
       repeat (go_quiet (fail); try go_wp2)
       go_ret
       exact ⟨ze, bs HB.out GE101.out⟩

end Go.Proofs.Ytmpdoodimmmemaa.P
