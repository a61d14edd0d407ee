-- printed by wip/qd.py
import Derived.Test.YtgjlbghjjjlhmaaPf0
import Derived.Test.YtgjlbghjjjlhmaaPflawsszHeld
import Derived.Test.YtgjlbghjjjlhmaaPflawstoHeld
import Derived.Test.YtgjlbghjjjlhmaaPflawseqHeld
import Derived.Test.YtgjlbghjjjlhmaaPflawsmarkHeld
import Derived.Test.YtgjlbghjjjlhmaaPfspecHeldBytes
import Derived.Test.YtgjlbghjjjlhmaaPfimplHeldBytes
import Derived.Test.YtgjlbghjjjlhmaaPflawseqIntSS
import Derived.Test.YtgjlbghjjjlhmaaPflawsmarkIntSS
import Derived.Test.YtgjlbghjjjlhmaaPflawsheldIntSS
namespace Go.Proofs.Ytgjlbghjjjlhmaa.P
open Go.RowKit Go.Proofs.YtgjlbghjjjlhmaaW.PrintWords Go.Proofs.YtgjlbghjjjlhmaaW.PrintLast Go.Proofs.YtgjlbghjjjlhmaaW.PrintMore
attribute [local go_sem] max2_int min2_int max_two min_two max_three min_three max_four min_four Q.cell_set_map
set_option linter.unusedVariables false
set_option linter.unusedSimpArgs false

/-! ### laws_FnExactHeldBytes: function 8 -/
def laws_FnExactHeldBytes.f (k : Nat) (l0_0 : List S36) (l0_1 : List S36) : Option Bool := (laws_szHeld.f l0_0 l0_1 1048576).bind fun s => if s < 0 then some true else (laws_toHeld.f k l0_0 l0_1).bind fun x => (spec_HeldBytes.f k x.1 x.2).bind fun sp => (impl_HeldBytes.f k x.1 x.2).bind fun im =>
  if im = sp then (if laws_eqIntSS.f k sp.1 sp.1 = some true then (if laws_eqHeld.f k x.1 x.2 x.1 x.2 = some true then (laws_markHeld.f k x.1 x.2 1).bind fun mk => if 0 ≤ mk.1 then (laws_markIntSS.f k sp.1 1).bind fun mi => (if laws_heldIntSS.f k mi.2 1 = some mi.1 ∧ 0 ≤ mi.1 then some true else none) else none else none) else none) else none
theorem laws_FnExactHeldBytes.S_kept {α : Type} {d : Kd α} {e : Nat} {w W : World} {base : Nat} {ok P : Nat → Prop} {v : Value} {xs : List α} (h : Kd.S d e w base ok v xs) (hk : Kept w W P) (hn : ∀ k_, ok k_ → ¬ P k_) : Kd.S d e W base ok v xs := Kd.S_step h (fun k_ ho hl => hk.2 k_ hl (hn k_ ho))
set_option maxHeartbeats 8000000 in
set_option maxRecDepth 100000 in
theorem laws_FnExactHeldBytes.calls (k : Nat) (A0_0 : Option Addr) (c0_0 : Nat) (l0_0 : List (S36)) (A0_1 : Option Addr) (c0_1 : Nat) (l0_1 : List (S36)) (r : Bool) (w : World) (hr0_0 : Kd.C k36 w A0_0 l0_0.length l0_0) (hc0_0 : l0_0.length ≤ c0_0) (hr0_1 : Kd.C k36 w A0_1 l0_1.length l0_1) (hc0_1 : l0_1.length ≤ c0_1) (h : laws_FnExactHeldBytes.f k l0_0 l0_1 = some r) :
    Calls Try.prog 8 #[.agg #[.slice A0_0 l0_0.length c0_0, .slice A0_1 l0_1.length c0_1]] w fun e w' => e = .returned (.bool r) ∧ Below w.heap.size w w' := by
  unfold laws_FnExactHeldBytes.f at h
  obtain ⟨s, hs, h⟩ := Option.bind_eq_some_iff.1 h
  have HR0 := Aside0.mk hr0_0
  have HR1 := Aside0.mk hr0_1
  have HC0 := Aside0.mk hc0_0
  have HC1 := Aside0.mk hc0_1
  have HSZ := Aside0.mk hs
  clear hr0_0 hr0_1 hc0_0 hc0_1 hs
  have BK0 := Aside0.mk (blk_new w (.cells #[.slice A0_0 l0_0.length c0_0, .slice A0_1 l0_1.length c0_1] 24))
  have BW0 := Aside0.mk (below_alloc (Below.refl w.heap.size w) (.cells #[.slice A0_0 l0_0.length c0_0, .slice A0_1 l0_1.length c0_1] 24))
  have b0 : (w.alloc (.cells #[.slice A0_0 l0_0.length c0_0, .slice A0_1 l0_1.length c0_1] 24)).cell? ⟨w.heap.size, 0, none⟩ = some (.slice A0_0 l0_0.length c0_0) := (blk_cell BK0.out 0).trans rfl
  have b1 : (w.alloc (.cells #[.slice A0_0 l0_0.length c0_0, .slice A0_1 l0_1.length c0_1] 24)).cell? ⟨w.heap.size, 1, none⟩ = some (.slice A0_1 l0_1.length c0_1) := (blk_cell BK0.out 1).trans rfl
  by_cases hs0 : s < 0
  · rw [if_pos hs0] at h
    obtain rfl := Option.some.inj h
    go_enter Try.func8, Try.ntmps8
    go_wp2_with (go_at_call 10; refine (laws_szHeld.calls A0_0 c0_0 l0_0 A0_1 c0_1 l0_1 1048576 s _ (Kd.C_below HR0.out BW0.out) HC0.out (Kd.C_below HR1.out BW0.out) HC1.out HSZ.out).mono ?_; rintro e w1 ⟨rfl, hb1⟩)
    go_ret
    exact ⟨rfl, below_then BW0.out BW0.out.size hb1⟩
  rw [if_neg hs0] at h
  obtain ⟨⟨xs, ys⟩, hx, h⟩ := Option.bind_eq_some_iff.1 h
  obtain ⟨⟨L, b⟩, hsp, h⟩ := Option.bind_eq_some_iff.1 h
  obtain ⟨im, him, h⟩ := Option.bind_eq_some_iff.1 h
  by_cases h1 : im = (L, b)
  rotate_left
  · rw [if_neg h1] at h
    cases h
  subst h1
  rw [if_pos rfl] at h
  by_cases h2 : laws_eqIntSS.f k L L = some true
  rotate_left
  · rw [if_neg h2] at h
    cases h
  rw [if_pos h2] at h
  by_cases h3 : laws_eqHeld.f k xs ys xs ys = some true
  rotate_left
  · rw [if_neg h3] at h
    cases h
  rw [if_pos h3] at h
  obtain ⟨⟨mk, xs', ys'⟩, hmk, h⟩ := Option.bind_eq_some_iff.1 h
  by_cases h4 : 0 ≤ mk
  rotate_left
  · rw [if_neg h4] at h
    cases h
  rw [if_pos h4] at h
  obtain ⟨⟨mi, L'⟩, hmi, h⟩ := Option.bind_eq_some_iff.1 h
  by_cases h5 : laws_heldIntSS.f k L' 1 = some mi ∧ 0 ≤ mi
  rotate_left
  · rw [if_neg h5] at h
    cases h
  rw [if_pos h5] at h
  obtain rfl := Option.some.inj h
  clear h
  have HTO := Aside0.mk hx
  have HSB := Aside0.mk hsp
  have HIB := Aside0.mk him
  have HEQ := Aside0.mk h2
  have HEH := Aside0.mk h3
  have HMH := Aside0.mk hmk
  have HMI := Aside0.mk hmi
  have HHI := Aside0.mk h5.1
  have hk0 : ¬ mk < 0 := by omega
  have hm0 : ¬ mi < 0 := by have := h5.2; omega
  have hmm : (mi != mi) = false := by simp
  have hbb : (b != b) = false := by simp
  clear hx hsp him h2 h3 hmk hmi h5 h4
  go_enter Try.func8, Try.ntmps8
  go_upto_region 5 with (go_at_call 10; refine (laws_szHeld.calls A0_0 c0_0 l0_0 A0_1 c0_1 l0_1 1048576 s _ (Kd.C_below HR0.out BW0.out) HC0.out (Kd.C_below HR1.out BW0.out) HC1.out HSZ.out).mono ?_; rintro e w1 ⟨rfl, hb1⟩)
  have BW1 := Aside0.mk (below_then BW0.out BW0.out.size hb1)
  have BK1 := Aside0.mk ((hb1.block _ (blk_lt BK0.out)).trans BK0.out)
  clear b0 b1 BW0 BK0 hb1
  have b0 : w1.cell? ⟨w.heap.size, 0, none⟩ = some (.slice A0_0 l0_0.length c0_0) := (blk_cell BK1.out 0).trans rfl
  have b1 : w1.cell? ⟨w.heap.size, 1, none⟩ = some (.slice A0_1 l0_1.length c0_1) := (blk_cell BK1.out 1).trans rfl
  go_upto_region 6 with (first
    | (go_at_call 12; refine (laws_toHeld.calls k A0_0 c0_0 l0_0 A0_1 c0_1 l0_1 xs ys _ (Kd.C_below HR0.out BW1.out) HC0.out (Kd.C_below HR1.out BW1.out) HC1.out HTO.out).mono ?_; rintro e w2 ⟨v20, v21, rfl, R20, R21, hb2⟩; obtain ⟨A20, c20, e20⟩ := Kd.R_slice R20; subst e20; obtain ⟨A21, c21, e21⟩ := Kd.R_slice R21; subst e21)
    | (go_at_call 26; refine (spec_HeldBytes.calls k A20 c20 xs A21 c21 ys L b _ (Kd.R_reads' R20).2.2 (Kd.R_reads' R20).2.1 (Kd.R_reads' R21).2.2 (Kd.R_reads' R21).2.1 HSB.out).mono ?_; rintro e w3 ⟨vS, rfl, S3, hb3⟩; obtain ⟨A3, c3, e3⟩ := Kd.R_slice (Kd.S_R S3); subst e3))
  have s12 := hb2.size
  have s23 := hb3.size
  have S3b := Aside0.mk (Kd.S_mono (Kd.S_bound S3) (fun k_ hk => (⟨hk.2.1, hk.2.2.1⟩ : w2.heap.size ≤ k_ ∧ k_ < w3.heap.size)))
  have sw1 := BW1.out.size
  have BW3 := Aside0.mk (below_then (below_then BW1.out sw1 hb2) (Nat.le_trans sw1 s12) hb3)
  have BK3 := Aside0.mk ((hb3.block _ (blk_lt ((hb2.block _ (blk_lt BK1.out)).trans BK1.out))).trans ((hb2.block _ (blk_lt BK1.out)).trans BK1.out))
  clear b0 b1 R20 R21 S3 hb2 hb3 BW1 BK1
  have b0 : w3.cell? ⟨w.heap.size, 0, none⟩ = some (.slice A0_0 l0_0.length c0_0) := (blk_cell BK3.out 0).trans rfl
  have b1 : w3.cell? ⟨w.heap.size, 1, none⟩ = some (.slice A0_1 l0_1.length c0_1) := (blk_cell BK3.out 1).trans rfl
  go_upto_region 7 with (go_at_call 12; refine (laws_toHeld.calls k A0_0 c0_0 l0_0 A0_1 c0_1 l0_1 xs ys _ (Kd.C_below HR0.out BW3.out) HC0.out (Kd.C_below HR1.out BW3.out) HC1.out HTO.out).mono ?_; rintro e w4 ⟨v40, v41, rfl, R40, R41, hb4⟩; obtain ⟨A40, c40, e40⟩ := Kd.R_slice R40; subst e40; obtain ⟨A41, c41, e41⟩ := Kd.R_slice R41; subst e41)
  have s34 := hb4.size
  have BW4 := below_then BW3.out BW3.out.size hb4
  have hb4a := below_alloc (Below.refl w4.heap.size w4) (.cells #[.slice A40 xs.length c40, .slice A41 ys.length c41] 29)
  have BX4 := blk_new w4 (.cells #[.slice A40 xs.length c40, .slice A41 ys.length c41] 29)
  have BK4 := blk_alloc ((hb4.block _ (blk_lt BK3.out)).trans BK3.out) (.cells #[.slice A40 xs.length c40, .slice A41 ys.length c41] 29)
  have R40a := Kd.R_below R40 hb4a
  have R41a := Kd.R_below R41 hb4a
  have HO40 := Aside0.mk (show ∀ k_, (Value.slice A40 xs.length c40).ownBlock = some k_ → w3.heap.size ≤ k_ ∧ k_ < w4.heap.size from fun k_ hk => ⟨((Kd.R_bound R40).1 k_ hk).2.1, ((Kd.R_bound R40).1 k_ hk).2.2.1⟩)
  have HO41 := Aside0.mk (show ∀ k_, (Value.slice A41 ys.length c41).ownBlock = some k_ → w3.heap.size ≤ k_ ∧ k_ < w4.heap.size from fun k_ hk => ⟨((Kd.R_bound R41).1 k_ hk).2.1, ((Kd.R_bound R41).1 k_ hk).2.2.1⟩)
  have HNE := Aside0.mk (show ∀ k_, some k_ = (Value.slice A40 xs.length c40).ownBlock → ¬ some k_ = (Value.slice A41 ys.length c41).ownBlock from fun k_ hk => R40.1 k_ hk.symm)
  have S4 := Kd.S_below (Kd.S_below S3b.out hb4) hb4a
  have BW4a := below_then BW4 BW4.size hb4a
  have s4a := hb4a.size
  have sw3 := BW3.out.size
  have sB := blk_lt BK3.out
  clear b0 b1 BW3 BK3 R40 R41 hb4 S3b BW4
  generalize w4.alloc (.cells #[.slice A40 xs.length c40, .slice A41 ys.length c41] 29) = w4a at hb4a BX4 BK4 R40a R41a S4 BW4a s4a ⊢
  clear hb4a
  have sX := blk_lt BX4
  have b0 : w4a.cell? ⟨w.heap.size, 0, none⟩ = some (.slice A0_0 l0_0.length c0_0) := (blk_cell BK4 0).trans rfl
  have b1 : w4a.cell? ⟨w.heap.size, 1, none⟩ = some (.slice A0_1 l0_1.length c0_1) := (blk_cell BK4 1).trans rfl
  have x0 : w4a.cell? ⟨w4.heap.size, 0, none⟩ = some (.slice A40 xs.length c40) := (blk_cell BX4 0).trans rfl
  have x1 : w4a.cell? ⟨w4.heap.size, 1, none⟩ = some (.slice A41 ys.length c41) := (blk_cell BX4 1).trans rfl
  go_upto_region 8 with (go_at_call 27; refine (impl_HeldBytes.calls k A40 c40 xs A41 c41 ys L b _ (Kd.R_reads' R40a).2.2 (Kd.R_reads' R40a).2.1 (Kd.R_reads' R41a).2.2 (Kd.R_reads' R41a).2.1 HIB.out).mono ?_; rintro e w5 ⟨vG, rfl, S5, hb5⟩; obtain ⟨A5, c5, e5⟩ := Kd.R_slice (Kd.S_R S5); subst e5)
  have s45 := hb5.size
  have BW5 := below_then BW4a BW4a.size hb5
  have BK5 := (hb5.block _ (blk_lt BK4)).trans BK4
  have BX5 := (hb5.block _ (blk_lt BX4)).trans BX4
  have R40b := Kd.R_below R40a hb5
  have R41b := Kd.R_below R41a hb5
  have S3c := Kd.S_below S4 hb5
  have SG := Kd.S_mono (Kd.S_bound S5) (fun k_ hk => (⟨hk.2.1, hk.2.2.1⟩ : w4a.heap.size ≤ k_ ∧ k_ < w5.heap.size))
  clear b0 b1 x0 x1 R40a R41a S4 S5 hb5 BK4 BX4 BW4a
  have CS := Kd.R_reads' (Kd.S_R S3c)
  have CG := Kd.R_reads' (Kd.S_R SG)
  have b0 : w5.cell? ⟨w.heap.size, 0, none⟩ = some (.slice A0_0 l0_0.length c0_0) := (blk_cell BK5 0).trans rfl
  have b1 : w5.cell? ⟨w.heap.size, 1, none⟩ = some (.slice A0_1 l0_1.length c0_1) := (blk_cell BK5 1).trans rfl
  have x0 : w5.cell? ⟨w4.heap.size, 0, none⟩ = some (.slice A40 xs.length c40) := (blk_cell BX5 0).trans rfl
  have x1 : w5.cell? ⟨w4.heap.size, 1, none⟩ = some (.slice A41 ys.length c41) := (blk_cell BX5 1).trans rfl
  go_upto_region 10 with (go_at_call 28; refine (laws_eqIntSS.calls k A5 c5 L A3 c3 L true _ CG.2.2 CG.2.1 CS.2.2 CS.2.1 HEQ.out).mono ?_; rintro e w6 ⟨rfl, hd6⟩)
  have hb6 := below_then hd6.below hd6.below.size (below_drew (Below.refl w6.heap.size w6))
  have BW6 := Aside0.mk (below_then BW5 BW5.size hb6)
  have BK6 := Aside0.mk ((hb6.block _ (blk_lt BK5)).trans BK5)
  have BX6 := Aside0.mk ((hb6.block _ (blk_lt BX5)).trans BX5)
  have R40c := Aside0.mk (Kd.R_below R40b hb6)
  have R41c := Aside0.mk (Kd.R_below R41b hb6)
  have S3d := Aside0.mk (Kd.S_below S3c hb6)
  have SGd := Aside0.mk (Kd.S_below SG hb6)
  clear b0 b1 x0 x1 R40b R41b S3c SG hb6 hd6 BK5 BX5 BW5 CS CG
  have z0 : w6.drew.cell? ⟨w4.heap.size, 0, none⟩ = some (.slice A40 xs.length c40) := (blk_cell BX6.out 0).trans rfl
  have z1 : w6.drew.cell? ⟨w4.heap.size, 1, none⟩ = some (.slice A41 ys.length c41) := (blk_cell BX6.out 1).trans rfl
  have z2 : w6.drew.cell? ⟨w.heap.size, 0, none⟩ = some (.slice A0_0 l0_0.length c0_0) := (blk_cell BK6.out 0).trans rfl
  have z3 : w6.drew.cell? ⟨w.heap.size, 1, none⟩ = some (.slice A0_1 l0_1.length c0_1) := (blk_cell BK6.out 1).trans rfl
  refine start_ (n := 5) (S := fun w' => w'.cell? ⟨w4.heap.size, 0, none⟩ = some (.slice A40 xs.length c40) ∧ w'.cell? ⟨w4.heap.size, 1, none⟩ = some (.slice A41 ys.length c41) ∧ w'.cell? ⟨w.heap.size, 0, none⟩ = some (.slice A0_0 l0_0.length c0_0) ∧ w'.cell? ⟨w.heap.size, 1, none⟩ = some (.slice A0_1 l0_1.length c0_1)) (ds := []) #[false, false, false, false, false] (by kernel_rfl) rfl rfl ⟨z0, z1, z2, z3⟩ (fun hHeld => ?_)
  refine take_ (i := 0) (N := some 41) (v := ?_) (a' := ?_) #[true, false, false, false, false] rfl rfl (by kernel_rfl) (fun _ _ _ h => h) (Or.inl ⟨by rfl, ?_⟩) hHeld ?_ ?_
  rotate_left
  · rintro w' ⟨s0, s1, s2, s3⟩
    go_simp
    with_reducible rfl
  rotate_left
  · simp only [Act.put, List.setIfInBounds_toArray, List.set_cons_zero, List.set_cons_succ, i64_w, i32_w]
    rfl
  refine take_ (i := 1) (N := some 42) (v := ?_) (a' := ?_) #[true, true, false, false, false] rfl rfl (by kernel_rfl) (fun _ _ _ h => h) (Or.inl ⟨by rfl, ?_⟩) hHeld ?_ ?_
  rotate_left
  · rintro w' ⟨s0, s1, s2, s3⟩
    go_simp
    with_reducible rfl
  rotate_left
  · simp only [Act.put, List.setIfInBounds_toArray, List.set_cons_zero, List.set_cons_succ, i64_w, i32_w]
    rfl
  refine one_ (i := 2) (N := some 43) #[true, true, true, false, false] rfl rfl (by kernel_rfl) (by decide) (fun K hK => ?_)
  refine goes_ Try.func12 (by kernel_rfl) rfl #[.agg #[.slice A0_0 l0_0.length c0_0, .slice A0_1 l0_1.length c0_1]] (by rfl) rfl rfl zm ?_
  refine (laws_toHeld.calls k A0_0 c0_0 l0_0 A0_1 c0_1 l0_1 xs ys _ (Kd.C_below HR0.out BW6.out) HC0.out (Kd.C_below HR1.out BW6.out) HC1.out HTO.out).mono ?_
  rintro e w7 ⟨v70, v71, rfl, R70, R71, hb7⟩
  obtain ⟨A70, c70, e70⟩ := Kd.R_slice R70
  subst e70
  obtain ⟨A71, c71, e71⟩ := Kd.R_slice R71
  subst e71
  refine ⟨_, rfl, ?_⟩
  refine hK.out _ _ ⟨pw_cell_below hb7 hHeld.1, pw_cell_below hb7 hHeld.2.1, pw_cell_below hb7 hHeld.2.2.1, pw_cell_below hb7 hHeld.2.2.2⟩ (fun hHeld => ?_)
  clear hK K
  refine norm_ (a' := ?_) ?_ ?_
  rotate_left
  · show Act.put _ (some 43) _ = _
    simp only [Act.put, List.setIfInBounds_toArray, List.set_cons_zero, List.set_cons_succ, i64_w, i32_w]
    rfl
  refine one_ (i := 3) (N := some 44) #[true, true, true, true, false] rfl rfl (by kernel_rfl) (by decide) (fun K hK => ?_)
  refine goes_ Try.func14 (by kernel_rfl) rfl #[.agg #[.slice A40 xs.length c40, .slice A41 ys.length c41], .agg #[.slice A70 xs.length c70, .slice A71 ys.length c71]] (by rfl) rfl rfl zm ?_
  have C40 := Kd.R_reads' (Kd.R_below R40c.out hb7)
  have C41 := Kd.R_reads' (Kd.R_below R41c.out hb7)
  refine (laws_eqHeld.calls k A40 c40 xs A41 c41 ys A70 c70 xs A71 c71 ys true _ C40.2.2 C40.2.1 C41.2.2 C41.2.1 (Kd.R_reads' R70).2.2 (Kd.R_reads' R70).2.1 (Kd.R_reads' R71).2.2 (Kd.R_reads' R71).2.1 HEH.out).mono ?_
  rintro e w8 ⟨rfl, hb8⟩
  refine ⟨_, rfl, ?_⟩
  refine hK.out _ _ ⟨pw_cell_below hb8 hHeld.1, pw_cell_below hb8 hHeld.2.1, pw_cell_below hb8 hHeld.2.2.1, pw_cell_below hb8 hHeld.2.2.2⟩ (fun hHeld => ?_)
  clear hK K
  refine norm_ (a' := ?_) ?_ ?_
  rotate_left
  · show Act.put _ (some 44) _ = _
    simp only [Act.put, List.setIfInBounds_toArray, List.set_cons_zero, List.set_cons_succ, i64_w, i32_w]
    rfl
  refine pure_ (i := 4) (N := some 45) (v := ?_) (a' := ?_) #[true, true, true, true, true] rfl rfl (by kernel_rfl) (fun _ _ _ h => h) (Or.inl ⟨by rfl, ?_⟩) ?_ ?_
  rotate_left
  · intro w'
    go_simp
    with_reducible rfl
  rotate_left
  · simp only [Act.put, List.setIfInBounds_toArray, List.set_cons_zero, List.set_cons_succ, i64_w, i32_w]
    rfl
  refine done_ (by kernel_rfl) ?_
  have hb68 := below_then hb7 hb7.size hb8
  have BW8 := Aside0.mk (below_then BW6.out BW6.out.size hb68)
  have BK8 := Aside0.mk ((hb68.block _ (blk_lt BK6.out)).trans BK6.out)
  have R40e := Aside0.mk (Kd.R_tight rfl (Kd.R_lower (base' := w.heap.size) (Kd.R_below R40c.out hb68) sw3))
  have R41e := Aside0.mk (Kd.R_tight rfl (Kd.R_lower (base' := w.heap.size) (Kd.R_below R41c.out hb68) sw3))
  have S3e := Aside0.mk (Kd.S_below S3d.out hb68)
  have SGe := Aside0.mk (Kd.S_below SGd.out hb68)
  have HNE2 := Aside0.mk (fun k_ h1 h2 => HNE.out k_ h2 h1)
  clear BW6 BK6 BX6 R40c R41c S3d SGd R70 R71 hb7 hb8 hb68 z0 z1 z2 z3
  obtain ⟨x0, x1, b0, b1⟩ := hHeld
  go_upto_region 14 with (go_at_call 21; refine (laws_markHeld.calls k _ _ xs _ _ ys 1 mk xs' ys' w _ BW8.out R40e.out HNE.out R41e.out HNE2.out HMH.out).mono ?_; rintro e w9 ⟨rfl, R40f, R41f, hb9, hk9⟩)
  have hnb : ∀ k_, (k_ < w3.heap.size ∨ w4.heap.size ≤ k_) → ¬ (some k_ = (Value.slice A40 xs.length c40).ownBlock ∨ some k_ = (Value.slice A41 ys.length c41).ownBlock) := fun k_ hk h_ => by
    rcases h_ with h_ | h_
    · have := HO40.out k_ h_.symm; omega
    · have := HO41.out k_ h_.symm; omega
  have BK9 := (hk9.2 _ (blk_lt BK8.out) (hnb _ (.inl sB))).trans BK8.out
  have S3f := laws_FnExactHeldBytes.S_kept S3e.out hk9 (fun k_ hk => hnb k_ (.inl hk.2))
  have SGf := laws_FnExactHeldBytes.S_kept SGe.out hk9 (fun k_ hk => hnb k_ (.inr (by have := hk.1; omega)))
  clear b0 b1 x0 x1 R40f R41f hk9 S3e SGe BW8 BK8 R40e R41e hnb
  have CS := Kd.R_reads' (Kd.S_R S3f)
  have CG := Kd.R_reads' (Kd.S_R SGf)
  have b0 : w9.cell? ⟨w.heap.size, 0, none⟩ = some (.slice A0_0 l0_0.length c0_0) := (blk_cell BK9 0).trans rfl
  have b1 : w9.cell? ⟨w.heap.size, 1, none⟩ = some (.slice A0_1 l0_1.length c0_1) := (blk_cell BK9 1).trans rfl
  go_upto_region 17 with (go_at_call 28; refine (laws_eqIntSS.calls k A5 c5 L A3 c3 L true _ CG.2.2 CG.2.1 CS.2.2 CS.2.1 HEQ.out).mono ?_; rintro e w10 ⟨rfl, hd10⟩)
  have hb10 := hd10.below
  have BW10 := Aside0.mk (below_then hb9 hb9.size hb10)
  have BK10 := Aside0.mk ((hb10.block _ (blk_lt BK9)).trans BK9)
  have S3g := Aside0.mk (Kd.S_below S3f hb10)
  have SGg := Aside0.mk (Kd.S_lower (base' := w.heap.size) (Kd.S_below SGf hb10) (by omega))
  clear b0 b1 S3f SGf hb9 hb10 hd10 BK9 CS CG
  go_upto_region 19 with (go_at_call 29; refine (laws_markIntSS.calls k _ _ L 1 mi L' w _ BW10.out SGg.out HMI.out).mono ?_; rintro e w11 ⟨rfl, SGh, hb11, hk11⟩)
  have BK11 := Aside0.mk ((hk11.2 _ (blk_lt BK10.out) (fun h_ => by have := h_.1; omega)).trans BK10.out)
  have S3h := Aside0.mk (laws_FnExactHeldBytes.S_kept S3g.out hk11 (fun k_ hk h_ => by have := hk.2; have := h_.1; omega))
  have CG := Kd.R_reads' (Kd.S_R SGh)
  have hLL := Aside0.mk CG.1
  have SGi := Aside0.mk SGh
  have BW11 := Aside0.mk hb11
  have hcall := Aside0.mk (show Calls Try.prog 30 #[.slice A5 L.length c5, .int .i64 1] w11 _ from by rw [hLL.out]; exact laws_heldIntSS.calls k A5 c5 L' 1 mi w11 CG.2.2 (by have := CG.2.1; omega) HHI.out)
  clear SGh hb11 hk11 S3g SGg BW10 BK10 CG
  go_upto_region 24 with (go_at_call 30; refine hcall.out.mono ?_; rintro e w12 ⟨rfl, hd12⟩)
  have hb12 := hd12.below
  have BW12 := Aside0.mk (below_then BW11.out BW11.out.size hb12)
  have BK12 := Aside0.mk ((hb12.block _ (blk_lt BK11.out)).trans BK11.out)
  have S3j := Aside0.mk (Kd.S_below S3h.out hb12)
  have SGj := Aside0.mk (Kd.S_below SGi.out hb12)
  clear hcall S3h SGi BW11 BK11 hb12 hd12
  have b0 : w12.cell? ⟨w.heap.size, 0, none⟩ = some (.slice A0_0 l0_0.length c0_0) := (blk_cell BK12.out 0).trans rfl
  have b1 : w12.cell? ⟨w.heap.size, 1, none⟩ = some (.slice A0_1 l0_1.length c0_1) := (blk_cell BK12.out 1).trans rfl
  go_upto_region 25 with (first
    | (go_at_call 12; refine (laws_toHeld.calls k A0_0 c0_0 l0_0 A0_1 c0_1 l0_1 xs ys _ (Kd.C_below HR0.out BW12.out) HC0.out (Kd.C_below HR1.out BW12.out) HC1.out HTO.out).mono ?_; rintro e w13 ⟨v80, v81, rfl, R80, R81, hb13⟩; obtain ⟨A80, c80, e80⟩ := Kd.R_slice R80; subst e80; obtain ⟨A81, c81, e81⟩ := Kd.R_slice R81; subst e81)
    | (go_at_call 27; refine (impl_HeldBytes.calls k A80 c80 xs A81 c81 ys L b _ (Kd.R_reads' R80).2.2 (Kd.R_reads' R80).2.1 (Kd.R_reads' R81).2.2 (Kd.R_reads' R81).2.1 HIB.out).mono ?_; rintro e w14 ⟨vH, rfl, S14, hb14⟩; obtain ⟨A14, c14, e14⟩ := Kd.R_slice (Kd.S_R S14); subst e14))
  have hb134 := below_then hb13 hb13.size hb14
  have BW14 := Aside0.mk (below_then BW12.out BW12.out.size hb134)
  have S3k := Kd.S_below S3j.out hb134
  have SGk := Aside0.mk (Kd.S_below SGj.out hb134)
  have CS := Kd.R_reads' (Kd.S_R S3k)
  have CH := Kd.R_reads' (Kd.S_R S14)
  clear b0 b1 R80 R81 hb13 hb14 hb134 S3k S14 S3j SGj BW12 BK12
  go_upto_region 28 with (go_at_call 28; refine (laws_eqIntSS.calls k A14 c14 L A3 c3 L true _ CH.2.2 CH.2.1 CS.2.2 CS.2.1 HEQ.out).mono ?_; rintro e w15 ⟨rfl, hd15⟩)
  have hb15 := hd15.below
  have BW15 := Aside0.mk (below_then BW14.out BW14.out.size hb15)
  have CG := Kd.R_reads' (Kd.S_R (Kd.S_below SGk.out hb15))
  have hcall := Aside0.mk (show Calls Try.prog 30 #[.slice A5 L.length c5, .int .i64 1] w15 _ from by rw [hLL.out]; exact laws_heldIntSS.calls k A5 c5 L' 1 mi w15 CG.2.2 (by have := CG.2.1; omega) HHI.out)
  clear CS CH CG SGk hd15 hb15 BW14
  go_wp2_with (go_at_call 30; refine hcall.out.mono ?_; rintro e w16 ⟨rfl, hd16⟩)
  go_ret
  exact ⟨rfl, below_then BW15.out BW15.out.size hd16.below⟩


end Go.Proofs.Ytgjlbghjjjlhmaa.P
