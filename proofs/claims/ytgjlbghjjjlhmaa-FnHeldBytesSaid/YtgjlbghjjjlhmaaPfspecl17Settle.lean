-- printed by wip/qd.py
import Derived.Test.YtgjlbghjjjlhmaaPf0
import Derived.Test.YtgjlbghjjjlhmaaPfspecl17Who
import Derived.Test.YtgjlbghjjjlhmaaPfspecl17Change
import Derived.Test.YtgjlbghjjjlhmaaPfspecl17Mode
import Derived.Test.YtgjlbghjjjlhmaaQBase
namespace Go.Proofs.Ytgjlbghjjjlhmaa.P
open Go.RowKit Go.Proofs.YtgjlbghjjjlhmaaW.PrintWords Go.Proofs.YtgjlbghjjjlhmaaW.PrintLast Go.Proofs.YtgjlbghjjjlhmaaW.PrintMore
attribute [local go_sem] max2_int min2_int max_two min_two max_three min_three max_four min_four Q.cell_set_map
set_option linter.unusedVariables false
set_option linter.unusedSimpArgs false

/-! ### spec_l17Settle: function 65 -/
-- IMPORT Derived.Test.YtgjlbghjjjlhmaaQBase
mutual
def spec_l17Settle.l0 : Nat → Int → List S40 → List S40 → Option (List S40 × List S40)
  | 0, _, _, _ => none
  | k + 1, x3, hs, ws => if x3 < (ws.length : Int) then (if 0 ≤ x3 then (if ws.length < 1000000000 then ((spec_l17Who.f k hs (rd_T40 ws x3).f0 (rd_T40 ws x3).f1 (rd_T40 ws x3).f2 (rd_T40 ws x3).f3).bind fun t => (if t.length = 0 then ((spec_l17Mode.f (rd_T40 ws x3).f0 (rd_T40 ws x3).f1 (rd_T40 ws x3).f2 (rd_T40 ws x3).f3).bind fun md => (spec_l17Change.f k hs (rd_T40 ws x3).f0 (rd_T40 ws x3).f1 (rd_T40 ws x3).f2 md).bind fun nh => spec_l17Settle.f k nh (ws.take x3.toNat ++ ws.drop (x3.toNat + 1))) else spec_l17Settle.l0 k (x3 + 1) hs ws)) else none) else none) else some (hs, ws)
def spec_l17Settle.f : Nat → List S40 → List S40 → Option (List S40 × List S40)
  | 0, _, _ => none
  | k + 1, hs, ws => spec_l17Settle.l0 k 0 hs ws
end
theorem spec_l17Settle.mono_b : ∀ k, (∀ x hs ws, LeO (spec_l17Settle.l0 k x hs ws) (spec_l17Settle.l0 (k + 1) x hs ws)) ∧ (∀ hs ws, LeO (spec_l17Settle.f k hs ws) (spec_l17Settle.f (k + 1) hs ws))
  | 0 => ⟨fun _ _ _ r h => by simp [spec_l17Settle.l0] at h, fun _ _ r h => by simp [spec_l17Settle.f] at h⟩
  | k + 1 => by
    obtain ⟨h1, h2⟩ := spec_l17Settle.mono_b k
    refine ⟨fun x hs ws => ?_, fun hs ws => ?_⟩
    · unfold spec_l17Settle.l0
      exact LeO.ite (LeO.ite (LeO.ite (LeO.bind (spec_l17Who.mono _ _ _ _ _ _) (fun t => LeO.ite (LeO.bind (LeO.refl _) (fun md => LeO.bind (spec_l17Change.mono _ _ _ _ _ _) (fun nh => h2 _ _))) (h1 _ _ _))) (LeO.none _)) (LeO.none _)) (LeO.refl _)
    · unfold spec_l17Settle.f
      exact h1 _ _ _
theorem spec_l17Settle.mono : ∀ a0 a1 k, LeO (spec_l17Settle.f k a0 a1) (spec_l17Settle.f (k + 1) a0 a1) := fun a0 a1 k => (spec_l17Settle.mono_b k).2 a0 a1
theorem _root_.Go.Proofs.YtgjlbghjjjlhmaaW.PrintWords.Kd.C_take_ {α : Type} {d : Kd α} {w : World} {A : Option Addr} {n : Nat} {xs : List α} (h : d.C w A n xs) {m : Nat} (hm : m ≤ xs.length) : d.C w A m (xs.take m) := by
  have hl : (xs.take m).length = m := by rw [List.length_take]; omega
  have h1 := h.1
  refine ⟨hl, by have := h.2.1; omega, fun hp => ?_⟩
  obtain ⟨ad, e, hc⟩ := h.2.2 (by omega)
  refine ⟨ad, e, fun j p hj => hc j p ?_⟩
  rw [List.getElem?_take] at hj
  split at hj
  · exact hj
  · cases hj
theorem spec_l17Settle.dropC {d : Kd S40} {w : World} {ad : Addr} {n c m : Nat} {xs : List S40} (h : d.C w (some ad) n xs) (hm : m ≤ n) (hc : n ≤ c) : d.C w (if c = m then some ad else (some ad : Option Addr).map (·.add (m * d.sz))) (n - m) (xs.drop m) := by
  have h1 := h.1
  refine ⟨by rw [List.length_drop, h1], by have := h.2.1; omega, fun hp => ?_⟩
  obtain ⟨ad', e, hcc⟩ := h.2.2 (by omega)
  injection e with e
  subst e
  rw [if_neg (by omega)]
  refine ⟨_, rfl, fun j p hj => ?_⟩
  rw [List.getElem?_drop] at hj
  obtain ⟨cs, h2, h3, h4⟩ := hcc (m + j) p hj
  refine ⟨cs, h2, h3, fun i u hu => ?_⟩
  have := h4 i u hu
  rw [add_add, show m * d.sz + (j * d.sz + i) = (m + j) * d.sz + i by rw [Nat.add_mul]; omega]
  exact this
theorem spec_l17Settle.weaken {w0 w w1 : World} {B : Nat} (h : Below w0.heap.size w0 w) (hB : w0.heap.size ≤ B) (k : Below B w w1) : Below w0.heap.size w0 w1 := h.trans ⟨k.os, k.tape, k.output, k.size, fun i hi => k.block i (Nat.lt_of_lt_of_le hi hB)⟩
set_option maxHeartbeats 8000000 in
set_option maxRecDepth 100000 in
theorem spec_l17Settle.calls (k : Nat) : ∀ (P0_0_ : Nat → Prop) (u9000_ : Value) (l0_0 : List S40) (P0_1_ : Nat → Prop) (u9001_ : Value) (l0_1 : List S40) (r1 r2 : List S40) (w0 w : World) (hB : Below w0.heap.size w0 w) (ho0_0 : Kd.R k40 40 w w0.heap.size P0_0_ u9000_ l0_0) (hn0_1 : ∀ k_, P0_0_ k_ → some k_ ≠ u9001_.ownBlock) (ho0_1 : Kd.R k40 40 w w0.heap.size P0_1_ u9001_ l0_1) (hn1_0 : ∀ k_, P0_1_ k_ → some k_ ≠ u9000_.ownBlock) (h : spec_l17Settle.f k l0_0 l0_1 = some (r1, r2)),
    Calls Try.prog 65 #[.agg #[u9000_, u9001_]] w fun e w' => ∃ v0_ v1_ : Value, e = .returned (.agg #[v0_, v1_]) ∧ Kd.R k40 40 w' w0.heap.size (fun k_ => ((P0_0_ k_ ∨ P0_1_ k_) ∨ w.heap.size ≤ k_) ∧ some k_ ≠ v1_.ownBlock) v0_ r1 ∧ Kd.R k40 40 w' w0.heap.size (fun k_ => ((P0_0_ k_ ∨ P0_1_ k_) ∨ w.heap.size ≤ k_) ∧ some k_ ≠ v0_.ownBlock) v1_ r2 ∧ Below w0.heap.size w0 w' ∧ Kept w w' (fun k_ => P0_0_ k_ ∨ P0_1_ k_) := by
  induction k using Nat.strongRecOn with
  | _ k ih =>
  intro P0 u0 hs P1 u1 ws r1 r2 w0 w hB ho0 hn01 ho1 hn10 h
  cases k with
  | zero => exact absurd h (by simp [spec_l17Settle.f])
  | succ k' =>
  simp only [spec_l17Settle.f] at h
  have HA := Aside0.mk h
  clear h
  obtain ⟨A0, c0, e0⟩ := Kd.R_slice ho0
  subst e0
  obtain ⟨A1, c1, e1⟩ := Kd.R_slice ho1
  subst e1
  have HC0 := Aside0.mk (Kd.R_reads' ho0).2.1
  have HC1 := Aside0.mk (Kd.R_reads' ho1).2.1
  have hmax : ws.length ≤ 9223372036854775807 := (Kd.R_reads' ho1).2.2.2.1
  have HO0 := Aside0.mk ho0
  have HO1 := Aside0.mk ho1
  have HN0 := Aside0.mk hn01
  have HN1 := Aside0.mk hn10
  have HBW := Aside0.mk hB
  clear ho0 ho1 hn01 hn10 hB
  have IH := Aside0.mk ih
  clear ih
  go_enter Try.func65, Try.ntmps65
  go_wp2
  go_loopg [3] k' (fun kq v3 wr => ∃ i : Nat, i ≤ ws.length ∧ v3 = .int .i64 i ∧ Aside0 (spec_l17Settle.l0 kq (i : Int) hs ws = some (r1, r2)) ∧ Aside0 (kq ≤ k') ∧ Aside0 (Below w.heap.size w wr) ∧ Aside0 (wr.heap[w.heap.size]? = some (.cells #[.slice A0 hs.length c0, .slice A1 ws.length c1] 29 (0, 0))) ∧ Aside0 (wr.heap[w.heap.size + 1]? = some (.cells #[.slice none 0 0, .slice none 0 0] 29 (0, 0))))
  case atStart =>
    refine ⟨0, Nat.zero_le _, rfl, ⟨HA.out⟩, ⟨Nat.le_refl _⟩, ⟨below_alloc (below_alloc (Below.refl _ _) _) _⟩, ⟨blk_alloc (blk_new _ _) _⟩, ⟨?_⟩⟩
    simpa using blk_new (w.alloc (.cells #[.slice A0 hs.length c0, .slice A1 ws.length c1] 29)) (.cells #[.slice none 0 0, .slice none 0 0] 29)
  case round =>
    clear HA
    obtain ⟨i, hil, rfl, HA, HK, BW, BK, B2⟩ := hrel
    cases gk with
    | zero => exact absurd HA.out (by simp [spec_l17Settle.l0])
    | succ kr =>
    have H := HA.out
    clear HA
    simp only [spec_l17Settle.l0] at H
    have bc0 : wr.cell? ⟨w.heap.size, 0, none⟩ = some (.slice A0 hs.length c0) := (blk_cell BK.out 0).trans rfl
    have bc1 : wr.cell? ⟨w.heap.size, 1, none⟩ = some (.slice A1 ws.length c1) := (blk_cell BK.out 1).trans rfl
    by_cases hlt : i < ws.length
    · have hltz : (i : Int) < (ws.length : Int) := by omega
      rw [if_pos hltz, if_pos (by omega)] at H
      have hwl : ws.length < 1000000000 := by
        by_cases hwl : ws.length < 1000000000
        · exact hwl
        · rw [if_neg hwl] at H
          cases H
      rw [if_pos hwl] at H
      obtain ⟨ad, rfl, q0, q1, q2, q3⟩ := at_T40 (Kd.C_below (Kd.R_reads' HO1.out).2.2 BW.out) (i : Int) (by omega) (by omega)
      rw [Int.toNat_natCast] at q0 q1 q2 q3 H
      generalize rd_T40 ws (i : Int) = y at q0 q1 q2 q3 H
      obtain ⟨tw, hwho, H⟩ := Option.bind_eq_some_iff.1 H
      have WHH := Aside0.mk hwho
      have LM1 := Aside0.mk hwl
      clear hwho hwl
      have hWa : Below wr.heap.size wr (wr.alloc (.cells #[.int .i64 y.f0, .int .i64 y.f1, .int .i64 y.f2, .bool y.f3] 40)) := below_alloc (Below.refl _ _) _
      have hx0 := pw_cell_below hWa bc0
      have hx1 := pw_cell_below hWa bc1
      have hnw := blk_new wr (.cells #[.int .i64 y.f0, .int .i64 y.f1, .int .i64 y.f2, .bool y.f3] 40)
      have hx2 : (wr.alloc (.cells #[.int .i64 y.f0, .int .i64 y.f1, .int .i64 y.f2, .bool y.f3] 40)).cell? ⟨wr.heap.size, 0, none⟩ = some (.int .i64 y.f0) := (blk_cell hnw 0).trans rfl
      have hx3 : (wr.alloc (.cells #[.int .i64 y.f0, .int .i64 y.f1, .int .i64 y.f2, .bool y.f3] 40)).cell? ⟨wr.heap.size, 1, none⟩ = some (.int .i64 y.f1) := (blk_cell hnw 1).trans rfl
      have hx4 : (wr.alloc (.cells #[.int .i64 y.f0, .int .i64 y.f1, .int .i64 y.f2, .bool y.f3] 40)).cell? ⟨wr.heap.size, 2, none⟩ = some (.int .i64 y.f2) := (blk_cell hnw 2).trans rfl
      have hx5 : (wr.alloc (.cells #[.int .i64 y.f0, .int .i64 y.f1, .int .i64 y.f2, .bool y.f3] 40)).cell? ⟨wr.heap.size, 3, none⟩ = some (.bool y.f3) := (blk_cell hnw 3).trans rfl
      have HW1 := Aside0.mk (below_then BW.out BW.out.size hWa)
      have HN4 := Aside0.mk hnw
      have HWA := Aside0.mk hWa
      clear hnw hWa
      by_cases ht : tw.length = 0
      · rw [if_pos ht] at H
        obtain ⟨md, hmd, H⟩ := Option.bind_eq_some_iff.1 H
        obtain ⟨nh, hch, H⟩ := Option.bind_eq_some_iff.1 H
        have MDH := Aside0.mk hmd
        have CHH := Aside0.mk hch
        have HF := Aside0.mk H
        have htb : ((tw.length : Int) == 0) = true := by simp [ht]
        clear hmd hch H
        go_upto_region 6 with (go_at_call 36; refine (spec_l17Who.calls kr A0 c0 hs y.f0 y.f1 y.f2 y.f3 tw _ (Kd.C_below (Kd.R_reads' HO0.out).2.2 HW1.out) HC0.out WHH.out).mono ?_; rintro e w2 ⟨v2, rfl, R2, hb2⟩; obtain ⟨A2, c2, e2⟩ := Kd.R_slice R2; subst e2)
        have HW2 := Aside0.mk (below_then HW1.out HW1.out.size hb2)
        have BKx := (hb2.block _ (blk_lt (blk_alloc BK.out _))).trans (blk_alloc BK.out _)
        have B2x := (hb2.block _ (blk_lt (blk_alloc B2.out _))).trans (blk_alloc B2.out _)
        have HN2 := (hb2.block _ (blk_lt HN4.out)).trans HN4.out
        have R0 := Kd.R_below HO0.out HW2.out
        have hC1 := Kd.C_below (Kd.R_reads' HO1.out).2.2 HW2.out
        clear BK B2 BW bc0 bc1 hx0 hx1 hx2 hx3 hx4 hx5 q0 q1 q2 q3 HWA HW1 HN4
        have BK := BKx
        have z0 : w2.drew.cell? ⟨w.heap.size, 0, none⟩ = some (.slice A0 hs.length c0) := (blk_cell (blk_drew BK) 0).trans rfl
        have z1 : w2.drew.cell? ⟨w.heap.size, 1, none⟩ = some (.slice (some ad) ws.length c1) := (blk_cell (blk_drew BK) 1).trans rfl
        have z2 : w2.drew.cell? ⟨wr.heap.size, 0, none⟩ = some (.int .i64 y.f0) := (blk_cell (blk_drew HN2) 0).trans rfl
        have z3 : w2.drew.cell? ⟨wr.heap.size, 1, none⟩ = some (.int .i64 y.f1) := (blk_cell (blk_drew HN2) 1).trans rfl
        have z4 : w2.drew.cell? ⟨wr.heap.size, 2, none⟩ = some (.int .i64 y.f2) := (blk_cell (blk_drew HN2) 2).trans rfl
        have z5 : w2.drew.cell? ⟨wr.heap.size, 3, none⟩ = some (.bool y.f3) := (blk_cell (blk_drew HN2) 3).trans rfl
        refine start_ (n := 13) (S := fun w' => w'.cell? ⟨w.heap.size, 0, none⟩ = some (.slice A0 hs.length c0) ∧ w'.cell? ⟨w.heap.size, 1, none⟩ = some (.slice (some ad) ws.length c1) ∧ w'.cell? ⟨wr.heap.size, 0, none⟩ = some (.int .i64 y.f0) ∧ w'.cell? ⟨wr.heap.size, 1, none⟩ = some (.int .i64 y.f1) ∧ w'.cell? ⟨wr.heap.size, 2, none⟩ = some (.int .i64 y.f2) ∧ w'.cell? ⟨wr.heap.size, 3, none⟩ = some (.bool y.f3)) (ds := [12]) #[false, false, false, false, false, false, false, false, false, false, false, false, false] (by kernel_rfl) rfl rfl ⟨z0, z1, z2, z3, z4, z5⟩ (fun hHeld => ?_)
        refine pure_ (i := 0) (N := some 23) (v := ?_) (a' := ?_) #[true, false, false, false, false, false, false, false, false, false, false, false, false] rfl rfl (by kernel_rfl) (fun _ _ _ h => h) (Or.inl ⟨by rfl, ?_⟩) ?_ ?_
        rotate_left
        · intro w'
          go_simp
          with_reducible rfl
        rotate_left
        · simp only [Act.put, List.setIfInBounds_toArray, List.set_cons_zero, List.set_cons_succ, i64_w, i32_w]
          rfl
        refine pure_ (i := 2) (N := some 25) (v := ?_) (a' := ?_) #[true, false, true, false, false, false, false, false, false, false, false, false, false] rfl rfl (by kernel_rfl) (fun _ _ _ h => h) (Or.inl ⟨by rfl, ?_⟩) ?_ ?_
        rotate_left
        · intro w'
          go_simp
          with_reducible rfl
        rotate_left
        · simp only [Act.put, List.setIfInBounds_toArray, List.set_cons_zero, List.set_cons_succ, i64_w, i32_w]
          rfl
        refine pure_ (i := 4) (N := some 27) (v := ?_) (a' := ?_) #[true, false, true, false, true, false, false, false, false, false, false, false, false] rfl rfl (by kernel_rfl) (fun _ _ _ h => h) (Or.inl ⟨by rfl, ?_⟩) ?_ ?_
        rotate_left
        · intro w'
          go_simp
          with_reducible rfl
        rotate_left
        · simp only [Act.put, List.setIfInBounds_toArray, List.set_cons_zero, List.set_cons_succ, i64_w, i32_w]
          rfl
        refine pure_ (i := 6) (N := some 29) (v := ?_) (a' := ?_) #[true, false, true, false, true, false, true, false, false, false, false, false, false] rfl rfl (by kernel_rfl) (fun _ _ _ h => h) (Or.inl ⟨by rfl, ?_⟩) ?_ ?_
        rotate_left
        · intro w'
          go_simp
          with_reducible rfl
        rotate_left
        · simp only [Act.put, List.setIfInBounds_toArray, List.set_cons_zero, List.set_cons_succ, i64_w, i32_w]
          rfl
        refine take_ (i := 1) (N := some 24) (v := ?_) (a' := ?_) #[true, true, true, false, true, false, true, false, false, false, false, false, false] rfl rfl (by kernel_rfl) (fun _ _ _ h => h) (Or.inl ⟨by rfl, ?_⟩) hHeld ?_ ?_
        rotate_left
        · rintro w' ⟨s0, s1, s2, s3, s4, s5⟩
          go_simp
          with_reducible rfl
        rotate_left
        · simp only [Act.put, List.setIfInBounds_toArray, List.set_cons_zero, List.set_cons_succ, i64_w, i32_w]
          rfl
        refine take_ (i := 3) (N := some 26) (v := ?_) (a' := ?_) #[true, true, true, true, true, false, true, false, false, false, false, false, false] rfl rfl (by kernel_rfl) (fun _ _ _ h => h) (Or.inl ⟨by rfl, ?_⟩) hHeld ?_ ?_
        rotate_left
        · rintro w' ⟨s0, s1, s2, s3, s4, s5⟩
          go_simp
          with_reducible rfl
        rotate_left
        · simp only [Act.put, List.setIfInBounds_toArray, List.set_cons_zero, List.set_cons_succ, i64_w, i32_w]
          rfl
        refine take_ (i := 5) (N := some 28) (v := ?_) (a' := ?_) #[true, true, true, true, true, true, true, false, false, false, false, false, false] rfl rfl (by kernel_rfl) (fun _ _ _ h => h) (Or.inl ⟨by rfl, ?_⟩) hHeld ?_ ?_
        rotate_left
        · rintro w' ⟨s0, s1, s2, s3, s4, s5⟩
          go_simp
          with_reducible rfl
        rotate_left
        · simp only [Act.put, List.setIfInBounds_toArray, List.set_cons_zero, List.set_cons_succ, i64_w, i32_w]
          rfl
        refine take_ (i := 7) (N := some 30) (v := ?_) (a' := ?_) #[true, true, true, true, true, true, true, true, false, false, false, false, false] rfl rfl (by kernel_rfl) (fun _ _ _ h => h) (Or.inl ⟨by rfl, ?_⟩) hHeld ?_ ?_
        rotate_left
        · rintro w' ⟨s0, s1, s2, s3, s4, s5⟩
          go_simp
          with_reducible rfl
        rotate_left
        · simp only [Act.put, List.setIfInBounds_toArray, List.set_cons_zero, List.set_cons_succ, i64_w, i32_w]
          rfl
        refine take_ (i := 8) (N := some 31) (v := ?_) (a' := ?_) #[true, true, true, true, true, true, true, true, true, false, false, false, false] rfl rfl (by kernel_rfl) (fun _ _ _ h => h) (Or.inl ⟨by rfl, ?_⟩) hHeld ?_ ?_
        rotate_left
        · rintro w' ⟨s0, s1, s2, s3, s4, s5⟩
          go_simp
          with_reducible rfl
        rotate_left
        · simp only [Act.put, List.setIfInBounds_toArray, List.set_cons_zero, List.set_cons_succ, i64_w, i32_w]
          rfl
        refine one_ (i := 9) (N := some 32) #[true, true, true, true, true, true, true, true, true, true, false, false, false] rfl rfl (by kernel_rfl) (by decide) (fun K hK => ?_)
        refine goes_ Try.func68 (by kernel_rfl) rfl #[.agg #[.int .i64 y.f0, .int .i64 y.f1, .int .i64 y.f2, .bool y.f3]] (by rfl) rfl rfl zm ?_
        refine (spec_l17Mode.calls y.f0 y.f1 y.f2 y.f3 md _ MDH.out).mono ?_
        rintro e w5 ⟨rfl, hb5⟩
        refine ⟨_, rfl, ?_⟩
        refine hK.out _ _ ⟨pw_cell_below hb5 hHeld.1, pw_cell_below hb5 hHeld.2.1, pw_cell_below hb5 hHeld.2.2.1, pw_cell_below hb5 hHeld.2.2.2.1, pw_cell_below hb5 hHeld.2.2.2.2.1, pw_cell_below hb5 hHeld.2.2.2.2.2⟩ (fun hHeld => ?_)
        clear hK K
        refine norm_ (a' := ?_) ?_ ?_
        rotate_left
        · show Act.put _ (some 32) _ = _
          simp only [Act.put, List.setIfInBounds_toArray, List.set_cons_zero, List.set_cons_succ, i64_w, i32_w]
          rfl
        refine one_ (i := 10) (N := some 33) #[true, true, true, true, true, true, true, true, true, true, true, false, false] rfl rfl (by kernel_rfl) (by decide) (fun K hK => ?_)
        refine goes_ Try.func66 (by kernel_rfl) rfl #[.slice A0 hs.length c0, .int .i64 y.f0, .int .i64 y.f1, .int .i64 y.f2, .int .i64 md] (by rfl) rfl rfl zm ?_
        have hR5 := Kd.R_below (Kd.R_drew R0) hb5
        refine (spec_l17Change.calls kr A0 c0 hs y.f0 y.f1 y.f2 md nh _ (Kd.R_reads' hR5).2.2 HC0.out CHH.out).mono ?_
        rintro e w6 ⟨v6, rfl, R6, hb6⟩
        obtain ⟨A6, c6, e6⟩ := Kd.R_slice R6
        subst e6
        refine ⟨_, rfl, ?_⟩
        have x60 := (blk_cell ((hb6.block _ (blk_lt ((hb5.block _ (blk_lt (blk_drew BK))).trans (blk_drew BK)))).trans ((hb5.block _ (blk_lt (blk_drew BK))).trans (blk_drew BK))) 0).trans rfl
        have x61 := blk_frozen ((hb6.block _ (blk_lt ((hb5.block _ (blk_lt (blk_drew BK))).trans (blk_drew BK)))).trans ((hb5.block _ (blk_lt (blk_drew BK))).trans (blk_drew BK))) 0
        refine hK.out _ _ ⟨pw_cell_below hb6 hHeld.1, pw_cell_below hb6 hHeld.2.1, pw_cell_below hb6 hHeld.2.2.1, pw_cell_below hb6 hHeld.2.2.2.1, pw_cell_below hb6 hHeld.2.2.2.2.1, pw_cell_below hb6 hHeld.2.2.2.2.2⟩ (fun hHeld => ?_)
        clear hK K
        refine norm_ (a' := ?_) ?_ ?_
        rotate_left
        · show Act.put _ (some 33) _ = _
          simp only [Act.put, List.setIfInBounds_toArray, List.set_cons_zero, List.set_cons_succ, i64_w, i32_w]
          rfl
        refine pure_ (i := 11) (N := some 34) (v := ?_) (a' := ?_) #[true, true, true, true, true, true, true, true, true, true, true, true, false] rfl rfl (by kernel_rfl) (fun _ _ _ h => h) (Or.inl ⟨by rfl, ?_⟩) ?_ ?_
        rotate_left
        · intro w'
          go_simp
          with_reducible rfl
        rotate_left
        · simp only [Act.put, List.setIfInBounds_toArray, List.set_cons_zero, List.set_cons_succ, i64_w, i32_w]
          rfl
        refine last_ (i := 12) (N := none) #[true, true, true, true, true, true, true, true, true, true, true, true, true] rfl rfl (by kernel_rfl) (by decide) (fun K hK => ?_)
        refine skip_ (w1 := ?_) (by rfl) rfl ?_ ?_
        rotate_left
        · go_simp
          rfl
        refine hK.out _ _ ?_
        clear hK K
        refine done_ (by kernel_rfl) ?_
        have B6 := (hb6.block _ (blk_lt ((hb5.block _ (blk_lt (blk_drew BK))).trans (blk_drew BK)))).trans ((hb5.block _ (blk_lt (blk_drew BK))).trans (blk_drew BK))
        have B26 := (hb6.block _ (blk_lt ((hb5.block _ (blk_lt (blk_drew B2x))).trans (blk_drew B2x)))).trans ((hb5.block _ (blk_lt (blk_drew B2x))).trans (blk_drew B2x))
        have hs56 : w2.heap.size ≤ w5.heap.size := hb5.size
        have hws : w.heap.size ≤ w5.heap.size := Nat.le_trans HW2.out.size hs56
        have hlt2 : w.heap.size + 1 < w5.heap.size := Nat.lt_of_lt_of_le (blk_lt B2x) hs56
        have HB6 := below_then (below_then (below_drew HW2.out) HW2.out.size hb5) hws hb6
        have R16 := Kd.R_below (Kd.R_mono (Kd.R_bound HO1.out) (fun k_ hk => (⟨hk.1, hk.2.2.1⟩ : P1 k_ ∧ k_ < w.heap.size))) HB6
        have R17 := Kd.R_far R16 (p := ⟨w.heap.size, 0, none⟩) (fun k_ hk => by have := hk.2; simp only; omega) (.slice A6 nh.length c6)
        have R67 := Kd.R_far (Kd.R_mono (Kd.R_bound R6) (fun k_ hk => hk.2.1)) (p := ⟨w.heap.size, 0, none⟩) (fun k_ hk => by simp only; omega) (.slice A6 nh.length c6)
        have HB7 := below_set (j := 0) (v := .slice A6 nh.length c6) HB6 (g := w.heap.size) (Nat.le_refl _)
        have BK7 := blk_put B6 0 (.slice A6 nh.length c6) rfl
        have B27 : (w6.setCell ⟨w.heap.size, 0, none⟩ (.slice A6 nh.length c6)).heap[w.heap.size + 1]? = _ := (Below.heap_setCell w6 ⟨w.heap.size, 0, none⟩ (.slice A6 nh.length c6) (w.heap.size + 1) (by simp)).trans B26
        have hs7 : (w6.setCell ⟨w.heap.size, 0, none⟩ (.slice A6 nh.length c6)).heap.size = w6.heap.size := by simp [World.setCell]
        generalize w6.setCell ⟨w.heap.size, 0, none⟩ (.slice A6 nh.length c6) = w7 at R17 R67 HB7 BK7 B27 hs7 ⊢
        have hC7 := Kd.C_below (Kd.R_reads' R17).2.2 (below_drew (Below.refl _ _))
        have hBK7 := BK7
        have BK7 := blk_drew BK7
        have z0 : w7.drew.cell? ⟨w.heap.size, 0, none⟩ = some (.slice A6 nh.length c6) := (blk_cell BK7 0).trans rfl
        have z1 : w7.drew.cell? ⟨w.heap.size, 1, none⟩ = some (.slice (some ad) ws.length c1) := (blk_cell BK7 1).trans rfl
        have hwz : IntKind.i64.wrap ((i : Int) + 1) = (i : Int) + 1 := by have := LM1.out; rw [i64_w]; unfold wrap64; omega
        have hic : i ≤ c1 := Nat.le_trans hil HC1.out
        have hz1 : (0 : Int) ≤ (i : Int) + 1 := by omega
        have hz2 : (i : Int) + 1 ≤ (ws.length : Int) := by omega
        have htn : ((i : Int) + 1).toNat = i + 1 := by omega
        go_upto_region 7 with (fail)
        refine start_ (n := 14) (S := fun w' => w'.cell? ⟨w.heap.size, 0, none⟩ = some (.slice A6 nh.length c6) ∧ w'.cell? ⟨w.heap.size, 1, none⟩ = some (.slice (some ad) ws.length c1)) (ds := [13]) #[false, false, false, false, false, false, false, false, false, false, false, false, false, false] (by kernel_rfl) rfl rfl ⟨z0, z1⟩ (fun hHeld => ?_)
        refine pure_ (i := 1) (N := some 36) (v := ?_) (a' := ?_) #[false, true, false, false, false, false, false, false, false, false, false, false, false, false] rfl rfl (by kernel_rfl) (fun _ _ _ h => h) (Or.inl ⟨by rfl, ?_⟩) ?_ ?_
        rotate_left
        · intro w'
          go_simp
          with_reducible rfl
        rotate_left
        · simp only [Act.put, List.setIfInBounds_toArray, List.set_cons_zero, List.set_cons_succ, i64_w, i32_w]
          rfl
        refine pure_ (i := 3) (N := some 38) (v := ?_) (a' := ?_) #[false, true, false, true, false, false, false, false, false, false, false, false, false, false] rfl rfl (by kernel_rfl) (fun _ _ _ h => h) (Or.inl ⟨by rfl, ?_⟩) ?_ ?_
        rotate_left
        · intro w'
          go_simp
          with_reducible rfl
        rotate_left
        · simp only [Act.put, List.setIfInBounds_toArray, List.set_cons_zero, List.set_cons_succ, i64_w, i32_w]
          rfl
        refine pure_ (i := 6) (N := some 41) (v := ?_) (a' := ?_) #[false, true, false, true, false, false, true, false, false, false, false, false, false, false] rfl rfl (by kernel_rfl) (fun _ _ _ h => h) (Or.inl ⟨by rfl, ?_⟩) ?_ ?_
        rotate_left
        · intro w'
          go_simp
          with_reducible rfl
        rotate_left
        · simp only [Act.put, List.setIfInBounds_toArray, List.set_cons_zero, List.set_cons_succ, i64_w, i32_w]
          rfl
        refine pure_ (i := 8) (N := some 43) (v := ?_) (a' := ?_) #[false, true, false, true, false, false, true, false, true, false, false, false, false, false] rfl rfl (by kernel_rfl) (fun _ _ _ h => h) (Or.inl ⟨by rfl, ?_⟩) ?_ ?_
        rotate_left
        · intro w'
          go_simp
          with_reducible rfl
        rotate_left
        · simp only [Act.put, List.setIfInBounds_toArray, List.set_cons_zero, List.set_cons_succ, i64_w, i32_w]
          rfl
        refine pure_ (i := 9) (N := some 44) (v := ?_) (a' := ?_) #[false, true, false, true, false, false, true, false, true, true, false, false, false, false] rfl rfl (by kernel_rfl) (fun _ _ _ h => h) (Or.inl ⟨by rfl, ?_⟩) ?_ ?_
        rotate_left
        · intro w'
          go_simp
          with_reducible rfl
        rotate_left
        · simp only [Act.put, List.setIfInBounds_toArray, List.set_cons_zero, List.set_cons_succ, i64_w, i32_w]
          rfl
        refine take_ (i := 2) (N := some 37) (v := ?_) (a' := ?_) #[false, true, true, true, false, false, true, false, true, true, false, false, false, false] rfl rfl (by kernel_rfl) (fun _ _ _ h => h) (Or.inl ⟨by rfl, ?_⟩) hHeld ?_ ?_
        rotate_left
        · rintro w' ⟨s0, s1⟩
          go_simp
          with_reducible rfl
        rotate_left
        · simp only [Act.put, List.setIfInBounds_toArray, List.set_cons_zero, List.set_cons_succ, i64_w, i32_w]
          rfl
        refine pure_ (i := 4) (N := some 39) (v := ?_) (a' := ?_) #[false, true, true, true, true, false, true, false, true, true, false, false, false, false] rfl rfl (by kernel_rfl) (fun _ _ _ h => h) (Or.inl ⟨by rfl, ?_⟩) ?_ ?_
        rotate_left
        · intro w'
          go_simp
          with_reducible rfl
        rotate_left
        · simp only [Act.put, List.setIfInBounds_toArray, List.set_cons_zero, List.set_cons_succ, i64_w, i32_w]
          rfl
        refine take_ (i := 7) (N := some 42) (v := ?_) (a' := ?_) #[false, true, true, true, true, false, true, true, true, true, false, false, false, false] rfl rfl (by kernel_rfl) (fun _ _ _ h => h) (Or.inl ⟨by rfl, ?_⟩) hHeld ?_ ?_
        rotate_left
        · rintro w' ⟨s0, s1⟩
          go_simp
          with_reducible rfl
        rotate_left
        · simp only [Act.put, List.setIfInBounds_toArray, List.set_cons_zero, List.set_cons_succ, i64_w, i32_w]
          rfl
        refine pure_ (i := 10) (N := some 45) (v := ?_) (a' := ?_) #[false, true, true, true, true, false, true, true, true, true, true, false, false, false] rfl rfl (by kernel_rfl) (fun _ _ _ h => h) (Or.inl ⟨by rfl, ?_⟩) ?_ ?_
        rotate_left
        · intro w'
          go_simp
          with_reducible rfl
        rotate_left
        · simp only [Act.put, List.setIfInBounds_toArray, List.set_cons_zero, List.set_cons_succ, i64_w, i32_w]
          rfl
        refine one_ (i := 0) (N := some 35) #[true, true, true, true, true, false, true, true, true, true, true, false, false, false] rfl rfl (by kernel_rfl) (by decide) (fun K hK => ?_)
        refine Kd.R_lit_step k40 _ 40 ?hg (N := 35) ?hd (xs := ([] : List S40)) (inner := []) (ok := fun _ => True) (okp := fun _ => True) ?hr ?hp (fun _ hk => hk) trivial (Below.refl _ _) (Nat.le_refl _) (by simp) ?_
        (case hd => rfl)
        (case hg => rfl)
        (case hr => first | (go_simp; done) | (go_simp; rfl))
        (case hp => exact (Reps.none _ _))
        intro v9 w9 R9 hb9 _ _
        have hC9 := Kd.C_below hC7 hb9
        have BK9 := (hb9.block _ (blk_lt BK7)).trans BK7
        refine hK.out _ _ ⟨pw_cell_below hb9 hHeld.1, pw_cell_below hb9 hHeld.2⟩ (fun hHeld => ?_)
        clear hK K
        refine norm_ (a' := ?_) ?_ ?_
        rotate_left
        · show Act.put _ (some 35) _ = _
          simp only [Act.put, List.setIfInBounds_toArray, List.set_cons_zero, List.set_cons_succ, i64_w, i32_w]
          rfl
        refine one_ (i := 5) (N := some 40) #[true, true, true, true, true, true, true, true, true, true, true, false, false, false] rfl rfl (by kernel_rfl) (by decide) (fun K hK => ?_)
        refine Kd.R_append_rows_step k40 (w0 := w7.drew) w7.drew.heap.size (by rfl) (.tmp 35) (.tmp 39) 27 40 (.agg #[(.int .i64 0), (.int .i64 0), (.int .i64 0), (.bool false)]) 32 rfl Try.underlying27 info40 rfl (by decide) (by omega) v9 ([] : List S40) (ws.take i) _ _ _ (fun _ => True) (fun _ => False) rfl rfl ?aO ?aR (fun _ _ h => h) (fun _ h => h.elim) (fun _ _ => trivial) ?aB ?aS ?aL ?_
        (case aR => exact Kd.C_take_ hC9 hil)
        (case aB => exact hb9)
        (case aO => exact R9)
        (case aS => exact below_size hb9)
        (case aL => have := LM1.out; simp only [List.length_nil]; omega)
        intro v10 w10 R10 hb10 hgw10 hatw10
        have BK10 := (hb10.block _ (blk_lt BK7)).trans BK7
        have hC10 : Kd.C k40 w10 (if c1 = i + 1 then some ad else some (ad.add ((i + 1) * 4))) (ws.length - (i + 1)) (ws.drop (i + 1)) := spec_l17Settle.dropC (Kd.C_below hC7 hb10) (by omega) HC1.out
        refine hK.out _ _ ⟨(blk_cell BK10 0).trans rfl, (blk_cell BK10 1).trans rfl⟩ (fun hHeld => ?_)
        clear hK K
        refine norm_ (a' := ?_) ?_ ?_
        rotate_left
        · show Act.put _ (some 40) _ = _
          simp only [Act.put, List.setIfInBounds_toArray, List.set_cons_zero, List.set_cons_succ, i64_w, i32_w]
          rfl
        refine one_ (i := 11) (N := some 46) #[true, true, true, true, true, true, true, true, true, true, true, true, false, false] rfl rfl (by kernel_rfl) (by decide) (fun K hK => ?_)
        refine Kd.R_append_rows_step k40 (w0 := w7.drew) w7.drew.heap.size (by rfl) (.tmp 40) (.tmp 45) 27 40 (.agg #[(.int .i64 0), (.int .i64 0), (.int .i64 0), (.bool false)]) 32 rfl Try.underlying27 info40 rfl (by decide) (by omega) v10 ([] ++ ws.take i) (ws.drop (i + 1)) _ _ _ (fun _ => True) (fun _ => False) rfl rfl ?aO ?aR (fun _ _ h => h) (fun _ h => h.elim) (fun _ _ => trivial) ?aB ?aS ?aL ?_
        (case aR => exact hC10)
        (case aB => exact hb10)
        (case aO => exact R10)
        (case aS => exact below_size hb10)
        (case aL => have := LM1.out; simp only [List.nil_append, List.length_take]; omega)
        intro v11 w11 R11 hb11 hgw11 hatw11
        have BK11 := (hb11.block _ (blk_lt BK7)).trans BK7
        obtain ⟨A11, c11, e11⟩ := Kd.R_slice R11
        subst e11
        have x110 := (blk_cell BK11 1).trans rfl
        have x111 := blk_frozen BK11 1
        refine hK.out _ _ ⟨(blk_cell BK11 0).trans rfl, (blk_cell BK11 1).trans rfl⟩ (fun hHeld => ?_)
        clear hK K
        refine norm_ (a' := ?_) ?_ ?_
        rotate_left
        · show Act.put _ (some 46) _ = _
          simp only [Act.put, List.setIfInBounds_toArray, List.set_cons_zero, List.set_cons_succ, i64_w, i32_w]
          rfl
        refine pure_ (i := 12) (N := some 47) (v := ?_) (a' := ?_) #[true, true, true, true, true, true, true, true, true, true, true, true, true, false] rfl rfl (by kernel_rfl) (fun _ _ _ h => h) (Or.inl ⟨by rfl, ?_⟩) ?_ ?_
        rotate_left
        · intro w'
          go_simp
          with_reducible rfl
        rotate_left
        · simp only [Act.put, List.setIfInBounds_toArray, List.set_cons_zero, List.set_cons_succ, i64_w, i32_w]
          rfl
        refine last_ (i := 13) (N := none) #[true, true, true, true, true, true, true, true, true, true, true, true, true, true] rfl rfl (by kernel_rfl) (by decide) (fun K hK => ?_)
        refine skip_ (w1 := ?_) (by rfl) rfl ?_ ?_
        rotate_left
        · go_simp
          rfl
        refine hK.out _ _ ?_
        clear hK K
        refine done_ (by kernel_rfl) ?_
        rw [List.nil_append] at R11
        have hle : (ws.take i ++ ws.drop (i + 1)).length = i + (ws.length - (i + 1)) := by rw [List.length_append, List.length_take, List.length_drop]; omega
        rw [hle] at R11
        have hbd : Below w7.heap.size w7 w11 := below_then (below_drew (Below.refl _ _)) (Nat.le_refl _) hb11
        have hs11 : w7.heap.size ≤ w11.heap.size := hb11.size
        have hw57 : w5.heap.size ≤ w7.heap.size := by rw [hs7]; exact hb6.size
        have HB11 := below_then HB7 HB7.size hbd
        have hlt7 : w.heap.size + 1 < w7.heap.size := Nat.lt_of_lt_of_le hlt2 hw57
        have R68 := Kd.R_far (Kd.R_below (Kd.R_mono (Kd.R_bound R67) (fun k_ hk => (⟨hk.1, hk.2.2.1⟩ : w5.heap.size ≤ k_ ∧ k_ < w7.heap.size))) hbd) (p := ⟨w.heap.size, 1, none⟩) (fun k_ hk => by have := hk.1; simp only; omega) (.slice A11 (i + (ws.length - (i + 1))) c11)
        have R12 := Kd.R_far (Kd.R_mono (Kd.R_bound R11) (fun k_ hk => (hk.2.1 : w7.heap.size ≤ k_))) (p := ⟨w.heap.size, 1, none⟩) (fun k_ hk => by have h2 : w7.heap.size ≤ k_ := hk; simp only; omega) (.slice A11 (i + (ws.length - (i + 1))) c11)
        have HB12 := below_set (j := 1) (v := .slice A11 (i + (ws.length - (i + 1))) c11) HB11 (g := w.heap.size) (Nat.le_refl _)
        have BK12 := blk_put BK11 1 (.slice A11 (i + (ws.length - (i + 1))) c11) rfl
        have B212 : (w11.setCell ⟨w.heap.size, 1, none⟩ (.slice A11 (i + (ws.length - (i + 1))) c11)).heap[w.heap.size + 1]? = _ := (Below.heap_setCell w11 ⟨w.heap.size, 1, none⟩ (.slice A11 (i + (ws.length - (i + 1))) c11) (w.heap.size + 1) (by simp)).trans ((hbd.block _ (blk_lt B27)).trans B27)
        generalize w11.setCell ⟨w.heap.size, 1, none⟩ (.slice A11 (i + (ws.length - (i + 1))) c11) = w12 at R68 R12 HB12 BK12 B212 ⊢
        have R6a := Aside0.mk (Kd.R_lower (base' := w0.heap.size) R68 (Nat.le_trans HBW.out.size hws))
        have R12a := Aside0.mk (Kd.R_lower (base' := w0.heap.size) R12 (Nat.le_trans HBW.out.size (Nat.le_trans hws hw57)))
        have hn1 : ∀ k_, (w5.heap.size ≤ k_ ∧ k_ < w7.heap.size) → some k_ ≠ (Value.slice A11 (i + (ws.length - (i + 1))) c11).ownBlock := fun k_ hk he => by have := R12.1 k_ he.symm; have h2 : w7.heap.size ≤ k_ := this; omega
        have hn2 : ∀ k_, w7.heap.size ≤ k_ → some k_ ≠ (Value.slice A6 nh.length c6).ownBlock := fun k_ hk he => by have := (R68.1 k_ he.symm).2; omega
        have HB12a := Aside0.mk HB12
        have HBz := Aside0.mk (spec_l17Settle.weaken HBW.out HBW.out.size HB12)
        have B2a := Aside0.mk B212
        have HW57 := Aside0.mk hw57
        have z0 : w12.cell? ⟨w.heap.size, 0, none⟩ = some (.slice A6 nh.length c6) := (blk_cell BK12 0).trans rfl
        have z1 : w12.cell? ⟨w.heap.size, 1, none⟩ = some (.slice A11 (i + (ws.length - (i + 1))) c11) := (blk_cell BK12 1).trans rfl
        have HNS : Aside0 (¬ ((w5.heap.size ≤ w.heap.size + 1 ∧ w.heap.size + 1 < w7.heap.size) ∨ w7.heap.size ≤ w.heap.size + 1)) := ⟨by omega⟩
        have HKr : kr < k' + 1 := by have := HK.out; omega
        have HN12 := Aside0.mk hn1
        have HN21 := Aside0.mk hn2
        clear hn1 hn2 R68 R12 R11 BK12 B212 HB12 BK7 B27 hBK7 R17 R67 hC7 R10 hC10 HB7 HB11
        go_wp2_with (go_at_call 65; go_loud (refine (IH.out kr HKr _ _ _ _ _ _ r1 r2 w0 w12 HBz.out R6a.out HN12.out R12a.out HN21.out HF.out).mono ?_; rintro e w13 ⟨v20, v21, rfl, Q0, Q1, hbq, hkq⟩; obtain ⟨A20, c20, e20⟩ := Kd.R_slice Q0; subst e20; obtain ⟨A21, c21, e21⟩ := Kd.R_slice Q1; subst e21; have B13 := (hkq.2 _ (blk_lt B2a.out) HNS.out).trans B2a.out; have y0 : w13.cell? ⟨w.heap.size + 1, 0, none⟩ = some (.slice none 0 0) := (blk_cell B13 0).trans rfl; have y1 : w13.cell? ⟨w.heap.size + 1, 1, none⟩ = some (.slice none 0 0) := (blk_cell B13 1).trans rfl; have y2 := blk_frozen B13 0; have y3 := blk_frozen B13 1; have B13a := Aside0.mk B13; have Q0a := Aside0.mk Q0; have Q1a := Aside0.mk Q1; have hbqa := Aside0.mk hbq; have hkqa := Aside0.mk hkq; clear B13 Q0 Q1 hbq hkq))
        all_goals
          have hk12 := blk_lt B2a.out
          have hlo : ∀ k_, ((w5.heap.size ≤ k_ ∧ k_ < w7.heap.size ∨ w7.drew.heap.size ≤ k_) ∨ w12.heap.size ≤ k_) → w.heap.size + 1 < k_ := fun k_ h_ => by
            have hd : w7.drew.heap.size = w7.heap.size := rfl
            omega
          have hw0 := HBW.out.size
          refine bodyPost_ret (results_cell_row rfl _ _ (w.heap.size + 1) 29 #[.slice A20 r1.length c20, .slice A21 r2.length c21] (0, 0) _ rfl (by refine blk_put (cs := #[.slice A20 r1.length c20, .slice none 0 0]) ?_ 1 _ rfl; refine blk_put (cs := #[.slice none 0 0, .slice none 0 0]) ?_ 0 _ rfl; exact B13a.out) Try.underlying29 rfl zk) rfl ?_
          have hkk := Kept.setCell (p := ⟨w.heap.size + 1, 1, none⟩) (Kept.setCell (p := ⟨w.heap.size + 1, 0, none⟩) ((Kept.of_below HB12a.out (fun k_ => P0 k_ ∨ P1 k_)).then_ hkqa.out (fun k_ h_ => .inr (by have := hlo k_ (.inl h_); omega))) (.inr (Nat.le_succ _)) (.slice A20 r1.length c20)) (.inr (Nat.le_succ _)) (.slice A21 r2.length c21)
          refine ⟨_, _, rfl, ?_, ?_, below_set (j := 1) (v := .slice A21 r2.length c21) (below_set (j := 0) (v := .slice A20 r1.length c20) hbqa.out (g := w.heap.size + 1) (by omega)) (g := w.heap.size + 1) (by omega), hkk⟩
          · exact Kd.R_mono (Kd.R_far (Kd.R_far Q0a.out (p := ⟨w.heap.size + 1, 0, none⟩) (fun k_ h_ => by have := hlo k_ h_.1; simp only; omega) _) (p := ⟨w.heap.size + 1, 1, none⟩) (fun k_ h_ => by have := hlo k_ h_.1; simp only; omega) _) (fun k_ h_ => ⟨.inr (by have := hlo k_ h_.1; omega), h_.2⟩)
          · exact Kd.R_mono (Kd.R_far (Kd.R_far Q1a.out (p := ⟨w.heap.size + 1, 0, none⟩) (fun k_ h_ => by have := hlo k_ h_.1; simp only; omega) _) (p := ⟨w.heap.size + 1, 1, none⟩) (fun k_ h_ => by have := hlo k_ h_.1; simp only; omega) _) (fun k_ h_ => ⟨.inr (by have := hlo k_ h_.1; omega), h_.2⟩)
      · rw [if_neg ht] at H
        have htb : ((tw.length : Int) == 0) = false := by simp [ht]
        have HN' := Aside0.mk H
        clear H ht
        go_wp2_with (go_at_call 36; refine (spec_l17Who.calls kr A0 c0 hs y.f0 y.f1 y.f2 y.f3 tw _ (Kd.C_below (Kd.R_reads' HO0.out).2.2 HW1.out) HC0.out WHH.out).mono ?_; rintro e w2 ⟨v2, rfl, R2, hb2⟩; obtain ⟨A2, c2, e2⟩ := Kd.R_slice R2; subst e2)
        go_roundg kr
        case measure => omega
        case rel => exact ⟨i + 1, by omega, by go_num, ⟨HN'.out⟩, ⟨by have := HK.out; omega⟩, ⟨below_then HW1.out HW1.out.size hb2⟩, ⟨(hb2.block _ (by have := blk_lt BK.out; simp; omega)).trans (blk_alloc BK.out _)⟩, ⟨(hb2.block _ (by have := blk_lt B2.out; simp; omega)).trans (blk_alloc B2.out _)⟩⟩
    · have hltz : ¬ (i : Int) < (ws.length : Int) := by omega
      rw [if_neg hltz] at H
      simp only [Option.some.injEq, Prod.mk.injEq] at H
      obtain ⟨rfl, rfl⟩ := H
      have z0 : wr.cell? ⟨w.heap.size + 1, 0, none⟩ = some (.slice none 0 0) := (blk_cell B2.out 0).trans rfl
      have z1 : wr.cell? ⟨w.heap.size + 1, 1, none⟩ = some (.slice none 0 0) := (blk_cell B2.out 1).trans rfl
      have z2 := blk_frozen B2.out 0
      have z3 := blk_frozen B2.out 1
      go_wp2
      refine bodyPost_ret (results_cell_row rfl _ _ (w.heap.size + 1) 29 #[.slice A0 hs.length c0, .slice A1 ws.length c1] (0, 0) _ rfl (by refine blk_put (cs := #[.slice A0 hs.length c0, .slice none 0 0]) ?_ 1 _ rfl; refine blk_put (cs := #[.slice none 0 0, .slice none 0 0]) ?_ 0 _ rfl; exact B2.out) Try.underlying29 rfl zk) rfl ?_
      have hb2 := below_set (j := 1) (v := .slice A1 ws.length c1) (below_set (j := 0) (v := .slice A0 hs.length c0) BW.out (g := w.heap.size + 1) (by omega)) (g := w.heap.size + 1) (by omega)
      refine ⟨_, _, rfl, ?_, ?_, spec_l17Settle.weaken HBW.out HBW.out.size hb2, Kept.of_below hb2 _⟩
      · exact Kd.R_mono (Kd.R_below HO0.out hb2) (fun k_ hk => ⟨.inl (.inl hk), HN0.out k_ hk⟩)
      · exact Kd.R_mono (Kd.R_below HO1.out hb2) (fun k_ hk => ⟨.inl (.inr hk), HN1.out k_ hk⟩)


end Go.Proofs.Ytgjlbghjjjlhmaa.P
