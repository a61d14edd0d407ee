-- printed by this session's own driver (wip/qd.py) out of the translation; Lean checks it
import Derived.Test.YtlejcgnfpcngbaaPf0
import Derived.Test.YtlejcgnfpcngbaaPfslicesBinarySearchFuncAlarm
import Derived.Test.YtlejcgnfpcngbaaPfslicesInsertAlarm
import Derived.Deep.RegionLaw
import Derived.Shelf.RegionOpenPlain
import Derived.Test.YtlejcgnfpcngbaaQCopy
namespace Go.Proofs.Ytlejcgnfpcngbaa.P
open Go.RowKit Go.Proofs.YtlejcgnfpcngbaaW.PrintWords Go.Proofs.YtlejcgnfpcngbaaW.PrintLast Go.Proofs.YtlejcgnfpcngbaaW.PrintMore
attribute [local go_sem] max2_int min2_int max_two min_two max_three min_three max_four min_four Q.cell_set_map   -- for this text's walks alone
set_option linter.unusedVariables false
set_option linter.unusedSimpArgs false

/-! ### impl_Clock_put: function 59 -/
-- IMPORT Derived.Deep.RegionLaw
-- IMPORT Derived.Shelf.RegionOpenPlain
-- IMPORT Derived.Test.YtlejcgnfpcngbaaQCopy
/-- A world behind: but for two blocks, what stood stands. -/
structure impl_Clock_put.Mv (w w' : World) (pb : Nat) (row : Option Nat) : Prop where
  os : w'.os = w.os
  tape : w'.tape = w.tape
  output : w'.output = w.output
  size : w.heap.size ≤ w'.heap.size
  block : ∀ k, k < w.heap.size → k ≠ pb → some k ≠ row → w'.heap[k]? = w.heap[k]?
theorem impl_Clock_put.Mv.below {B : Nat} {w0 w w' : World} {pb : Nat} {row : Option Nat} (m : impl_Clock_put.Mv w w' pb row) (h : Below B w0 w) (hB : B ≤ w.heap.size) (hp : B ≤ pb) (hr : ∀ k, row = some k → B ≤ k) : Below B w0 w' :=
  ⟨m.os.trans h.os, m.tape.trans h.tape, m.output.trans h.output, Nat.le_trans h.size m.size, fun i hi => (m.block i (by omega) (by omega) (fun e => by have := hr i e.symm; omega)).trans (h.block i hi)⟩
theorem impl_Clock_put.kM {w w' : World} {base base' : Nat} {ok ok' : Nat → Prop} {l : List S62} {cs : List Value} (h : Reps (k62.M w base ok) 3 l cs) : Reps (k62.M w' base' ok') 3 l cs :=
  h.imp_ (fun p c hp => by obtain rfl := k62_openM hp; exact k62_mkM _ _ _ _)
set_option maxHeartbeats 4000000 in
set_option maxRecDepth 100000 in
/-- A time that is none: nothing is put. -/
theorem impl_Clock_put.skip (pb : Nat) (a0 a1 a2 : Int) (w : World) (ha : ¬ a1 ≤ 4095) :
    Calls Try.prog 59 #[.pointer (some ⟨pb, 0, none⟩), .agg #[.int .i64 a0, .int .i64 a1, .int .i64 a2]] w fun e w' => e = .returned (.tuple #[]) ∧ Below w.heap.size w w' := by
  have HB := below_alloc (Below.refl w.heap.size w) (.cells #[.int .i64 a0, .int .i64 a1, .int .i64 a2] 62)
  have ha2 : (decide (a1 ≤ 4095)) = false := decide_eq_false ha
  go_enter Try.func59, Try.ntmps59
  go_wp2
  go_end0
  exact ⟨rfl, HB⟩
set_option maxHeartbeats 4000000 in
set_option maxRecDepth 100000 in
/-- The alarm is put to the place that the search tells. -/
theorem impl_Clock_put.calls (k : Nat) (pb base : Nat) (nw : Int) (A : Option Addr) (c : Nat) (l : List S62) (inner : List Value) (a0 a1 a2 : Int) (i : Nat) (b : Bool) (w : World)
    (hP : w.heap[pb]? = some (.cells #[.int .i64 nw, .slice A l.length c] 26 (0, 0))) (hq : QRow w base 62 3 (.slice A l.length c) l.length inner) (hr : ∀ W B okk, Reps (k62.M W B okk) 3 l inner) (hbase : base ≤ w.heap.size)
    (ha : a1 ≤ 4095) (hs : slices_BinarySearchFunc_Alarm.f k l a0 a1 a2 = some ((i : Int), b)) (hi : i ≤ l.length) (hl : l.length ≤ 1000000) :
    Calls Try.prog 59 #[.pointer (some ⟨pb, 0, none⟩), .agg #[.int .i64 a0, .int .i64 a1, .int .i64 a2]] w fun e w' => e = .returned (.tuple #[]) ∧ ∃ v' inner', w'.heap[pb]? = some (.cells #[.int .i64 nw, v'] 26 (0, 0)) ∧ QRow w' base 62 3 v' (l.length + 1) inner' ∧ (∀ W B okk, Reps (k62.M W B okk) 3 (l.take i ++ [⟨a0, a1, a2⟩] ++ l.drop i) inner') ∧
      impl_Clock_put.Mv w w' pb (Value.slice A l.length c).ownBlock ∧ (v'.ownBlock = (Value.slice A l.length c).ownBlock ∨ ∃ b, v'.ownBlock = some b ∧ w.heap.size ≤ b) ∧ (w.ownsRow base 62 3 (.slice A l.length c) l.length inner → w'.ownsRow base 62 3 v' (l.length + 1) inner') := by
  have hplt := blk_lt hP
  have hR : Kd.Q k62 62 w base (fun _ => True) (.slice A l.length c) l := ⟨fun _ _ => trivial, inner, hq, hr _ _ _⟩
  have hC := (Kd.Q_reads' hR).2.2
  have hc := (Kd.Q_reads' hR).2.1
  have h1c : ∀ u ∈ inner, u.oneCell' = true := Kd.reps_one (hr w 0 (fun _ => True)) (by omega) (fun p c hp => k62.K_one (k62.K_of_M hp))
  have hvlt : ∀ j, (Value.slice A l.length c).ownBlock = some j → j < w.heap.size := q_lt hq
  have hnep : (Value.slice A l.length c).ownBlock ≠ some pb := fun e => by
    obtain ⟨_, cells, hcc⟩ := q_typed hq pb e
    rw [hP] at hcc
    injection hcc with hcc
    injection hcc with _ hcc
    cases hcc
  have hbox : ∀ (wx : World), Below w.heap.size w wx → wx.heap[pb]? = some (.cells #[.int .i64 nw, .slice A l.length c] 26 (0, 0)) := fun wx hb => (hb.block pb hplt).trans hP
  have HR := Aside0.mk hC
  have HQ := Aside0.mk hq
  have HH := Aside0.mk hr
  have HS := Aside0.mk hs
  have HP := Aside0.mk hP
  have HX := Aside0.mk hbox
  have HB := below_alloc (Below.refl w.heap.size w) (.cells #[.int .i64 a0, .int .i64 a1, .int .i64 a2] 62)
  have ha2 : (decide (a1 ≤ 4095)) = true := decide_eq_true ha
  have p1 : w.cell? ⟨pb, 1, none⟩ = some (.slice A l.length c) := by rw [cell_of_row w pb _ _ 26 (0, 0) hP]; rfl
  have mixed : Try.prog.follows .mixedOrders = true := by kernel_rfl
  clear hR hC hq hr hs hP hbox
  go_enter Try.func59, Try.ntmps59
  go_wp2_with fail
  have q0 : (w.alloc (.cells #[.int .i64 a0, .int .i64 a1, .int .i64 a2] 62)).cell? ⟨w.heap.size, 0, none⟩ = some (.int .i64 a0) := by simp
  have q1 : (w.alloc (.cells #[.int .i64 a0, .int .i64 a1, .int .i64 a2] 62)).cell? ⟨w.heap.size, 1, none⟩ = some (.int .i64 a1) := by simp
  have q2 : (w.alloc (.cells #[.int .i64 a0, .int .i64 a1, .int .i64 a2] 62)).cell? ⟨w.heap.size, 2, none⟩ = some (.int .i64 a2) := by simp
  have p2 : (w.alloc (.cells #[.int .i64 a0, .int .i64 a1, .int .i64 a2] 62)).cell? ⟨pb, 1, none⟩ = some (.slice A l.length c) := pw_cell_below HB p1
  generalize w.alloc (.cells #[.int .i64 a0, .int .i64 a1, .int .i64 a2] 62) = W1 at HB q0 q1 q2 p2 ⊢
  refine start_ (n := 11) (S := fun w' => w'.cell? ⟨pb, 1, none⟩ = some (.slice A l.length c) ∧ w'.cell? ⟨w.heap.size, 0, none⟩ = some (.int .i64 a0) ∧ w'.cell? ⟨w.heap.size, 1, none⟩ = some (.int .i64 a1) ∧ w'.cell? ⟨w.heap.size, 2, none⟩ = some (.int .i64 a2) ∧ Below w.heap.size w w') (ds := []) #[false, false, false, false, false, false, false, false, false, false, false] (by kernel_rfl) rfl rfl ⟨p2, q0, q1, q2, below_drew HB⟩ (fun hHeld => ?_)
  refine pure_ (i := 0) (N := some 10) (v := ?_) (a' := ?_) #[true, false, false, false, false, false, false, false, false, false, false] rfl rfl (by kernel_rfl) (fun _ _ _ h => h) (Or.inl ⟨by rfl, ?_⟩) ?_ ?_
  rotate_left
  · intro w'
    go_simp
    with_reducible rfl
  rotate_left
  · simp only [Act.put, List.setIfInBounds_toArray, List.set_cons_zero, List.set_cons_succ, i64_w, i32_w]
    rfl
  refine pure_ (i := 1) (N := some 11) (v := ?_) (a' := ?_) #[true, true, false, false, false, false, false, false, false, false, false] rfl rfl (by kernel_rfl) (fun _ _ _ h => h) (Or.inl ⟨by rfl, ?_⟩) ?_ ?_
  rotate_left
  · intro w'
    go_simp
    with_reducible rfl
  rotate_left
  · simp only [Act.put, List.setIfInBounds_toArray, List.set_cons_zero, List.set_cons_succ, i64_w, i32_w]
    rfl
  refine pure_ (i := 2) (N := some 12) (v := ?_) (a' := ?_) #[true, true, true, false, false, false, false, false, false, false, false] rfl rfl (by kernel_rfl) (fun _ _ _ h => h) (Or.inl ⟨by rfl, ?_⟩) ?_ ?_
  rotate_left
  · intro w'
    go_simp
    with_reducible rfl
  rotate_left
  · simp only [Act.put, List.setIfInBounds_toArray, List.set_cons_zero, List.set_cons_succ, i64_w, i32_w]
    rfl
  refine take_ (i := 3) (N := some 13) (v := ?_) (a' := ?_) #[true, true, true, true, false, false, false, false, false, false, false] rfl rfl (by kernel_rfl) (fun _ _ _ h => h) (Or.inl ⟨by rfl, ?_⟩) hHeld ?_ ?_
  rotate_left
  · rintro w' ⟨s0, s1, s2, s3, s4⟩
    go_simp
    with_reducible rfl
  rotate_left
  · simp only [Act.put, List.setIfInBounds_toArray, List.set_cons_zero, List.set_cons_succ, i64_w, i32_w]
    rfl
  refine take_ (i := 4) (N := some 14) (v := ?_) (a' := ?_) #[true, true, true, true, true, false, false, false, false, false, false] rfl rfl (by kernel_rfl) (fun _ _ _ h => h) (Or.inl ⟨by rfl, ?_⟩) hHeld ?_ ?_
  rotate_left
  · rintro w' ⟨s0, s1, s2, s3, s4⟩
    go_simp
    with_reducible rfl
  rotate_left
  · simp only [Act.put, List.setIfInBounds_toArray, List.set_cons_zero, List.set_cons_succ, i64_w, i32_w]
    rfl
  refine one_ (i := 5) (N := some 15) #[true, true, true, true, true, true, false, false, false, false, false] rfl rfl (by kernel_rfl) (by decide) (fun K hK => ?_)
  refine goes_ Try.func66 (by kernel_rfl) rfl #[.slice A l.length c, .agg #[.int .i64 a0, .int .i64 a1, .int .i64 a2], .func (.func 47) #[] #[]] (by rfl) rfl rfl zm ?_
  refine (slices_BinarySearchFunc_Alarm.calls k A c l a0 a1 a2 (i : Int) b _ (Kd.C_below HR.out hHeld.2.2.2.2) hc HS.out).mono ?_
  rintro e w2 ⟨rfl, hb2⟩
  refine ⟨_, rfl, ?_⟩
  refine hK.out _ _ ⟨pw_cell_below hb2 hHeld.1, pw_cell_below hb2 hHeld.2.1, pw_cell_below hb2 hHeld.2.2.1, pw_cell_below hb2 hHeld.2.2.2.1, below_then hHeld.2.2.2.2 hHeld.2.2.2.2.size hb2⟩ (fun hHeld => ?_)
  clear hK K
  refine norm_ (a' := ?_) ?_ ?_
  rotate_left
  · show Act.put _ (some 15) _ = _
    simp only [Act.put, List.setIfInBounds_toArray, List.set_cons_zero, List.set_cons_succ, i64_w, i32_w]
    rfl
  refine pure_ (i := 6) (N := some 9) (v := ?_) (a' := ?_) #[true, true, true, true, true, true, true, false, false, false, false] rfl rfl (by kernel_rfl) (fun _ _ _ h => h) (Or.inl ⟨by rfl, ?_⟩) ?_ ?_
  rotate_left
  · intro w'
    go_simp
    with_reducible rfl
  rotate_left
  · simp only [Act.put, List.setIfInBounds_toArray, List.set_cons_zero, List.set_cons_succ, i64_w, i32_w]
    rfl
  refine pure_ (i := 7) (N := some 16) (v := ?_) (a' := ?_) #[true, true, true, true, true, true, true, true, false, false, false] rfl rfl (by kernel_rfl) (fun _ _ _ h => h) (Or.inl ⟨by rfl, ?_⟩) ?_ ?_
  rotate_left
  · intro w'
    go_simp
    with_reducible rfl
  rotate_left
  · simp only [Act.put, List.setIfInBounds_toArray, List.set_cons_zero, List.set_cons_succ, i64_w, i32_w]
    rfl
  refine pure_ (i := 8) (N := some 17) (v := ?_) (a' := ?_) #[true, true, true, true, true, true, true, true, true, false, false] rfl rfl (by kernel_rfl) (fun _ _ _ h => h) (Or.inl ⟨by rfl, ?_⟩) ?_ ?_
  rotate_left
  · intro w'
    go_simp
    with_reducible rfl
  rotate_left
  · simp only [Act.put, List.setIfInBounds_toArray, List.set_cons_zero, List.set_cons_succ, i64_w, i32_w]
    rfl
  refine pure_ (i := 9) (N := some 4) (v := ?_) (a' := ?_) #[true, true, true, true, true, true, true, true, true, true, false] rfl rfl (by kernel_rfl) (fun _ _ _ h => h) (Or.inl ⟨by rfl, ?_⟩) ?_ ?_
  rotate_left
  · intro w'
    go_simp
    with_reducible rfl
  rotate_left
  · simp only [Act.put, List.setIfInBounds_toArray, List.set_cons_zero, List.set_cons_succ, i64_w, i32_w]
    rfl
  refine pure_ (i := 10) (N := some 5) (v := ?_) (a' := ?_) #[true, true, true, true, true, true, true, true, true, true, true] rfl rfl (by kernel_rfl) (fun _ _ _ h => h) (Or.inl ⟨by rfl, ?_⟩) ?_ ?_
  rotate_left
  · intro w'
    go_simp
    with_reducible rfl
  rotate_left
  · simp only [Act.put, List.setIfInBounds_toArray, List.set_cons_zero, List.set_cons_succ, i64_w, i32_w]
    rfl
  refine done_ (by kernel_rfl) ?_
  obtain ⟨p2, q0, q1, q2, HB⟩ := hHeld
  go_wp2_with fail
  replace HB := below_drew HB
  refine start_ (n := 12) (S := fun w' => w'.cell? ⟨pb, 1, none⟩ = some (.slice A l.length c) ∧ w'.cell? ⟨w.heap.size, 0, none⟩ = some (.int .i64 a0) ∧ w'.cell? ⟨w.heap.size, 1, none⟩ = some (.int .i64 a1) ∧ w'.cell? ⟨w.heap.size, 2, none⟩ = some (.int .i64 a2)) (ds := [11]) #[false, false, false, false, false, false, false, false, false, false, false, false] (by kernel_rfl) rfl rfl ⟨p2, q0, q1, q2⟩ (fun hHeld => ?_)
  refine pure_ (i := 0) (N := some 18) (v := ?_) (a' := ?_) #[true, false, false, false, false, false, false, false, false, false, false, false] rfl rfl (by kernel_rfl) (fun _ _ _ h => h) (Or.inl ⟨by rfl, ?_⟩) ?_ ?_
  rotate_left
  · intro w'
    go_simp
    with_reducible rfl
  rotate_left
  · simp only [Act.put, List.setIfInBounds_toArray, List.set_cons_zero, List.set_cons_succ, i64_w, i32_w]
    rfl
  refine pure_ (i := 1) (N := some 19) (v := ?_) (a' := ?_) #[true, true, false, false, false, false, false, false, false, false, false, false] rfl rfl (by kernel_rfl) (fun _ _ _ h => h) (Or.inl ⟨by rfl, ?_⟩) ?_ ?_
  rotate_left
  · intro w'
    go_simp
    with_reducible rfl
  rotate_left
  · simp only [Act.put, List.setIfInBounds_toArray, List.set_cons_zero, List.set_cons_succ, i64_w, i32_w]
    rfl
  refine pure_ (i := 2) (N := some 20) (v := ?_) (a' := ?_) #[true, true, true, false, false, false, false, false, false, false, false, false] rfl rfl (by kernel_rfl) (fun _ _ _ h => h) (Or.inl ⟨by rfl, ?_⟩) ?_ ?_
  rotate_left
  · intro w'
    go_simp
    with_reducible rfl
  rotate_left
  · simp only [Act.put, List.setIfInBounds_toArray, List.set_cons_zero, List.set_cons_succ, i64_w, i32_w]
    rfl
  refine pure_ (i := 3) (N := some 21) (v := ?_) (a' := ?_) #[true, true, true, true, false, false, false, false, false, false, false, false] rfl rfl (by kernel_rfl) (fun _ _ _ h => h) (Or.inl ⟨by rfl, ?_⟩) ?_ ?_
  rotate_left
  · intro w'
    go_simp
    with_reducible rfl
  rotate_left
  · simp only [Act.put, List.setIfInBounds_toArray, List.set_cons_zero, List.set_cons_succ, i64_w, i32_w]
    rfl
  refine pure_ (i := 5) (N := some 23) (v := ?_) (a' := ?_) #[true, true, true, true, false, true, false, false, false, false, false, false] rfl rfl (by kernel_rfl) (fun _ _ _ h => h) (Or.inl ⟨by rfl, ?_⟩) ?_ ?_
  rotate_left
  · intro w'
    go_simp
    with_reducible rfl
  rotate_left
  · simp only [Act.put, List.setIfInBounds_toArray, List.set_cons_zero, List.set_cons_succ, i64_w, i32_w]
    rfl
  refine take_ (i := 4) (N := some 22) (v := ?_) (a' := ?_) #[true, true, true, true, true, true, false, false, false, false, false, false] rfl rfl (by kernel_rfl) (fun _ _ _ h => h) (Or.inl ⟨by rfl, ?_⟩) hHeld ?_ ?_
  rotate_left
  · rintro w' ⟨s0, s1, s2, s3⟩
    go_simp
    with_reducible rfl
  rotate_left
  · simp only [Act.put, List.setIfInBounds_toArray, List.set_cons_zero, List.set_cons_succ, i64_w, i32_w]
    rfl
  refine take_ (i := 6) (N := some 24) (v := ?_) (a' := ?_) #[true, true, true, true, true, true, true, false, false, false, false, false] rfl rfl (by kernel_rfl) (fun _ _ _ h => h) (Or.inl ⟨by rfl, ?_⟩) hHeld ?_ ?_
  rotate_left
  · rintro w' ⟨s0, s1, s2, s3⟩
    go_simp
    with_reducible rfl
  rotate_left
  · simp only [Act.put, List.setIfInBounds_toArray, List.set_cons_zero, List.set_cons_succ, i64_w, i32_w]
    rfl
  refine one_ (i := 7) (N := some 25) #[true, true, true, true, true, true, true, true, false, false, false, false] rfl rfl (by kernel_rfl) (by decide) (fun K hK => ?_)
  refine value_ (w1 := ?_) (v := ?_) (by rfl) rfl ?_ ?_
  rotate_left 2
  · go_simp
    constructor
    · rfl
    · rfl
  refine hK.out _ _ ⟨pw_cell_below (below_alloc (Below.refl _ _) _) hHeld.1, pw_cell_below (below_alloc (Below.refl _ _) _) hHeld.2.1, pw_cell_below (below_alloc (Below.refl _ _) _) hHeld.2.2.1, pw_cell_below (below_alloc (Below.refl _ _) _) hHeld.2.2.2⟩ (fun hHeld => ?_)
  clear hK K
  refine norm_ (a' := ?_) ?_ ?_
  rotate_left
  · show Act.put _ (some 25) _ = _
    simp only [Act.put, List.setIfInBounds_toArray, List.set_cons_zero, List.set_cons_succ, i64_w, i32_w]
    rfl
  refine one_ (i := 8) (N := some 26) #[true, true, true, true, true, true, true, true, true, false, false, false] rfl rfl (by kernel_rfl) (by decide) (fun K hK => ?_)
  have HB3 := below_alloc HB (.cells #[.int .i64 a0, .int .i64 a1, .int .i64 a2] 62)
  have HQ3 := q_move HQ.out (fun j hj => HB3.block j (hvlt j hj))
  have hv3 := blk_new w2.drew (.cells #[.int .i64 a0, .int .i64 a1, .int .i64 a2] 62)
  refine goes_ Try.func67 (by kernel_rfl) rfl #[.slice A l.length c, .int .i64 (i : Int), .slice (some ⟨w2.drew.heap.size, 0, none⟩) 1 1] (by rfl) rfl rfl zm ?_
  refine (slices_Insert_Alarm.ins _ base (.slice A l.length c) l.length i w2.drew.heap.size inner a0 a1 a2 HQ3 (Nat.le_trans hbase HB3.size) h1c hv3 (fun e => by have := hvlt _ e; have := HB.size; omega) hi hl).mono ?_
  rintro e w4 ⟨v', rfl, Q4, G4, B4, O4⟩
  obtain ⟨A4, n4, rfl, _⟩ := q_slice Q4
  refine ⟨_, rfl, ?_⟩
  have hP4 := (G4.block pb (Nat.lt_of_lt_of_le hplt HB3.size) (fun e => hnep e.symm)).trans (HX.out _ HB3)
  have c4 : w4.cell? ⟨pb, 1, none⟩ = some (.slice A l.length c) := (blk_cell hP4 1).trans rfl
  have f4 := blk_frozen hP4 1
  have hk4 : ∀ j x, w2.drew.cell? ⟨w.heap.size, j, none⟩ = some x → w4.cell? ⟨w.heap.size, j, none⟩ = some x := fun j x hx => (Q.cell_eq_of (G4.block w.heap.size (by have := World.block_lt_of_cell? w2.drew _ hx; simp only [World.alloc, Array.size_push]; exact Nat.lt_succ_of_lt this) (fun e => by have := hvlt _ e.symm; omega))).trans (pw_cell_below (below_alloc (Below.refl _ _) _) hx)
  refine hK.out _ _ ⟨c4, hk4 0 _ q0, hk4 1 _ q1, hk4 2 _ q2⟩ (fun hHeld => ?_)
  clear hK K
  refine norm_ (a' := ?_) ?_ ?_
  rotate_left
  · show Act.put _ (some 26) _ = _
    simp only [Act.put, List.setIfInBounds_toArray, List.set_cons_zero, List.set_cons_succ, i64_w, i32_w]
    rfl
  refine pure_ (i := 9) (N := some 27) (v := ?_) (a' := ?_) #[true, true, true, true, true, true, true, true, true, true, false, false] rfl rfl (by kernel_rfl) (fun _ _ _ h => h) (Or.inl ⟨by rfl, ?_⟩) ?_ ?_
  rotate_left
  · intro w'
    go_simp
    with_reducible rfl
  rotate_left
  · simp only [Act.put, List.setIfInBounds_toArray, List.set_cons_zero, List.set_cons_succ, i64_w, i32_w]
    rfl
  refine pure_ (i := 10) (N := some 28) (v := ?_) (a' := ?_) #[true, true, true, true, true, true, true, true, true, true, true, false] rfl rfl (by kernel_rfl) (fun _ _ _ h => h) (Or.inl ⟨by rfl, ?_⟩) ?_ ?_
  rotate_left
  · intro w'
    go_simp
    with_reducible rfl
  rotate_left
  · simp only [Act.put, List.setIfInBounds_toArray, List.set_cons_zero, List.set_cons_succ, i64_w, i32_w]
    rfl
  refine last_ (i := 11) (N := none) #[true, true, true, true, true, true, true, true, true, true, true, true] rfl rfl (by kernel_rfl) (by decide) (fun K hK => ?_)
  refine skip_ (w1 := ?_) (by rfl) rfl ?_ ?_
  rotate_left
  · go_simp
    rfl
  refine hK.out _ _ ?_
  clear hK K
  refine done_ (by kernel_rfl) ?_
  try go_wp2
  go_end0
  have HB3 := below_alloc HB (.cells #[.int .i64 a0, .int .i64 a1, .int .i64 a2] 62)
  have hne4 : ∀ j, (Value.slice A4 (l.length + 1) n4).ownBlock = some j → j ≠ pb := by
    intro j hj
    rcases B4 with e | ⟨b', e, hb'⟩
    · rintro rfl
      exact hnep (e.symm.trans hj)
    · rw [e] at hj
      injection hj with hj
      have := HB3.size
      omega
  have hblk : ∀ j, j ≠ pb → (w4.setCell ⟨pb, 1, none⟩ (.slice A4 (l.length + 1) n4)).heap[j]? = w4.heap[j]? := fun j hj => Below.heap_setCell w4 ⟨pb, 1, none⟩ _ j hj
  have hQm : ∀ (W : World) (B : Nat) (okk : Nat → Prop), Reps (k62.M W B okk) 3 (l.take i ++ [⟨a0, a1, a2⟩] ++ l.drop i) (inner.take (i * 3) ++ [.int .i64 a0, .int .i64 a1, .int .i64 a2] ++ inner.drop (i * 3)) := fun W B okk =>
    Kd.reps_append (Reps.snoc (Kd.reps_take (HH.out W B okk) hi) (k62_mkM W B okk ⟨a0, a1, a2⟩) rfl) (Kd.reps_drop (HH.out W B okk))
  refine ⟨rfl, _, _, (blk_set hP4 1 _).trans rfl, q_move Q4 (fun j hj => hblk j (hne4 j hj)), hQm, ⟨G4.os.trans HB3.os, G4.tape.trans HB3.tape, G4.output.trans HB3.output, ?_, ?_⟩, ?_, fun ho => own_setCell (O4 (pw_own_below ho HB3)) (fun e => hne4 pb e.symm rfl) _⟩
  · have h1 := G4.size
    have h2 := HB3.size
    simp only [World.setCell, Array.size_modify]
    omega
  · intro j hj hjp hjr
    rw [hblk j hjp, G4.block j (Nat.lt_of_lt_of_le hj HB3.size) hjr]
    exact HB3.block j hj
  · rcases B4 with e | ⟨b', e, hb'⟩
    · exact .inl e
    · have := HB3.size
      exact .inr ⟨b', e, by omega⟩


end Go.Proofs.Ytlejcgnfpcngbaa.P
