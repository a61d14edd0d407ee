-- printed by wip/qd.py
import Derived.Test.YtgjlbghjjjlhmaaPf0
import Derived.Test.YtgjlbghjjjlhmaaPfimplin
import Derived.Test.YtgjlbghjjjlhmaaPfimplHeldOk
import Derived.Test.YtgjlbghjjjlhmaaQBase
namespace Go.Proofs.Ytgjlbghjjjlhmaa.P
open Go.RowKit Go.Proofs.YtgjlbghjjjlhmaaW.PrintWords Go.Proofs.YtgjlbghjjjlhmaaW.PrintLast Go.Proofs.YtgjlbghjjjlhmaaW.PrintMore
attribute [local go_sem] max2_int min2_int max_two min_two max_three min_three max_four min_four Q.cell_set_map
set_option linter.unusedVariables false
set_option linter.unusedSimpArgs false

/-! ### impl_HeldMay: function 16 -/
-- IMPORT Derived.Test.YtgjlbghjjjlhmaaQBase
def impl_HeldMay.inB (x lo hi : Int) : Bool := if x ≥ lo then decide (x ≤ hi) else false
theorem impl_HeldMay.in_eq (x lo hi : Int) : impl_in.f x lo hi = some (impl_HeldMay.inB x lo hi) := by
  unfold impl_in.f impl_HeldMay.inB
  split <;> rfl
def impl_HeldMay.hit (p b : Int) (wt : Bool) (a : S40) : Bool := (a.f0 == p) && (impl_HeldMay.inB b a.f1 a.f2 && (a.f3 || !wt))
def impl_HeldMay.idx (p b : Int) (wt : Bool) : List S40 → Int → Int
  | [], _ => -1
  | a :: l, i => if impl_HeldMay.hit p b wt a = true then i else impl_HeldMay.idx p b wt l (i + 1)
def impl_HeldMay.f (k : Nat) (l0_0 l0_1 : List S40) (a1 a2 : Int) (a3 : Bool) : Option Bool := (impl_HeldOk.f k l0_0 l0_1).bind fun t => some (t && l0_0.any (impl_HeldMay.hit a1 a2 a3))
theorem impl_HeldMay.mono : ∀ a0 a1 a2 a3 a4 k, LeO (impl_HeldMay.f k a0 a1 a2 a3 a4) (impl_HeldMay.f (k + 1) a0 a1 a2 a3 a4) := by
  intro a0 a1 a2 a3 a4 k
  unfold impl_HeldMay.f
  exact LeO.bind (impl_HeldOk.mono _ _ _) (fun _ => LeO.refl _)
theorem impl_HeldMay.idx_iff (p b : Int) (wt : Bool) : ∀ (l : List S40) (i : Int), 0 ≤ i → (0 ≤ impl_HeldMay.idx p b wt l i ↔ l.any (impl_HeldMay.hit p b wt) = true)
  | [], i, _ => by simp [impl_HeldMay.idx]
  | a :: l, i, hi => by
    simp only [impl_HeldMay.idx, List.any_cons]
    by_cases h : impl_HeldMay.hit p b wt a = true
    · rw [if_pos h, h]
      simp [hi]
    · rw [if_neg h, impl_HeldMay.idx_iff p b wt l (i + 1) (by omega)]
      simp [h]
theorem impl_HeldMay.idx_any (p b : Int) (wt : Bool) (l : List S40) : decide (0 ≤ impl_HeldMay.idx p b wt l 0) = l.any (impl_HeldMay.hit p b wt) := by
  rw [Bool.eq_iff_iff, decide_eq_true_iff]
  exact impl_HeldMay.idx_iff p b wt l 0 (by omega)
theorem impl_HeldMay.idx_hit (p b : Int) (wt : Bool) (z : S40) : ∀ (l : List S40) (i : Nat) (s : Int), i < l.length → impl_HeldMay.hit p b wt (l.getD i z) = true → (∀ j, j < i → impl_HeldMay.hit p b wt (l.getD j z) = false) → impl_HeldMay.idx p b wt l s = s + i := by
  intro l
  induction l with
  | nil => intro i s h; simp at h
  | cons a l ih =>
    intro i s hi hh hm
    cases i with
    | zero =>
      have : impl_HeldMay.hit p b wt a = true := by simpa using hh
      simp [impl_HeldMay.idx, this]
    | succ i =>
      have h0 : impl_HeldMay.hit p b wt a = false := by simpa using hm 0 (by omega)
      simp only [impl_HeldMay.idx, h0]
      rw [if_neg (by decide), ih i (s + 1) (by simpa using hi) (by simpa using hh) (fun j hj => by simpa using hm (j + 1) (by omega))]
      omega
theorem impl_HeldMay.idx_miss (p b : Int) (wt : Bool) (z : S40) : ∀ (l : List S40) (s : Int), (∀ j, j < l.length → impl_HeldMay.hit p b wt (l.getD j z) = false) → impl_HeldMay.idx p b wt l s = -1 := by
  intro l
  induction l with
  | nil => intro s _; rfl
  | cons a l ih =>
    intro s hm
    have h0 : impl_HeldMay.hit p b wt a = false := by simpa using hm 0 (by simp)
    simp only [impl_HeldMay.idx, h0]
    rw [if_neg (by decide)]
    exact ih (s + 1) (fun j hj => by simpa using hm (j + 1) (by simpa using hj))
set_option maxHeartbeats 4000000 in
theorem impl_HeldMay.clo (B : Nat) (p b : Int) (wt : Bool) (x : S40) (W : World) (hc : W.cell? ⟨B, 0, none⟩ = some (.int .i64 p)) (hc1 : W.cell? ⟨B + 1, 0, none⟩ = some (.int .i64 b)) (hc2 : W.cell? ⟨B + 1 + 1, 0, none⟩ = some (.bool wt)) :
    Calls Try.prog 46 #[.agg #[.int .i64 x.f0, .int .i64 x.f1, .int .i64 x.f2, .bool x.f3], .pointer (some ⟨B, 0, none⟩), .pointer (some ⟨B + 1, 0, none⟩), .pointer (some ⟨B + 1 + 1, 0, none⟩)] W fun e w' => e = .returned (.bool (impl_HeldMay.hit p b wt x)) ∧ Below W.heap.size W w' := by
  have HB := below_alloc (Below.refl W.heap.size W) (.cells #[.int .i64 x.f0, .int .i64 x.f1, .int .i64 x.f2, .bool x.f3] 40)
  have h0 := pw_cell_below HB hc
  have h1 := pw_cell_below HB hc1
  have h2 := pw_cell_below HB hc2
  have hnw := blk_new W (.cells #[.int .i64 x.f0, .int .i64 x.f1, .int .i64 x.f2, .bool x.f3] 40)
  have hx2 : (W.alloc (.cells #[.int .i64 x.f0, .int .i64 x.f1, .int .i64 x.f2, .bool x.f3] 40)).cell? ⟨W.heap.size, 0, none⟩ = some (.int .i64 x.f0) := (blk_cell hnw 0).trans rfl
  have hx3 : (W.alloc (.cells #[.int .i64 x.f0, .int .i64 x.f1, .int .i64 x.f2, .bool x.f3] 40)).cell? ⟨W.heap.size, 1, none⟩ = some (.int .i64 x.f1) := (blk_cell hnw 1).trans rfl
  have hx4 : (W.alloc (.cells #[.int .i64 x.f0, .int .i64 x.f1, .int .i64 x.f2, .bool x.f3] 40)).cell? ⟨W.heap.size, 2, none⟩ = some (.int .i64 x.f2) := (blk_cell hnw 2).trans rfl
  have hx5 : (W.alloc (.cells #[.int .i64 x.f0, .int .i64 x.f1, .int .i64 x.f2, .bool x.f3] 40)).cell? ⟨W.heap.size, 3, none⟩ = some (.bool x.f3) := (blk_cell hnw 3).trans rfl
  clear hnw hc hc1 hc2
  unfold impl_HeldMay.hit
  cases c1 : (x.f0 == p) with
  | false =>
    go_enter Try.func46, Try.ntmps46
    go_wp2
    go_ret
    exact ⟨rfl, HB⟩
  | true =>
    have hin := impl_HeldMay.in_eq b x.f1 x.f2
    generalize impl_HeldMay.inB b x.f1 x.f2 = v at hin
    have HIN := Aside0.mk hin
    clear hin
    obtain ⟨f0, f1, f2, f3⟩ := x
    simp only at c1 HIN h0 h1 h2 hx2 hx3 hx4 hx5 HB ⊢
    cases v <;> cases f3 <;> cases wt <;>
    · go_enter Try.func46, Try.ntmps46
      go_wp2_with (go_at_call 47; refine (impl_in.calls _ _ _ _ _ HIN.out).mono ?_; rintro e w' ⟨rfl, ⟨nd, rfl⟩⟩)
      go_ret
      exact ⟨rfl, pw_below_drewN HB _⟩
set_option maxHeartbeats 2000000 in
theorem impl_HeldMay.ixf (B : Nat) (p b : Int) (wt : Bool) (A0 : Option Addr) (c0 : Nat) (l : List S40) (w : World) (hr : Kd.C k40 w A0 l.length l) (hc : w.cell? ⟨B, 0, none⟩ = some (.int .i64 p)) (hc1 : w.cell? ⟨B + 1, 0, none⟩ = some (.int .i64 b)) (hc2 : w.cell? ⟨B + 1 + 1, 0, none⟩ = some (.bool wt)) :
    Calls Try.prog 58 #[.slice A0 l.length c0, .func (.func 46) #[] #[.pointer (some ⟨B, 0, none⟩), .pointer (some ⟨B + 1, 0, none⟩), .pointer (some ⟨B + 1 + 1, 0, none⟩)]] w fun e w' => e = .returned (.int .i64 (impl_HeldMay.idx p b wt l 0)) ∧ Below w.heap.size w w' := by
  have hbig : l.length ≤ 9223372036854775807 := hr.2.1
  have HR := Aside0.mk hr
  have HC := Aside0.mk hc
  have HC1 := Aside0.mk hc1
  have HC2 := Aside0.mk hc2
  clear hr hc hc1 hc2
  have eg := enters_of Try.func46 (by kernel_rfl) rfl
  generalize hn : l.length = n
  go_enter Try.func58, Try.ntmps58
  go_wp2
  go_loopg [5, 8] n (fun gg _ s8 wr => ∃ kk : Nat, kk ≤ n ∧ n - kk ≤ gg ∧ s8 = .int .i64 kk ∧ Aside0 (Below w.heap.size w wr) ∧ Aside0 (∀ j, j < kk → impl_HeldMay.hit p b wt (l.getD j z40) = false))
  case atStart => exact ⟨0, Nat.zero_le _, by omega, rfl, ⟨Below.refl _ w⟩, ⟨fun j hj => absurd hj (Nat.not_lt_zero _)⟩⟩
  case round =>
    obtain ⟨kk, hkk, hg, rfl, BW, AA⟩ := hrel
    by_cases hlt : kk < n
    · have hltz : (kk : Int) < (n : Int) := by omega
      obtain ⟨ad, rfl, q0, q1, q2, q3⟩ := at_T40 (Kd.C_below HR.out BW.out) (kk : Int) (by omega) (by omega)
      have hcall := impl_HeldMay.clo B p b wt (rd_T40 l (kk : Int)) wr (pw_cell_below BW.out HC.out) (pw_cell_below BW.out HC1.out) (pw_cell_below BW.out HC2.out)
      have erd : rd_T40 l (kk : Int) = l.getD kk z40 := by simp [rd_T40]
      rw [Int.toNat_natCast] at q0 q1 q2 q3
      have ER := Aside0.mk erd
      clear erd
      generalize hy : rd_T40 l (kk : Int) = y at q0 q1 q2 q3 hcall
      have HY := Aside0.mk hy
      clear hy
      cases hq : impl_HeldMay.hit p b wt y with
      | true =>
        rw [hq] at hcall
        have HQ := Aside0.mk hq
        clear hq
        go_wp2_with (go_at_call 46; refine hcall.mono ?_; rintro e w' ⟨rfl, hb'⟩)
        go_ret
        refine ⟨?_, below_then BW.out BW.out.size hb'⟩
        rw [impl_HeldMay.idx_hit p b wt z40 l kk 0 (by omega) (by rw [← ER.out, HY.out]; exact HQ.out) AA.out]
        simp
      | false =>
        rw [hq] at hcall
        have HQ := Aside0.mk hq
        clear hq
        go_wp2_with (go_at_call 46; refine hcall.mono ?_; rintro e w' ⟨rfl, hb'⟩)
        go_roundg (n - (kk + 1))
        case measure => omega
        case rel =>
          refine ⟨kk + 1, by omega, by omega, by go_num, ⟨below_then BW.out BW.out.size hb'⟩, ⟨fun j hj => ?_⟩⟩
          by_cases e : j = kk
          · rw [e, ← ER.out, HY.out]
            exact HQ.out
          · exact AA.out j (by omega)
    · have hltz : ¬ (kk : Int) < (n : Int) := by omega
      have hkn : kk = n := by omega
      subst hkn
      go_wp2
      go_ret
      refine ⟨?_, BW.out⟩
      rw [impl_HeldMay.idx_miss p b wt z40 l 0 (fun j hj => AA.out j (by omega))]
      rfl
set_option maxHeartbeats 2000000 in
theorem impl_HeldMay.cof (B : Nat) (p b : Int) (wt : Bool) (A0 : Option Addr) (c0 : Nat) (l : List S40) (w : World) (hr : Kd.C k40 w A0 l.length l) (hc : w.cell? ⟨B, 0, none⟩ = some (.int .i64 p)) (hc1 : w.cell? ⟨B + 1, 0, none⟩ = some (.int .i64 b)) (hc2 : w.cell? ⟨B + 1 + 1, 0, none⟩ = some (.bool wt)) :
    Calls Try.prog 45 #[.slice A0 l.length c0, .func (.func 46) #[] #[.pointer (some ⟨B, 0, none⟩), .pointer (some ⟨B + 1, 0, none⟩), .pointer (some ⟨B + 1 + 1, 0, none⟩)]] w fun e w' => e = .returned (.bool (l.any (impl_HeldMay.hit p b wt))) ∧ Below w.heap.size w w' := by
  have hcall := impl_HeldMay.ixf B p b wt A0 c0 l w hr hc hc1 hc2
  have HA := Aside0.mk (impl_HeldMay.idx_any p b wt l)
  generalize impl_HeldMay.idx p b wt l 0 = i at hcall HA
  clear hr hc hc1 hc2
  go_enter Try.func45, Try.ntmps45
  go_wp2_with (go_at_call 58; refine hcall.mono ?_; rintro e w' ⟨rfl, hb'⟩)
  go_ret
  exact ⟨by rw [← HA.out]; rfl, hb'⟩
set_option maxHeartbeats 4000000 in
theorem impl_HeldMay.calls (k : Nat) (A0_0 : Option Addr) (c0_0 : Nat) (l0_0 : List S40) (A0_1 : Option Addr) (c0_1 : Nat) (l0_1 : List S40) (a1 a2 : Int) (a3 : Bool) (r : Bool) (w : World) (hr0_0 : Kd.C k40 w A0_0 l0_0.length l0_0) (hc0_0 : l0_0.length ≤ c0_0) (hr0_1 : Kd.C k40 w A0_1 l0_1.length l0_1) (hc0_1 : l0_1.length ≤ c0_1) (h : impl_HeldMay.f k l0_0 l0_1 a1 a2 a3 = some r) :
    Calls Try.prog 16 #[.agg #[.slice A0_0 l0_0.length c0_0, .slice A0_1 l0_1.length c0_1], .int .i64 a1, .int .i64 a2, .bool a3] w fun e w' => e = .returned (.bool r) ∧ Below w.heap.size w w' := by
  have HR0 := Aside0.mk hr0_0
  have HC0 := Aside0.mk hc0_0
  have HR1 := Aside0.mk hr0_1
  have HC1 := Aside0.mk hc0_1
  clear hr0_0 hc0_0 hr0_1 hc0_1
  unfold impl_HeldMay.f at h
  obtain ⟨t, ht, h⟩ := Option.bind_eq_some_iff.1 h
  obtain rfl := Option.some.inj h
  clear h
  have HT := Aside0.mk ht
  clear ht
  have hmf : ∀ (fn : Fn) (first cap : Array Value) (w : World), (Instr.makeFunc fn first cap).run Try.prog w = .ok (.func fn first cap) w := fun _ _ _ _ => rfl
  have HB := below_alloc (below_alloc (below_alloc (below_alloc (Below.refl w.heap.size w) (.cells #[.slice A0_0 l0_0.length c0_0, .slice A0_1 l0_1.length c0_1] 29)) (.cells #[.int .i64 a1] 3)) (.cells #[.int .i64 a2] 3)) (.cells #[.bool a3] 4)
  have b0 : ((((w.alloc (.cells #[.slice A0_0 l0_0.length c0_0, .slice A0_1 l0_1.length c0_1] 29)).alloc (.cells #[.int .i64 a1] 3)).alloc (.cells #[.int .i64 a2] 3)).alloc (.cells #[.bool a3] 4)).heap[w.heap.size]? = some (.cells #[.slice A0_0 l0_0.length c0_0, .slice A0_1 l0_1.length c0_1] 29 (0, 0)) := blk_alloc (blk_alloc (blk_alloc (blk_new _ _) _) _) _
  have b1 : ((((w.alloc (.cells #[.slice A0_0 l0_0.length c0_0, .slice A0_1 l0_1.length c0_1] 29)).alloc (.cells #[.int .i64 a1] 3)).alloc (.cells #[.int .i64 a2] 3)).alloc (.cells #[.bool a3] 4)).heap[w.heap.size + 1]? = some (.cells #[.int .i64 a1] 3 (0, 0)) := by
    refine blk_alloc (blk_alloc ?_ _) _
    simpa using blk_new (w.alloc (.cells #[.slice A0_0 l0_0.length c0_0, .slice A0_1 l0_1.length c0_1] 29)) (.cells #[.int .i64 a1] 3)
  have b2 : ((((w.alloc (.cells #[.slice A0_0 l0_0.length c0_0, .slice A0_1 l0_1.length c0_1] 29)).alloc (.cells #[.int .i64 a1] 3)).alloc (.cells #[.int .i64 a2] 3)).alloc (.cells #[.bool a3] 4)).heap[w.heap.size + 1 + 1]? = some (.cells #[.int .i64 a2] 3 (0, 0)) := by
    refine blk_alloc ?_ _
    simpa using blk_new ((w.alloc (.cells #[.slice A0_0 l0_0.length c0_0, .slice A0_1 l0_1.length c0_1] 29)).alloc (.cells #[.int .i64 a1] 3)) (.cells #[.int .i64 a2] 3)
  have b3 : ((((w.alloc (.cells #[.slice A0_0 l0_0.length c0_0, .slice A0_1 l0_1.length c0_1] 29)).alloc (.cells #[.int .i64 a1] 3)).alloc (.cells #[.int .i64 a2] 3)).alloc (.cells #[.bool a3] 4)).heap[w.heap.size + 1 + 1 + 1]? = some (.cells #[.bool a3] 4 (0, 0)) := by
    simpa using blk_new (((w.alloc (.cells #[.slice A0_0 l0_0.length c0_0, .slice A0_1 l0_1.length c0_1] 29)).alloc (.cells #[.int .i64 a1] 3)).alloc (.cells #[.int .i64 a2] 3)) (.cells #[.bool a3] 4)
  have B0 := Aside0.mk b0
  have B1 := Aside0.mk b1
  have B2 := Aside0.mk b2
  have B3 := Aside0.mk b3
  clear b0 b1 b2 b3
  cases t with
  | false =>
    go_enter Try.func16, Try.ntmps16
    go_wp2_with (go_at_call 13; refine (impl_HeldOk.calls k A0_0 c0_0 l0_0 A0_1 c0_1 l0_1 false _ (Kd.C_below HR0.out HB) HC0.out (Kd.C_below HR1.out HB) HC1.out HT.out).mono ?_; rintro e w1 ⟨rfl, hb1⟩)
    go_ret
    exact ⟨rfl, below_then HB HB.size hb1⟩
  | true =>
    go_enter Try.func16, Try.ntmps16
    go_wp2_with (first
      | (go_at_call 13; refine (impl_HeldOk.calls k A0_0 c0_0 l0_0 A0_1 c0_1 l0_1 true _ (Kd.C_below HR0.out HB) HC0.out (Kd.C_below HR1.out HB) HC1.out HT.out).mono ?_; rintro e w1 ⟨rfl, hb1⟩; have x0 : w1.cell? ⟨w.heap.size, 0, none⟩ = some (.slice A0_0 l0_0.length c0_0) := (blk_cell ((hb1.block _ (blk_lt B0.out)).trans B0.out) 0).trans rfl; have x1 : w1.cell? ⟨w.heap.size + 1, 0, none⟩ = some (.int .i64 a1) := (blk_cell ((hb1.block _ (blk_lt B1.out)).trans B1.out) 0).trans rfl; have x2 : w1.cell? ⟨w.heap.size + 1 + 1, 0, none⟩ = some (.int .i64 a2) := (blk_cell ((hb1.block _ (blk_lt B2.out)).trans B2.out) 0).trans rfl; have x3 : w1.cell? ⟨w.heap.size + 1 + 1 + 1, 0, none⟩ = some (.bool a3) := (blk_cell ((hb1.block _ (blk_lt B3.out)).trans B3.out) 0).trans rfl)
      | (go_at_call 45; refine (impl_HeldMay.cof (w.heap.size + 1) a1 a2 a3 A0_0 c0_0 l0_0 _ (Kd.C_below HR0.out (below_then HB HB.size hb1)) x1 x2 x3).mono ?_; rintro e w2 ⟨rfl, hb2⟩))
    go_ret
    exact ⟨rfl, below_then (below_then HB HB.size hb1) (below_then HB HB.size hb1).size hb2⟩


end Go.Proofs.Ytgjlbghjjjlhmaa.P
