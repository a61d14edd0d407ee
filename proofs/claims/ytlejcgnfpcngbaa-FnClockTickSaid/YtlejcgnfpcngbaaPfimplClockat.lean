-- printed by this session's own driver (wip/qd.py) out of the translation; Lean checks it
import Derived.Test.YtlejcgnfpcngbaaPf0
import Derived.Shelf.Abstract
namespace Go.Proofs.Ytlejcgnfpcngbaa.P
open Go.RowKit Go.Proofs.YtlejcgnfpcngbaaW.PrintWords Go.Proofs.YtlejcgnfpcngbaaW.PrintLast Go.Proofs.YtlejcgnfpcngbaaW.PrintMore
attribute [local go_sem] max2_int min2_int max_two min_two max_three min_three max_four min_four Q.cell_set_map   -- for this text's walks alone
set_option linter.unusedVariables false
set_option linter.unusedSimpArgs false

/-! ### impl_Clock_at: function 56 -/
-- IMPORT Derived.Shelf.Abstract
def impl_Clock_at.hit (p : Int) (a : S62) : Bool := decide (a.f0 = p)
def impl_Clock_at.idx (p : Int) : List S62 → Int → Int
  | [], _ => -1
  | a :: l, i => if impl_Clock_at.hit p a = true then i else impl_Clock_at.idx p l (i + 1)
def impl_Clock_at.f (a0_0 : Int) (l0_1 : List S62) (a1 : Int) : Option Int := some (impl_Clock_at.idx a1 l0_1 0)
theorem impl_Clock_at.idx_hit (p : Int) (z : S62) : ∀ (l : List S62) (i : Nat) (b : Int), i < l.length → impl_Clock_at.hit p (l.getD i z) = true → (∀ j, j < i → impl_Clock_at.hit p (l.getD j z) = false) → impl_Clock_at.idx p l b = b + i := by
  intro l
  induction l with
  | nil => intro i b h; simp at h
  | cons a l ih =>
    intro i b hi hh hm
    cases i with
    | zero =>
      have : impl_Clock_at.hit p a = true := by simpa using hh
      simp [impl_Clock_at.idx, this]
    | succ i =>
      have h0 : impl_Clock_at.hit p a = false := by simpa using hm 0 (by omega)
      simp only [impl_Clock_at.idx, h0]
      rw [if_neg (by decide), ih i (b + 1) (by simpa using hi) (by simpa using hh) (fun j hj => by simpa using hm (j + 1) (by omega))]
      omega
theorem impl_Clock_at.idx_miss (p : Int) (z : S62) : ∀ (l : List S62) (b : Int), (∀ j, j < l.length → impl_Clock_at.hit p (l.getD j z) = false) → impl_Clock_at.idx p l b = -1 := by
  intro l
  induction l with
  | nil => intro b _; rfl
  | cons a l ih =>
    intro b hm
    have h0 : impl_Clock_at.hit p a = false := by simpa using hm 0 (by simp)
    simp only [impl_Clock_at.idx, h0]
    rw [if_neg (by decide)]
    exact ih (b + 1) (fun j hj => by simpa using hm (j + 1) (by simpa using hj))
set_option maxHeartbeats 2000000 in
theorem impl_Clock_at.clo (B : Nat) (p : Int) (x : S62) (W : World) (hc : W.cell? ⟨B, 0, none⟩ = some (.int .i64 p)) :
    Calls Try.prog 65 #[.agg #[.int .i64 x.f0, .int .i64 x.f1, .int .i64 x.f2], .pointer (some ⟨B, 0, none⟩)] W fun e w' => e = .returned (.bool (impl_Clock_at.hit p x)) ∧ Below W.heap.size W w' := by
  have hB := World.block_lt_of_cell? W _ hc
  unfold impl_Clock_at.hit
  have HB := below_alloc (Below.refl W.heap.size W) (.cells #[.int .i64 x.f0, .int .i64 x.f1, .int .i64 x.f2] 62)
  go_enter Try.func65, Try.ntmps65
  go_wp2
  go_ret
  exact ⟨by first | rfl | simp, HB⟩
set_option maxHeartbeats 2000000 in
theorem impl_Clock_at.ixf (B : Nat) (p : Int) (A0 : Option Addr) (c0 : Nat) (l : List S62) (w : World) (hr : Kd.C k62 w A0 l.length l) (hc : w.cell? ⟨B, 0, none⟩ = some (.int .i64 p)) :
    Calls Try.prog 64 #[.slice A0 l.length c0, .func (.func 65) #[] #[.pointer (some ⟨B, 0, none⟩)]] w fun e w' => e = .returned (.int .i64 (impl_Clock_at.idx p l 0)) ∧ Below w.heap.size w w' := by
  have hbig : l.length ≤ 9223372036854775807 := hr.2.1
  have HR := Aside0.mk hr
  have HC := Aside0.mk hc
  clear hr hc
  have eg := enters_of Try.func65 (by kernel_rfl) rfl
  generalize hn : l.length = n
  go_enter Try.func64, Try.ntmps64
  go_wp2
  go_loopg [5, 8] n (fun gg _ s8 wr => ∃ kk : Nat, kk ≤ n ∧ n - kk ≤ gg ∧ s8 = .int .i64 kk ∧ Aside0 (Below w.heap.size w wr) ∧ Aside0 (∀ j, j < kk → impl_Clock_at.hit p (l.getD j z62) = false))
  case atStart => exact ⟨0, Nat.zero_le _, by omega, rfl, ⟨Below.refl _ w⟩, ⟨fun j hj => absurd hj (Nat.not_lt_zero _)⟩⟩
  case round =>
    obtain ⟨kk, hkk, hg, rfl, BW, AA⟩ := hrel
    by_cases hlt : kk < n
    · have hltz : (kk : Int) < (n : Int) := by omega
      obtain ⟨ad, rfl, q0, q1, q2⟩ := at_T62 (Kd.C_below HR.out BW.out) (kk : Int) (by omega) (by omega)
      have hcall := impl_Clock_at.clo B p (rd_T62 l (kk : Int)) wr (pw_cell_below BW.out HC.out)
      have erd : rd_T62 l (kk : Int) = l.getD kk z62 := by simp [rd_T62]
      rw [Int.toNat_natCast] at q0 q1 q2
      have ER := Aside0.mk erd
      clear erd
      generalize hy : rd_T62 l (kk : Int) = y at q0 q1 q2 hcall
      have HY := Aside0.mk hy
      clear hy
      cases hq : impl_Clock_at.hit p y with
      | true =>
        rw [hq] at hcall
        have HQ := Aside0.mk hq
        clear hq
        go_wp2_with (go_at_call 65; refine hcall.mono ?_; rintro e w' ⟨rfl, hb'⟩)
        go_ret
        refine ⟨?_, below_then BW.out BW.out.size hb'⟩
        rw [impl_Clock_at.idx_hit p z62 l kk 0 (by omega) (by rw [← ER.out, HY.out]; exact HQ.out) AA.out]
        simp
      | false =>
        rw [hq] at hcall
        have HQ := Aside0.mk hq
        clear hq
        go_wp2_with (go_at_call 65; refine hcall.mono ?_; rintro e w' ⟨rfl, hb'⟩)
        go_roundg (n - (kk + 1))
        case measure => omega
        case rel =>
          refine ⟨kk + 1, by omega, by omega, by go_num, ⟨below_then BW.out BW.out.size hb'⟩, ⟨fun j hj => ?_⟩⟩
          by_cases e : j = kk
          · rw [e, ← ER.out, HY.out]
            exact HQ.out
          · exact AA.out j (by omega)
    · have hltz : ¬ (kk : Int) < (n : Int) := by omega
      have hkn : kk = n := by omega
      subst hkn
      go_wp2
      go_ret
      refine ⟨?_, BW.out⟩
      rw [impl_Clock_at.idx_miss p z62 l 0 (fun j hj => AA.out j (by omega))]
      rfl
set_option maxHeartbeats 4000000 in
theorem impl_Clock_at.calls (a0_0 : Int) (A0_1 : Option Addr) (c0_1 : Nat) (l0_1 : List S62) (a1 : Int) (r : Int) (w : World) (hr0_1 : Kd.C k62 w A0_1 l0_1.length l0_1) (hc0_1 : l0_1.length ≤ c0_1) (h : impl_Clock_at.f a0_0 l0_1 a1 = some r) :
    Calls Try.prog 56 #[.agg #[.int .i64 a0_0, .slice A0_1 l0_1.length c0_1], .int .i64 a1] w fun e w' => e = .returned (.int .i64 r) ∧ Below w.heap.size w w' := by
  have HR := Aside0.mk hr0_1
  clear hr0_1 hc0_1
  obtain rfl : impl_Clock_at.idx a1 l0_1 0 = r := Option.some.inj h
  clear h
  have hmf : ∀ (fn : Fn) (first cap : Array Value) (w : World), (Instr.makeFunc fn first cap).run Try.prog w = .ok (.func fn first cap) w := fun _ _ _ _ => rfl
  have HB := below_alloc (below_alloc (Below.refl w.heap.size w) (.cells #[.int .i64 a0_0, .slice A0_1 l0_1.length c0_1] 26)) (.cells #[.int .i64 a1] 3)
  go_enter Try.func56, Try.ntmps56
  go_wp2_with (go_at_call 64; refine (impl_Clock_at.ixf (w.heap.size + 1) a1 A0_1 c0_1 l0_1 _ (Kd.C_below HR.out HB) (by simp)).mono ?_; rintro e w2 ⟨rfl, hb2⟩)
  go_ret
  exact ⟨rfl, below_then HB HB.size hb2⟩


end Go.Proofs.Ytlejcgnfpcngbaa.P
