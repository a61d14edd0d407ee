-- printed by this session's own driver (wip/qd.py) out of the translation; Lean checks it
import Derived.Test.YthoapmfpokohnaaPf0
import Derived.Test.YthoapmfpokohnaaPfimplAreaend
import Derived.Test.YthoapmfpokohnaaPfimplAreasOk
import Derived.Shelf.Abstract
namespace Go.Proofs.Ythoapmfpokohnaa.P
open Go.RowKit Go.Proofs.YthoapmfpokohnaaW.PrintWords Go.Proofs.YthoapmfpokohnaaW.PrintLast Go.Proofs.YthoapmfpokohnaaW.PrintMore
attribute [local go_sem] max2_int min2_int max_two min_two max_three min_three max_four min_four Q.cell_set_map   -- for this text's walks alone
set_option linter.unusedVariables false
set_option linter.unusedSimpArgs false

/-! ### impl_AreasAt: function 55 -/
-- IMPORT Derived.Shelf.Abstract
def impl_AreasAt.hit (p : Int) (a : S108) : Bool := decide (a.f0 ≤ p) && decide (p < wrap64 (a.f0 + a.f1))
def impl_AreasAt.idx (p : Int) : List S108 → Int → Int
  | [], _ => -1
  | a :: l, i => if impl_AreasAt.hit p a = true then i else impl_AreasAt.idx p l (i + 1)
def impl_AreasAt.f (k : Nat) (l0 : List S108) (a1 : Int) : Option Int := (impl_AreasOk.f k l0).bind fun t => if t = true then some (impl_AreasAt.idx a1 l0 0) else some (-1)
theorem impl_AreasAt.mono : ∀ a0 a1 k, LeO (impl_AreasAt.f k a0 a1) (impl_AreasAt.f (k + 1) a0 a1) := by
  intro a0 a1 k
  unfold impl_AreasAt.f
  exact LeO.bind (impl_AreasOk.mono _ _) (fun _ => LeO.refl _)
theorem impl_AreasAt.idx_hit (p : Int) (z : S108) : ∀ (l : List S108) (i : Nat) (b : Int), i < l.length → impl_AreasAt.hit p (l.getD i z) = true → (∀ j, j < i → impl_AreasAt.hit p (l.getD j z) = false) → impl_AreasAt.idx p l b = b + i := by
  intro l
  induction l with
  | nil => intro i b h; simp at h
  | cons a l ih =>
    intro i b hi hh hm
    cases i with
    | zero =>
      have : impl_AreasAt.hit p a = true := by simpa using hh
      simp [impl_AreasAt.idx, this]
    | succ i =>
      have h0 : impl_AreasAt.hit p a = false := by simpa using hm 0 (by omega)
      simp only [impl_AreasAt.idx, h0]
      rw [if_neg (by decide), ih i (b + 1) (by simpa using hi) (by simpa using hh) (fun j hj => by simpa using hm (j + 1) (by omega))]
      omega
theorem impl_AreasAt.idx_miss (p : Int) (z : S108) : ∀ (l : List S108) (b : Int), (∀ j, j < l.length → impl_AreasAt.hit p (l.getD j z) = false) → impl_AreasAt.idx p l b = -1 := by
  intro l
  induction l with
  | nil => intro b _; rfl
  | cons a l ih =>
    intro b hm
    have h0 : impl_AreasAt.hit p a = false := by simpa using hm 0 (by simp)
    simp only [impl_AreasAt.idx, h0]
    rw [if_neg (by decide)]
    exact ih (b + 1) (fun j hj => by simpa using hm (j + 1) (by simpa using hj))
theorem impl_AreasAt.keep {W W1 W2 : World} {B g : Nat} {p a b : Int} {c d : Bool} (h : W1.cell? ⟨B, 0, none⟩ = some (.int .i64 p) ∧ W1.cell? ⟨g, 0, none⟩ = some (.int .i64 a) ∧ W1.cell? ⟨g, 0 + 1, none⟩ = some (.int .i64 b) ∧ W1.cell? ⟨g, 0 + 2, none⟩ = some (.bool c) ∧ W1.cell? ⟨g, 0 + 3, none⟩ = some (.bool d) ∧ Below W.heap.size W W1) (hb : Below W1.heap.size W1 W2) :
    W2.cell? ⟨B, 0, none⟩ = some (.int .i64 p) ∧ W2.cell? ⟨g, 0, none⟩ = some (.int .i64 a) ∧ W2.cell? ⟨g, 0 + 1, none⟩ = some (.int .i64 b) ∧ W2.cell? ⟨g, 0 + 2, none⟩ = some (.bool c) ∧ W2.cell? ⟨g, 0 + 3, none⟩ = some (.bool d) ∧ Below W.heap.size W W2 :=
  ⟨pw_cell_below hb h.1, pw_cell_below hb h.2.1, pw_cell_below hb h.2.2.1, pw_cell_below hb h.2.2.2.1, pw_cell_below hb h.2.2.2.2.1, below_then h.2.2.2.2.2 h.2.2.2.2.2.size hb⟩
set_option maxHeartbeats 2000000 in
theorem impl_AreasAt.clo (B : Nat) (p : Int) (x : S108) (W : World) (hc : W.cell? ⟨B, 0, none⟩ = some (.int .i64 p)) :
    Calls Try.prog 99 #[.agg #[.int .i64 x.f0, .int .i64 x.f1, .bool x.f2, .bool x.f3], .pointer (some ⟨B, 0, none⟩)] W fun e w' => e = .returned (.bool (impl_AreasAt.hit p x)) ∧ Below W.heap.size W w' := by
  have hB := World.block_lt_of_cell? W _ hc
  unfold impl_AreasAt.hit
  by_cases h : x.f0 ≤ p
  · have h1 : decide (x.f0 ≤ p) = true := decide_eq_true h
    go_enter Try.func99, Try.ntmps99
    go_wp2
    have HB := below_alloc (Below.refl W.heap.size W) (.cells #[.int .i64 x.f0, .int .i64 x.f1, .bool x.f2, .bool x.f3] 108)
    go_region_held3 (fun W' => W'.cell? ⟨B, 0, none⟩ = some (.int .i64 p) ∧ W'.cell? ⟨W.heap.size, 0, none⟩ = some (.int .i64 x.f0) ∧ W'.cell? ⟨W.heap.size, 0 + 1, none⟩ = some (.int .i64 x.f1) ∧ W'.cell? ⟨W.heap.size, 0 + 2, none⟩ = some (.bool x.f2) ∧ W'.cell? ⟨W.heap.size, 0 + 3, none⟩ = some (.bool x.f3) ∧ Below W.heap.size W W') (first | exact impl_AreasAt.keep ‹_› ‹_› | (refine ⟨?_, ?_, ?_, ?_, ?_, below_drew HB⟩ <;> go_simp)) (first | (go_at_call 97; refine (impl_Area_end.calls _ _ _ _ _ _ rfl).mono ?_; rintro e w' ⟨rfl, hb⟩))
    go_wp2
    go_ret
    rename_i hS
    exact ⟨by simp [h1], hS.2.2.2.2.2⟩
  · have h1 : decide (x.f0 ≤ p) = false := decide_eq_false h
    go_enter Try.func99, Try.ntmps99
    go_wp2
    go_quiet (fail)
    go_wp2
    go_ret
    exact ⟨by simp [h1], pw_below_drewN (below_alloc (Below.refl W.heap.size W) _) _⟩
set_option maxHeartbeats 2000000 in
theorem impl_AreasAt.ixf (B : Nat) (p : Int) (A0 : Option Addr) (c0 : Nat) (l : List S108) (w : World) (hr : Kd.C k108 w A0 l.length l) (hc : w.cell? ⟨B, 0, none⟩ = some (.int .i64 p)) :
    Calls Try.prog 98 #[.slice A0 l.length c0, .func (.func 99) #[] #[.pointer (some ⟨B, 0, none⟩)]] w fun e w' => e = .returned (.int .i64 (impl_AreasAt.idx p l 0)) ∧ Below w.heap.size w w' := by
  have hbig : l.length ≤ 9223372036854775807 := hr.2.1
  have HR := Aside0.mk hr
  have HC := Aside0.mk hc
  clear hr hc
  have eg := enters_of Try.func99 (by kernel_rfl) rfl
  generalize hn : l.length = n
  go_enter Try.func98, Try.ntmps98
  go_wp2
  go_loopg [5, 8] n (fun gg _ s8 wr => ∃ kk : Nat, kk ≤ n ∧ n - kk ≤ gg ∧ s8 = .int .i64 kk ∧ Aside0 (Below w.heap.size w wr) ∧ Aside0 (∀ j, j < kk → impl_AreasAt.hit p (l.getD j z108) = false))
  case atStart => exact ⟨0, Nat.zero_le _, by omega, rfl, ⟨Below.refl _ w⟩, ⟨fun j hj => absurd hj (Nat.not_lt_zero _)⟩⟩
  case round =>
    obtain ⟨kk, hkk, hg, rfl, BW, AA⟩ := hrel
    by_cases hlt : kk < n
    · have hltz : (kk : Int) < (n : Int) := by omega
      obtain ⟨ad, rfl, q0, q1, q2, q3⟩ := at_T108 (Kd.C_below HR.out BW.out) (kk : Int) (by omega) (by omega)
      have hcall := impl_AreasAt.clo B p (rd_T108 l (kk : Int)) wr (pw_cell_below BW.out HC.out)
      have erd : rd_T108 l (kk : Int) = l.getD kk z108 := by simp [rd_T108]
      rw [Int.toNat_natCast] at q0 q1 q2 q3
      have ER := Aside0.mk erd
      clear erd
      generalize hy : rd_T108 l (kk : Int) = y at q0 q1 q2 q3 hcall
      have HY := Aside0.mk hy
      clear hy
      cases hq : impl_AreasAt.hit p y with
      | true =>
        rw [hq] at hcall
        have HQ := Aside0.mk hq
        clear hq
        go_wp2_with (go_at_call 99; refine hcall.mono ?_; rintro e w' ⟨rfl, hb'⟩)
        go_ret
        refine ⟨?_, below_then BW.out BW.out.size hb'⟩
        rw [impl_AreasAt.idx_hit p z108 l kk 0 (by omega) (by rw [← ER.out, HY.out]; exact HQ.out) AA.out]
        simp
      | false =>
        rw [hq] at hcall
        have HQ := Aside0.mk hq
        clear hq
        go_wp2_with (go_at_call 99; refine hcall.mono ?_; rintro e w' ⟨rfl, hb'⟩)
        go_roundg (n - (kk + 1))
        case measure => omega
        case rel =>
          refine ⟨kk + 1, by omega, by omega, by go_num, ⟨below_then BW.out BW.out.size hb'⟩, ⟨fun j hj => ?_⟩⟩
          by_cases e : j = kk
          · rw [e, ← ER.out, HY.out]
            exact HQ.out
          · exact AA.out j (by omega)
    · have hltz : ¬ (kk : Int) < (n : Int) := by omega
      have hkn : kk = n := by omega
      subst hkn
      go_wp2
      go_ret
      refine ⟨?_, BW.out⟩
      rw [impl_AreasAt.idx_miss p z108 l 0 (fun j hj => AA.out j (by omega))]
      rfl
set_option maxHeartbeats 4000000 in
theorem impl_AreasAt.calls (k : Nat) (A0 : Option Addr) (c0 : Nat) (l0 : List S108) (a1 : Int) (r : Int) (w : World) (hr0 : Kd.C k108 w A0 l0.length l0) (hc0 : l0.length ≤ c0) (h : impl_AreasAt.f k l0 a1 = some r) :
    Calls Try.prog 55 #[.slice A0 l0.length c0, .int .i64 a1] w fun e w' => e = .returned (.int .i64 r) ∧ Below w.heap.size w w' := by
  have HR := Aside0.mk hr0
  have HC := Aside0.mk hc0
  clear hr0 hc0
  have hmf : ∀ (fn : Fn) (first cap : Array Value) (w : World), (Instr.makeFunc fn first cap).run Try.prog w = .ok (.func fn first cap) w := fun _ _ _ _ => rfl
  obtain ⟨t, ht, h⟩ := Option.bind_eq_some_iff.1 (show ((impl_AreasOk.f k l0).bind fun t => if t = true then some (impl_AreasAt.idx a1 l0 0) else some (-1)) = some r from h)
  have HT := Aside0.mk ht
  clear ht
  have HB := below_alloc (Below.refl w.heap.size w) (.cells #[.int .i64 a1] 3)
  cases t with
  | true =>
    obtain rfl : impl_AreasAt.idx a1 l0 0 = r := by simpa using h
    clear h
    go_enter Try.func55, Try.ntmps55
    go_wp2_with fail
    refine (impl_AreasOk.calls k A0 c0 l0 true _ (Kd.C_below HR.out HB) HC.out HT.out).mono ?_
    rintro e w1 ⟨rfl, hb1⟩
    have HB1 := Aside0.mk (below_then HB HB.size hb1)
    have hcell : w1.cell? ⟨w.heap.size, 0, none⟩ = some (.int .i64 a1) := pw_cell_below hb1 (by simp)
    have HD := Aside0.mk hcell
    clear hb1 HB hcell
    go_wp2_with fail
    refine (impl_AreasAt.ixf w.heap.size a1 A0 c0 l0 _ (Kd.C_below HR.out HB1.out) HD.out).mono ?_
    rintro e w2 ⟨rfl, hb2⟩
    go_wp2
    go_ret
    exact ⟨rfl, below_then HB1.out HB1.out.size hb2⟩
  | false =>
    obtain rfl : (-1 : Int) = r := by simpa using h
    clear h
    go_enter Try.func55, Try.ntmps55
    go_wp2_with fail
    refine (impl_AreasOk.calls k A0 c0 l0 false _ (Kd.C_below HR.out HB) HC.out HT.out).mono ?_
    rintro e w1 ⟨rfl, hb1⟩
    go_wp2
    go_ret
    exact ⟨rfl, below_then HB HB.size hb1⟩


end Go.Proofs.Ythoapmfpokohnaa.P
