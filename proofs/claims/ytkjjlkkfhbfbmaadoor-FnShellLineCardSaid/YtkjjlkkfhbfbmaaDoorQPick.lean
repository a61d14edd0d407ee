/- Drawing: the reader's pick comes to an answer, within its range. -/
import Derived.Test.YtkjjlkkfhbfbmaaDoorQBase
import Derived.Laws.BitsLemmas
import Derived.Test.YtkjjlkkfhbfbmaaDoorPfM4
namespace Go.Proofs.YtkjjlkkfhbfbmaaDoor.Q
open Go.RowKit Go.Proofs.YtkjjlkkfhbfbmaaDoorW.PrintWords Go.Proofs.YtkjjlkkfhbfbmaaDoorW.PrintLast Go.Proofs.YtkjjlkkfhbfbmaaDoorW.PrintMore Go.Proofs.YtkjjlkkfhbfbmaaDoor.P
set_option linter.unusedVariables false
set_option linter.unusedSimpArgs false

/-- The bytes that a reader reads. -/
structure Bytes (s : List Int) : Prop where
  len : s.length ≤ 1048576
  lo : ∀ i : Int, 0 ≤ i → i < s.length → 0 ≤ rd s i ∧ rd s i ≤ 255
theorem bytes_of {l : List Int} (h : ∀ x ∈ l, (Lit.int .u8 x).wf = true) (hl : l.length ≤ 1048576) : Bytes l := by
  refine ⟨hl, fun i h0 h1 => ?_⟩
  have hi : i.toNat < l.length := by omega
  have hm : rd l i ∈ l := by
    unfold rd
    rw [List.getD_eq_getElem?_getD, List.getElem?_eq_getElem hi]
    exact List.getElem_mem hi
  have := h _ hm
  simp only [Lit.wf, Bool.and_eq_true, decide_eq_true_eq] at this
  have e1 : IntKind.min .u8 = 0 := by decide
  have e2 : IntKind.max .u8 = 255 := by decide
  omega
theorem xor_lo {a b : Int} (ha : 0 ≤ a) (ha' : a ≤ 4294967295) (hb : 0 ≤ b) (hb' : b ≤ 4294967295) : 0 ≤ Go.bits .xor .i64 a b := by
  obtain ⟨m, rfl⟩ := Int.eq_ofNat_of_zero_le ha
  obtain ⟨n, rfl⟩ := Int.eq_ofNat_of_zero_le hb
  have hm : m < 2 ^ 32 := by omega
  have hn : n < 2 ^ 32 := by omega
  have hx : m ^^^ n < 2 ^ 32 := Nat.xor_lt_two_pow hm hn
  have h1 : (BitVec.ofInt 64 (m : Int)).toNat = m := by
    rw [BitVec.ofInt_natCast, BitVec.toNat_ofNat]; exact Nat.mod_eq_of_lt (by omega)
  have h2 : (BitVec.ofInt 64 (n : Int)).toNat = n := by
    rw [BitVec.ofInt_natCast, BitVec.toNat_ofNat]; exact Nat.mod_eq_of_lt (by omega)
  show 0 ≤ IntKind.i64.wrap ((BitVec.ofInt 64 (m : Int) ^^^ BitVec.ofInt 64 (n : Int)).toNat : Int)
  rw [BitVec.toNat_xor, h1, h2, IntKind.wrap_i64]
  omega
/-- pick: from place p on; a number from 0 to n - 1. -/
theorem pick_ev (s : List Int) (hs : Bytes s) (p n : Int) (hp : 0 ≤ p) (hp' : p ≤ 1000000) (hn : n ≤ 1000000) : ∃ v, Ev (fun k => spec_l6Rd_pick.f k s p n) (v, p + 1) ∧ 0 ≤ v ∧ (1 ≤ n → v < n) ∧ (n < 1 → v = 0) := by
  have hw : wrap64 (p + 1) = p + 1 := wrap_id (by omega) (by omega)
  have hw1 : wrap64 (p + 1 - 1) = p := by rw [wrap_id (by omega) (by omega)]; omega
  have hl := hs.len
  unfold spec_l6Rd_pick.f
  rw [hw]
  by_cases h1 : n < 1
  · refine ⟨0, ?_, by omega, by omega, fun _ => rfl⟩
    refine Ev.pos h1 ?_
    refine Ev.step (fun k => by simp only [spec_l6Rd_pick.j0]; rfl) ?_
    exact Ev.pos (by trivial) (Ev.pure rfl)
  by_cases h2 : s.length = 0
  · refine ⟨0, ?_, by omega, by omega, fun _ => rfl⟩
    refine Ev.neg h1 ?_
    refine Ev.step (fun k => by simp only [spec_l6Rd_pick.j0]; rfl) ?_
    exact Ev.pos (by simp [h2]) (Ev.pure rfl)
  by_cases h3 : p < s.length
  · obtain ⟨r0, r1⟩ := hs.lo p hp h3
    have hr : wrap64 (rd s p) = rd s p := wrap_id (by omega) (by omega)
    refine ⟨Int.tmod (rd s p) n, ?_, Int.tmod_nonneg _ r0, fun _ => Int.tmod_lt_of_pos _ (by omega), fun h => absurd h h1⟩
    refine Ev.neg h1 ?_
    refine Ev.step (fun k => by simp only [spec_l6Rd_pick.j0]; rfl) ?_
    refine Ev.neg (by simpa using h2) ?_
    rw [hw1, hr]
    exact Ev.pos h3 (Ev.pos hp (Ev.neg (by omega) (Ev.pure rfl)))
  · have hL : (0 : Int) < s.length := by omega
    have b1 : 0 ≤ Int.tmod p (s.length : Int) := Int.tmod_nonneg _ hp
    have b2 : Int.tmod p (s.length : Int) < s.length := Int.tmod_lt_of_pos _ hL
    have w7 : wrap64 (p * 7) = p * 7 := wrap_id (by omega) (by omega)
    have w73 : wrap64 (p * 7 + 3) = p * 7 + 3 := wrap_id (by omega) (by omega)
    have b3 : 0 ≤ Int.tmod (p * 7 + 3) (s.length : Int) := Int.tmod_nonneg _ (by omega)
    have b4 : Int.tmod (p * 7 + 3) (s.length : Int) < s.length := Int.tmod_lt_of_pos _ hL
    obtain ⟨r0, r1⟩ := hs.lo _ b1 b2
    obtain ⟨q0, q1⟩ := hs.lo _ b3 b4
    have b5 : 0 ≤ Int.tdiv p (s.length : Int) := Int.tdiv_nonneg hp (by omega)
    have b6 : Int.tdiv p (s.length : Int) ≤ p := by
      rw [Int.tdiv_eq_ediv_of_nonneg hp]
      exact Int.ediv_le_self _ hp
    generalize hR : rd s (Int.tmod p (s.length : Int)) = R at *
    generalize hQ : rd s (Int.tmod (p * 7 + 3) (s.length : Int)) = Q at *
    generalize hD : Int.tdiv p (s.length : Int) = D at *
    have wR : wrap64 R = R := wrap_id (by omega) (by omega)
    have wQ : wrap64 Q = Q := wrap_id (by omega) (by omega)
    have wD : wrap64 D = D := wrap_id (by omega) (by omega)
    have wR1 : wrap64 (R * 131) = R * 131 := wrap_id (by omega) (by omega)
    have wQ1 : wrap64 (Q * 1117) = Q * 1117 := wrap_id (by omega) (by omega)
    have wRQ : wrap64 (R * 131 + Q * 1117) = R * 131 + Q * 1117 := wrap_id (by omega) (by omega)
    have wp : wrap64 (p * 29) = p * 29 := wrap_id (by omega) (by omega)
    have wRQp : wrap64 (R * 131 + Q * 1117 + p * 29) = R * 131 + Q * 1117 + p * 29 := wrap_id (by omega) (by omega)
    have wD1 : wrap64 (D * 53) = D * 53 := wrap_id (by omega) (by omega)
    have wX : wrap64 (R * 131 + Q * 1117 + p * 29 + D * 53) = R * 131 + Q * 1117 + p * 29 + D * 53 := wrap_id (by omega) (by omega)
    generalize hX : R * 131 + Q * 1117 + p * 29 + D * 53 = X at *
    have x0 : 0 ≤ X := by omega
    have x1 : X ≤ 4294967295 := by omega
    have e64 : Int.tdiv X 64 = X / 64 := Int.tdiv_eq_ediv_of_nonneg x0
    have w64 : wrap64 (Int.tdiv X 64) = X / 64 := by rw [e64]; exact wrap_id (by omega) (by omega)
    have hz : 0 ≤ Go.bits .xor .i64 X (X / 64) := xor_lo x0 x1 (by omega) (by omega)
    refine ⟨Int.tmod (Go.bits .xor .i64 X (X / 64)) n, ?_, Int.tmod_nonneg _ hz, fun _ => Int.tmod_lt_of_pos _ (by omega), fun h => absurd h h1⟩
    refine Ev.neg h1 ?_
    refine Ev.step (fun k => by simp only [spec_l6Rd_pick.j0]; rfl) ?_
    refine Ev.neg (by simpa using h2) ?_
    rw [hw1]
    refine Ev.neg (by omega) (Ev.neg (by omega) (Ev.pos b1 (Ev.pos b2 ?_)))
    rw [w7, w73]
    refine Ev.pos b3 (Ev.pos b4 (Ev.neg (by omega) ?_))
    rw [hR, hQ, hD, wR, wQ, wD, wR1, wQ1, wRQ, wp, wRQp, wD1, hX, wX, w64]
    exact Ev.pure rfl
theorem open_ev (l : List Int) (h : ∀ x ∈ l, (Lit.int .u8 x).wf = true) (hl : l.length ≤ 1048576) : ∃ s, spec_l6Open.f l = some (s, 0) ∧ Bytes s := by
  unfold spec_l6Open.f
  by_cases h1 : (l.length : Int) > 2000
  · rw [if_pos h1, if_pos (by omega)]
    exact ⟨_, rfl, bytes_of (fun x hx => h x (List.mem_of_mem_take hx)) (by simp; omega)⟩
  · rw [if_neg h1]
    exact ⟨_, rfl, bytes_of h hl⟩
end Go.Proofs.YtkjjlkkfhbfbmaaDoor.Q
