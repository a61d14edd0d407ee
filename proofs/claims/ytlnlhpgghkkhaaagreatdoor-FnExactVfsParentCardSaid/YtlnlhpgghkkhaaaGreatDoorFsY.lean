/- Who may go through a folder. -/
import Derived.Test.YtlnlhpgghkkhaaaGreatDoorFsX
open Go Go.Mach Go.Mach.Fv Go.Proofs
set_option maxRecDepth 100000
set_option linter.unusedVariables false
set_option linter.unusedSimpArgs false
namespace Go.Mach.Fv
theorem and_n (a b : Nat) (ha : a < 1152921504606846976) (hb : b < 1152921504606846976) : IntKind.i64.wrap ((BitVec.ofInt IntKind.i64.bits (a : Int) &&& BitVec.ofInt IntKind.i64.bits (b : Int)).toNat : Int) = ((a &&& b : Nat) : Int) := by
  have h : (BitVec.ofInt IntKind.i64.bits (a : Int) &&& BitVec.ofInt IntKind.i64.bits (b : Int)).toNat = a &&& b := by
    rw [BitVec.toNat_and, BitVec.toNat_ofInt, BitVec.toNat_ofInt]
    show ((a : Int) % (2 ^ 64 : Nat)).toNat &&& ((b : Int) % (2 ^ 64 : Nat)).toNat = _
    congr 1 <;> omega
  have hl : a &&& b ≤ a := Nat.and_le_left
  rw [h, wrap_in (by omega) (by omega)]
theorem or_n (a b : Nat) (ha : a < 8) (hb : b < 8) : IntKind.i64.wrap ((BitVec.ofInt IntKind.i64.bits (a : Int) ||| BitVec.ofInt IntKind.i64.bits (b : Int)).toNat : Int) = ((a ||| b : Nat) : Int) := by
  have h : (BitVec.ofInt IntKind.i64.bits (a : Int) ||| BitVec.ofInt IntKind.i64.bits (b : Int)).toNat = a ||| b := by
    rw [BitVec.toNat_or, BitVec.toNat_ofInt, BitVec.toNat_ofInt]
    show ((a : Int) % (2 ^ 64 : Nat)).toNat ||| ((b : Int) % (2 ^ 64 : Nat)).toNat = _
    congr 1 <;> omega
  have hl : a ||| b < 2 ^ 3 := Nat.or_lt_two_pow (by omega) (by omega)
  rw [h, wrap_in (by omega) (by omega)]
theorem and_i {a : Int} (h0 : 0 ≤ a) (h1 : a ≤ 1000) : IntKind.i64.wrap ((BitVec.ofInt IntKind.i64.bits a &&& BitVec.ofInt IntKind.i64.bits 1).toNat : Int) = a % 2 := by
  obtain ⟨n, rfl⟩ : ∃ n : Nat, a = n := ⟨a.toNat, by omega⟩
  have := and_n n 1 (by omega) (by omega)
  rw [show ((1 : Nat) : Int) = 1 from rfl] at this
  rw [this, Nat.and_one_is_mod]
  omega
theorem and_7 {a : Int} (h0 : 0 ≤ a) (h1 : a ≤ 1000) : IntKind.i64.wrap ((BitVec.ofInt IntKind.i64.bits a &&& BitVec.ofInt IntKind.i64.bits 7).toNat : Int) = a % 8 := by
  obtain ⟨n, rfl⟩ : ∃ n : Nat, a = n := ⟨a.toNat, by omega⟩
  have := and_n n 7 (by omega) (by omega)
  rw [show ((7 : Nat) : Int) = 7 from rfl] at this
  rw [this, show (7 : Nat) = 2 ^ 3 - 1 from rfl, Nat.and_two_pow_sub_one_eq_mod]
  omega
theorem i_and1 {t : TypeId} {a : Int} (h0 : 0 ≤ a) (h1 : a ≤ 1000) : scal2 Tryz.prog (binOp .and t) (.one (.int .i64 a)) (.one (.int .i64 1)) = some (.one (.int .i64 (a % 2))) := by rw [i_and, and_i h0 h1]
theorem i_and7 {t : TypeId} {a : Int} (h0 : 0 ≤ a) (h1 : a ≤ 1000) : scal2 Tryz.prog (binOp .and t) (.one (.int .i64 a)) (.one (.int .i64 7)) = some (.one (.int .i64 (a % 8))) := by rw [i_and, and_7 h0 h1]
theorem ev147 (xs : List Int) (x : Int) (hm : xs.length ≤ 1000000) (r : List It) (hr : ∀ (σ : St Unit), σ = ⟨19, [], []⟩ → ans Tryz.prog Tryz.f147 [.ro, .ro] (Mach.go Z (Z.H 147) r σ) = some ⟨[(false, [.int .i64 (-1)])], []⟩) :
    ∀ (n j : Nat) (σ : St Unit), j + n = xs.length →
    σ.keep ⟨[7, 8, 0, 1], [], [7, 8, 0, 1]⟩ = some ⟨19, [(7, .one (.int .i64 (xs.length))), (8, .one (.int .i64 (j))), (0, .one (.ro () 3 (row encI xs))), (1, .one (.int .i64 (x)))], []⟩ →
      ans Tryz.prog Tryz.f147 [.ro, .ro] (Mach.go Z (Z.H 147) ((.lp (lpc Tryz.f147 2)) :: .blk 0 :: r) σ) = some ⟨[(false, [.int .i64 (ix (fun i => decide (x = el xs i)) j n)])], []⟩ := by
  have hb : lpc Tryz.f147 2 = lpc Tryz.f147 2 := rfl
  conv at hb => rhs; simp only [lpc, bodyOf, Tryz.f147, nthLoop, headId, if_true, if_false, reduceIte, Nat.reduceEqDiff]
  have hc := fun r σ => congrArg (fun c => Mach.go Z (Z.H 147) (.code c :: r) σ) hb
  clear hb
  intro n
  induction n with
  | zero =>
    intro j σ h hσ
    have hx : ¬ j < xs.length := by omega
    rw [go_lp, b147_2, L147_2, hσ, nx_, hc]
    simp [hx]
    exact hr _ rfl
  | succ n ih =>
    intro j σ h hσ
    have h2 : j < xs.length := by omega
    rw [go_lp, b147_2, L147_2, hσ, nx_, hc]
    unfold ix
    by_cases h3 : x = el xs j
    · simp [encI, h2, ← h3]
    · simp [encI, h2, h3, wrapJ (show j ≤ 1000000000000 by omega)]
      exact ih (j + 1) _ (by omega) (by simp)
theorem fn147 (xs : List Int) (x : Int) (hm : xs.length ≤ 1000000) : Fn Z 147 [.one (.ro () 3 (row encI xs)), .one (.int .i64 (x))] = some ⟨[(false, [.int .i64 (ix (fun i => decide (x = el xs i)) 0 xs.length)])], []⟩ := by
  refine Fn_ans Z rfl Tryz.func147 rfl K147 ?_
  rw [ZP, M147, nt147]
  have hb : bodyOf Tryz.f147 = bodyOf Tryz.f147 := rfl
  conv at hb => rhs; simp only [bodyOf, Tryz.f147]
  have hb2 : lpc Tryz.f147 2 = lpc Tryz.f147 2 := rfl
  conv at hb2 => rhs; simp only [lpc, bodyOf, Tryz.f147, nthLoop, headId, if_true, if_false, reduceIte, Nat.reduceEqDiff]
  rw [← hb2] at hb
  rw [hb]
  clear hb hb2
  simp
  refine ev147 xs x hm _ (fun σ h1 => ?_) xs.length 0 _ (by omega) (by simp)
  subst h1
  simp
theorem ix_mem (xs : List Int) (x : Int) : decide (0 ≤ ix (fun i => decide (x = el xs i)) 0 xs.length) = decide (x ∈ xs) := by
  apply decide_eq_decide.2
  rcases ix_cases (fun i => decide (x = el xs i)) xs.length 0 with ⟨h1, h2⟩ | ⟨j, h1, h2, h3, h4, h5⟩
  · rw [h1]
    refine ⟨fun h => by omega, fun h => ?_⟩
    obtain ⟨j, hj, rfl⟩ := List.getElem_of_mem h
    have := h2 j (by omega) (by omega)
    simp [el, List.getD_eq_getElem?_getD, hj] at this
  · rw [h1]
    refine ⟨fun _ => ?_, fun _ => by omega⟩
    simp only [decide_eq_true_eq] at h4
    rw [h4]
    simp only [el, Int.toNat_natCast, List.getD_eq_getElem?_getD, show j < xs.length by omega, List.getElem?_eq_getElem, Option.getD_some]
    exact List.getElem_mem _
theorem fn133 (xs : List Int) (x : Int) (hm : xs.length ≤ 1000000) : Fn Z 133 [.one (.ro () 3 (row encI xs)), .one (.int .i64 (x))] = some ⟨[(false, [.bool (decide (x ∈ xs))])], []⟩ := by
  refine Fn_ans Z rfl Tryz.func133 rfl K133 ?_
  rw [ZP, M133, nt133]
  have hb : bodyOf Tryz.f133 = bodyOf Tryz.f133 := rfl
  conv at hb => rhs; simp only [bodyOf, Tryz.f133]
  rw [hb]
  clear hb 
  simp [fn147 xs x hm, ← ix_mem]
theorem ev144 (xs : List Int) (x : Int) (hm : xs.length ≤ 1000000) (r : List It) (hr : ∀ (σ : St Unit), σ = ⟨18, [], []⟩ → ans Tryz.prog Tryz.f144 [.ro, .ro] (Mach.go Z (Z.H 144) r σ) = some ⟨[(false, [.bool false])], []⟩) :
    ∀ (n j : Nat) (σ : St Unit), j + n = xs.length →
    σ.keep ⟨[5, 1, 0], [], [5, 1, 0]⟩ = some ⟨18, [(5, .one (.int .i64 (j))), (1, .one (.int .i64 (x))), (0, .one (.ro () 3 (row encI xs)))], []⟩ →
      ans Tryz.prog Tryz.f144 [.ro, .ro] (Mach.go Z (Z.H 144) ((.lp (lpc Tryz.f144 2)) :: .blk 0 :: r) σ) = some ⟨[(false, [.bool (decide (0 ≤ ix (fun i => decide (x = el xs i)) j n))])], []⟩ := by
  have hb : lpc Tryz.f144 2 = lpc Tryz.f144 2 := rfl
  conv at hb => rhs; simp only [lpc, bodyOf, Tryz.f144, nthLoop, headId, if_true, if_false, reduceIte, Nat.reduceEqDiff]
  have hc := fun r σ => congrArg (fun c => Mach.go Z (Z.H 144) (.code c :: r) σ) hb
  clear hb
  intro n
  induction n with
  | zero =>
    intro j σ h hσ
    have hx : ¬ j < xs.length := by omega
    rw [go_lp, b144_2, L144_2, hσ, nx_, hc]
    simp [hx]
    exact hr _ rfl
  | succ n ih =>
    intro j σ h hσ
    have h2 : j < xs.length := by omega
    rw [go_lp, b144_2, L144_2, hσ, nx_, hc]
    unfold ix
    by_cases h3 : el xs j = x
    · simp [encI, h2, h3]
    · have h4 : ¬ x = el xs j := fun e => h3 e.symm
      simp [encI, h2, h3, h4, wrapJ (show j ≤ 1000000000000 by omega)]
      refine (ih (j + 1) _ (by omega) (by simp)).trans ?_
      simp
theorem fn144 (xs : List Int) (x : Int) (hm : xs.length ≤ 1000000) : Fn Z 144 [.one (.ro () 3 (row encI xs)), .one (.int .i64 (x))] = some ⟨[(false, [.bool (decide (x ∈ xs))])], []⟩ := by
  rw [← ix_mem]
  refine Fn_ans Z rfl Tryz.func144 rfl K144 ?_
  rw [ZP, M144, nt144]
  have hb : bodyOf Tryz.f144 = bodyOf Tryz.f144 := rfl
  conv at hb => rhs; simp only [bodyOf, Tryz.f144]
  have hb2 : lpc Tryz.f144 2 = lpc Tryz.f144 2 := rfl
  conv at hb2 => rhs; simp only [lpc, bodyOf, Tryz.f144, nthLoop, headId, if_true, if_false, reduceIte, Nat.reduceEqDiff]
  rw [← hb2] at hb
  rw [hb]
  clear hb hb2
  simp
  refine (ev144 xs x hm _ (fun σ h1 => ?_) xs.length 0 _ (by omega) (by simp)).trans (by simp)
  subst h1
  simp
def may1 (c : Cred) (owner group mode : Int) : Bool :=
  if c.user = 0 then decide (mode % 2 = 1) || decide (mode / 8 % 2 = 1) || decide (mode / 64 % 2 = 1)
  else if c.user = owner then decide (mode / 64 % 2 = 1)
  else if group ∈ c.groups then decide (mode / 8 % 2 = 1) else decide (mode % 2 = 1)
theorem fn127 (c : Cred) (hm : c.groups.length ≤ 1000000) (owner group mode : Int) (h0 : 0 ≤ mode) (h1 : mode ≤ 511) : Fn Z 127 [.agg [.int .i64 c.user, .int .i64 c.real, .ro () 3 (row encI c.groups)], .one (.int .i64 (owner)), .one (.int .i64 (group)), .one (.int .i64 (mode)), .one (.int .i64 (1))] = some ⟨[(false, [.bool (may1 c owner group mode)])], []⟩ := by
  have a1 : IntKind.i64.wrap (mode.tdiv 8) = mode / 8 := by rw [Int.tdiv_eq_ediv_of_nonneg h0, wrap_in (by omega) (by omega)]
  have a2 : IntKind.i64.wrap (mode.tdiv 64) = mode / 64 := by rw [Int.tdiv_eq_ediv_of_nonneg h0, wrap_in (by omega) (by omega)]
  have a3 : mode.tmod 2 = mode % 2 := Int.tmod_eq_emod_of_nonneg h0
  have a4 : (mode / 8).tmod 2 = mode / 8 % 2 := Int.tmod_eq_emod_of_nonneg (by omega)
  have a5 : (mode / 64).tmod 2 = mode / 64 % 2 := Int.tmod_eq_emod_of_nonneg (by omega)
  have a6 : mode.tmod 8 = mode % 8 := Int.tmod_eq_emod_of_nonneg h0
  have a7 : (mode / 8).tmod 8 = mode / 8 % 8 := Int.tmod_eq_emod_of_nonneg (by omega)
  have a8 : IntKind.i64.wrap (mode % 2 + mode / 8 % 2) = mode % 2 + mode / 8 % 2 := wrap_in (by omega) (by omega)
  have a9 : IntKind.i64.wrap (mode % 2 + mode / 8 % 2 + mode / 64 % 2) = mode % 2 + mode / 8 % 2 + mode / 64 % 2 := wrap_in (by omega) (by omega)
  have c1 : 0 ≤ mode / 64 ∧ mode / 64 ≤ 1000 := by omega
  have c2 : 0 ≤ mode / 8 % 8 ∧ mode / 8 % 8 ≤ 1000 := by omega
  have c3 : 0 ≤ mode % 8 ∧ mode % 8 ≤ 1000 := by omega
  have d1 : mode / 8 % 8 % 2 = mode / 8 % 2 := by omega
  have d2 : mode % 8 % 2 = mode % 2 := by omega
  have hg := fn144 c.groups group hm
  unfold may1
  refine Fn_ans Z rfl Tryz.func127 rfl K127 ?_
  rw [ZP, M127, nt127]
  have hb : bodyOf Tryz.f127 = bodyOf Tryz.f127 := rfl
  conv at hb => rhs; simp only [bodyOf, Tryz.f127]
  rw [hb]
  clear hb 
  by_cases q0 : c.user = 0
  · by_cases q1 : 0 < mode % 2 + mode / 8 % 2 + mode / 64 % 2
    · simp [i_quo, i_rem, i_and1, a1, a2, a3, a4, a5, a6, a7, a8, a9, c1.1, c1.2, c2.1, c2.2, c3.1, c3.2, d1, d2, q0, q1]
      omega
    · simp [i_quo, i_rem, i_and1, a1, a2, a3, a4, a5, a6, a7, a8, a9, c1.1, c1.2, c2.1, c2.2, c3.1, c3.2, d1, d2, q0, q1]
      omega
  · by_cases q1 : c.user = owner
    · rw [q1] at q0
      simp [i_quo, i_rem, i_and1, a1, a2, a3, a4, a5, a6, a7, a8, a9, c1.1, c1.2, c2.1, c2.2, c3.1, c3.2, d1, d2, q0, q1]
    · by_cases q2 : group ∈ c.groups
      · simp [i_quo, i_rem, i_and1, a1, a2, a3, a4, a5, a6, a7, a8, a9, c1.1, c1.2, c2.1, c2.2, c3.1, c3.2, d1, d2, q0, q1, hg, q2]
      · simp [i_quo, i_rem, i_and1, a1, a2, a3, a4, a5, a6, a7, a8, a9, c1.1, c1.2, c2.1, c2.2, c3.1, c3.2, d1, d2, q0, q1, hg, q2]
theorem fn132 (mode k : Int) (h0 : 0 ≤ mode) (h1 : mode ≤ 511) (hk : k = 0 ∨ k = 1 ∨ k = 2) : Fn Z 132 [.one (.int .i64 (mode)), .one (.int .i64 (k))] = some ⟨[(false, [.int .i64 ((if k = 0 then mode / 64 else if k = 1 then mode / 8 else mode) % 8)])], []⟩ := by
  refine Fn_ans Z rfl Tryz.func132 rfl K132 ?_
  rw [ZP, M132, nt132]
  have hb : bodyOf Tryz.f132 = bodyOf Tryz.f132 := rfl
  conv at hb => rhs; simp only [bodyOf, Tryz.f132]
  rw [hb]
  clear hb 
  have e1 : mode.fdiv 64 = mode / 64 := Int.fdiv_eq_ediv_of_nonneg _ (by omega)
  have e2 : mode.fdiv 8 = mode / 8 := Int.fdiv_eq_ediv_of_nonneg _ (by omega)
  have e3 : mode.fdiv 1 = mode := by rw [Int.fdiv_eq_ediv_of_nonneg _ (by omega)]; omega
  have w6 : IntKind.i64.wrap 6 = 6 := by decide
  have w2 : IntKind.i64.wrap 2 = 2 := by decide
  have w3 : IntKind.i64.wrap 3 = 3 := by decide
  have w0 : IntKind.i64.wrap 0 = 0 := by decide
  have hb : IntKind.i64.bits = 64 := rfl
  have c1 : 0 ≤ mode / 64 ∧ mode / 64 ≤ 1000 := by omega
  have c2 : 0 ≤ mode / 8 ∧ mode / 8 ≤ 1000 := by omega
  have c3 : 0 ≤ mode ∧ mode ≤ 1000 := by omega
  rcases hk with rfl | rfl | rfl
  · simp [i_shr, i_and7, e1, e2, e3, w0, w1, w2, w3, w6, hb, c1.1, c1.2, c2.1, c2.2, c3.1, c3.2]
  · simp [i_shr, i_and7, e1, e2, e3, w0, w1, w2, w3, w6, hb, c1.1, c1.2, c2.1, c2.2, c3.1, c3.2]
  · simp [i_shr, i_and7, e1, e2, e3, w0, w1, w2, w3, w6, hb, c1.1, c1.2, c2.1, c2.2, c3.1, c3.2]
end Go.Mach.Fv
