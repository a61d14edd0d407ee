/- The search by halves; a lookup as the program does it. -/
import Derived.Test.YtlnlhpgghkkhaaaGreatDoorFsY2
open Go Go.Mach Go.Mach.Fv Go.Proofs
set_option maxRecDepth 100000
set_option maxHeartbeats 4000000
set_option linter.unusedVariables false
set_option linter.unusedSimpArgs false
namespace Go.Mach.Fv
theorem M131 : Z.M 131 = [Mode.ro, Mode.ro] := by kernel_rfl
theorem M102 : Z.M 102 = [Mode.ro, Mode.ro] := by kernel_rfl
theorem M103 : Z.M 103 = [Mode.ro, Mode.ro] := by kernel_rfl
theorem M81 : Z.M 81 = [Mode.ro, Mode.ro] := by kernel_rfl
theorem Fn_orac {f : FuncId} {g : List (V Unit) → Option Ret} {a : List (V Unit)} (h : Z.orac f = some g) : Fn Z f a = g a := by
  apply Option.ext
  intro r
  change Fn Z f a = some r ↔ _
  rw [Fn_some]
  constructor
  · rintro ⟨n, hn⟩
    cases n with
    | zero => cases hn
    | succ n => rw [fn_succ] at hn; simp only [h] at hn; exact hn
  · intro hr
    exact ⟨1, by rw [fn_succ]; simp only [h]; exact hr⟩
theorem cmp_eq : ∀ a b : List UInt8, Lib.compareBytes a b = cmpS a b
  | [], [] => by simp [Lib.compareBytes, cmpS]
  | [], _ :: _ => by simp [Lib.compareBytes, cmpS, Op.bytesLess]
  | _ :: _, [] => by simp [Lib.compareBytes, cmpS, Op.bytesLess]
  | a :: x, b :: y => by
    rw [Lib.compareBytes, cmp_eq x y]
    unfold cmpS
    simp only [Op.bytesLess, List.cons.injEq]
    by_cases h1 : a < b
    · have : ¬ a = b := fun e => by subst e; exact UInt8.lt_irrefl _ h1
      simp [h1, this]
    · by_cases h2 : b < a
      · have : ¬ a = b := fun e => by subst e; exact UInt8.lt_irrefl _ h2
        simp [h1, h2, this]
      · have : a = b := UInt8.le_antisymm (UInt8.not_lt.1 h2) (UInt8.not_lt.1 h1)
        subst this
        simp [h1]
theorem v1_int (k z) : val1 (.one (.int k z)) = some (.int k z) := rfl
theorem fn131 (s t : ByteArray) : Fn Z 131 [.one (.str s), .one (.str t)] = some ⟨[(false, [.int .i64 (cmpS s.toList t.toList)])], []⟩ := by
  rw [Fn_orac (g := o131) rfl]
  show some (num _) = _
  rw [cmp_eq, Lib.toList_data, Lib.toList_data]
  rfl
theorem fn130 (e : Entry) (s : ByteArray) : Fn Z 130 [.agg [.str e.name, .int .i64 e.id], .one (.str s)] = some ⟨[(false, [.int .i64 (cmpS e.name.toList s.toList)])], []⟩ := by
  refine Fn_ans Z rfl Tryz.func130 rfl K130 ?_
  rw [ZP, M130, nt130]
  have hb : bodyOf Tryz.f130 = bodyOf Tryz.f130 := rfl
  conv at hb => rhs; simp only [bodyOf, Tryz.f130]
  rw [hb]
  clear hb 
  simp [fn131, M131]
theorem t3 : Tryz.prog.underlying 3 = some (.int .i64) := by kernel_rfl
theorem t176 : Tryz.prog.underlying 176 = some (.int .u64) := by kernel_rfl
theorem cv_u (a : Int) (h0 : 0 ≤ a) (h1 : a ≤ 9223372036854775807) : scal1 Tryz.prog (convert 3 176) (.one (.int .i64 a)) = some (.one (.int .u64 a)) := by
  have hw : IntKind.u64.wrap a = a := by simp [IntKind.wrap, IntKind.signed, IntKind.bits]; omega
  simp [scal1, val1, valC, convert, underlying, program, quiet, bind, Sem.bind, pure, t3, t176, backC, Conv.intToInt, hw]
theorem cv_i (a : Int) (h0 : 0 ≤ a) (h1 : a ≤ 9223372036854775807) : scal1 Tryz.prog (convert 176 3) (.one (.int .u64 a)) = some (.one (.int .i64 a)) := by
  have hw : IntKind.i64.wrap a = a := wrap_in (by omega) h1
  simp [scal1, val1, valC, convert, underlying, program, quiet, bind, Sem.bind, pure, t3, t176, backC, Conv.intToInt, hw]
def cN (n : Inode) (s : ByteArray) (k : Nat) : Int := cmpS (nE n k).name.toList s.toList
theorem ev129 (n : Inode) (s : ByteArray) (hm : n.names.length ≤ 1000000) (r : List It) (R : Option Ret) (q : Nat) (hq : q ≤ n.names.length)
    (hr : ∀ (j' : Int) (σ : St Unit), σ = ⟨49, [(8, .one (.int .i64 (n.names.length))), (2, .one (.fn 130)), (0, .one (.ro () 114 (row encE n.names))), (9, .one (.int .i64 (q))), (1, .one (.str s))], []⟩ → ans Tryz.prog Tryz.f129 [.ro, .ro, .ro] (Mach.go Z (Z.H 129) r σ) = R) :
    ∀ (m i j : Nat) (σ : St Unit), j - i ≤ m → i ≤ j → j ≤ n.names.length → bsr (cN n s) m i j = q →
    σ.keep ⟨[10, 8, 2, 0, 9, 1], [], [10, 8, 2, 0, 9, 1]⟩ = some ⟨49, [(10, .one (.int .i64 (j))), (8, .one (.int .i64 (n.names.length))), (2, .one (.fn 130)), (0, .one (.ro () 114 (row encE n.names))), (9, .one (.int .i64 (i))), (1, .one (.str s))], []⟩ →
      ans Tryz.prog Tryz.f129 [.ro, .ro, .ro] (Mach.go Z (Z.H 129) ((.lp (lpc Tryz.f129 3)) :: .blk 0 :: r) σ) = R := by
  have hb : lpc Tryz.f129 3 = lpc Tryz.f129 3 := rfl
  conv at hb => rhs; simp only [lpc, bodyOf, Tryz.f129, nthLoop, headId, if_true, if_false, reduceIte, Nat.reduceEqDiff]
  have hc := fun r σ => congrArg (fun c => Mach.go Z (Z.H 129) (.code c :: r) σ) hb
  clear hb
  have hend : ∀ (i j : Nat) (σ : St Unit), ¬ i < j → i = q → 
    σ.keep ⟨[10, 8, 2, 0, 9, 1], [], [10, 8, 2, 0, 9, 1]⟩ = some ⟨49, [(10, .one (.int .i64 (j))), (8, .one (.int .i64 (n.names.length))), (2, .one (.fn 130)), (0, .one (.ro () 114 (row encE n.names))), (9, .one (.int .i64 (i))), (1, .one (.str s))], []⟩ →
      ans Tryz.prog Tryz.f129 [.ro, .ro, .ro] (Mach.go Z (Z.H 129) ((.lp (lpc Tryz.f129 3)) :: .blk 0 :: r) σ) = R := by
    intro i j σ h1 h2 hσ
    subst h2
    rw [go_lp, b129_3, L129_3, hσ, nx_, hc]
    simp [h1]
    exact hr j _ rfl
  intro m
  induction m with
  | zero =>
    intro i j σ h1 h2 h3 h4 hσ
    exact hend i j σ (by omega) h4 hσ
  | succ m ih =>
    intro i j σ h1 h2 h3 h4 hσ
    by_cases hlt : i < j
    · unfold bsr at h4
      rw [if_pos hlt] at h4
      obtain ⟨h, hh⟩ : ∃ h : Nat, h = (i + j) / 2 := ⟨_, rfl⟩
      rw [← hh] at h4
      have e1 : IntKind.i64.wrap ((i : Int) + j) = (i : Int) + j := wrap_in (by omega) (by omega)
      have e2 := cv_u ((i : Int) + j) (by omega) (by omega)
      have e3 : scal2 Tryz.prog (binOp .shr 176) (.one (.int .u64 ((i : Int) + j))) (.one (.int .u64 1)) = some (.one (.int .u64 (h : Int))) := by
        rw [i_shr _ _ _ _ _ _ (by omega)]
        have : ((i : Int) + j).fdiv (2 ^ min (1 : Int).toNat IntKind.u64.bits) = (h : Int) := by
          show ((i : Int) + j).fdiv 2 = _
          rw [Int.fdiv_eq_ediv_of_nonneg _ (by omega)]; omega
        rw [this]
      have e4 := cv_i (h : Int) (by omega) (by omega)
      have e5 : h < n.names.length := by omega
      rw [go_lp, b129_3, L129_3, hσ, nx_, hc]
      by_cases hc : cN n s h < 0
      · rw [if_pos hc] at h4
        unfold cN at hc
        simp [v1_int, hlt, e1, e2, e3, e4, e5, fn130, hc, wrapJ (show h ≤ 1000000000000 by omega)]
        exact ih (h + 1) j _ (by omega) (by omega) h3 h4 (by simp)
      · rw [if_neg hc] at h4
        unfold cN at hc
        simp [v1_int, hlt, e1, e2, e3, e4, e5, fn130, hc]
        exact ih i h _ (by omega) (by omega) (by omega) h4 (by simp)
    · have : bsr (cN n s) (m + 1) i j = i := by unfold bsr; rw [if_neg hlt]
      exact hend i j σ hlt (by rw [← h4, this]) hσ
def bsN (n : Inode) (s : ByteArray) : Nat := bsr (cN n s) n.names.length 0 n.names.length
theorem bsr_le (c : Nat → Int) : ∀ (m i j len : Nat), i ≤ j → j ≤ len → bsr c m i j ≤ len
  | 0, i, j, len, h1, h2 => by unfold bsr; omega
  | m + 1, i, j, len, h1, h2 => by
    unfold bsr
    split
    · split
      · exact bsr_le c m _ _ len (by omega) h2
      · exact bsr_le c m _ _ len (by omega) (by omega)
    · omega
theorem fn129 (n : Inode) (s : ByteArray) (hm : n.names.length ≤ 1000000) : Fn Z 129 [.one (.ro () 114 (row encE n.names)), .one (.str s), .one (.fn 130)] =
    some ⟨[(false, [.int .i64 (bsN n s)]), (false, [.bool (decide (bsN n s < n.names.length) && decide (cN n s (bsN n s) = 0))])], []⟩ := by
  refine Fn_ans Z rfl Tryz.func129 rfl K129 ?_
  rw [ZP, M129, nt129]
  have hb : bodyOf Tryz.f129 = bodyOf Tryz.f129 := rfl
  conv at hb => rhs; simp only [bodyOf, Tryz.f129]
  have hb3 : lpc Tryz.f129 3 = lpc Tryz.f129 3 := rfl
  conv at hb3 => rhs; simp only [lpc, bodyOf, Tryz.f129, nthLoop, headId, if_true, if_false, reduceIte, Nat.reduceEqDiff]
  rw [← hb3] at hb
  rw [hb]
  clear hb hb3
  simp
  refine ev129 n s hm _ _ (bsN n s) (bsr_le _ _ _ _ _ (by omega) (by omega)) (fun j' σ hσ => ?_) n.names.length 0 n.names.length _ (by omega) (by omega) (by omega) rfl (by simp)
  subst hσ
  by_cases h : bsN n s < n.names.length
  · have hc := fn130 (nE n (bsN n s)) s
    simp [h, hc, cN]
    all_goals exact decide_eq_decide.2 Iff.rfl
  · simp [h]
theorem fn112 (n : Inode) (s : ByteArray) (hm : n.names.length ≤ 1000000) : Fn Z 112 [.agg [.int .i64 n.kind, .int .i64 n.mode, .int .i64 n.owner, .int .i64 n.group, .int .i64 n.links, .int .i64 n.opens, .bool n.mark, .str n.text, .ro () 114 (row encE n.names)], .one (.str s)] =
    some ⟨[(false, [.int .i64 (bsN n s)]), (false, [.bool (decide (bsN n s < n.names.length) && decide (cN n s (bsN n s) = 0))])], []⟩ := by
  have h := fn129 n s hm
  refine Fn_ans Z rfl Tryz.func112 rfl K112 ?_
  rw [ZP, M112, nt112]
  have hb : bodyOf Tryz.f112 = bodyOf Tryz.f112 := rfl
  conv at hb => rhs; simp only [bodyOf, Tryz.f112]
  rw [hb]
  clear hb 
  simp [h]
end Go.Mach.Fv
