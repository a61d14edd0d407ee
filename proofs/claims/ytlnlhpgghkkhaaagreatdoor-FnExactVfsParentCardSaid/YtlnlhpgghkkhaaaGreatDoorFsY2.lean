/- Who may, as the program asks; lookups. -/
import Derived.Test.YtlnlhpgghkkhaaaGreatDoorFsY
open Go Go.Mach Go.Mach.Fv Go.Proofs
set_option maxRecDepth 100000
set_option maxHeartbeats 4000000
set_option linter.unusedVariables false
set_option linter.unusedSimpArgs false
namespace Go.Mach.Fv
def orI (a b : Int) : Int := ((a.toNat ||| b.toNat : Nat) : Int)
theorem orI_in {a b : Int} (h0 : 0 ≤ a) (h1 : a < 8) (h2 : 0 ≤ b) (h3 : b < 8) : 0 ≤ orI a b ∧ orI a b < 8 := by
  have hl : a.toNat ||| b.toNat < 2 ^ 3 := Nat.or_lt_two_pow (by omega) (by omega)
  unfold orI; omega
theorem orI_odd {a b : Int} (h0 : 0 ≤ a) (h2 : 0 ≤ b) : orI a b % 2 = 1 ↔ a % 2 = 1 ∨ b % 2 = 1 := by
  have := @Nat.or_mod_two_eq_one a.toNat b.toNat
  unfold orI
  omega
theorem i_or8 {t : TypeId} {a b : Int} (h0 : 0 ≤ a) (h1 : a < 8) (h2 : 0 ≤ b) (h3 : b < 8) : scal2 Tryz.prog (binOp .or t) (.one (.int .i64 a)) (.one (.int .i64 b)) = some (.one (.int .i64 (orI a b))) := by
  rw [i_or]
  have := or_n a.toNat b.toNat (by omega) (by omega)
  rw [Int.toNat_of_nonneg h0, Int.toNat_of_nonneg h2] at this
  rw [this]; rfl
theorem fn113 (c : Cred) (hm : c.groups.length ≤ 1000000) (owner group mode : Int) (hc : credOk c = true) (ho : inR owner 0 9 = true) (hg : inR group 0 9 = true) (hM : inR mode 0 511 = true) :
    Fn Z 113 [.agg [.int .i64 c.user, .int .i64 c.real, .ro () 3 (row encI c.groups)], .one (.int .i64 (owner)), .one (.int .i64 (group)), .one (.int .i64 (mode)), .one (.int .i64 (1))] = some ⟨[(false, [.bool (may1 c owner group mode)])], []⟩ := by
  obtain ⟨h0, h1⟩ := inR_iff.1 hM
  have h17 : inR 1 1 7 = true := rfl
  have k38 := fn38 c (by omega)
  have d0 : Fn Z 132 [.one (.int .i64 (mode)), .one (.int .i64 (0))] = some ⟨[(false, [.int .i64 (mode / 64 % 8)])], []⟩ := by simpa using fn132 mode 0 h0 h1 (.inl rfl)
  have d1 : Fn Z 132 [.one (.int .i64 (mode)), .one (.int .i64 (1))] = some ⟨[(false, [.int .i64 (mode / 8 % 8)])], []⟩ := by simpa using fn132 mode 1 h0 h1 (.inr (.inl rfl))
  have d2 : Fn Z 132 [.one (.int .i64 (mode)), .one (.int .i64 (2))] = some ⟨[(false, [.int .i64 (mode % 8)])], []⟩ := by simpa using fn132 mode 2 h0 h1 (.inr (.inr rfl))
  have c1 : 0 ≤ mode / 64 % 8 ∧ mode / 64 % 8 ≤ 1000 ∧ mode / 64 % 8 < 8 := by omega
  have c2 : 0 ≤ mode / 8 % 8 ∧ mode / 8 % 8 ≤ 1000 ∧ mode / 8 % 8 < 8 := by omega
  have c3 : 0 ≤ mode % 8 ∧ mode % 8 ≤ 1000 ∧ mode % 8 < 8 := by omega
  have o1 := orI_in c1.1 c1.2.2 c2.1 c2.2.2
  have o2 := orI_in o1.1 o1.2 c3.1 c3.2.2
  have o3 : orI (orI (mode / 64 % 8) (mode / 8 % 8)) (mode % 8) ≤ 1000 := by omega
  have e1 : mode / 8 % 8 % 2 = mode / 8 % 2 := by omega
  have e2 : mode % 8 % 2 = mode % 2 := by omega
  have e3 : mode / 64 % 8 % 2 = mode / 64 % 2 := by omega
  have p1 := orI_odd c1.1 c2.1
  have p2 := orI_odd o1.1 c3.1
  have h133 := fn133 c.groups group hm
  unfold may1
  refine Fn_ans Z rfl Tryz.func113 rfl K113 ?_
  rw [ZP, M113, nt113]
  have hb : bodyOf Tryz.f113 = bodyOf Tryz.f113 := rfl
  conv at hb => rhs; simp only [bodyOf, Tryz.f113]
  rw [hb]
  clear hb 
  by_cases q0 : c.user = 0
  · simp [k38, hc, fn70, ho, hg, hM, h17, i_and1, i_or8, d0, d1, d2, c1.1, c1.2.1, c1.2.2, c2.1, c2.2.1, c2.2.2, c3.1, c3.2.1, c3.2.2, o1.1, o1.2, o2.1, o2.2, o3, e1, e2, e3, eq_true q0]
    rw [Bool.eq_iff_iff]
    simp only [decide_eq_true_eq, Bool.or_eq_true, p2, p1, e1, e2, e3]
    omega
  · by_cases q1 : c.user = owner
    · simp [k38, hc, fn70, ho, hg, hM, h17, i_and1, i_or8, d0, d1, d2, c1.1, c1.2.1, c1.2.2, c2.1, c2.2.1, c2.2.2, c3.1, c3.2.1, c3.2.2, e1, e2, e3, q0, eq_true q1]
    · by_cases q2 : group ∈ c.groups
      · simp [k38, hc, fn70, ho, hg, hM, h17, i_and1, i_or8, d0, d1, d2, c1.1, c1.2.1, c1.2.2, c2.1, c2.2.1, c2.2.2, c3.1, c3.2.1, c3.2.2, e1, e2, e3, q0, q1, h133, q2]
      · simp [k38, hc, fn70, ho, hg, hM, h17, i_and1, i_or8, d0, d1, d2, c1.1, c1.2.1, c1.2.2, c2.1, c2.2.1, c2.2.2, c3.1, c3.2.1, c3.2.2, e1, e2, e3, q0, q1, h133, q2]
theorem mayX_eq (c : Cred) (n : Inode) : mayX c n = may1 c n.owner n.group n.mode := rfl
theorem fn93 (n : Inode) (c : Cred) (hm : c.groups.length ≤ 1000000) (hc : credOk c = true) (ho : inR n.owner 0 9 = true) (hg : inR n.group 0 9 = true) (hM : inR n.mode 0 511 = true) : Fn Z 93 [.agg [.int .i64 n.kind, .int .i64 n.mode, .int .i64 n.owner, .int .i64 n.group, .int .i64 n.links, .int .i64 n.opens, .bool n.mark, .str n.text, .ro () 114 (row encE n.names)], .agg [.int .i64 c.user, .int .i64 c.real, .ro () 3 (row encI c.groups)], .one (.int .i64 (1))] = some ⟨[(false, [.bool (mayX c n)])], []⟩ := by
  have h := fn113 c hm n.owner n.group n.mode hc ho hg hM
  rw [mayX_eq]
  refine Fn_ans Z rfl Tryz.func93 rfl K93 ?_
  rw [ZP, M93, nt93]
  have hb : bodyOf Tryz.f93 = bodyOf Tryz.f93 := rfl
  conv at hb => rhs; simp only [bodyOf, Tryz.f93]
  rw [hb]
  clear hb 
  simp [h]
theorem fn107 (f : Fs) (id : Int) (h0 : 0 ≤ id) (h1 : id < f.length) (c : Cred) (hm : c.groups.length ≤ 1000000) (hM : inR (N f id).mode 0 511 = true) : Fn Z 107 [.agg [.ro () 62 (row (encN 114 true) f)], .agg [.int .i64 c.user, .int .i64 c.real, .ro () 3 (row encI c.groups)], .one (.int .i64 (id)), .one (.int .i64 (1))] = some ⟨[(false, [.bool (mayX c (N f id))])], []⟩ := by
  have h := fn127 c hm (N f id).owner (N f id).group (N f id).mode (inR_iff.1 hM).1 (inR_iff.1 hM).2
  rw [mayX_eq]
  refine Fn_ans Z rfl Tryz.func107 rfl K107 ?_
  rw [ZP, M107, nt107]
  have hb : bodyOf Tryz.f107 = bodyOf Tryz.f107 := rfl
  conv at hb => rhs; simp only [bodyOf, Tryz.f107]
  rw [hb]
  clear hb 
  simp [h0, h1, h]
def inF (f : Fs) (c : Cred) (id : Int) : Int := if ¬ (N f id).kind = 2 then 4 else if mayX c (N f id) = false then 5 else 0
theorem fn86 (f : Fs) (id : Int) (h0 : 0 ≤ id) (h1 : id < f.length) (c : Cred) (hm : c.groups.length ≤ 1000000) (hM : inR (N f id).mode 0 511 = true) : Fn Z 86 [.agg [.ro () 62 (row (encN 114 true) f)], .agg [.int .i64 c.user, .int .i64 c.real, .ro () 3 (row encI c.groups)], .one (.int .i64 (id)), .one (.int .i64 (1))] = some ⟨[(false, [.int .i64 (inF f c id)])], []⟩ := by
  have h := fn107 f id h0 h1 c hm hM
  unfold inF
  refine Fn_ans Z rfl Tryz.func86 rfl K86 ?_
  rw [ZP, M86, nt86]
  have hb : bodyOf Tryz.f86 = bodyOf Tryz.f86 := rfl
  conv at hb => rhs; simp only [bodyOf, Tryz.f86]
  rw [hb]
  clear hb 
  by_cases q0 : (N f id).kind = 2
  · by_cases q1 : mayX c (N f id) = false
    · simp [h0, h1, h, eq_true q0, q1]
    · simp [h0, h1, h, eq_true q0, q1]
  · simp [h0, h1, h, q0]
theorem ev108 (n : Inode) (s : ByteArray) (hm : n.names.length ≤ 1000000) (r : List It) (hr : ∀ (σ : St Unit), σ = ⟨22, [], []⟩ → ans Tryz.prog Tryz.f108 [.ro, .ro] (Mach.go Z (Z.H 108) r σ) = some ⟨[(false, [.int .i64 (-1)])], []⟩) :
    ∀ (m j : Nat) (σ : St Unit), j + m = n.names.length →
    σ.keep ⟨[5, 1, 2], [], [5, 1, 2]⟩ = some ⟨22, [(5, .one (.int .i64 (j))), (1, .one (.str s)), (2, .one (.ref () ⟨2, 0, []⟩))], [(2, [.own () .pt 62 [[.int .i64 n.kind, .int .i64 n.mode, .int .i64 n.owner, .int .i64 n.group, .int .i64 n.links, .int .i64 n.opens, .bool n.mark, .str n.text, .ro () 114 (row encE n.names)]]])]⟩ →
      ans Tryz.prog Tryz.f108 [.ro, .ro] (Mach.go Z (Z.H 108) ((.lp (lpc Tryz.f108 2)) :: .blk 0 :: r) σ) = some ⟨[(false, [.int .i64 (ix (fun i => (nE n i).name.toList == s.toList) j m)])], []⟩ := by
  have hb : lpc Tryz.f108 2 = lpc Tryz.f108 2 := rfl
  conv at hb => rhs; simp only [lpc, bodyOf, Tryz.f108, nthLoop, headId, if_true, if_false, reduceIte, Nat.reduceEqDiff]
  have hc := fun r σ => congrArg (fun c => Mach.go Z (Z.H 108) (.code c :: r) σ) hb
  clear hb
  intro m
  induction m with
  | zero =>
    intro j σ h hσ
    have hx : ¬ j < n.names.length := by omega
    rw [go_lp, b108_2, L108_2, hσ, nx_, hc]
    simp [hx]
    exact hr _ rfl
  | succ m ih =>
    intro j σ h hσ
    have h2 : j < n.names.length := by omega
    rw [go_lp, b108_2, L108_2, hσ, nx_, hc]
    unfold ix
    by_cases h3 : (nE n j).name.toList = s.toList
    · simp [h2, h3]
    · simp [h2, h3, wrapJ (show j ≤ 1000000000000 by omega)]
      refine (ih (j + 1) _ (by omega) (by simp)).trans ?_
      simp
theorem fn108 (n : Inode) (s : ByteArray) (hm : n.names.length ≤ 1000000) : Fn Z 108 [.agg [.int .i64 n.kind, .int .i64 n.mode, .int .i64 n.owner, .int .i64 n.group, .int .i64 n.links, .int .i64 n.opens, .bool n.mark, .str n.text, .ro () 114 (row encE n.names)], .one (.str s)] = some ⟨[(false, [.int .i64 (atN n s)])], []⟩ := by
  refine Fn_ans Z rfl Tryz.func108 rfl K108 ?_
  rw [ZP, M108, nt108]
  have hb : bodyOf Tryz.f108 = bodyOf Tryz.f108 := rfl
  conv at hb => rhs; simp only [bodyOf, Tryz.f108]
  have hb2 : lpc Tryz.f108 2 = lpc Tryz.f108 2 := rfl
  conv at hb2 => rhs; simp only [lpc, bodyOf, Tryz.f108, nthLoop, headId, if_true, if_false, reduceIte, Nat.reduceEqDiff]
  rw [← hb2] at hb
  rw [hb]
  clear hb hb2
  simp
  refine (ev108 n s hm _ (fun σ h1 => ?_) n.names.length 0 _ (by omega) (by simp)).trans (by simp [atN])
  subst h1
  simp
abbrev two (a b : Int) : Option Ret := some ⟨[(false, [.int .i64 a]), (false, [.int .i64 b])], []⟩
def lookF (f : Fs) (c : Cred) (id : Int) (s : ByteArray) : Int × Int :=
  let n := N f id
  if ¬ n.kind = 2 then (-1, 4) else if mayX c n = false then (-1, 5) else if atN n s < 0 then (-1, 2) else ((nE n (atN n s).toNat).id, 0)
theorem fn87 (f : Fs) (id : Int) (h0 : 0 ≤ id) (h1 : id < f.length) (c : Cred) (hm : c.groups.length ≤ 1000000) (hM : inR (N f id).mode 0 511 = true) (s : ByteArray) (hn : (N f id).names.length ≤ 1000000) :
    Fn Z 87 [.agg [.ro () 62 (row (encN 114 true) f)], .agg [.int .i64 c.user, .int .i64 c.real, .ro () 3 (row encI c.groups)], .one (.int .i64 (id)), .one (.str s)] = some ⟨[(false, [.int .i64 (lookF f c id s).1]), (false, [.int .i64 (lookF f c id s).2])], []⟩ := by
  have h := fn86 f id h0 h1 c hm hM
  have hat := fn108 (N f id) s hn
  unfold lookF
  unfold inF at h
  refine Fn_ans Z rfl Tryz.func87 rfl K87 ?_
  rw [ZP, M87, nt87]
  have hb : bodyOf Tryz.f87 = bodyOf Tryz.f87 := rfl
  conv at hb => rhs; simp only [bodyOf, Tryz.f87]
  rw [hb]
  clear hb 
  by_cases q0 : (N f id).kind = 2
  · by_cases q1 : mayX c (N f id) = false
    · simp [q0, q1] at h
      simp [h0, h1, h, eq_true q0, q1]
    · simp [q0, q1] at h
      by_cases q2 : atN (N f id) s < 0
      · simp [h0, h1, h, eq_true q0, q1, hat, q2]
      · have q3 := (atN_ok q2).1
        have q4 : 0 ≤ atN (N f id) s := by omega
        have q5 : atN (N f id) s < (N f id).names.length := by omega
        simp [h0, h1, h, eq_true q0, q1, hat, q2, q4, q5]
  · simp [q0] at h
    simp [h0, h1, h, q0]
end Go.Mach.Fv
