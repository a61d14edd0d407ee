/- Places, nodes, opened files. -/
import Derived.Test.YtlnlhpgghkkhaaaGreatDoorFsU
open Go Go.Mach Go.Mach.Fv Go.Proofs
set_option maxRecDepth 100000
set_option linter.unusedVariables false
set_option linter.unusedSimpArgs false
namespace Go.Mach.Fv
theorem w1 : IntKind.i64.wrap 1 = 1 := by decide
theorem down_fs (v p) : (down v p).fs = if 0 < v.mount ∧ p.fs = 0 ∧ p.id = v.mount then 1 else p.fs := by unfold down; split <;> rfl
theorem down_id (v p) : (down v p).id = if 0 < v.mount ∧ p.fs = 0 ∧ p.id = v.mount then 0 else p.id := by unfold down; split <;> rfl
theorem fn48 (v : Vfs) (p : Place) : Fn Z 48 [.agg [.ro () 65 (row (encF 62 114 true) v.fss), .int .i64 v.mount], .agg [.int .i64 p.fs, .int .i64 p.id]] = some ⟨[(true, [.int .i64 (down v p).fs, .int .i64 (down v p).id])], []⟩ := by
  refine Fn_ans Z rfl Tryz.func48 rfl K48 ?_
  rw [ZP, M48, nt48]
  have hb : bodyOf Tryz.f48 = bodyOf Tryz.f48 := rfl
  conv at hb => rhs; simp only [bodyOf, Tryz.f48]
  rw [hb]
  clear hb 
  by_cases q0 : 0 < v.mount
  ·
    by_cases q1 : p.fs = 0
    ·
      by_cases q2 : p.id = v.mount
      ·
        simp [down, q0, q1, q2]
      ·
        simp [down, q0, q1, q2]
    ·
      simp [down, q0, q1]
  ·
    simp [down, q0]
theorem fn72 (v : Vfs) (p : Place) (hm : v.mount ≠ 0) (hp : 0 ≤ p.id) : Fn Z 72 [.agg [.ro () 65 (row (encF 62 114 true) v.fss), .int .i64 v.mount], .agg [.int .i64 p.fs, .int .i64 p.id]] = some ⟨[(true, [.int .i64 (down v p).fs, .int .i64 (down v p).id])], []⟩ := by
  have he : (down v p) = if p.fs = 0 ∧ p.id = v.mount then ⟨1, 0⟩ else p := by
    unfold down
    by_cases h : p.id = v.mount
    · have : 0 < v.mount := by omega
      simp [h, this]
    · simp [h]
  rw [he]
  clear he
  refine Fn_ans Z rfl Tryz.func72 rfl K72 ?_
  rw [ZP, M72, nt72]
  have hb : bodyOf Tryz.f72 = bodyOf Tryz.f72 := rfl
  conv at hb => rhs; simp only [bodyOf, Tryz.f72]
  rw [hb]
  clear hb 
  by_cases q0 : p.fs = 0
  ·
    by_cases q1 : p.id = v.mount
    ·
      simp [q0, q1]
    ·
      simp [q0, q1]
  ·
    simp [q0]
structure L2 (v : Vfs) : Prop where
  l : v.fss.length = 2
  n : ∀ i : Int, 0 ≤ i → i ≤ 1 → (F v i).length = 10
theorem fn33 (v : Vfs) (p : Place) (h : L2 v) : Fn Z 33 [.agg [.ro () 65 (row (encF 62 114 true) v.fss), .int .i64 v.mount], .agg [.int .i64 p.fs, .int .i64 p.id]] = some ⟨[(false, [.bool (placeOk v p)])], []⟩ := by
  refine Fn_ans Z rfl Tryz.func33 rfl K33 ?_
  rw [ZP, M33, nt33]
  have hb : bodyOf Tryz.f33 = bodyOf Tryz.f33 := rfl
  conv at hb => rhs; simp only [bodyOf, Tryz.f33]
  rw [hb]
  clear hb 
  have hl := h.l
  by_cases h1 : inR p.fs 0 1 = true
  · have h2 := inR_iff.1 h1
    have h3 : p.fs < 2 := by omega
    have hn := h.n p.fs h2.1 h2.2
    have hc := fn65 (F v p.fs) (by omega) p.id
    have hd : nodeOk (F v p.fs) p.id = (inR p.id 0 9 && !decide ((N (F v p.fs) p.id).kind = 0)) := by unfold nodeOk; rw [hn]; rfl
    simp [fn62, hl, w1, h1, h2.1, h3, hc, hd, placeOk]
  · simp [fn62, hl, w1, h1, placeOk]
theorem fn39 (v : Vfs) (p : Place) (h : L2 v) : Fn Z 39 [.agg [.ro () 65 (row (encF 62 114 true) v.fss), .int .i64 v.mount], .agg [.int .i64 p.fs, .int .i64 p.id]] = some ⟨[(false, [.bool (placeOk v p)])], []⟩ := by
  refine Fn_ans Z rfl Tryz.func39 rfl K39 ?_
  rw [ZP, M39, nt39]
  have hb : bodyOf Tryz.f39 = bodyOf Tryz.f39 := rfl
  conv at hb => rhs; simp only [bodyOf, Tryz.f39]
  rw [hb]
  clear hb 
  have hl := h.l
  by_cases h1 : inR p.fs 0 1 = true
  · have h2 := inR_iff.1 h1
    have h3 : p.fs < 2 := by omega
    have hn := h.n p.fs h2.1 h2.2
    have hc := fn71 (F v p.fs) (by omega) p.id
    have hd : nodeOk (F v p.fs) p.id = (inR p.id 0 9 && !decide ((N (F v p.fs) p.id).kind = 0)) := by unfold nodeOk; rw [hn]; rfl
    simp [fn70, hl, w1, h1, h2.1, h3, hc, hd, placeOk]
  · simp [fn70, hl, w1, h1, placeOk]
theorem fn46 (v : Vfs) (p : Place) (h : L2 v) (hp : placeOk v p = true) : Fn Z 46 [.agg [.ro () 65 (row (encF 62 114 true) v.fss), .int .i64 v.mount], .agg [.int .i64 p.fs, .int .i64 p.id]] =
    some ⟨[(true, [.int .i64 (N (F v p.fs) p.id).kind, .int .i64 (N (F v p.fs) p.id).mode, .int .i64 (N (F v p.fs) p.id).owner, .int .i64 (N (F v p.fs) p.id).group, .int .i64 (N (F v p.fs) p.id).links, .int .i64 (N (F v p.fs) p.id).opens, .bool (N (F v p.fs) p.id).mark, .str (N (F v p.fs) p.id).text, .ro () 114 (row encE (N (F v p.fs) p.id).names)])], []⟩ := by
  obtain ⟨h1, h2, _⟩ := placeOk_iff.1 hp
  have hl := h.l
  have h3 : p.fs < 2 := by omega
  have hn := h.n p.fs h1.1 h1.2
  have h4 : p.id < 10 := by omega
  refine Fn_ans Z rfl Tryz.func46 rfl K46 ?_
  rw [ZP, M46, nt46]
  have hb : bodyOf Tryz.f46 = bodyOf Tryz.f46 := rfl
  conv at hb => rhs; simp only [bodyOf, Tryz.f46]
  rw [hb]
  clear hb 
  simp [hl, h1.1, h3, hn, h4, h2.1]
/-! opened files -/
def sumO (f : Fs) : Nat → Nat → Int → Int
  | _, 0, s => s
  | i, n + 1, s => sumO f (i + 1) n (s + (N f i).opens)
theorem ev63 (f : Fs) (hm : f.length ≤ 1000000) (ho : ∀ i : Nat, i < f.length → 0 ≤ (N f i).opens ∧ (N f i).opens ≤ 99) (r : List It)
    (hr : ∀ (s : Int) (σ : St Unit), σ.tm = [(3, .one (.int .i64 (s)))] → σ.nt = 21 → σ.rt = [] → ans Tryz.prog Tryz.f63 [.ro] (Mach.go Z (Z.H 63) r σ) = some ⟨[(false, [.int .i64 s])], []⟩) :
    ∀ (n j : Nat) (s : Int) (σ : St Unit), j + n = f.length → 0 ≤ s → s ≤ 100 * j →
    σ.keep ⟨[4, 1, 3], [], [4, 1, 3]⟩ = some ⟨21, [(4, .one (.int .i64 (j))), (1, .one (.ref () ⟨1, 0, []⟩)), (3, .one (.int .i64 (s)))], [(1, [.own () .pt 65 [[.ro () 62 (row (encN 114 true) f)]]])]⟩ →
      ans Tryz.prog Tryz.f63 [.ro] (Mach.go Z (Z.H 63) ((.lp (lpc Tryz.f63 3)) :: .blk 0 :: r) σ) = some ⟨[(false, [.int .i64 (sumO f j n s)])], []⟩ := by
  have hb : lpc Tryz.f63 3 = lpc Tryz.f63 3 := rfl
  conv at hb => rhs; simp only [lpc, bodyOf, Tryz.f63, nthLoop, headId, if_true, if_false, reduceIte, Nat.reduceEqDiff]
  have hc := fun r σ => congrArg (fun c => Mach.go Z (Z.H 63) (.code c :: r) σ) hb
  clear hb
  intro n
  induction n with
  | zero =>
    intro j s σ h h0 h1 hσ
    have hx : ¬ j < f.length := by omega
    rw [go_lp, b63_3, L63_3, hσ, nx_, hc]
    simp [hx]
    refine hr s _ rfl rfl rfl
  | succ n ih =>
    intro j s σ h h0 h1 hσ
    have h2 : j < f.length := by omega
    have h3 := ho j h2
    have hw := wrap_in (z := s + (N f j).opens) (by omega) (by omega)
    rw [go_lp, b63_3, L63_3, hσ, nx_, hc]
    simp [h2, hw, wrapJ (show j ≤ 1000000000000 by omega)]
    exact ih (j + 1) (s + (N f j).opens) _ (by omega) (by omega) (by omega) (by simp)
theorem fn63 (f : Fs) (hm : f.length ≤ 1000000) (ho : ∀ i : Nat, i < f.length → 0 ≤ (N f i).opens ∧ (N f i).opens ≤ 99) : Fn Z 63 [.agg [.ro () 62 (row (encN 114 true) f)]] = some ⟨[(false, [.int .i64 (sumO f 0 f.length 0)])], []⟩ := by
  refine Fn_ans Z rfl Tryz.func63 rfl K63 ?_
  rw [ZP, M63, nt63]
  have hb : bodyOf Tryz.f63 = bodyOf Tryz.f63 := rfl
  conv at hb => rhs; simp only [bodyOf, Tryz.f63]
  have hb3 : lpc Tryz.f63 3 = lpc Tryz.f63 3 := rfl
  conv at hb3 => rhs; simp only [lpc, bodyOf, Tryz.f63, nthLoop, headId, if_true, if_false, reduceIte, Nat.reduceEqDiff]
  rw [← hb3] at hb
  rw [hb]
  clear hb hb3
  simp
  refine ev63 f hm ho _ (fun s σ h1 h2 h3 => ?_) f.length 0 0 _ (by omega) (by omega) (by omega) (by simp)
  obtain ⟨nt, tm, rt⟩ := σ
  cases h1; cases h2; cases h3
  simp
theorem fn91 (n : Inode) : Fn Z 91 [.agg [.int .i64 n.kind, .int .i64 n.mode, .int .i64 n.owner, .int .i64 n.group, .int .i64 n.links, .int .i64 n.opens, .bool n.mark, .str n.text, .ro () 114 (row encE n.names)]] = some ⟨[(false, [.bool (decide (0 < n.opens))])], []⟩ := by
  refine Fn_ans Z rfl Tryz.func91 rfl K91 ?_
  rw [ZP, M91, nt91]
  have hb : bodyOf Tryz.f91 = bodyOf Tryz.f91 := rfl
  conv at hb => rhs; simp only [bodyOf, Tryz.f91]
  rw [hb]
  clear hb 
  simp
theorem ev110 (f : Fs) (hm : f.length ≤ 1000000) (r : List It) (hr : ∀ (σ : St Unit), σ.tm = [] → σ.nt = 19 → σ.rt = [] → ans Tryz.prog Tryz.f110 [.ro, .ro] (Mach.go Z (Z.H 110) r σ) = some ⟨[(false, [.int .i64 (-1)])], []⟩) :
    ∀ (n j : Nat) (σ : St Unit), j + n = f.length →
    σ.keep ⟨[7, 8, 0, 1], [], [7, 8, 0, 1]⟩ = some ⟨19, [(7, .one (.int .i64 (f.length))), (8, .one (.int .i64 (j))), (0, .one (.ro () 62 (row (encN 114 true) f))), (1, .one (.fn 91))], []⟩ →
      ans Tryz.prog Tryz.f110 [.ro, .ro] (Mach.go Z (Z.H 110) ((.lp (lpc Tryz.f110 2)) :: .blk 0 :: r) σ) = some ⟨[(false, [.int .i64 (ix (fun i => decide (0 < (N f i).opens)) j n)])], []⟩ := by
  have hb : lpc Tryz.f110 2 = lpc Tryz.f110 2 := rfl
  conv at hb => rhs; simp only [lpc, bodyOf, Tryz.f110, nthLoop, headId, if_true, if_false, reduceIte, Nat.reduceEqDiff]
  have hc := fun r σ => congrArg (fun c => Mach.go Z (Z.H 110) (.code c :: r) σ) hb
  clear hb
  intro n
  induction n with
  | zero =>
    intro j σ h hσ
    have hx : ¬ j < f.length := by omega
    rw [go_lp, b110_2, L110_2, hσ, nx_, hc]
    simp [hx]
    exact hr _ rfl rfl rfl
  | succ n ih =>
    intro j σ h hσ
    have h2 : j < f.length := by omega
    rw [go_lp, b110_2, L110_2, hσ, nx_, hc]
    unfold ix
    by_cases h3 : 0 < (N f j).opens
    · simp [h2, fn91, h3]
    · simp [h2, fn91, h3, wrapJ (show j ≤ 1000000000000 by omega)]
      exact ih (j + 1) _ (by omega) (by simp)
theorem fn110 (f : Fs) (hm : f.length ≤ 1000000) : Fn Z 110 [.one (.ro () 62 (row (encN 114 true) f)), .one (.fn 91)] = some ⟨[(false, [.int .i64 (ix (fun i => decide (0 < (N f i).opens)) 0 f.length)])], []⟩ := by
  refine Fn_ans Z rfl Tryz.func110 rfl K110 ?_
  rw [ZP, M110, nt110]
  have hb : bodyOf Tryz.f110 = bodyOf Tryz.f110 := rfl
  conv at hb => rhs; simp only [bodyOf, Tryz.f110]
  have hb2 : lpc Tryz.f110 2 = lpc Tryz.f110 2 := rfl
  conv at hb2 => rhs; simp only [lpc, bodyOf, Tryz.f110, nthLoop, headId, if_true, if_false, reduceIte, Nat.reduceEqDiff]
  rw [← hb2] at hb
  rw [hb]
  clear hb hb2
  simp
  refine ev110 f hm _ (fun σ h1 h2 h3 => ?_) f.length 0 _ (by omega) (by simp)
  obtain ⟨nt, tm, rt⟩ := σ
  cases h1; cases h2; cases h3
  simp
def opened (f : Fs) : Bool := decide (0 ≤ ix (fun i => decide (0 < (N f i).opens)) 0 f.length)
theorem fn90 (f : Fs) (hm : f.length ≤ 1000000) : Fn Z 90 [.one (.ro () 62 (row (encN 114 true) f)), .one (.fn 91)] = some ⟨[(false, [.bool (opened f)])], []⟩ := by
  refine Fn_ans Z rfl Tryz.func90 rfl K90 ?_
  rw [ZP, M90, nt90]
  have hb : bodyOf Tryz.f90 = bodyOf Tryz.f90 := rfl
  conv at hb => rhs; simp only [bodyOf, Tryz.f90]
  rw [hb]
  clear hb 
  simp [fn110 f hm, opened]
theorem fn69 (f : Fs) (hm : f.length ≤ 1000000) : Fn Z 69 [.agg [.ro () 62 (row (encN 114 true) f)]] = some ⟨[(false, [.bool (opened f)])], []⟩ := by
  refine Fn_ans Z rfl Tryz.func69 rfl K69 ?_
  rw [ZP, M69, nt69]
  have hb : bodyOf Tryz.f69 = bodyOf Tryz.f69 := rfl
  conv at hb => rhs; simp only [bodyOf, Tryz.f69]
  rw [hb]
  clear hb 
  simp [fn90 f hm]
theorem opened_z (f : Fs) : opened f = !opensZ f := by
  rw [Bool.eq_iff_iff]
  unfold opened opensZ
  rcases ix_cases (fun i => decide (0 < (N f i).opens)) f.length 0 with ⟨h1, h2⟩ | ⟨j, h1, h2, h3, h4, h5⟩
  · rw [h1]
    simp only [decide_eq_true_eq, Bool.not_eq_true']
    constructor
    · intro h; omega
    · intro h
      exfalso
      have : allF (fun i => decide ((N f i).opens ≤ 0)) 0 f.length = true := by
        rw [all0]; intro j hj
        have := h2 j (by omega) (by omega)
        simp only [decide_eq_false_iff_not] at this
        simp only [decide_eq_true_eq]; omega
      rw [h] at this; cases this
  · rw [h1]
    simp only [decide_eq_true_eq, Bool.not_eq_true']
    refine ⟨fun _ => ?_, fun _ => by omega⟩
    rw [← Bool.not_eq_true, all0]
    intro h
    have := h j (by omega)
    simp only [decide_eq_true_eq] at this h4
    omega
theorem sumO_z (f : Fs) (ho : ∀ i : Nat, i < f.length → 0 ≤ (N f i).opens) : ∀ (n j : Nat) (s : Int), j + n = f.length → 0 ≤ s → (s ≤ sumO f j n s ∧ (sumO f j n s = 0 ↔ s = 0 ∧ allF (fun i => decide ((N f i).opens ≤ 0)) j n = true))
  | 0, j, s, h, hs => by simp [sumO, allF]
  | n + 1, j, s, h, hs => by
    have h1 := ho j (by omega)
    have h2 := sumO_z f ho n (j + 1) (s + (N f j).opens) (by omega) (by omega)
    simp only [sumO, allF, Bool.and_eq_true, decide_eq_true_eq]
    refine ⟨by omega, ?_⟩
    rw [h2.2]
    constructor
    · rintro ⟨a, b⟩; exact ⟨by omega, by omega, b⟩
    · rintro ⟨a, b, c⟩; exact ⟨by omega, c⟩
end Go.Mach.Fv
