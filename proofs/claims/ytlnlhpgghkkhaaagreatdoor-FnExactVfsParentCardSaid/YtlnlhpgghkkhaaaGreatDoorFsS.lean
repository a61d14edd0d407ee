/- Sizes of what the law is handed. -/
import Derived.Test.YtlnlhpgghkkhaaaGreatDoorFsE
open Go Go.Mach Go.Mach.Fv Go.Proofs
set_option maxRecDepth 100000
set_option linter.unusedVariables false
set_option linter.unusedSimpArgs false
namespace Go.Mach.Fv
def szE (e : Entry) (left : Int) : Int := if left - e.name.size < 0 then -1 else left - e.name.size
def szG (c : Nat → Int → Int) : Nat → Nat → Int → Int
  | _, 0, left => left
  | i, n + 1, left => if c i left < 0 then -1 else szG c (i + 1) n (c i left)
def szR (c : Nat → Int → Int) (len : Nat) (left : Int) : Int := if left - len < 0 then -1 else szG c 0 len (left - len)
def small (z : Int) : Prop := -1 ≤ z ∧ z ≤ 1048576
def OkE (b : Nat) (e : Entry) : Prop := e.name.size ≤ b
def OkN (b : Nat) (n : Inode) : Prop := n.text.size ≤ b ∧ n.names.length ≤ b ∧ ∀ i, i < n.names.length → OkE b (nE n i)
def OkF (b : Nat) (f : Fs) : Prop := f.length ≤ b ∧ ∀ i : Nat, i < f.length → OkN b (N f i)
def OkV (b : Nat) (v : Vfs) : Prop := v.fss.length ≤ b ∧ ∀ i : Nat, i < v.fss.length → OkF b (F v i)
def szN (n : Inode) (left : Int) : Int := if left - n.text.size < 0 then -1 else if szR (fun i => szE (nE n i)) n.names.length (left - n.text.size) < 0 then -1 else szR (fun i => szE (nE n i)) n.names.length (left - n.text.size)
def neg1 (z : Int) : Int := if z < 0 then -1 else z
def szF (f : Fs) (left : Int) : Int := neg1 (szR (fun i => szN (N f i)) f.length left)
def szV (v : Vfs) (left : Int) : Int := neg1 (szR (fun i => szF (F v i)) v.fss.length left)
theorem szE_small {e left} (h : small left) : small (szE e left) := by
  unfold small szE at *
  split <;> omega
theorem szG_small {c : Nat → Int → Int} (hc : ∀ j left, small left → small (c j left)) : ∀ n i left, small left → small (szG c i n left)
  | 0, i, left, h => h
  | n + 1, i, left, h => by
    unfold szG
    split
    · unfold small; omega
    · exact szG_small hc n _ _ (hc i left h)
theorem szR_small {c : Nat → Int → Int} (hc : ∀ j left, small left → small (c j left)) {n left} (h : small left) : small (szR c n left) := by
  unfold szR
  split
  · unfold small; omega
  · exact szG_small hc _ _ _ (by unfold small at *; omega)
theorem neg1_small {z} (h : small z) : small (neg1 z) := by
  unfold small neg1 at *
  split <;> omega
theorem szN_small {n left} (h : small left) : small (szN n left) := by
  unfold szN
  split
  · unfold small; omega
  · split
    · unfold small; omega
    · exact szR_small (fun _ _ => szE_small) (by unfold small at *; omega)
theorem szF_small {f left} (h : small left) : small (szF f left) := neg1_small (szR_small (fun _ _ => szN_small) h)
theorem sub_ok {a : Int} {b : Nat} (h : small a) (hb : b ≤ 1000000000000000) : IntKind.i64.wrap (a - b) = a - b := wrap_in (by unfold small at h; omega) (by unfold small at h; omega)
theorem fn143 (e : Entry) (left : Int) (h : small left) (hs : OkE 1000000000000000 e) : Fn Z 143 [.agg [.str e.name, .int .i64 e.id], .one (.int .i64 left)] = some ⟨[(false, [.int .i64 (szE e left)])], []⟩ := by
  refine Fn_ans Z rfl Tryz.func143 rfl K143 ?_
  rw [ZP, M143, nt143]
  have hb : bodyOf Tryz.f143 = bodyOf Tryz.f143 := rfl
  conv at hb => rhs; simp only [bodyOf, Tryz.f143]
  rw [hb]
  clear hb 
  simp [sub_ok h hs, szE]
  split <;> simp_all
theorem ev126 (es : List Entry) (c : Nat → Int → Int) (hm : es.length ≤ 1000000000000000) (hcal : ∀ (j : Nat) (left : Int), j < es.length → small left → Fn Z 143 [.agg [.str (el es j).name, .int .i64 (el es j).id], .one (.int .i64 left)] = some ⟨[(false, [.int .i64 (c j left)])], []⟩) (hsm : ∀ j left, small left → small (c j left))
    (r : List It) (hr : ∀ left, small left → ans Tryz.prog Tryz.f126 [.ro, .ro] (Mach.go Z (Z.H 126) r ⟨27, [(1, .one (.int .i64 (left)))], []⟩) = some ⟨[(false, [.int .i64 left])], []⟩) :
    ∀ (n j : Nat) (i left : Int) (σ : St Unit), i = (j : Int) → j + n = es.length → small left →
    σ.keep ⟨[5, 0, 1], [], [5, 0, 1]⟩ = some ⟨27, [(5, .one (.int .i64 (i))), (0, .one (.ro () 178 (row encE es))), (1, .one (.int .i64 (left)))], []⟩ →
      ans Tryz.prog Tryz.f126 [.ro, .ro] (Mach.go Z (Z.H 126) ((.lp (lpc Tryz.f126 5)) :: .blk 0 :: r) σ) = some ⟨[(false, [.int .i64 (szG c j n left)])], []⟩ := by
  have hb : lpc Tryz.f126 5 = lpc Tryz.f126 5 := rfl
  conv at hb => rhs; simp only [lpc, bodyOf, Tryz.f126, nthLoop, headId, if_true, if_false, reduceIte, Nat.reduceEqDiff]
  have hc := fun r σ => congrArg (fun c => Mach.go Z (Z.H 126) (.code c :: r) σ) hb
  clear hb
  intro n
  induction n with
  | zero =>
    intro j i left σ hi h hl hσ
    have hx : ¬ i < es.length := by omega
    rw [go_lp, b126_5, L126_5, hσ, nx_, hc]
    simp [hx]
    exact hr left hl
  | succ n ih =>
    intro j i left σ hi h hl hσ
    have h0 : 0 ≤ i := by omega
    have h1 : i < es.length := by omega
    have hj : i.toNat = j := by omega
    have hcj := hcal j left (by omega) hl
    have hw := wrapA h0 (show i ≤ 9223372036854775806 by omega)
    rw [← hi] at hcj
    rw [go_lp, b126_5, L126_5, hσ, nx_, hc]
    unfold szG
    by_cases hz : c j left < 0
    · rw [if_pos hz]
      simp [h0, h1, hj, hcj, hz]
    · rw [if_neg hz]
      simp [h0, h1, hj, hcj, hz, hw]
      exact ih (j + 1) (i + 1) _ _ (by omega) (by omega) (hsm j left hl) (by simp)
theorem fn126 (es : List Entry) (c : Nat → Int → Int) (hm : es.length ≤ 1000000000000000) (hcal : ∀ (j : Nat) (left : Int), j < es.length → small left → Fn Z 143 [.agg [.str (el es j).name, .int .i64 (el es j).id], .one (.int .i64 left)] = some ⟨[(false, [.int .i64 (c j left)])], []⟩) (hsm : ∀ j left, small left → small (c j left))
    (left : Int) (h : small left) : Fn Z 126 [.one (.ro () 178 (row encE es)), .one (.int .i64 left)] = some ⟨[(false, [.int .i64 (szR c es.length left)])], []⟩ := by
  refine Fn_ans Z rfl Tryz.func126 rfl K126 ?_
  rw [ZP, M126, nt126]
  have hb : bodyOf Tryz.f126 = bodyOf Tryz.f126 := rfl
  conv at hb => rhs; simp only [bodyOf, Tryz.f126]
  have hb5 : lpc Tryz.f126 5 = lpc Tryz.f126 5 := rfl
  conv at hb5 => rhs; simp only [lpc, bodyOf, Tryz.f126, nthLoop, headId, if_true, if_false, reduceIte, Nat.reduceEqDiff]
  rw [← hb5] at hb
  rw [hb]
  clear hb hb5
  unfold szR
  by_cases hz : left - es.length < 0
  · rw [if_pos hz]
    simp [sub_ok h hm, hz]
  · rw [if_neg hz]
    simp [sub_ok h hm, hz]
    refine ev126 es c hm hcal hsm _ (fun left hl => ?_) es.length 0 0 _ _ rfl (by omega) (by unfold small at *; omega) (by simp)
    simp
theorem fn126' (n : Inode) (hn : OkN 1000000000000000 n) (left : Int) (h : small left) : Fn Z 126 [.one (.ro () 178 (row encE n.names)), .one (.int .i64 left)] = some ⟨[(false, [.int .i64 (szR (fun i => szE (nE n i)) n.names.length left)])], []⟩ :=
  fn126 n.names _ hn.2.1 (fun j left hj hl => by rw [elE, Int.toNat_natCast]; exact fn143 _ left hl (hn.2.2 j hj)) (fun _ _ => szE_small) left h
abbrev vN (te : TypeId) (n : Inode) : List (C Unit) := [.int .i64 n.kind, .int .i64 n.mode, .int .i64 n.owner, .int .i64 n.group, .int .i64 n.links, .int .i64 n.opens, .bool n.mark, .str n.text, .ro () te (row encE n.names)]
theorem fn105 (n : Inode) (hn : OkN 1000000000000000 n) (left : Int) (h : small left) : Fn Z 105 [.agg [.int .i64 n.kind, .int .i64 n.mode, .int .i64 n.owner, .int .i64 n.group, .int .i64 n.links, .int .i64 n.opens, .bool n.mark, .str n.text, .ro () 178 (row encE n.names)], .one (.int .i64 left)] = some ⟨[(false, [.int .i64 (szN n left)])], []⟩ := by
  refine Fn_ans Z rfl Tryz.func105 rfl K105 ?_
  rw [ZP, M105, nt105]
  have hb : bodyOf Tryz.f105 = bodyOf Tryz.f105 := rfl
  conv at hb => rhs; simp only [bodyOf, Tryz.f105]
  rw [hb]
  clear hb 
  unfold szN
  by_cases h1 : left - n.text.size < 0
  · rw [if_pos h1]
    simp [sub_ok h hn.1, h1]
  · rw [if_neg h1]
    have hs : small (left - n.text.size) := by unfold small at *; omega
    have hf := fn126' n hn _ hs
    by_cases h2 : szR (fun i => szE (nE n i)) n.names.length (left - n.text.size) < 0
    · rw [if_pos h2]
      simp [sub_ok h hn.1, h1, hf, h2]
    · rw [if_neg h2]
      simp [sub_ok h hn.1, h1, hf, h2]
theorem ev83 (es : List Inode) (c : Nat → Int → Int) (hm : es.length ≤ 1000000000000000) (hcal : ∀ (j : Nat) (left : Int), j < es.length → small left → Fn Z 105 [.agg [.int .i64 (N es j).kind, .int .i64 (N es j).mode, .int .i64 (N es j).owner, .int .i64 (N es j).group, .int .i64 (N es j).links, .int .i64 (N es j).opens, .bool (N es j).mark, .str (N es j).text, .ro () 178 (row encE (N es j).names)], .one (.int .i64 left)] = some ⟨[(false, [.int .i64 (c j left)])], []⟩) (hsm : ∀ j left, small left → small (c j left))
    (r : List It) (hr : ∀ left, small left → ans Tryz.prog Tryz.f83 [.ro, .ro] (Mach.go Z (Z.H 83) r ⟨27, [(1, .one (.int .i64 (left)))], []⟩) = some ⟨[(false, [.int .i64 left])], []⟩) :
    ∀ (n j : Nat) (i left : Int) (σ : St Unit), i = (j : Int) → j + n = es.length → small left →
    σ.keep ⟨[5, 0, 1], [], [5, 0, 1]⟩ = some ⟨27, [(5, .one (.int .i64 (i))), (0, .one (.ro () 144 (row (encN 178 false) es))), (1, .one (.int .i64 (left)))], []⟩ →
      ans Tryz.prog Tryz.f83 [.ro, .ro] (Mach.go Z (Z.H 83) ((.lp (lpc Tryz.f83 5)) :: .blk 0 :: r) σ) = some ⟨[(false, [.int .i64 (szG c j n left)])], []⟩ := by
  have hb : lpc Tryz.f83 5 = lpc Tryz.f83 5 := rfl
  conv at hb => rhs; simp only [lpc, bodyOf, Tryz.f83, nthLoop, headId, if_true, if_false, reduceIte, Nat.reduceEqDiff]
  have hc := fun r σ => congrArg (fun c => Mach.go Z (Z.H 83) (.code c :: r) σ) hb
  clear hb
  intro n
  induction n with
  | zero =>
    intro j i left σ hi h hl hσ
    have hx : ¬ i < es.length := by omega
    rw [go_lp, b83_5, L83_5, hσ, nx_, hc]
    simp [hx]
    exact hr left hl
  | succ n ih =>
    intro j i left σ hi h hl hσ
    have h0 : 0 ≤ i := by omega
    have h1 : i < es.length := by omega
    have hj : i.toNat = j := by omega
    have hcj := hcal j left (by omega) hl
    have hw := wrapA h0 (show i ≤ 9223372036854775806 by omega)
    rw [← hi] at hcj
    rw [go_lp, b83_5, L83_5, hσ, nx_, hc]
    unfold szG
    by_cases hz : c j left < 0
    · rw [if_pos hz]
      simp [h0, h1, hj, hcj, hz]
    · rw [if_neg hz]
      simp [h0, h1, hj, hcj, hz, hw]
      exact ih (j + 1) (i + 1) _ _ (by omega) (by omega) (hsm j left hl) (by simp)
theorem fn83 (es : List Inode) (c : Nat → Int → Int) (hm : es.length ≤ 1000000000000000) (hcal : ∀ (j : Nat) (left : Int), j < es.length → small left → Fn Z 105 [.agg [.int .i64 (N es j).kind, .int .i64 (N es j).mode, .int .i64 (N es j).owner, .int .i64 (N es j).group, .int .i64 (N es j).links, .int .i64 (N es j).opens, .bool (N es j).mark, .str (N es j).text, .ro () 178 (row encE (N es j).names)], .one (.int .i64 left)] = some ⟨[(false, [.int .i64 (c j left)])], []⟩) (hsm : ∀ j left, small left → small (c j left))
    (left : Int) (h : small left) : Fn Z 83 [.one (.ro () 144 (row (encN 178 false) es)), .one (.int .i64 left)] = some ⟨[(false, [.int .i64 (szR c es.length left)])], []⟩ := by
  refine Fn_ans Z rfl Tryz.func83 rfl K83 ?_
  rw [ZP, M83, nt83]
  have hb : bodyOf Tryz.f83 = bodyOf Tryz.f83 := rfl
  conv at hb => rhs; simp only [bodyOf, Tryz.f83]
  have hb5 : lpc Tryz.f83 5 = lpc Tryz.f83 5 := rfl
  conv at hb5 => rhs; simp only [lpc, bodyOf, Tryz.f83, nthLoop, headId, if_true, if_false, reduceIte, Nat.reduceEqDiff]
  rw [← hb5] at hb
  rw [hb]
  clear hb hb5
  unfold szR
  by_cases hz : left - es.length < 0
  · rw [if_pos hz]
    simp [sub_ok h hm, hz]
  · rw [if_neg hz]
    simp [sub_ok h hm, hz]
    refine ev83 es c hm hcal hsm _ (fun left hl => ?_) es.length 0 0 _ _ rfl (by omega) (by unfold small at *; omega) (by simp)
    simp
theorem fn83' (f : Fs) (hf : OkF 1000000000000000 f) (left : Int) (h : small left) : Fn Z 83 [.one (.ro () 144 (row (encN 178 false) f)), .one (.int .i64 left)] = some ⟨[(false, [.int .i64 (szR (fun i => szN (N f i)) f.length left)])], []⟩ :=
  fn83 f _ hf.1 (fun j left hj hl => fn105 _ (hf.2 j hj) left hl) (fun _ _ => szN_small) left h
theorem fn59 (f : Fs) (hf : OkF 1000000000000000 f) (left : Int) (h : small left) : Fn Z 59 [.agg [.ro () 144 (row (encN 178 false) f)], .one (.int .i64 left)] = some ⟨[(false, [.int .i64 (szF f left)])], []⟩ := by
  refine Fn_ans Z rfl Tryz.func59 rfl K59 ?_
  rw [ZP, M59, nt59]
  have hb : bodyOf Tryz.f59 = bodyOf Tryz.f59 := rfl
  conv at hb => rhs; simp only [bodyOf, Tryz.f59]
  rw [hb]
  clear hb 
  unfold szF neg1
  have h1 := fn83' f hf left h
  by_cases h2 : szR (fun i => szN (N f i)) f.length left < 0
  · rw [if_pos h2]
    simp [h1, h2]
  · rw [if_neg h2]
    simp [h1, h2]
theorem ev28 (es : List Fs) (c : Nat → Int → Int) (hm : es.length ≤ 1000000000000000) (hcal : ∀ (j : Nat) (left : Int), j < es.length → small left → Fn Z 59 [.agg [.ro () 144 (row (encN 178 false) (el es j))], .one (.int .i64 left)] = some ⟨[(false, [.int .i64 (c j left)])], []⟩) (hsm : ∀ j left, small left → small (c j left))
    (r : List It) (hr : ∀ left, small left → ans Tryz.prog Tryz.f28 [.ro, .ro] (Mach.go Z (Z.H 28) r ⟨27, [(1, .one (.int .i64 (left)))], []⟩) = some ⟨[(false, [.int .i64 left])], []⟩) :
    ∀ (n j : Nat) (i left : Int) (σ : St Unit), i = (j : Int) → j + n = es.length → small left →
    σ.keep ⟨[5, 0, 1], [], [5, 0, 1]⟩ = some ⟨27, [(5, .one (.int .i64 (i))), (0, .one (.ro () 96 (row (encF 144 178 false) es))), (1, .one (.int .i64 (left)))], []⟩ →
      ans Tryz.prog Tryz.f28 [.ro, .ro] (Mach.go Z (Z.H 28) ((.lp (lpc Tryz.f28 5)) :: .blk 0 :: r) σ) = some ⟨[(false, [.int .i64 (szG c j n left)])], []⟩ := by
  have hb : lpc Tryz.f28 5 = lpc Tryz.f28 5 := rfl
  conv at hb => rhs; simp only [lpc, bodyOf, Tryz.f28, nthLoop, headId, if_true, if_false, reduceIte, Nat.reduceEqDiff]
  have hc := fun r σ => congrArg (fun c => Mach.go Z (Z.H 28) (.code c :: r) σ) hb
  clear hb
  intro n
  induction n with
  | zero =>
    intro j i left σ hi h hl hσ
    have hx : ¬ i < es.length := by omega
    rw [go_lp, b28_5, L28_5, hσ, nx_, hc]
    simp [hx]
    exact hr left hl
  | succ n ih =>
    intro j i left σ hi h hl hσ
    have h0 : 0 ≤ i := by omega
    have h1 : i < es.length := by omega
    have hj : i.toNat = j := by omega
    have hcj := hcal j left (by omega) hl
    have hw := wrapA h0 (show i ≤ 9223372036854775806 by omega)
    rw [← hi] at hcj
    rw [go_lp, b28_5, L28_5, hσ, nx_, hc]
    unfold szG
    by_cases hz : c j left < 0
    · rw [if_pos hz]
      simp [h0, h1, hj, hcj, hz]
    · rw [if_neg hz]
      simp [h0, h1, hj, hcj, hz, hw]
      exact ih (j + 1) (i + 1) _ _ (by omega) (by omega) (hsm j left hl) (by simp)
theorem fn28 (es : List Fs) (c : Nat → Int → Int) (hm : es.length ≤ 1000000000000000) (hcal : ∀ (j : Nat) (left : Int), j < es.length → small left → Fn Z 59 [.agg [.ro () 144 (row (encN 178 false) (el es j))], .one (.int .i64 left)] = some ⟨[(false, [.int .i64 (c j left)])], []⟩) (hsm : ∀ j left, small left → small (c j left))
    (left : Int) (h : small left) : Fn Z 28 [.one (.ro () 96 (row (encF 144 178 false) es)), .one (.int .i64 left)] = some ⟨[(false, [.int .i64 (szR c es.length left)])], []⟩ := by
  refine Fn_ans Z rfl Tryz.func28 rfl K28 ?_
  rw [ZP, M28, nt28]
  have hb : bodyOf Tryz.f28 = bodyOf Tryz.f28 := rfl
  conv at hb => rhs; simp only [bodyOf, Tryz.f28]
  have hb5 : lpc Tryz.f28 5 = lpc Tryz.f28 5 := rfl
  conv at hb5 => rhs; simp only [lpc, bodyOf, Tryz.f28, nthLoop, headId, if_true, if_false, reduceIte, Nat.reduceEqDiff]
  rw [← hb5] at hb
  rw [hb]
  clear hb hb5
  unfold szR
  by_cases hz : left - es.length < 0
  · rw [if_pos hz]
    simp [sub_ok h hm, hz]
  · rw [if_neg hz]
    simp [sub_ok h hm, hz]
    refine ev28 es c hm hcal hsm _ (fun left hl => ?_) es.length 0 0 _ _ rfl (by omega) (by unfold small at *; omega) (by simp)
    simp
theorem fn28' (v : Vfs) (hv : OkV 1000000000000000 v) (left : Int) (h : small left) : Fn Z 28 [.one (.ro () 96 (row (encF 144 178 false) v.fss)), .one (.int .i64 left)] = some ⟨[(false, [.int .i64 (szR (fun i => szF (F v i)) v.fss.length left)])], []⟩ :=
  fn28 v.fss _ hv.1 (fun j left hj hl => fn59 _ (hv.2 j hj) left hl) (fun _ _ => szF_small) left h
theorem fn10 (v : Vfs) (hv : OkV 1000000000000000 v) (left : Int) (h : small left) : Fn Z 10 [.agg [.ro () 96 (row (encF 144 178 false) v.fss), .int .i64 v.mount], .one (.int .i64 left)] = some ⟨[(false, [.int .i64 (szV v left)])], []⟩ := by
  refine Fn_ans Z rfl Tryz.func10 rfl K10 ?_
  rw [ZP, M10, nt10]
  have hb : bodyOf Tryz.f10 = bodyOf Tryz.f10 := rfl
  conv at hb => rhs; simp only [bodyOf, Tryz.f10]
  rw [hb]
  clear hb 
  unfold szV neg1
  have h1 := fn28' v hv left h
  by_cases h2 : szR (fun i => szF (F v i)) v.fss.length left < 0
  · rw [if_pos h2]
    simp [h1, h2]
  · rw [if_neg h2]
    simp [h1, h2]
def szI (n : Nat) (left : Int) : Int := neg1 (left - n)
theorem fn29 (xs : List Int) (hx : xs.length ≤ 1000000000000000) (left : Int) (h : small left) : Fn Z 29 [.one (.ro () 3 (row encI xs)), .one (.int .i64 left)] = some ⟨[(false, [.int .i64 (szI xs.length left)])], []⟩ := by
  refine Fn_ans Z rfl Tryz.func29 rfl K29 ?_
  rw [ZP, M29, nt29]
  have hb : bodyOf Tryz.f29 = bodyOf Tryz.f29 := rfl
  conv at hb => rhs; simp only [bodyOf, Tryz.f29]
  rw [hb]
  clear hb 
  unfold szI neg1
  by_cases h2 : left - xs.length < 0
  · rw [if_pos h2]
    simp [sub_ok h hx, h2]
  · rw [if_neg h2]
    simp [sub_ok h hx, h2]
theorem fn11 (c : Cred) (hx : c.groups.length ≤ 1000000000000000) (left : Int) (h : small left) : Fn Z 11 [.agg [.int .i64 c.user, .int .i64 c.real, .ro () 3 (row encI c.groups)], .one (.int .i64 left)] = some ⟨[(false, [.int .i64 (neg1 (szI c.groups.length left))])], []⟩ := by
  refine Fn_ans Z rfl Tryz.func11 rfl K11 ?_
  rw [ZP, M11, nt11]
  have hb : bodyOf Tryz.f11 = bodyOf Tryz.f11 := rfl
  conv at hb => rhs; simp only [bodyOf, Tryz.f11]
  rw [hb]
  clear hb 
  have h1 := fn29 c.groups hx left h
  unfold neg1
  by_cases h2 : szI c.groups.length left < 0
  · rw [if_pos h2]
    simp [h1, h2]
  · rw [if_neg h2]
    simp [h1, h2]
end Go.Mach.Fv
