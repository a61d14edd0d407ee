/- The law's copies. -/
import Derived.Test.YtlnlhpgghkkhaaaGreatDoorFsS
open Go Go.Mach Go.Mach.Fv Go.Proofs
set_option maxRecDepth 100000
set_option linter.unusedVariables false
set_option linter.unusedSimpArgs false
namespace Go.Mach.Fv
theorem fn145 (e : Entry) : Fn Z 145 [.agg [.str e.name, .int .i64 e.id]] = some ⟨[(true, [.str e.name, .int .i64 e.id])], []⟩ := by
  refine Fn_ans Z rfl Tryz.func145 rfl K145 ?_
  rw [ZP, M145, nt145]
  have hb : bodyOf Tryz.f145 = bodyOf Tryz.f145 := rfl
  conv at hb => rhs; simp only [bodyOf, Tryz.f145]
  rw [hb]
  clear hb 
  simp
theorem stepT {α : Type} [Inhabited α] (xs : List α) (i n : Nat) (h : i + (n + 1) = xs.length) : (xs.take i ++ List.replicate (n + 1) default).set i (el xs i) = xs.take (i + 1) ++ List.replicate n default := by
  have hl : (xs.take i).length = i := by simp; omega
  have he : el xs i = xs[i]'(by omega) := by simp [el, List.getD_eq_getElem?_getD, show i < xs.length by omega]
  rw [he, List.set_append_right _ _ (by omega), hl, Nat.sub_self, List.replicate_succ, List.set_cons_zero, List.take_succ_eq_append_getElem (by omega), List.append_assoc]
  rfl
theorem row_modify {α : Type} (en : α → List (C Unit)) (zs : List α) (i : Nat) (x : α) (f : List (C Unit) → List (C Unit)) (hf : ∀ z, f (en z) = en x) : (row en zs).modify i f = row en (zs.set i x) := by
  apply List.ext_getElem?
  intro m
  rw [List.getElem?_modify]
  simp only [row, List.getElem?_map, List.getElem?_set]
  by_cases hm : i = m
  · subst hm
    cases h : zs[i]? with
    | none =>
      have : ¬ i < zs.length := by
        intro hl
        rw [List.getElem?_eq_getElem hl] at h
        cases h
      simp [this]
    | some z =>
      have : i < zs.length := (List.getElem?_eq_some_iff.1 h).1
      simp [this, hf]
  · simp [hm]
theorem row_rep {α : Type} (en : α → List (C Unit)) (n : Nat) (x : α) : List.replicate n (en x) = row en (List.replicate n x) := by simp [row]
theorem row_repE (n) : List.replicate n [C.str ⟨#[]⟩, C.int .i64 0] = row encE (List.replicate n default) := row_rep encE n default
theorem row_repN (n) : List.replicate n [C.int .i64 0, C.int .i64 0, C.int .i64 0, C.int .i64 0, C.int .i64 0, C.int .i64 0, C.bool false, C.str ⟨#[]⟩, C.own () .sl 114 []] = row (encN 114 true) (List.replicate n default) := row_rep (encN 114 true) n default
theorem row_repF (n) : List.replicate n [C.own () .sl 62 []] = row (encF 62 114 true) (List.replicate n default) := row_rep (encF 62 114 true) n default
theorem row_repI (n) : List.replicate n [C.int .i64 0] = row encI (List.replicate n default) := row_rep encI n default
theorem ev128 (xs : List Entry) (hm : xs.length ≤ 1000000000000) (hcal : ∀ j : Nat, j < xs.length → Fn Z 145 [.agg [.str (el xs j).name, .int .i64 (el xs j).id]] = some ⟨[(true, [.str (el xs j).name, .int .i64 (el xs j).id])], []⟩)
    (r : List It) (R : Option Ret) (hr : ans Tryz.prog Tryz.f128 [.ro] (Mach.go Z (Z.H 128) r ⟨23, [(3, .one (.ref () ⟨3, 0, []⟩))], [(3, [.own () .sl 114 (row encE xs)])]⟩) = R) :
    ∀ (n : Nat) (j : Nat) (i : Int) (σ : St Unit), i = (j : Int) → j + n = xs.length →
    σ.keep ⟨[4, 0, 3], [], [4, 0, 3]⟩ = some ⟨23, [(4, .one (.int .i64 i)), (0, .one (.ro () 178 (row encE xs))), (3, .one (.ref () ⟨3, 0, []⟩))], [(3, [.own () .sl 114 (row encE (xs.take j ++ List.replicate n default))])]⟩ →
      ans Tryz.prog Tryz.f128 [.ro] (Mach.go Z (Z.H 128) ((.lp (lpc Tryz.f128 3)) :: .blk 0 :: r) σ) = R := by
  have hb : lpc Tryz.f128 3 = lpc Tryz.f128 3 := rfl
  conv at hb => rhs; simp only [lpc, bodyOf, Tryz.f128, nthLoop, headId, if_true, if_false, reduceIte, Nat.reduceEqDiff]
  have hc := fun r σ => congrArg (fun c => Mach.go Z (Z.H 128) (.code c :: r) σ) hb
  clear hb
  intro n
  induction n with
  | zero =>
    intro j i σ hi h hσ
    have hx : ¬ i < xs.length := by omega
    rw [go_lp, b128_3, L128_3, hσ, nx_, hc]
    have : xs.take j = xs := List.take_of_length_le (by omega)
    simp [hx, this]
    exact hr
  | succ n ih =>
    intro j i σ hi h hσ
    have h0 : 0 ≤ i := by omega
    have h1 : i < xs.length := by omega
    have h2 : i < ((xs.take j ++ List.replicate (n + 1) default).length : Nat) := by simp; omega
    have hj : i.toNat = j := by omega
    have h3 : j < (xs.take j ++ List.replicate (n + 1) default).length := by simp; omega
    have hcj := hcal j (by omega)
    rw [← hi] at hcj
    have hst := stepT xs j n (by omega)
    rw [← hi] at hst
    rw [go_lp, b128_3, L128_3, hσ, nx_, hc]
    generalize hz : xs.take j ++ List.replicate (n + 1) default = zs at *
    simp [h0, h1, h2, h3, hj, hcj, wrapA h0 (show i ≤ 9223372036854775806 by omega)]
    refine ih (j + 1) (i + 1) _ (by omega) (by omega) ?_
    rw [row_modify encE zs j (el xs i), hst]
    · simp
    · intro z; simp [encE, encN, encF, sc_t, elN]
theorem fn128 (xs : List Entry) (hm : xs.length ≤ 1048576) (hcal : ∀ j : Nat, j < xs.length → Fn Z 145 [.agg [.str (el xs j).name, .int .i64 (el xs j).id]] = some ⟨[(true, [.str (el xs j).name, .int .i64 (el xs j).id])], []⟩) :
    Fn Z 128 [.one (.ro () 178 (row encE xs))] = some ⟨[(false, [.own () .sl 114 (row encE xs)])], []⟩ := by
  refine Fn_ans Z rfl Tryz.func128 rfl K128 ?_
  rw [ZP, M128, nt128]
  have hb : bodyOf Tryz.f128 = bodyOf Tryz.f128 := rfl
  conv at hb => rhs; simp only [bodyOf, Tryz.f128]
  have hb3 : lpc Tryz.f128 3 = lpc Tryz.f128 3 := rfl
  conv at hb3 => rhs; simp only [lpc, bodyOf, Tryz.f128, nthLoop, headId, if_true, if_false, reduceIte, Nat.reduceEqDiff]
  rw [← hb3] at hb
  rw [hb]
  clear hb hb3
  have h1 : ∀ k : Int, k ≤ 1000 → (xs.length : Int) * k ≤ 281474976710656 := fun k hk => by
    have := Int.mul_le_mul_of_nonneg_left hk (Int.natCast_nonneg xs.length)
    omega
  have h2 : (xs.length : Int) ≤ 281474976710656 := by omega
  simp [h1, h2, row_repE]
  refine ev128 xs (by omega) hcal _ _ ?_ xs.length 0 0 _ (by omega) (by omega) (by simp)
  simp
theorem fn128' (n : Inode) (hn : OkN 1048576 n) : Fn Z 128 [.one (.ro () 178 (row encE n.names))] = some ⟨[(false, [.own () .sl 114 (row encE n.names)])], []⟩ := fn128 n.names hn.2.1 fun j hj => fn145 _
theorem fn109 (n : Inode) (hn : OkN 1048576 n) : Fn Z 109 [.agg [.int .i64 n.kind, .int .i64 n.mode, .int .i64 n.owner, .int .i64 n.group, .int .i64 n.links, .int .i64 n.opens, .bool n.mark, .str n.text, .ro () 178 (row encE n.names)]] =
    some ⟨[(true, [.int .i64 n.kind, .int .i64 n.mode, .int .i64 n.owner, .int .i64 n.group, .int .i64 n.links, .int .i64 n.opens, .bool n.mark, .str n.text, .own () .sl 114 (row encE n.names)])], []⟩ := by
  refine Fn_ans Z rfl Tryz.func109 rfl K109 ?_
  rw [ZP, M109, nt109]
  have hb : bodyOf Tryz.f109 = bodyOf Tryz.f109 := rfl
  conv at hb => rhs; simp only [bodyOf, Tryz.f109]
  rw [hb]
  clear hb 
  have h1 := fn128' n hn
  simp [h1]
theorem ev88 (xs : List Inode) (hm : xs.length ≤ 1000000000000) (hcal : ∀ j : Nat, j < xs.length → Fn Z 109 [.agg [.int .i64 (N xs j).kind, .int .i64 (N xs j).mode, .int .i64 (N xs j).owner, .int .i64 (N xs j).group, .int .i64 (N xs j).links, .int .i64 (N xs j).opens, .bool (N xs j).mark, .str (N xs j).text, .ro () 178 (row encE (N xs j).names)]] = some ⟨[(true, [.int .i64 (N xs j).kind, .int .i64 (N xs j).mode, .int .i64 (N xs j).owner, .int .i64 (N xs j).group, .int .i64 (N xs j).links, .int .i64 (N xs j).opens, .bool (N xs j).mark, .str (N xs j).text, .own () .sl 114 (row encE (N xs j).names)])], []⟩)
    (r : List It) (R : Option Ret) (hr : ans Tryz.prog Tryz.f88 [.ro] (Mach.go Z (Z.H 88) r ⟨23, [(3, .one (.ref () ⟨3, 0, []⟩))], [(3, [.own () .sl 62 (row (encN 114 true) xs)])]⟩) = R) :
    ∀ (n : Nat) (j : Nat) (i : Int) (σ : St Unit), i = (j : Int) → j + n = xs.length →
    σ.keep ⟨[4, 0, 3], [], [4, 0, 3]⟩ = some ⟨23, [(4, .one (.int .i64 i)), (0, .one (.ro () 144 (row (encN 178 false) xs))), (3, .one (.ref () ⟨3, 0, []⟩))], [(3, [.own () .sl 62 (row (encN 114 true) (xs.take j ++ List.replicate n default))])]⟩ →
      ans Tryz.prog Tryz.f88 [.ro] (Mach.go Z (Z.H 88) ((.lp (lpc Tryz.f88 3)) :: .blk 0 :: r) σ) = R := by
  have hb : lpc Tryz.f88 3 = lpc Tryz.f88 3 := rfl
  conv at hb => rhs; simp only [lpc, bodyOf, Tryz.f88, nthLoop, headId, if_true, if_false, reduceIte, Nat.reduceEqDiff]
  have hc := fun r σ => congrArg (fun c => Mach.go Z (Z.H 88) (.code c :: r) σ) hb
  clear hb
  intro n
  induction n with
  | zero =>
    intro j i σ hi h hσ
    have hx : ¬ i < xs.length := by omega
    rw [go_lp, b88_3, L88_3, hσ, nx_, hc]
    have : xs.take j = xs := List.take_of_length_le (by omega)
    simp [hx, this]
    exact hr
  | succ n ih =>
    intro j i σ hi h hσ
    have h0 : 0 ≤ i := by omega
    have h1 : i < xs.length := by omega
    have h2 : i < ((xs.take j ++ List.replicate (n + 1) default).length : Nat) := by simp; omega
    have hj : i.toNat = j := by omega
    have h3 : j < (xs.take j ++ List.replicate (n + 1) default).length := by simp; omega
    have hcj := hcal j (by omega)
    rw [← hi] at hcj
    have hst := stepT xs j n (by omega)
    rw [← hi] at hst
    rw [go_lp, b88_3, L88_3, hσ, nx_, hc]
    generalize hz : xs.take j ++ List.replicate (n + 1) default = zs at *
    simp [h0, h1, h2, h3, hj, hcj, wrapA h0 (show i ≤ 9223372036854775806 by omega)]
    refine ih (j + 1) (i + 1) _ (by omega) (by omega) ?_
    rw [row_modify (encN 114 true) zs j (el xs i), hst]
    · simp
    · intro z; simp [encE, encN, encF, sc_t, elN]
theorem fn88 (xs : List Inode) (hm : xs.length ≤ 1048576) (hcal : ∀ j : Nat, j < xs.length → Fn Z 109 [.agg [.int .i64 (N xs j).kind, .int .i64 (N xs j).mode, .int .i64 (N xs j).owner, .int .i64 (N xs j).group, .int .i64 (N xs j).links, .int .i64 (N xs j).opens, .bool (N xs j).mark, .str (N xs j).text, .ro () 178 (row encE (N xs j).names)]] = some ⟨[(true, [.int .i64 (N xs j).kind, .int .i64 (N xs j).mode, .int .i64 (N xs j).owner, .int .i64 (N xs j).group, .int .i64 (N xs j).links, .int .i64 (N xs j).opens, .bool (N xs j).mark, .str (N xs j).text, .own () .sl 114 (row encE (N xs j).names)])], []⟩) :
    Fn Z 88 [.one (.ro () 144 (row (encN 178 false) xs))] = some ⟨[(false, [.own () .sl 62 (row (encN 114 true) xs)])], []⟩ := by
  refine Fn_ans Z rfl Tryz.func88 rfl K88 ?_
  rw [ZP, M88, nt88]
  have hb : bodyOf Tryz.f88 = bodyOf Tryz.f88 := rfl
  conv at hb => rhs; simp only [bodyOf, Tryz.f88]
  have hb3 : lpc Tryz.f88 3 = lpc Tryz.f88 3 := rfl
  conv at hb3 => rhs; simp only [lpc, bodyOf, Tryz.f88, nthLoop, headId, if_true, if_false, reduceIte, Nat.reduceEqDiff]
  rw [← hb3] at hb
  rw [hb]
  clear hb hb3
  have h1 : ∀ k : Int, k ≤ 1000 → (xs.length : Int) * k ≤ 281474976710656 := fun k hk => by
    have := Int.mul_le_mul_of_nonneg_left hk (Int.natCast_nonneg xs.length)
    omega
  have h2 : (xs.length : Int) ≤ 281474976710656 := by omega
  simp [h1, h2, row_repN]
  refine ev88 xs (by omega) hcal _ _ ?_ xs.length 0 0 _ (by omega) (by omega) (by simp)
  simp
theorem fn88' (f : Fs) (hf : OkF 1048576 f) : Fn Z 88 [.one (.ro () 144 (row (encN 178 false) f))] = some ⟨[(false, [.own () .sl 62 (row (encN 114 true) f)])], []⟩ := fn88 f hf.1 fun j hj => fn109 _ (hf.2 j hj)
theorem fn67 (f : Fs) (hf : OkF 1048576 f) : Fn Z 67 [.agg [.ro () 144 (row (encN 178 false) f)]] = some ⟨[(true, [.own () .sl 62 (row (encN 114 true) f)])], []⟩ := by
  refine Fn_ans Z rfl Tryz.func67 rfl K67 ?_
  rw [ZP, M67, nt67]
  have hb : bodyOf Tryz.f67 = bodyOf Tryz.f67 := rfl
  conv at hb => rhs; simp only [bodyOf, Tryz.f67]
  rw [hb]
  clear hb 
  have h1 := fn88' f hf
  simp [h1]
theorem ev35 (xs : List Fs) (hm : xs.length ≤ 1000000000000) (hcal : ∀ j : Nat, j < xs.length → Fn Z 67 [.agg [.ro () 144 (row (encN 178 false) (el xs j))]] = some ⟨[(true, [.own () .sl 62 (row (encN 114 true) (el xs j))])], []⟩)
    (r : List It) (R : Option Ret) (hr : ans Tryz.prog Tryz.f35 [.ro] (Mach.go Z (Z.H 35) r ⟨23, [(3, .one (.ref () ⟨3, 0, []⟩))], [(3, [.own () .sl 65 (row (encF 62 114 true) xs)])]⟩) = R) :
    ∀ (n : Nat) (j : Nat) (i : Int) (σ : St Unit), i = (j : Int) → j + n = xs.length →
    σ.keep ⟨[4, 0, 3], [], [4, 0, 3]⟩ = some ⟨23, [(4, .one (.int .i64 i)), (0, .one (.ro () 96 (row (encF 144 178 false) xs))), (3, .one (.ref () ⟨3, 0, []⟩))], [(3, [.own () .sl 65 (row (encF 62 114 true) (xs.take j ++ List.replicate n default))])]⟩ →
      ans Tryz.prog Tryz.f35 [.ro] (Mach.go Z (Z.H 35) ((.lp (lpc Tryz.f35 3)) :: .blk 0 :: r) σ) = R := by
  have hb : lpc Tryz.f35 3 = lpc Tryz.f35 3 := rfl
  conv at hb => rhs; simp only [lpc, bodyOf, Tryz.f35, nthLoop, headId, if_true, if_false, reduceIte, Nat.reduceEqDiff]
  have hc := fun r σ => congrArg (fun c => Mach.go Z (Z.H 35) (.code c :: r) σ) hb
  clear hb
  intro n
  induction n with
  | zero =>
    intro j i σ hi h hσ
    have hx : ¬ i < xs.length := by omega
    rw [go_lp, b35_3, L35_3, hσ, nx_, hc]
    have : xs.take j = xs := List.take_of_length_le (by omega)
    simp [hx, this]
    exact hr
  | succ n ih =>
    intro j i σ hi h hσ
    have h0 : 0 ≤ i := by omega
    have h1 : i < xs.length := by omega
    have h2 : i < ((xs.take j ++ List.replicate (n + 1) default).length : Nat) := by simp; omega
    have hj : i.toNat = j := by omega
    have h3 : j < (xs.take j ++ List.replicate (n + 1) default).length := by simp; omega
    have hcj := hcal j (by omega)
    rw [← hi] at hcj
    have hst := stepT xs j n (by omega)
    rw [← hi] at hst
    rw [go_lp, b35_3, L35_3, hσ, nx_, hc]
    generalize hz : xs.take j ++ List.replicate (n + 1) default = zs at *
    simp [h0, h1, h2, h3, hj, hcj, wrapA h0 (show i ≤ 9223372036854775806 by omega)]
    refine ih (j + 1) (i + 1) _ (by omega) (by omega) ?_
    rw [row_modify (encF 62 114 true) zs j (el xs i), hst]
    · simp
    · intro z; simp [encE, encN, encF, sc_t, elN]
theorem fn35 (xs : List Fs) (hm : xs.length ≤ 1048576) (hcal : ∀ j : Nat, j < xs.length → Fn Z 67 [.agg [.ro () 144 (row (encN 178 false) (el xs j))]] = some ⟨[(true, [.own () .sl 62 (row (encN 114 true) (el xs j))])], []⟩) :
    Fn Z 35 [.one (.ro () 96 (row (encF 144 178 false) xs))] = some ⟨[(false, [.own () .sl 65 (row (encF 62 114 true) xs)])], []⟩ := by
  refine Fn_ans Z rfl Tryz.func35 rfl K35 ?_
  rw [ZP, M35, nt35]
  have hb : bodyOf Tryz.f35 = bodyOf Tryz.f35 := rfl
  conv at hb => rhs; simp only [bodyOf, Tryz.f35]
  have hb3 : lpc Tryz.f35 3 = lpc Tryz.f35 3 := rfl
  conv at hb3 => rhs; simp only [lpc, bodyOf, Tryz.f35, nthLoop, headId, if_true, if_false, reduceIte, Nat.reduceEqDiff]
  rw [← hb3] at hb
  rw [hb]
  clear hb hb3
  have h1 : ∀ k : Int, k ≤ 1000 → (xs.length : Int) * k ≤ 281474976710656 := fun k hk => by
    have := Int.mul_le_mul_of_nonneg_left hk (Int.natCast_nonneg xs.length)
    omega
  have h2 : (xs.length : Int) ≤ 281474976710656 := by omega
  simp [h1, h2, row_repF]
  refine ev35 xs (by omega) hcal _ _ ?_ xs.length 0 0 _ (by omega) (by omega) (by simp)
  simp
theorem fn35' (v : Vfs) (hv : OkV 1048576 v) : Fn Z 35 [.one (.ro () 96 (row (encF 144 178 false) v.fss))] = some ⟨[(false, [.own () .sl 65 (row (encF 62 114 true) v.fss)])], []⟩ := fn35 v.fss hv.1 fun j hj => fn67 _ (hv.2 j hj)
theorem fn13 (v : Vfs) (hv : OkV 1048576 v) : Fn Z 13 [.agg [.ro () 96 (row (encF 144 178 false) v.fss), .int .i64 v.mount]] = some ⟨[(true, [.own () .sl 65 (row (encF 62 114 true) v.fss), .int .i64 v.mount])], []⟩ := by
  refine Fn_ans Z rfl Tryz.func13 rfl K13 ?_
  rw [ZP, M13, nt13]
  have hb : bodyOf Tryz.f13 = bodyOf Tryz.f13 := rfl
  conv at hb => rhs; simp only [bodyOf, Tryz.f13]
  rw [hb]
  clear hb 
  have h1 := fn35' v hv
  simp [h1]
theorem ev36 (xs : List Int) (hm : xs.length ≤ 1000000000000)
    (r : List It) (R : Option Ret) (hr : ans Tryz.prog Tryz.f36 [.ro] (Mach.go Z (Z.H 36) r ⟨22, [(3, .one (.ref () ⟨3, 0, []⟩))], [(3, [.own () .sl 3 (row encI xs)])]⟩) = R) :
    ∀ (n : Nat) (j : Nat) (i : Int) (σ : St Unit), i = (j : Int) → j + n = xs.length →
    σ.keep ⟨[4, 0, 3], [], [4, 0, 3]⟩ = some ⟨22, [(4, .one (.int .i64 i)), (0, .one (.ro () 3 (row encI xs))), (3, .one (.ref () ⟨3, 0, []⟩))], [(3, [.own () .sl 3 (row encI (xs.take j ++ List.replicate n default))])]⟩ →
      ans Tryz.prog Tryz.f36 [.ro] (Mach.go Z (Z.H 36) ((.lp (lpc Tryz.f36 3)) :: .blk 0 :: r) σ) = R := by
  have hb : lpc Tryz.f36 3 = lpc Tryz.f36 3 := rfl
  conv at hb => rhs; simp only [lpc, bodyOf, Tryz.f36, nthLoop, headId, if_true, if_false, reduceIte, Nat.reduceEqDiff]
  have hc := fun r σ => congrArg (fun c => Mach.go Z (Z.H 36) (.code c :: r) σ) hb
  clear hb
  intro n
  induction n with
  | zero =>
    intro j i σ hi h hσ
    have hx : ¬ i < xs.length := by omega
    rw [go_lp, b36_3, L36_3, hσ, nx_, hc]
    have : xs.take j = xs := List.take_of_length_le (by omega)
    simp [hx, this]
    exact hr
  | succ n ih =>
    intro j i σ hi h hσ
    have h0 : 0 ≤ i := by omega
    have h1 : i < xs.length := by omega
    have h2 : i < ((xs.take j ++ List.replicate (n + 1) default).length : Nat) := by simp; omega
    have hj : i.toNat = j := by omega
    have h3 : j < (xs.take j ++ List.replicate (n + 1) default).length := by simp; omega
    have hst := stepT xs j n (by omega)
    rw [← hi] at hst
    rw [go_lp, b36_3, L36_3, hσ, nx_, hc]
    generalize hz : xs.take j ++ List.replicate (n + 1) default = zs at *
    simp [encI, h0, h1, h2, h3, hj, wrapA h0 (show i ≤ 9223372036854775806 by omega)]
    refine ih (j + 1) (i + 1) _ (by omega) (by omega) ?_
    rw [row_modify encI zs j (el xs i), hst]
    · simp
    · intro z; simp [encI]
theorem fn36 (xs : List Int) (hm : xs.length ≤ 1048576) :
    Fn Z 36 [.one (.ro () 3 (row encI xs))] = some ⟨[(false, [.own () .sl 3 (row encI xs)])], []⟩ := by
  refine Fn_ans Z rfl Tryz.func36 rfl K36 ?_
  rw [ZP, M36, nt36]
  have hb : bodyOf Tryz.f36 = bodyOf Tryz.f36 := rfl
  conv at hb => rhs; simp only [bodyOf, Tryz.f36]
  have hb3 : lpc Tryz.f36 3 = lpc Tryz.f36 3 := rfl
  conv at hb3 => rhs; simp only [lpc, bodyOf, Tryz.f36, nthLoop, headId, if_true, if_false, reduceIte, Nat.reduceEqDiff]
  rw [← hb3] at hb
  rw [hb]
  clear hb hb3
  have h1 : ∀ k : Int, k ≤ 1000 → (xs.length : Int) * k ≤ 281474976710656 := fun k hk => by
    have := Int.mul_le_mul_of_nonneg_left hk (Int.natCast_nonneg xs.length)
    omega
  have h2 : (xs.length : Int) ≤ 281474976710656 := by omega
  simp [h1, h2, row_repI]
  refine ev36 xs (by omega) _ _ ?_ xs.length 0 0 _ (by omega) (by omega) (by simp)
  simp
theorem fn14 (c : Cred) (h : c.groups.length ≤ 1048576) : Fn Z 14 [.agg [.int .i64 c.user, .int .i64 c.real, .ro () 3 (row encI c.groups)]] = some ⟨[(true, [.int .i64 c.user, .int .i64 c.real, .own () .sl 3 (row encI c.groups)])], []⟩ := by
  refine Fn_ans Z rfl Tryz.func14 rfl K14 ?_
  rw [ZP, M14, nt14]
  have hb : bodyOf Tryz.f14 = bodyOf Tryz.f14 := rfl
  conv at hb => rhs; simp only [bodyOf, Tryz.f14]
  rw [hb]
  clear hb 
  have h1 := fn36 c.groups h
  simp [h1]
theorem fn15 (p : Place) : Fn Z 15 [.agg [.int .i64 p.fs, .int .i64 p.id]] = some ⟨[(true, [.int .i64 p.fs, .int .i64 p.id])], []⟩ := by
  refine Fn_ans Z rfl Tryz.func15 rfl K15 ?_
  rw [ZP, M15, nt15]
  have hb : bodyOf Tryz.f15 = bodyOf Tryz.f15 := rfl
  conv at hb => rhs; simp only [bodyOf, Tryz.f15]
  rw [hb]
  clear hb 
  simp
end Go.Mach.Fv
