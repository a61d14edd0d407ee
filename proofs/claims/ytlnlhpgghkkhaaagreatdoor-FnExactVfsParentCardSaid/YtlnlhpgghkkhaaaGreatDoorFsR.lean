/- Paths: cut into steps. -/
import Derived.Test.YtlnlhpgghkkhaaaGreatDoorFsV
open Go Go.Mach Go.Mach.Fv Go.Proofs
set_option maxRecDepth 100000
set_option maxHeartbeats 8000000
set_option linter.unusedVariables false
set_option linter.unusedSimpArgs false
namespace Go.Mach.Fv
def cutL : List UInt8 → List UInt8 → List (List UInt8)
  | cur, [] => [cur]
  | cur, b :: l => if b = 47 then cur :: cutL [] l else cutL (cur ++ [b]) l
theorem cutL_no : ∀ (l cur : List UInt8), (47 : UInt8) ∉ l → cutL cur l = [cur ++ l]
  | [], cur, _ => by simp [cutL]
  | b :: l, cur, h => by
    have hb : b ≠ 47 := fun e => h (by rw [e]; simp)
    rw [cutL, if_neg hb, cutL_no l (cur ++ [b]) (fun hm => h (List.mem_cons_of_mem _ hm))]
    simp
theorem cutL_at : ∀ (a b cur : List UInt8), (47 : UInt8) ∉ a → cutL cur (a ++ 47 :: b) = (cur ++ a) :: cutL [] b
  | [], b, cur, _ => by simp [cutL]
  | x :: a, b, cur, h => by
    have hb : x ≠ 47 := fun e => h (by rw [e]; simp)
    rw [List.cons_append, cutL, if_neg hb, cutL_at a b (cur ++ [x]) (fun hm => h (List.mem_cons_of_mem _ hm))]
    simp
theorem index_at : ∀ (a b : List UInt8), (47 : UInt8) ∉ a → Lib.indexByte (a ++ 47 :: b) 47 = (a.length : Int)
  | [], b, _ => by simp [Lib.indexByte]
  | x :: a, b, h => by
    have hb : ¬ (x == 47) = true := fun e => h (by rw [beq_iff_eq.1 e]; simp)
    have ih := index_at a b (fun hm => h (List.mem_cons_of_mem _ hm))
    rw [List.cons_append, Lib.indexByte, if_neg hb, ih, if_neg (by rw [beq_iff_eq]; omega)]
    simp
def okStep (l : List UInt8) : Bool := stepOk (Bs l)
def topL : List UInt8 → Bool
  | [] => false
  | b :: _ => b == 47
def restL : List UInt8 → List UInt8
  | [] => []
  | b :: l => if b = 47 then l else b :: l
theorem restL_le (l : List UInt8) : (restL l).length ≤ l.length := by
  cases l with
  | nil => simp [restL]
  | cons b l => simp only [restL]; split <;> simp
theorem cutL_len : ∀ (l cur : List UInt8), (cutL cur l).length ≤ l.length + 1
  | [], cur => by simp [cutL]
  | b :: l, cur => by
    unfold cutL
    split
    · have := cutL_len l []
      simp; omega
    · have := cutL_len l (cur ++ [b])
      simp; omega
def pathR (l : List UInt8) : Bool × List ByteArray × Bool :=
  if restL l = [] then (topL l, [], true)
  else if (cutL [] (restL l)).length > 6 ∨ ((cutL [] (restL l)).any fun x => !okStep x) = true then (false, [], false)
  else (topL l, (cutL [] (restL l)).map Bs, true)
def specR (top : Bool) : List ByteArray → List (List UInt8) → Bool × List ByteArray × Bool
  | out, [] => (top, out, true)
  | out, p :: ps => if okStep p = true ∧ out.length < 6 then specR top (out ++ [Bs p]) ps else (false, [], false)
theorem specR_eq (top : Bool) : ∀ (ps : List (List UInt8)) (out : List ByteArray), out.length ≤ 6 → specR top out ps = if out.length + ps.length > 6 ∨ (ps.any fun x => !okStep x) = true then (false, [], false) else (top, out ++ ps.map Bs, true)
  | [], out, h => by rw [specR, if_neg (by simp; omega)]; simp
  | p :: ps, out, h => by
    rw [specR]
    by_cases hk : okStep p = true
    · by_cases h6 : out.length < 6
      · rw [if_pos ⟨hk, h6⟩, specR_eq top ps _ (by simp; omega)]
        simp only [List.length_append, List.length_singleton, List.length_cons, List.length_nil, Nat.zero_add, List.any_cons, hk, Bool.not_true, Bool.false_or, List.map_cons, List.append_assoc, List.singleton_append]
        rw [show out.length + 1 + ps.length = out.length + (ps.length + 1) by omega]
      · rw [if_neg (fun q => h6 q.2), if_pos (.inl (by simp; omega))]
    · rw [if_neg (fun q => hk q.1), if_pos (.inr (by simp [hk]))]
def encS (s : ByteArray) : List (C Unit) := [.str s]
theorem sz47 : (ByteArray.mk #[47]).size = 1 := rfl
theorem tl47 : (ByteArray.mk #[47]).toList = [47] := by rw [Lib.toList_data]
theorem ex1 (b : UInt8) (l : List UInt8) : (Bs (b :: l)).extract 0 1 = Bs [b] := by rw [Bs_extract]; simp
theorem ex2 (b : UInt8) (l : List UInt8) : (Bs (b :: l)).extract 1 (l.length + 1) = Bs l := by rw [Bs_extract]; simp
theorem fn100 (l : List UInt8) : Fn Z 100 [.one (.str (Bs l)), .one (.str (⟨#[47]⟩))] = some ⟨[(false, [.bool (topL l)])], []⟩ := by
  refine Fn_ans Z rfl Tryz.func100 rfl K100 ?_
  rw [ZP, M100, nt100]
  have hb : bodyOf Tryz.f100 = bodyOf Tryz.f100 := rfl
  conv at hb => rhs; simp only [bodyOf, Tryz.f100]
  rw [hb]
  clear hb 
  cases l with
  | nil => simp [sz47, Bs_size, topL]
  | cons b l =>
    have h1 : (0 : Int) ≤ (l.length : Int) := by omega
    have h3 : (1 : Int) ≤ (l.length : Int) + 1 := by omega
    simp [sz47, Bs_size, topL, ex1, tl47, Bs_toList, h1, h3]
    all_goals (by_cases h : b = 47 <;> simp [h])
abbrev sb (s : ByteArray) (b : Bool) : Option Ret := some ⟨[(false, [.str s]), (false, [.bool b])], []⟩
theorem fn78 (l : List UInt8) : Fn Z 78 [.one (.str (Bs l)), .one (.str (⟨#[47]⟩))] = some ⟨[(false, [.str (Bs (restL l))]), (false, [.bool (topL l)])], []⟩ := by
  have h := fn100 l
  refine Fn_ans Z rfl Tryz.func78 rfl K78 ?_
  rw [ZP, M78, nt78]
  have hb : bodyOf Tryz.f78 = bodyOf Tryz.f78 := rfl
  conv at hb => rhs; simp only [bodyOf, Tryz.f78]
  rw [hb]
  clear hb 
  cases l with
  | nil => simp [sz47, Bs_size, h, topL, restL]
  | cons b l =>
    by_cases hb : b = 47
    · have ht : topL (b :: l) = true := by simp [topL, hb]
      have hr : restL (b :: l) = l := by simp [restL, hb]
      rw [ht] at h
      rw [ht, hr]
      have h1 : (0 : Int) ≤ (l.length : Int) := by omega
      have h2 : ((l.length : Int) + 1).toNat = l.length + 1 := by omega
      have h3 : (1 : Int) ≤ (l.length : Int) + 1 := by omega
      simp [sz47, Bs_size, h, h1, h2, h3, ex2]
    · have ht : topL (b :: l) = false := by simp [topL, hb]
      have hr : restL (b :: l) = b :: l := by simp [restL, hb]
      rw [ht] at h
      rw [ht, hr]
      simp [sz47, Bs_size, h]
theorem fn51 (l : List UInt8) : Fn Z 51 [.one (.str (Bs l)), .one (.str (⟨#[47]⟩))] = some ⟨[(false, [.str (Bs (restL l))]), (false, [.bool (topL l)])], []⟩ := by
  have h := fn78 l
  refine Fn_ans Z rfl Tryz.func51 rfl K51 ?_
  rw [ZP, M51, nt51]
  have hb : bodyOf Tryz.f51 = bodyOf Tryz.f51 := rfl
  conv at hb => rhs; simp only [bodyOf, Tryz.f51]
  rw [hb]
  clear hb 
  simp [h]
theorem fn102 (l : List UInt8) : Fn Z 102 [.one (.str (Bs l)), .one (.str (⟨#[47]⟩))] = some ⟨[(false, [.int .i64 (l.count 47)])], []⟩ := by
  rw [Fn_orac (g := o102) rfl]
  rfl
theorem fn103 (l : List UInt8) : Fn Z 103 [.one (.str (Bs l)), .one (.str (⟨#[47]⟩))] = some ⟨[(false, [.int .i64 (Lib.indexByte l 47)])], []⟩ := by
  rw [Fn_orac (g := o103) rfl]
  rfl
theorem min_n (a b : Int) : scal2 Tryz.prog Builtin.min2 (.one (.int .i64 a)) (.one (.int .i64 b)) = some (.one (.int .i64 (if a ≤ b then a else b))) := by
  by_cases h : a ≤ b
  · simp [scal2, val1, valC, Builtin.min2, quiet, backC, pure, bind, Sem.bind, Op.intCmp, asBool, h]
    try omega
  · simp [scal2, val1, valC, Builtin.min2, quiet, backC, pure, bind, Sem.bind, Op.intCmp, asBool, h]
theorem row_repS (n : Nat) : List.replicate n [C.str ⟨#[]⟩] = row encS (List.replicate n ⟨#[]⟩) := by simp [row, encS]
theorem idx_no : ∀ l : List UInt8, (47 : UInt8) ∉ l → Lib.indexByte l 47 = -1
  | [], _ => rfl
  | x :: l, h => by
    have hb : ¬ (x == 47) = true := fun e => h (by rw [beq_iff_eq.1 e]; simp)
    rw [Lib.indexByte, if_neg hb, idx_no l (fun hm => h (List.mem_cons_of_mem _ hm))]
    rfl
theorem set_at (done : List ByteArray) (x y : ByteArray) (r : List ByteArray) : (done ++ x :: r).set done.length y = done ++ y :: r := by
  rw [List.set_append_right _ _ (Nat.le_refl _), Nat.sub_self, List.set_cons_zero]
theorem ev79 (c : Nat) (hc : c ≤ 2000000) (r : List It) (R : Option Ret)
    (hr : ∀ (l : List UInt8) (done : List ByteArray) (σ : St Unit), done.length = c → R = some ⟨[(false, [.own () .sl 9 (row encS (done ++ [Bs l]))])], []⟩ → σ = ⟨66, [(0, .one (.str (Bs l))), (9, .one (.ref () ⟨9, 0, []⟩)), (10, .one (.int .i64 (c)))], [(9, [.own () .sl 9 (row encS (done ++ [⟨#[]⟩]))])]⟩ → ans Tryz.prog Tryz.f79 [.ro, .ro, .ro, .ro] (Mach.go Z (Z.H 79) r σ) = R) :
    ∀ (m : Nat) (l : List UInt8) (done : List ByteArray) (σ : St Unit), l.count 47 = m → done.length + m = c → l.length ≤ 1048576 → R = some ⟨[(false, [.own () .sl 9 (row encS (done ++ (cutL [] l).map Bs))])], []⟩ →
    σ.keep ⟨[3, 1, 2, 0, 9, 10], [], [3, 1, 2, 0, 9, 10]⟩ = some ⟨66, [(3, .one (.int .i64 (c))), (1, .one (.str (⟨#[47]⟩))), (2, .one (.int .i64 (0))), (0, .one (.str (Bs l))), (9, .one (.ref () ⟨9, 0, []⟩)), (10, .one (.int .i64 (done.length)))], [(9, [.own () .sl 9 (row encS (done ++ List.replicate (m + 1) ⟨#[]⟩))])]⟩ →
      ans Tryz.prog Tryz.f79 [.ro, .ro, .ro, .ro] (Mach.go Z (Z.H 79) ((.lp (lpc Tryz.f79 11)) :: .blk 0 :: r) σ) = R := by
  have hb : lpc Tryz.f79 11 = lpc Tryz.f79 11 := rfl
  conv at hb => rhs; simp only [lpc, bodyOf, Tryz.f79, nthLoop, headId, if_true, if_false, reduceIte, Nat.reduceEqDiff]
  have hc := fun r σ => congrArg (fun c => Mach.go Z (Z.H 79) (.code c :: r) σ) hb
  clear hb
  intro m
  induction m with
  | zero =>
    intro l done σ hl hd hn hR hσ
    have hno : (47 : UInt8) ∉ l := List.count_eq_zero.1 hl
    have hx : ¬ done.length < c := by omega
    have hdc : done.length = c := by omega
    rw [cutL_no l [] hno] at hR
    rw [go_lp, b79_11, L79_11, hσ, nx_, hc]
    simp [hx]
    exact hr l done _ hdc hR (by simp [hdc])
  | succ m ih =>
    intro l done σ hl hd hn hR hσ
    have hmem : (47 : UInt8) ∈ l := List.count_pos_iff.1 (by omega)
    obtain ⟨a, b, rfl, ha⟩ := List.eq_append_cons_of_mem hmem
    have hb : b.count 47 = m := by
      rw [List.count_append, List.count_cons_self, List.count_eq_zero.2 ha] at hl
      omega
    rw [List.length_append, List.length_cons] at hn
    have hlt : done.length < c := by omega
    have hlen : (done ++ List.replicate (m + 1 + 1) (⟨#[]⟩ : ByteArray)).length = done.length + (m + 2) := by simp
    have hi := index_at a b ha
    have h103 := fn103 (a ++ 47 :: b)
    rw [hi] at h103
    have w1' : IntKind.i64.wrap ((a.length : Int)) = (a.length : Int) := wrap_in (by omega) (by omega)
    have w2' := wrapJ (show a.length ≤ 1000000000000 by omega)
    have w3' := wrapJ (show done.length ≤ 1000000000000 by omega)
    have e1 : (Bs (a ++ 47 :: b)).extract 0 a.length = Bs a := by rw [Bs_extract]; simp
    have e2 : (Bs (a ++ 47 :: b)).extract (a.length + 1) (a.length + (b.length + 1)) = Bs b := by
      rw [Bs_extract]
      congr 1
      rw [List.drop_append, List.take_of_length_le (by simp; omega)]
      simp
    have g1 : (a.length : Int) ≤ (a.length : Int) + ((b.length : Int) + 1) := by omega
    have g2 : (a.length : Int) + 1 ≤ (a.length : Int) + ((b.length : Int) + 1) := by omega
    have g3 : ¬ (a.length : Int) < 0 := by omega
    have g4 : ((a.length : Int) + 1).toNat = a.length + 1 := by omega
    have g5 : ((a.length : Int) + ((b.length : Int) + 1)).toNat = a.length + (b.length + 1) := by omega
    have g6 : (0 : Int) ≤ (a.length : Int) + 1 := by omega
    have g7 : (done.length : Int) < (done.length : Int) + ((m : Int) + 1 + 1) := by omega
    have g8 : done.length < done.length + (m + 1 + 1) := by omega
    rw [go_lp, b79_11, L79_11, hσ, nx_, hc]
    simp [M103, encS, hlt, h103, Bs_size, sz47, w1', w2', w3', e1, e2, g1, g2, g3, g4, g5, g6, g7, g8]
    refine ih b (done ++ [Bs a]) _ hb (by simp; omega) (by omega) (by rw [hR, cutL_at a b [] ha]; simp) ?_
    have hs : (done ++ List.replicate (m + 1 + 1) (⟨#[]⟩ : ByteArray)).set done.length (Bs a) = done ++ [Bs a] ++ List.replicate (m + 1) ⟨#[]⟩ := by
      rw [List.replicate_succ, set_at]; simp
    rw [row_modify encS _ done.length (Bs a) _ (by intro z; simp [encS]), hs]
    simp
theorem fn79 (l : List UInt8) (hn : l.length ≤ 1048576) : Fn Z 79 [.one (.str (Bs l)), .one (.str (⟨#[47]⟩)), .one (.int .i64 (0)), .one (.int .i64 (-1))] = some ⟨[(false, [.own () .sl 9 (row encS ((cutL [] l).map Bs))])], []⟩ := by
  have hcl : l.count 47 ≤ l.length := List.count_le_length
  have h102 := fn102 l
  generalize hc : l.count 47 = c at *
  have w1' := wrapJ (show c ≤ 1000000000000 by omega)
  have w2' := wrapJ (show l.length ≤ 1000000000000 by omega)
  have w3' : IntKind.i64.wrap (c : Int) = (c : Int) := wrap_in (by omega) (by omega)
  have g1 : (c : Int) ≤ l.length := by omega
  have g2 : (0 : Int) ≤ (c : Int) + 1 := by omega
  have g3 : ((c : Int) + 1) * 16 ≤ 281474976710656 := by omega
  have g4 : (c : Int) + 1 ≤ 281474976710656 := by omega
  have g5 : ((c : Int) + 1).toNat = c + 1 := by omega
  refine Fn_ans Z rfl Tryz.func79 rfl K79 ?_
  rw [ZP, M79, nt79]
  have hb : bodyOf Tryz.f79 = bodyOf Tryz.f79 := rfl
  conv at hb => rhs; simp only [bodyOf, Tryz.f79]
  have hb11 : lpc Tryz.f79 11 = lpc Tryz.f79 11 := rfl
  conv at hb11 => rhs; simp only [lpc, bodyOf, Tryz.f79, nthLoop, headId, if_true, if_false, reduceIte, Nat.reduceEqDiff]
  rw [← hb11] at hb
  rw [hb]
  clear hb hb11
  simp [M102, h102, sz47, tl47, Bs_size, min_n, w1', w2', w3', g1, g2, g3, g4, g5, row_repS]
  refine ev79 c (by omega) _ _ (fun l' done σ hd hR hσ => ?_) c l [] _ hc (by simp) hn (by simp) ?_
  · subst hσ
    rw [hR]
    subst hd
    have k1 : done.length < done.length + 1 := by omega
    have k2 : (done.length : Int) < (done.length : Int) + 1 := by omega
    have hs : (done ++ [(⟨#[]⟩ : ByteArray)]).set done.length (Bs l') = done ++ [Bs l'] := by rw [set_at]
    have hm : ((row encS (done ++ [⟨#[]⟩])).modify done.length fun el => el.modify 0 fun _ => C.str (Bs l')) = row encS (done ++ [Bs l']) := by
      rw [row_modify encS _ done.length (Bs l') _ (by intro z; simp [encS]), hs]
    simp [encS, w1', k1, k2, g2, hm]
  · simp
theorem fn52 (l : List UInt8) (hn : l.length ≤ 1048576) : Fn Z 52 [.one (.str (Bs l)), .one (.str (⟨#[47]⟩))] = some ⟨[(false, [.own () .sl 9 (row encS ((cutL [] l).map Bs))])], []⟩ := by
  have h := fn79 l hn
  refine Fn_ans Z rfl Tryz.func52 rfl K52 ?_
  rw [ZP, M52, nt52]
  have hb : bodyOf Tryz.f52 = bodyOf Tryz.f52 := rfl
  conv at hb => rhs; simp only [bodyOf, Tryz.f52]
  rw [hb]
  clear hb 
  simp [h]
theorem ev80 (xs : List ByteArray) (hm : xs.length ≤ 10000000) (r : List It) (hr : ∀ (σ : St Unit), σ = ⟨19, [], []⟩ → ans Tryz.prog Tryz.f80 [.ro, .ro] (Mach.go Z (Z.H 80) r σ) = some ⟨[(false, [.int .i64 (-1)])], []⟩) :
    ∀ (n j : Nat) (σ : St Unit), j + n = xs.length →
    σ.keep ⟨[7, 8, 0, 1], [], [7, 8, 0, 1]⟩ = some ⟨19, [(7, .one (.int .i64 (xs.length))), (8, .one (.int .i64 (j))), (0, .one (.ro () 9 (row encS xs))), (1, .one (.fn 54))], []⟩ →
      ans Tryz.prog Tryz.f80 [.ro, .ro] (Mach.go Z (Z.H 80) ((.lp (lpc Tryz.f80 2)) :: .blk 0 :: r) σ) = some ⟨[(false, [.int .i64 (ix (fun i => !stepOk (el xs i)) j n)])], []⟩ := by
  have hb : lpc Tryz.f80 2 = lpc Tryz.f80 2 := rfl
  conv at hb => rhs; simp only [lpc, bodyOf, Tryz.f80, nthLoop, headId, if_true, if_false, reduceIte, Nat.reduceEqDiff]
  have hc := fun r σ => congrArg (fun c => Mach.go Z (Z.H 80) (.code c :: r) σ) hb
  clear hb
  intro n
  induction n with
  | zero =>
    intro j σ h hσ
    have hx : ¬ j < xs.length := by omega
    rw [go_lp, b80_2, L80_2, hσ, nx_, hc]
    simp [hx]
    exact hr _ rfl
  | succ n ih =>
    intro j σ h hσ
    have h2 : j < xs.length := by omega
    have hs := fn54 (el xs j)
    rw [go_lp, b80_2, L80_2, hσ, nx_, hc]
    unfold ix
    by_cases h3 : stepOk (el xs j) = true
    · simp [encS, h2, hs, h3, wrapJ (show j ≤ 1000000000000 by omega)]
      exact ih (j + 1) _ (by omega) (by simp)
    · have h3 : stepOk (el xs j) = false := by simpa using h3
      simp [encS, h2, hs, h3]
theorem fn80 (xs : List ByteArray) (hm : xs.length ≤ 10000000) : Fn Z 80 [.one (.ro () 9 (row encS xs)), .one (.fn 54)] = some ⟨[(false, [.int .i64 (ix (fun i => !stepOk (el xs i)) 0 xs.length)])], []⟩ := by
  refine Fn_ans Z rfl Tryz.func80 rfl K80 ?_
  rw [ZP, M80, nt80]
  have hb : bodyOf Tryz.f80 = bodyOf Tryz.f80 := rfl
  conv at hb => rhs; simp only [bodyOf, Tryz.f80]
  have hb2 : lpc Tryz.f80 2 = lpc Tryz.f80 2 := rfl
  conv at hb2 => rhs; simp only [lpc, bodyOf, Tryz.f80, nthLoop, headId, if_true, if_false, reduceIte, Nat.reduceEqDiff]
  rw [← hb2] at hb
  rw [hb]
  clear hb hb2
  simp
  refine ev80 xs hm _ (fun σ h1 => ?_) xs.length 0 _ (by omega) (by simp)
  subst h1
  simp
theorem ix_any (xs : List ByteArray) : decide (0 ≤ ix (fun i => !stepOk (el xs i)) 0 xs.length) = xs.any fun x => !stepOk x := by
  rw [Bool.eq_iff_iff, decide_eq_true_eq, List.any_eq_true]
  rcases ix_cases (fun i => !stepOk (el xs i)) xs.length 0 with ⟨h1, h2⟩ | ⟨j, h1, h2, h3, h4, h5⟩
  · rw [h1]
    refine ⟨fun h => by omega, fun h => ?_⟩
    obtain ⟨x, hx, hs⟩ := h
    obtain ⟨j, hj, rfl⟩ := List.getElem_of_mem hx
    have := h2 j (by omega) (by omega)
    rw [show el xs j = xs[j] by simp [el, List.getD_eq_getElem?_getD, hj]] at this
    rw [this] at hs; cases hs
  · rw [h1]
    refine ⟨fun _ => ⟨el xs j, ?_, h4⟩, fun _ => by omega⟩
    rw [show el xs j = xs[j]'(by omega) by simp [el, List.getD_eq_getElem?_getD, show j < xs.length by omega]]
    exact List.getElem_mem _
theorem fn53 (xs : List ByteArray) (hm : xs.length ≤ 10000000) : Fn Z 53 [.one (.ro () 9 (row encS xs)), .one (.fn 54)] = some ⟨[(false, [.bool (xs.any fun x => !stepOk x)])], []⟩ := by
  rw [← ix_any]
  refine Fn_ans Z rfl Tryz.func53 rfl K53 ?_
  rw [ZP, M53, nt53]
  have hb : bodyOf Tryz.f53 = bodyOf Tryz.f53 := rfl
  conv at hb => rhs; simp only [bodyOf, Tryz.f53]
  rw [hb]
  clear hb 
  simp [fn80 xs hm]
def r3 (r : Bool × List ByteArray × Bool) : Option Ret := some ⟨[(false, [.bool r.1]), (false, [.own () .sl 9 (row encS r.2.1)]), (false, [.bool r.2.2])], []⟩
theorem any_map (ls : List (List UInt8)) : ((ls.map Bs).any fun x => !stepOk x) = ls.any fun x => !okStep x := by
  rw [List.any_map]; rfl
theorem fn23 (l : List UInt8) (hn : l.length ≤ 1048576) : Fn Z 23 [.one (.str (Bs l))] = r3 (pathR l) := by
  have hr := restL_le l
  have hcl := cutL_len (restL l) []
  have h51 := fn51 l
  have h52 := fn52 (restL l) (by omega)
  have h53 := fn53 ((cutL [] (restL l)).map Bs) (by simp; omega)
  rw [any_map] at h53
  unfold pathR
  refine Fn_ans Z rfl Tryz.func23 rfl K23 ?_
  rw [ZP, M23, nt23]
  have hb : bodyOf Tryz.f23 = bodyOf Tryz.f23 := rfl
  conv at hb => rhs; simp only [bodyOf, Tryz.f23]
  rw [hb]
  clear hb 
  by_cases h : restL l = []
  · have hz : (Bs (restL l)).size = 0 := by rw [h]; rfl
    rw [if_pos h]
    simp [r3, h51, hz, Bs_toList, h]
    all_goals rfl
  rw [if_neg h]
  have hz : ¬ (Bs (restL l)).size = 0 := by rw [Bs_size]; simpa using h
  by_cases h6 : (cutL [] (restL l)).length > 6
  · have h6' : (6 : Int) < ((cutL [] (restL l)).length : Int) := by omega
    rw [if_pos (.inl h6)]
    simp [r3, h51, hz, Bs_toList, h, h52, h53, h6', List.length_map]
    all_goals rfl
  · have h6' : ¬ (6 : Int) < ((cutL [] (restL l)).length : Int) := by omega
    by_cases ha : ((cutL [] (restL l)).any fun x => !okStep x) = true
    · rw [if_pos (.inr ha)]
      simp [r3, h51, hz, Bs_toList, h, h52, h53, h6', ha, List.length_map]
      all_goals rfl
    · rw [if_neg (fun q => q.elim h6 ha)]
      have ha : ((cutL [] (restL l)).any fun x => !okStep x) = false := by simpa using ha
      simp [r3, h51, hz, Bs_toList, h, h52, h53, h6', ha, List.length_map]
end Go.Mach.Fv
