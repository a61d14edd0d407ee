/- Paths: the reference's steps. -/
import Derived.Test.YtlnlhpgghkkhaaaGreatDoorFsR
open Go Go.Mach Go.Mach.Fv Go.Proofs
set_option maxRecDepth 100000
set_option maxHeartbeats 8000000
set_option linter.unusedVariables false
set_option linter.unusedSimpArgs false
namespace Go.Mach.Fv
abbrev s30 (full : List UInt8) (i : Int) (fr : Nat) (top : Bool) (out : List ByteArray) : St Unit := ⟨67, [(8, .one (.int .i64 i)), (7, .one (.int .i64 (fr : Int))), (0, .one (.str (Bs full))), (6, .one (.bool top)), (5, .one (.ref () ⟨5, 0, []⟩))], [(5, [.own () .sl 9 (row encS out)])]⟩
theorem by8_at (full pre rest : List UInt8) (b : UInt8) (h : full = pre ++ b :: rest) : byteAt (Bs full) (pre.length : Int) = (b.toNat : Int) := by
  rw [byteAt_l]
  unfold by8
  rw [Bs_toList, h]
  simp
theorem row_oneS (s : ByteArray) : [[C.str s]] = row encS [s] := rfl
theorem ev30e (full : List UInt8) (top : Bool) (r : List It)
    (hr : ∀ (out : List ByteArray) (σ : St Unit), σ = ⟨67, [(6, .one (.bool top)), (5, .one (.ref () ⟨5, 0, []⟩))], [(5, [.own () .sl 9 (row encS out)])]⟩ → ans Tryz.prog Tryz.f30 [.ro] (Mach.go Z (Z.H 30) r σ) = r3 (top, out, true)) (out : List ByteArray) (fr : Nat) (σ : St Unit)
    (hσ : σ.keep ⟨[8, 7, 0, 6, 5], [], [8, 7, 0, 6, 5]⟩ = some (s30 full ((full.length : Int) + 1) fr top out)) :
      ans Tryz.prog Tryz.f30 [.ro] (Mach.go Z (Z.H 30) ((.lp (lpc Tryz.f30 7)) :: .blk 0 :: r) σ) = r3 (top, out, true) := by
  have hb : lpc Tryz.f30 7 = lpc Tryz.f30 7 := rfl
  conv at hb => rhs; simp only [lpc, bodyOf, Tryz.f30, nthLoop, headId, if_true, if_false, reduceIte, Nat.reduceEqDiff]
  have hc := fun r σ => congrArg (fun c => Mach.go Z (Z.H 30) (.code c :: r) σ) hb
  clear hb
  have h1 : ¬ (full.length : Int) + 1 ≤ full.length := by omega
  rw [go_lp, b30_7, L30_7, hσ, nx_, hc]
  simp [Bs_size, h1]
  exact hr out _ rfl
theorem specR_1 (top : Bool) (out : List ByteArray) (p : List UInt8) (ps : List (List UInt8)) : specR top out (p :: ps) = if okStep p = true ∧ out.length < 6 then specR top (out ++ [Bs p]) ps else (false, [], false) := by rw [specR]
theorem specR_0 (top : Bool) (out : List ByteArray) : specR top out [] = (top, out, true) := by rw [specR]
theorem ev30 (full : List UInt8) (hn : full.length ≤ 1048576) (hne : full ≠ []) (top : Bool) (r : List It)
    (hr : ∀ (out : List ByteArray) (σ : St Unit), σ = ⟨67, [(6, .one (.bool top)), (5, .one (.ref () ⟨5, 0, []⟩))], [(5, [.own () .sl 9 (row encS out)])]⟩ → ans Tryz.prog Tryz.f30 [.ro] (Mach.go Z (Z.H 30) r σ) = r3 (top, out, true)) :
    ∀ (rest pre cur : List UInt8) (out : List ByteArray) (σ : St Unit), full = pre ++ cur ++ rest → out.length ≤ 6 →
    σ.keep ⟨[8, 7, 0, 6, 5], [], [8, 7, 0, 6, 5]⟩ = some (s30 full ((pre.length + cur.length : Nat) : Int) pre.length top out) →
      ans Tryz.prog Tryz.f30 [.ro] (Mach.go Z (Z.H 30) ((.lp (lpc Tryz.f30 7)) :: .blk 0 :: r) σ) = r3 (specR top out (cutL cur rest)) := by
  have hend := ev30e full top r hr
  have hb : lpc Tryz.f30 7 = lpc Tryz.f30 7 := rfl
  conv at hb => rhs; simp only [lpc, bodyOf, Tryz.f30, nthLoop, headId, if_true, if_false, reduceIte, Nat.reduceEqDiff]
  have hc := fun r σ => congrArg (fun c => Mach.go Z (Z.H 30) (.code c :: r) σ) hb
  clear hb
  have hz : ¬ (Bs full).size = 0 := by rw [Bs_size]; simpa using hne
  have hnb : (full != []) = true := by cases full with | nil => exact absurd rfl hne | cons _ _ => rfl
  intro rest
  induction rest with
  | nil =>
    intro pre cur out σ hp hout hσ
    have hl : full.length = pre.length + cur.length := by rw [hp]; simp
    have ex : (Bs full).extract pre.length (pre.length + cur.length) = Bs cur := by
      rw [Bs_extract, hp]
      congr 1
      rw [List.append_nil, List.drop_left, Nat.add_sub_cancel_left]
      simp
    have h60 := fn60 (Bs cur) (by rw [Bs_size]; omega)
    have a1 : ((pre.length : Int) + (cur.length : Int)) ≤ (full.length : Int) := by omega
    have a2 : ¬ ((pre.length : Int) + (cur.length : Int)) < (full.length : Int) := by omega
    have a3 : ((pre.length : Int) + (cur.length : Int)).toNat = pre.length + cur.length := by omega
    have a4 : IntKind.i64.wrap ((pre.length : Int) + (cur.length : Int) + 1) = (pre.length : Int) + (cur.length : Int) + 1 := wrap_in (by omega) (by omega)
    have a5 : (pre.length : Int) ≤ (pre.length : Int) + (cur.length : Int) := by omega
    have b1 : (out.length + 1) * 16 ≤ 140737488355328 := by omega
    have b2 : out.length + 1 ≤ 140737488355328 := by omega
    have hcut : cutL cur [] = [cur] := rfl
    rw [hcut]
    rw [go_lp, b30_7, L30_7, hσ, nx_, hc]
    by_cases hk : okStep cur = true
    · by_cases h6 : out.length < 6
      · have h6' : ¬ (6 : Int) ≤ (out.length : Int) := by omega
        have e : specR top out [cur] = (top, out ++ [Bs cur], true) := by rw [specR_1, if_pos ⟨hk, h6⟩, specR_0]
        rw [e]
        unfold okStep stepOk dots at hk
        rw [Bs_toList, Bool.or_eq_true, decide_eq_true_eq] at hk
        by_cases hd : cur = [46, 46]
        · have hdb : (cur != [46, 46]) = false := by simp [hd]
          simp [s30, dots_l, encS, Bs_size, Bs_toList, hnb, ex, h60, a1, a2, a3, a4, a5, b1, b2, h6', hdb]
          refine hend _ (pre.length + cur.length + 1) _ ?_
          simp [s30, row_oneS, row_app, hl]
        · have hnm : nm (Bs cur) = true := hk.resolve_left hd
          have hd' : (cur != [46, 46]) = true := by simp [hd]
          simp [s30, dots_l, encS, Bs_size, Bs_toList, hnb, ex, h60, hnm, a1, a2, a3, a4, a5, b1, b2, h6', hd, hd']
          refine hend _ (pre.length + cur.length + 1) _ ?_
          simp [s30, row_oneS, row_app, hl]
      · have h6' : (6 : Int) ≤ (out.length : Int) := by omega
        rw [specR_1, if_neg (fun q => h6 q.2)]
        unfold okStep stepOk dots at hk
        rw [Bs_toList, Bool.or_eq_true, decide_eq_true_eq] at hk
        by_cases hd : cur = [46, 46]
        · have hdb : (cur != [46, 46]) = false := by simp [hd]
          simp [s30, dots_l, encS, Bs_size, Bs_toList, hnb, ex, h60, a1, a2, a3, a4, a5, b1, b2, h6', hdb]
          all_goals rfl
        · have hnm : nm (Bs cur) = true := hk.resolve_left hd
          have hd' : (cur != [46, 46]) = true := by simp [hd]
          simp [s30, dots_l, encS, Bs_size, Bs_toList, hnb, ex, h60, hnm, a1, a2, a3, a4, a5, b1, b2, h6', hd, hd']
          all_goals rfl
    · rw [specR_1, if_neg (fun q => hk q.1)]
      unfold okStep stepOk dots at hk
      rw [Bs_toList, Bool.or_eq_true, decide_eq_true_eq, not_or] at hk
      have hd' : (cur != [46, 46]) = true := by simp [hk.1]
      have hnm : nm (Bs cur) = false := by simpa using hk.2
      by_cases h6' : (6 : Int) ≤ (out.length : Int)
      · simp [s30, dots_l, encS, Bs_size, Bs_toList, hnb, ex, h60, hnm, a1, a2, a3, a4, a5, b1, b2, h6', hk.1, hd']
        all_goals rfl
      · simp [s30, dots_l, encS, Bs_size, Bs_toList, hnb, ex, h60, hnm, a1, a2, a3, a4, a5, b1, b2, h6', hk.1, hd']
        all_goals rfl
  | cons b rest ih =>
    intro pre cur out σ hp hout hσ
    have hl : full.length = pre.length + cur.length + (rest.length + 1) := by rw [hp]; simp; omega
    have ex : (Bs full).extract pre.length (pre.length + cur.length) = Bs cur := by
      rw [Bs_extract, hp]
      congr 1
      rw [List.append_assoc, List.drop_left, Nat.add_sub_cancel_left]
      simp
    have hby := by8_at full (pre ++ cur) rest b hp
    rw [List.length_append, Int.natCast_add] at hby
    have h60 := fn60 (Bs cur) (by rw [Bs_size]; omega)
    have a0 : (0 : Int) ≤ (pre.length : Int) + (cur.length : Int) := by omega
    have a1 : ((pre.length : Int) + (cur.length : Int)) ≤ (full.length : Int) := by omega
    have a2 : ((pre.length : Int) + (cur.length : Int)) < (full.length : Int) := by omega
    have a3 : ((pre.length : Int) + (cur.length : Int)).toNat = pre.length + cur.length := by omega
    have a4 : IntKind.i64.wrap ((pre.length : Int) + (cur.length : Int) + 1) = (pre.length : Int) + (cur.length : Int) + 1 := wrap_in (by omega) (by omega)
    have a5 : (pre.length : Int) ≤ (pre.length : Int) + (cur.length : Int) := by omega
    have b1 : (out.length + 1) * 16 ≤ 140737488355328 := by omega
    have b2 : out.length + 1 ≤ 140737488355328 := by omega
    rw [go_lp, b30_7, L30_7, hσ, nx_, hc]
    by_cases h47 : b = 47
    rotate_left 1
    · have hc : cutL cur (b :: rest) = cutL (cur ++ [b]) rest := by rw [cutL, if_neg h47]
      have hb' : ¬ (b.toNat : Int) = 47 := by
        intro e
        apply h47
        have : b.toNat = 47 := by omega
        exact UInt8.toNat.inj (by rw [this]; rfl)
      rw [hc]
      simp [s30, Bs_size, Bs_toList, hnb, a0, a1, a2, a3, a4, hby, hb']
      exact ih pre (cur ++ [b]) out _ (by rw [hp]; simp) hout (by simp [s30]; all_goals omega)
    subst h47
    have hc : cutL cur (47 :: rest) = cur :: cutL [] rest := by rw [cutL, if_pos rfl]
    have hb' : (((47 : UInt8).toNat : Nat) : Int) = 47 := rfl
    rw [hb'] at hby
    rw [hc]
    by_cases hk : okStep cur = true
    · by_cases h6 : out.length < 6
      · have h6' : ¬ (6 : Int) ≤ (out.length : Int) := by omega
        rw [specR_1, if_pos ⟨hk, h6⟩]
        have hih : ∀ σ : St Unit, σ.keep ⟨[8, 7, 0, 6, 5], [], [8, 7, 0, 6, 5]⟩ = some (s30 full ((pre.length : Int) + (cur.length : Int) + 1) (pre.length + cur.length + 1) top (out ++ [Bs cur])) → ans Tryz.prog Tryz.f30 [.ro] (Mach.go Z (Z.H 30) ((.lp (lpc Tryz.f30 7)) :: .blk 0 :: r) σ) = r3 (specR top (out ++ [Bs cur]) (cutL [] rest)) := by
          intro σ hσ
          refine ih (pre ++ cur ++ [47]) [] (out ++ [Bs cur]) σ (by rw [hp]; simp) (by simp; omega) ?_
          rw [hσ]
          simp [s30]
          all_goals omega
        unfold okStep stepOk dots at hk
        rw [Bs_toList, Bool.or_eq_true, decide_eq_true_eq] at hk
        by_cases hd : cur = [46, 46]
        · have hdb : (cur != [46, 46]) = false := by simp [hd]
          simp [s30, dots_l, encS, Bs_size, Bs_toList, hnb, ex, h60, a0, a1, a2, a3, a4, a5, b1, b2, h6', hby, hdb]
          refine hih _ ?_
          simp [s30, row_oneS, row_app]
        · have hnm : nm (Bs cur) = true := hk.resolve_left hd
          have hd' : (cur != [46, 46]) = true := by simp [hd]
          simp [s30, dots_l, encS, Bs_size, Bs_toList, hnb, ex, h60, hnm, a0, a1, a2, a3, a4, a5, b1, b2, h6', hby, hd, hd']
          refine hih _ ?_
          simp [s30, row_oneS, row_app]
      · have h6' : (6 : Int) ≤ (out.length : Int) := by omega
        rw [specR_1, if_neg (fun q => h6 q.2)]
        unfold okStep stepOk dots at hk
        rw [Bs_toList, Bool.or_eq_true, decide_eq_true_eq] at hk
        by_cases hd : cur = [46, 46]
        · have hdb : (cur != [46, 46]) = false := by simp [hd]
          simp [s30, dots_l, encS, Bs_size, Bs_toList, hnb, ex, h60, a0, a1, a2, a3, a4, a5, b1, b2, h6', hby, hdb]
          all_goals rfl
        · have hnm : nm (Bs cur) = true := hk.resolve_left hd
          have hd' : (cur != [46, 46]) = true := by simp [hd]
          simp [s30, dots_l, encS, Bs_size, Bs_toList, hnb, ex, h60, hnm, a0, a1, a2, a3, a4, a5, b1, b2, h6', hby, hd, hd']
          all_goals rfl
    · rw [specR_1, if_neg (fun q => hk q.1)]
      unfold okStep stepOk dots at hk
      rw [Bs_toList, Bool.or_eq_true, decide_eq_true_eq, not_or] at hk
      have hd' : (cur != [46, 46]) = true := by simp [hk.1]
      have hnm : nm (Bs cur) = false := by simpa using hk.2
      by_cases h6' : (6 : Int) ≤ (out.length : Int)
      · simp [s30, dots_l, encS, Bs_size, Bs_toList, hnb, ex, h60, hnm, a0, a1, a2, a3, a4, a5, b1, b2, h6', hby, hk.1, hd']
        all_goals rfl
      · simp [s30, dots_l, encS, Bs_size, Bs_toList, hnb, ex, h60, hnm, a0, a1, a2, a3, a4, a5, b1, b2, h6', hby, hk.1, hd']
        all_goals rfl
theorem pathR_spec (l : List UInt8) (h : restL l ≠ []) : specR (topL l) [] (cutL [] (restL l)) = pathR l := by
  rw [specR_eq _ _ _ (by simp)]
  unfold pathR
  rw [if_neg h]
  simp
theorem row_nil {α : Type} (en : α → List (C Unit)) : row en [] = [] := rfl
theorem ev30z (top : Bool) (r : List It)
    (hr : ∀ (out : List ByteArray) (σ : St Unit), σ = ⟨67, [(6, .one (.bool top)), (5, .one (.ref () ⟨5, 0, []⟩))], [(5, [.own () .sl 9 (row encS out)])]⟩ → ans Tryz.prog Tryz.f30 [.ro] (Mach.go Z (Z.H 30) r σ) = r3 (top, out, true)) (σ : St Unit)
    (hσ : σ.keep ⟨[8, 7, 0, 6, 5], [], [8, 7, 0, 6, 5]⟩ = some (s30 [] 0 0 top [])) :
      ans Tryz.prog Tryz.f30 [.ro] (Mach.go Z (Z.H 30) ((.lp (lpc Tryz.f30 7)) :: .blk 0 :: r) σ) = r3 (top, [], true) := by
  have hb : lpc Tryz.f30 7 = lpc Tryz.f30 7 := rfl
  conv at hb => rhs; simp only [lpc, bodyOf, Tryz.f30, nthLoop, headId, if_true, if_false, reduceIte, Nat.reduceEqDiff]
  have hc := fun r σ => congrArg (fun c => Mach.go Z (Z.H 30) (.code c :: r) σ) hb
  clear hb
  have hz : (Bs []).size = 0 := rfl
  rw [go_lp, b30_7, L30_7, hσ, nx_, hc]
  simp [s30, hz, Bs_toList]
  exact hr [] _ rfl
theorem fn30 (l : List UInt8) (hn : l.length ≤ 1048576) : Fn Z 30 [.one (.str (Bs l))] = r3 (pathR l) := by
  have hrl := restL_le l
  cases l with
  | nil =>
    have hz : (Bs []).size = 0 := rfl
    have e : pathR [] = (false, [], true) := rfl
    rw [e]
    refine Fn_ans Z rfl Tryz.func30 rfl K30 ?_
    rw [ZP, M30, nt30]
    have hb : bodyOf Tryz.f30 = bodyOf Tryz.f30 := rfl
    conv at hb => rhs; simp only [bodyOf, Tryz.f30]
    have hb7 : lpc Tryz.f30 7 = lpc Tryz.f30 7 := rfl
    conv at hb7 => rhs; simp only [lpc, bodyOf, Tryz.f30, nthLoop, headId, if_true, if_false, reduceIte, Nat.reduceEqDiff]
    rw [← hb7] at hb
    rw [hb]
    clear hb hb7
    simp [Bs_size]
    refine ev30z false _ (fun out σ hσ => ?_) _ ?_
    · subst hσ
      simp [r3]
    · simp [s30, row_nil]
  | cons b t =>
    have hby : byteAt (Bs (b :: t)) 0 = (b.toNat : Int) := by8_at (b :: t) [] t b rfl
    have h0 : (0 : Int) < (t.length : Int) + 1 := by omega
    have h1 : (1 : Int) ≤ (t.length : Int) + 1 := by omega
    have h2 : ((t.length : Int) + 1).toNat = t.length + 1 := by omega
    by_cases h47 : b = 47
    · have hb' : (b.toNat : Int) = 47 := by rw [h47]; rfl
      have ht : topL (b :: t) = true := by simp [topL, h47]
      have hr : restL (b :: t) = t := by simp [restL, h47]
      have he : (Bs (b :: t)).extract 1 (t.length + 1) = Bs t := ex2 b t
      by_cases hnil : t = []
      · have e : pathR (b :: t) = (true, [], true) := by unfold pathR; rw [hr, if_pos hnil, ht]
        rw [e]
        refine Fn_ans Z rfl Tryz.func30 rfl K30 ?_
        rw [ZP, M30, nt30]
        have hb : bodyOf Tryz.f30 = bodyOf Tryz.f30 := rfl
        conv at hb => rhs; simp only [bodyOf, Tryz.f30]
        have hb7 : lpc Tryz.f30 7 = lpc Tryz.f30 7 := rfl
        conv at hb7 => rhs; simp only [lpc, bodyOf, Tryz.f30, nthLoop, headId, if_true, if_false, reduceIte, Nat.reduceEqDiff]
        rw [← hb7] at hb
        rw [hb]
        clear hb hb7
        simp [Bs_size, h0, h1, h2, hby, hb', he]
        refine ev30z true _ (fun out σ hσ => ?_) _ ?_
        · subst hσ
          simp [r3]
        · simp [s30, row_nil, hnil]
      · rw [← pathR_spec (b :: t) (by rw [hr]; exact hnil), ht, hr]
        refine Fn_ans Z rfl Tryz.func30 rfl K30 ?_
        rw [ZP, M30, nt30]
        have hb : bodyOf Tryz.f30 = bodyOf Tryz.f30 := rfl
        conv at hb => rhs; simp only [bodyOf, Tryz.f30]
        have hb7 : lpc Tryz.f30 7 = lpc Tryz.f30 7 := rfl
        conv at hb7 => rhs; simp only [lpc, bodyOf, Tryz.f30, nthLoop, headId, if_true, if_false, reduceIte, Nat.reduceEqDiff]
        rw [← hb7] at hb
        rw [hb]
        clear hb hb7
        simp [Bs_size, h0, h1, h2, hby, hb', he]
        refine ev30 t (by simp at hn; omega) hnil true _ (fun out σ hσ => ?_) t [] [] [] _ (by simp) (by simp) ?_
        · subst hσ
          simp [r3]
        · simp [s30, row_nil]
    · have hb' : ¬ (b.toNat : Int) = 47 := by
        intro e
        apply h47
        have : b.toNat = 47 := by omega
        exact UInt8.toNat.inj (by rw [this]; rfl)
      have ht : topL (b :: t) = false := by simp [topL, h47]
      have hr : restL (b :: t) = b :: t := by simp [restL, h47]
      rw [← pathR_spec (b :: t) (by rw [hr]; simp), ht, hr]
      refine Fn_ans Z rfl Tryz.func30 rfl K30 ?_
      rw [ZP, M30, nt30]
      have hb : bodyOf Tryz.f30 = bodyOf Tryz.f30 := rfl
      conv at hb => rhs; simp only [bodyOf, Tryz.f30]
      have hb7 : lpc Tryz.f30 7 = lpc Tryz.f30 7 := rfl
      conv at hb7 => rhs; simp only [lpc, bodyOf, Tryz.f30, nthLoop, headId, if_true, if_false, reduceIte, Nat.reduceEqDiff]
      rw [← hb7] at hb
      rw [hb]
      clear hb hb7
      simp [Bs_size, h0, hby, hb']
      refine ev30 (b :: t) hn (by simp) false _ (fun out σ hσ => ?_) (b :: t) [] [] [] _ (by simp) (by simp) ?_
      · subst hσ
        simp [r3]
      · simp [s30, row_nil]
end Go.Mach.Fv
