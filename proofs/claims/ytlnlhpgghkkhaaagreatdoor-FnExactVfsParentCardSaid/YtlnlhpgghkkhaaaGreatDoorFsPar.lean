/- The folder of a path's last step; the law of it. -/
import Derived.Test.YtlnlhpgghkkhaaaGreatDoorFsLaw
open Go Go.Mach Go.Mach.Fv Go.Proofs
set_option maxRecDepth 100000
set_option maxHeartbeats 16000000
set_option linter.unusedVariables false
set_option linter.unusedSimpArgs false
namespace Go.Mach.Fv
theorem walkL_ok {v : Vfs} (g : Good v) {c : Cred} : ∀ (l : List ByteArray) (p : Place), placeOk v p = true → (walkL v c p l).2 = 0 → placeOk v (walkL v c p l).1 = true
  | [], p, hp, _ => hp
  | s :: r, p, hp, h => by
    rw [walkL_cons] at h ⊢
    by_cases h2 : (step v c p s).2 = 0
    · rw [if_pos h2] at h ⊢
      exact walkL_ok g r _ (step_ok g hp s h2) h
    · rw [if_neg h2] at h
      exact absurd h h2
theorem walk_ok {v : Vfs} (g : Good v) {c : Cred} {p : Place} (hp : placeOk v p = true) {top : Bool} {l : List ByteArray} (h : (walk v c p top l).2 = 0) : placeOk v (walk v c p top l).1 = true := by
  refine walkL_ok g l _ (down_ok g ?_) h
  cases top
  · exact hp
  · exact zero_ok g
def lastS (st : List ByteArray) : ByteArray := el st ((st.length - 1 : Nat) : Int)
def parL (v : Vfs) (c : Cred) (p : Place) (top : Bool) (st : List ByteArray) : Place × ByteArray × Int :=
  if st.length = 0 ∨ (lastS st).toList = dots then (⟨0, 0⟩, ⟨#[]⟩, 6) else
    let w := walk v c p top (st.take (st.length - 1))
    if w.2 = 0 then (if (N (F v w.1.fs) w.1.id).kind = 2 then (w.1, lastS st, 0) else (⟨0, 0⟩, ⟨#[]⟩, 4)) else (⟨0, 0⟩, ⟨#[]⟩, w.2)
def parR (v : Vfs) (c : Cred) (p : Place) (l : List UInt8) : Place × ByteArray × Int :=
  if (pathR l).2.2 = true ∧ vfsOk v = true ∧ credOk c = true ∧ placeOk v p = true then parL v c p (pathR l).1 (pathR l).2.1 else (⟨0, 0⟩, ⟨#[]⟩, 1)
def rq (r : Place × ByteArray × Int) : Option Ret := some ⟨[(true, [.int .i64 r.1.fs, .int .i64 r.1.id]), (false, [.str r.2.1]), (false, [.int .i64 r.2.2])], []⟩
theorem row_take {α : Type} (en : α → List (C Unit)) (xs : List α) (k : Nat) : (row en xs).take k = row en (xs.take k) := by simp only [row, List.map_take]
theorem fn56 (v : Vfs) (c : Cred) (R : Rdy v c) (p : Place) (hp : placeOk v p = true) (l : List UInt8) (hn : l.length ≤ 1048576) :
    Fn Z 56 [.agg [.ro () 65 (row (encF 62 114 true) v.fss), .int .i64 v.mount], .agg [.int .i64 c.user, .int .i64 c.real, .ro () 3 (row encI c.groups)], .agg [.int .i64 p.fs, .int .i64 p.id], .one (.str (Bs l))] = rq (if (pathR l).2.2 = true then parL v c p (pathR l).1 (pathR l).2.1 else (⟨0, 0⟩, ⟨#[]⟩, 1)) := by
  have h30 := fn30 l hn
  have hlen := path_len l hn
  unfold r3 at h30
  generalize hr : pathR l = r at *
  obtain ⟨top, st, ok⟩ := r
  simp only at h30 hlen ⊢
  refine Fn_ans Z rfl Tryz.func56 rfl K56 ?_
  rw [ZP, M56, nt56]
  have hb : bodyOf Tryz.f56 = bodyOf Tryz.f56 := rfl
  conv at hb => rhs; simp only [bodyOf, Tryz.f56]
  rw [hb]
  clear hb 
  cases ok with
  | false => simp [rq, h30]
  | true =>
    rw [if_pos rfl]
    unfold parL
    by_cases h0 : st.length = 0
    · have h0' : st = [] := List.length_eq_zero_iff.1 h0
      rw [if_pos (.inl h0)]
      subst h0'
      simp [rq, h30, row_nil]
    have a0 : ¬ (st.length : Int) = 0 := by omega
    have a1 : IntKind.i64.wrap ((st.length : Int) - 1) = (st.length : Int) - 1 := wrap_in (by omega) (by omega)
    have a2 : ((st.length : Int) - 1).toNat = st.length - 1 := by omega
    have a3 : (1 : Int) ≤ st.length := by omega
    have a4 : (st.length : Int) - 1 < st.length := by omega
    have a5 : (st.length : Int) - 1 ≤ st.length := by omega
    have a6 : ¬ (st.length : Int) - 1 = st.length := by omega
    have a7 : st.length - 1 ≤ st.length := by omega
    have a8 : st.length - 1 < st.length := by omega
    have hel : el st ((st.length : Int) - 1) = lastS st := by
      unfold lastS
      congr 1
      omega
    have hel2 : el st ((st.length - 1 : Nat) : Int) = lastS st := rfl
    by_cases hd : (lastS st).toList = dots
    · rw [if_pos (.inr hd)]
      unfold dots at hd
      simp [rq, encS, dots_l, h30, h0, a0, a1, a2, a3, a4, a8, hel, hel2, hd]
    rw [if_neg (by simp [h0, hd])]
    unfold dots at hd
    have h34 := fn34 v c R p hp top (st.take (st.length - 1)) (by rw [List.length_take]; omega)
    unfold rp at h34
    simp only
    have hw2 := fun h => walk_ok R.g (c := c) hp (top := top) (l := st.take (st.length - 1)) h
    generalize walk v c p top (st.take (st.length - 1)) = w at *
    by_cases h1 : w.2 = 0
    · obtain ⟨hf, hid, hk⟩ := placeOk_iff.1 (hw2 h1)
      have hl2 := R.g.len
      have hl10 := (R.g.fit w.1.fs hf.1 hf.2).len
      have b1 : w.1.fs < 2 := by omega
      have b2 : w.1.id < 10 := by omega
      rw [if_pos h1]
      rw [h1] at h34
      by_cases h2 : (N (F v w.1.fs) w.1.id).kind = 2
      · rw [if_pos h2]
        simp [rq, encS, dots_l, h30, h0, a0, a1, a2, a3, a4, a5, a6, a7, a8, hel, hel2, hd, row_take, h34, hl2, hf.1, b1, hl10, hid.1, b2, eq_true h2]
      · rw [if_neg h2]
        simp [rq, encS, dots_l, h30, h0, a0, a1, a2, a3, a4, a5, a6, a7, a8, hel, hel2, hd, row_take, h34, hl2, hf.1, b1, hl10, hid.1, b2, h2]
    · rw [if_neg h1]
      simp [rq, encS, dots_l, h30, h0, a0, a1, a2, a3, a4, a5, a6, a7, a8, hel, hel2, hd, row_take, h34, h1]
theorem fn24 (v : Vfs) (hO : OkV 1048576 v) (c : Cred) (hg : c.groups.length ≤ 1048576) (p : Place) (l : List UInt8) (hn : l.length ≤ 1048576) : Fn Z 24 [.agg [.ro () 65 (row (encF 62 114 true) v.fss), .int .i64 v.mount], .agg [.int .i64 c.user, .int .i64 c.real, .ro () 3 (row encI c.groups)], .agg [.int .i64 p.fs, .int .i64 p.id], .one (.str (Bs l))] = rq (parR v c p l) := by
  have h31 := fn31 v hO
  have h32 := fn32 c (by omega)
  unfold parR
  refine Fn_ans Z rfl Tryz.func24 rfl K24 ?_
  rw [ZP, M24, nt24]
  have hb : bodyOf Tryz.f24 = bodyOf Tryz.f24 := rfl
  conv at hb => rhs; simp only [bodyOf, Tryz.f24]
  rw [hb]
  clear hb 
  by_cases h1 : vfsOk v = true
  rotate_left 1
  · simp [rq, h31, h1]
  by_cases h2 : credOk c = true
  rotate_left 1
  · simp [rq, h31, h1, h32, h2]
  have h33 := fn33 v p (good_l2 (good h1))
  by_cases h3 : placeOk v p = true
  rotate_left 1
  · simp [rq, h31, h1, h32, h2, h33, h3]
  have h56 := fn56 v c ⟨good h1, hO, h2⟩ p h3 l hn
  have hy : (if (pathR l).2.2 = true ∧ vfsOk v = true ∧ credOk c = true ∧ placeOk v p = true then parL v c p (pathR l).1 (pathR l).2.1 else (⟨0, 0⟩, ⟨#[]⟩, 1)) = (if (pathR l).2.2 = true then parL v c p (pathR l).1 (pathR l).2.1 else (⟨0, 0⟩, ⟨#[]⟩, 1)) := by simp [h1, h2, h3]
  rw [hy]
  generalize (if (pathR l).2.2 = true then parL v c p (pathR l).1 (pathR l).2.1 else (⟨0, 0⟩, ⟨#[]⟩, 1)) = x at *
  unfold rq at h56
  simp [rq, h31, h1, h32, h2, h33, h3, h56]
theorem fn25 (v : Vfs) (hO : OkV 1048576 v) (c : Cred) (hg : c.groups.length ≤ 1048576) (p : Place) (l : List UInt8) (hn : l.length ≤ 1048576) : Fn Z 25 [.agg [.ro () 65 (row (encF 62 114 true) v.fss), .int .i64 v.mount], .agg [.int .i64 c.user, .int .i64 c.real, .ro () 3 (row encI c.groups)], .agg [.int .i64 p.fs, .int .i64 p.id], .one (.str (Bs l))] = rq (parR v c p l) := by
  have h30 := fn23 l hn
  have h31 := fn37 v hO
  have h32 := fn38 c (by omega)
  have hlen := path_len l hn
  have hstep := path_ok l
  unfold r3 at h30
  unfold parR
  generalize hr : pathR l = r at *
  obtain ⟨top, st, ok⟩ := r
  simp only at h30 hlen hstep ⊢
  refine Fn_ans Z rfl Tryz.func25 rfl K25 ?_
  rw [ZP, M25, nt25]
  have hb : bodyOf Tryz.f25 = bodyOf Tryz.f25 := rfl
  conv at hb => rhs; simp only [bodyOf, Tryz.f25]
  rw [hb]
  clear hb 
  cases ok with
  | false => simp [rq, h30]
  | true =>
    by_cases h1 : vfsOk v = true
    rotate_left 1
    · simp [rq, h30, h31, h1]
    by_cases h2 : credOk c = true
    rotate_left 1
    · simp [rq, h30, h31, h1, h32, h2]
    have h33 := fn39 v p (good_l2 (good h1))
    by_cases h3 : placeOk v p = true
    rotate_left 1
    · simp [rq, h30, h31, h1, h32, h2, h33, h3]
    rw [if_pos ⟨rfl, h1, h2, h3⟩]
    have R : Rdy v c := ⟨good h1, hO, h2⟩
    unfold parL
    by_cases h0 : st.length = 0
    · have h0' : st = [] := List.length_eq_zero_iff.1 h0
      rw [if_pos (.inl h0)]
      subst h0'
      have hm : IntKind.i64.wrap (-1) = -1 := by decide
      simp [rq, h30, h31, h1, h32, h2, h33, h3, row_nil, hm]
    have a0 : ¬ (st.length : Int) = 0 := by omega
    have a1 : IntKind.i64.wrap ((st.length : Int) - 1) = (st.length : Int) - 1 := wrap_in (by omega) (by omega)
    have a2 : ((st.length : Int) - 1).toNat = st.length - 1 := by omega
    have a3 : (1 : Int) ≤ st.length := by omega
    have a4 : (st.length : Int) - 1 < st.length := by omega
    have a5 : (st.length : Int) - 1 ≤ st.length := by omega
    have a6 : ¬ (st.length : Int) - 1 = st.length := by omega
    have a7 : st.length - 1 ≤ st.length := by omega
    have a8 : st.length - 1 < st.length := by omega
    have a9 : ¬ (st.length : Int) - 1 < 0 := by omega
    have hel : el st ((st.length : Int) - 1) = lastS st := by
      unfold lastS
      congr 1
      omega
    have hel2 : el st ((st.length - 1 : Nat) : Int) = lastS st := rfl
    by_cases hd : (lastS st).toList = dots
    · rw [if_pos (.inr hd)]
      unfold dots at hd
      simp [rq, encS, dots_l, h30, h31, h1, h32, h2, h33, h3, h0, a0, a1, a2, a3, a4, a8, a9, hel, hel2, hd]
    rw [if_neg (by simp [h0, hd])]
    unfold dots at hd
    have hst' : ∀ j : Nat, j < (st.take (st.length - 1)).length → stepOk (el (st.take (st.length - 1)) j) = true := by
      intro j hj
      rw [List.length_take] at hj
      have e : el (st.take (st.length - 1)) j = el st j := by
        simp only [el, List.getD_eq_getElem?_getD, Int.toNat_natCast]
        rw [List.getElem?_take_of_lt (by omega)]
      rw [e]
      exact hstep j (by omega)
    have h34 := fn40 v c R p h3 top (st.take (st.length - 1)) (by rw [List.length_take]; omega) hst'
    unfold rp at h34
    simp only
    have hw2 := fun h => walk_ok R.g (c := c) h3 (top := top) (l := st.take (st.length - 1)) h
    generalize walk v c p top (st.take (st.length - 1)) = w at *
    by_cases h4 : w.2 = 0
    · have h46 := fn46 v w.1 (good_l2 R.g) (hw2 h4)
      rw [if_pos h4]
      rw [h4] at h34
      by_cases h5 : (N (F v w.1.fs) w.1.id).kind = 2
      · rw [if_pos h5]
        rw [h5] at h46
        simp [rq, encS, dots_l, h30, h31, h1, h32, h2, h33, h3, h0, a0, a1, a2, a3, a4, a5, a6, a7, a8, a9, hel, hel2, hd, row_take, h34, h46]
      · rw [if_neg h5]
        simp [rq, encS, dots_l, h30, h31, h1, h32, h2, h33, h3, h0, a0, a1, a2, a3, a4, a5, a6, a7, a8, a9, hel, hel2, hd, row_take, h34, h46, h5]
    · rw [if_neg h4]
      simp [rq, encS, dots_l, h30, h31, h1, h32, h2, h33, h3, h0, a0, a1, a2, a3, a4, a5, a6, a7, a8, a9, hel, hel2, hd, row_take, h34, h4]
theorem fn5 (v : Vfs) (hv : OkV BG v) (c : Cred) (hc : c.groups.length ≤ BG) (p : Place) (s : ByteArray) (hs : s.size ≤ 140737488351232) :
    Fn Z 5 [.agg [.ro () 96 (row (encF 144 178 false) v.fss), .int .i64 v.mount], .agg [.int .i64 c.user, .int .i64 c.real, .ro () 3 (row encI c.groups)], .agg [.int .i64 p.fs, .int .i64 p.id], .one (.str s)] = some ⟨[(false, [.bool true])], []⟩ := by
  have h10 := fn10 v hv 1048576 small_top
  have hd := szV_dn v 1048576
  refine Fn_ans Z rfl Tryz.func5 rfl K5 ?_
  rw [ZP, M5, nt5]
  have hb : bodyOf Tryz.f5 = bodyOf Tryz.f5 := rfl
  conv at hb => rhs; simp only [bodyOf, Tryz.f5]
  rw [hb]
  clear hb 
  by_cases q1 : (1048576 : Int) < s.size
  · simp [q1]
  by_cases q2 : szV v 1048576 < 0
  · simp [q1, h10, q2]
  have hsm : small (szV v 1048576) := by unfold small; omega
  have h11 := fn11 c hc (szV v 1048576) hsm
  by_cases q3 : neg1 (szI c.groups.length (szV v 1048576)) < 0
  · simp [q1, h10, q2, h11, q3]
  have hO : OkV 1048576 v := szV_ok (Int.le_refl _) (by omega)
  have hg : c.groups.length ≤ 1048576 := by
    unfold szI neg1 at q3
    by_cases hx : szV v 1048576 - c.groups.length < 0
    · rw [if_pos hx] at q3; simp at q3
    · omega
  obtain ⟨l, rfl⟩ : ∃ l, s = Bs l := ⟨s.data.toList, (Bs_eta s).symm⟩
  rw [Bs_size] at q1
  have hl : l.length ≤ 1048576 := by omega
  have h13 := fn13 v hO
  have h14 := fn14 c hg
  have h15 := fn15 p
  have h24 := fn24 v hO c hg p l hl
  have h25 := fn25 v hO c hg p l hl
  have h17 := fn17 (parR v c p l).1
  have h18 := fn18 v hO
  have h19 := fn19 c hg
  unfold rq at h24 h25
  generalize parR v c p l = w at *
  simp [Bs_size, q1, h10, q2, h11, q3, h13, h14, h15, h24, h25, h17, h18, h19]
end Go.Mach.Fv
