/- One step of a walk: the program's and the reference's. -/
import Derived.Test.YtlnlhpgghkkhaaaGreatDoorFsR2
open Go Go.Mach Go.Mach.Fv Go.Proofs
set_option maxRecDepth 100000
set_option maxHeartbeats 8000000
set_option linter.unusedVariables false
set_option linter.unusedSimpArgs false
namespace Go.Mach.Fv
structure Rdy (v : Vfs) (c : Cred) : Prop where
  g : Good v
  o : OkV 1048576 v
  c : credOk c = true
theorem Rdy.gl {v c} (h : Rdy v c) : c.groups.length ≤ 3 := by
  have := h.c
  simp only [credOk, Bool.and_eq_true, decide_eq_true_eq] at this
  exact this.2
theorem Rdy.of {v c} (h : Rdy v c) {i : Int} (h0 : 0 ≤ i) (h1 : i ≤ 1) : OkF 1048576 (F v i) := by
  have := h.o.2 i.toNat (by rw [h.g.len]; omega)
  rwa [Int.toNat_of_nonneg h0] at this
structure NodeOk (n : Inode) : Prop where
  m : inR n.mode 0 511 = true
  ow : inR n.owner 0 9 = true
  gr : inR n.group 0 9 = true
  l : n.names.length ≤ 6
  s : ∀ j, j + 1 < n.names.length → lt (nE n j).name (nE n (j + 1)).name = true
theorem node_ok {f : Fs} (h : Fit f) {id : Int} (h0 : 0 ≤ id) (h9 : id ≤ 9) (hk : ¬ (N f id).kind = 0) : NodeOk (N f id) := by
  have hn := h.nod id.toNat (by omega)
  rw [Int.toNat_of_nonneg h0] at hn
  have hl := nod6 hn
  unfold nodS at hn
  rw [if_neg hk] at hn
  simp only [Bool.and_eq_true] at hn
  refine ⟨hn.1.1.1.1.1.1.1.1.1.2, hn.1.1.1.1.1.1.1.1.2, hn.1.1.1.1.1.1.1.2, hl, fun j hj => ?_⟩
  have := all0.1 hn.2 (j + 1) hj
  simp only [entS, Bool.and_eq_true, Bool.or_eq_true, decide_eq_true_eq] at this
  rcases this.2 with h | h
  · omega
  · simpa using h
theorem fn111 (f : Fs) (hO : OkF 1048576 f) (h : Fit f) (c : Cred) (hc : credOk c = true) (hg : c.groups.length ≤ 3) (id : Int) (hi : nodeOk f id = true) : Fn Z 111 [.agg [.ro () 62 (row (encN 114 true) f)], .agg [.int .i64 c.user, .int .i64 c.real, .ro () 3 (row encI c.groups)], .one (.ro () 3 [[.int .i64 id]])] = some ⟨[(false, [.bool true])], []⟩ := by
  have h68 := fn68 f hO
  rw [fit_okI h] at h68
  have h38 := fn38 c (by omega)
  rw [hc] at h38
  have h71 := fn71 f hO.1 id
  rw [hi] at h71
  refine Fn_ans Z rfl Tryz.func111 rfl K111 ?_
  rw [ZP, M111, nt111]
  have hb : bodyOf Tryz.f111 = bodyOf Tryz.f111 := rfl
  conv at hb => rhs; simp only [bodyOf, Tryz.f111]
  rw [hb]
  clear hb 
  simp [h68, h38]
  rw [go_lp]
  simp [headId, L111_4, h71, w1]
  rw [go_lp]
  simp [headId, L111_4]
theorem fn92 (f : Fs) (hO : OkF 1048576 f) (h : Fit f) (c : Cred) (hc : credOk c = true) (hg : c.groups.length ≤ 3) (id : Int) (h0 : 0 ≤ id) (h9 : id ≤ 9) (hk : ¬ (N f id).kind = 0) (s : ByteArray) (hs : nm s = true) :
    Fn Z 92 [.agg [.ro () 62 (row (encN 114 true) f)], .agg [.int .i64 c.user, .int .i64 c.real, .ro () 3 (row encI c.groups)], .one (.int .i64 (id)), .one (.str s)] = some ⟨[(false, [.int .i64 (lookF f c id s).1]), (false, [.int .i64 (lookF f c id s).2])], []⟩ := by
  have hn := node_ok h h0 h9 hk
  have hl := h.len
  have hi : nodeOk f id = true := by
    unfold nodeOk
    rw [hl, Bool.and_eq_true, inR_iff]
    exact ⟨⟨h0, by omega⟩, by simpa using hk⟩
  have h111 := fn111 f hO h c hc hg id hi
  have h55 := fn55 s
  rw [hs] at h55
  have h93 := fn93 (N f id) c (by omega) hc hn.ow hn.gr hn.m
  have h112 := fn112 (N f id) s (by have := hn.l; omega)
  have hb := bsr_at (s := s) hn.s (N f id).names.length (Nat.le_refl _)
  have g1 : id < 10 := by omega
  unfold lookF
  refine Fn_ans Z rfl Tryz.func92 rfl K92 ?_
  rw [ZP, M92, nt92]
  have hb : bodyOf Tryz.f92 = bodyOf Tryz.f92 := rfl
  conv at hb => rhs; simp only [bodyOf, Tryz.f92]
  rw [hb]
  clear hb 
  by_cases q0 : (N f id).kind = 2
  rotate_left 1
  · simp [hl, h111, h55, h0, g1, q0]
  by_cases q1 : mayX c (N f id) = false
  · simp [hl, h111, h55, h0, g1, eq_true q0, h93, q1]
  have q1' : mayX c (N f id) = true := by simpa using q1
  rcases hb with ⟨b1, b2, b3⟩ | ⟨b1, b2⟩
  · change bsN (N f id) s < _ at b1
    change cN (N f id) s (bsN (N f id) s) = 0 at b2
    change atN (N f id) s = (bsN (N f id) s : Nat) at b3
    have e : (decide (bsN (N f id) s < (N f id).names.length) && decide (cN (N f id) s (bsN (N f id) s) = 0)) = true := by simp [b1, b2]
    rw [e] at h112
    have q2 : ¬ atN (N f id) s < 0 := by omega
    have q3 : (atN (N f id) s).toNat = bsN (N f id) s := by omega
    simp [hl, h111, h55, h0, g1, eq_true q0, h93, q1', h112, b1, q2, q3]
  · have e : (decide (bsN (N f id) s < (N f id).names.length) && decide (cN (N f id) s (bsN (N f id) s) = 0)) = false := by
      rw [← Bool.not_eq_true, Bool.and_eq_true, decide_eq_true_eq, decide_eq_true_eq]
      rintro ⟨x1, x2⟩
      rcases b1 with b1 | b1
      · exact b1 x1
      · exact b1 x2
    rw [e] at h112
    have q2 : atN (N f id) s < 0 := by omega
    simp [hl, h111, h55, h0, g1, eq_true q0, h93, q1', h112, q2]
end Go.Mach.Fv
