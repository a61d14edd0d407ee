/- One step of a walk, both ways. -/
import Derived.Test.YtlnlhpgghkkhaaaGreatDoorFsG
open Go Go.Mach Go.Mach.Fv Go.Proofs
set_option maxRecDepth 100000
set_option maxHeartbeats 8000000
set_option linter.unusedVariables false
set_option linter.unusedSimpArgs false
namespace Go.Mach.Fv
theorem names6 {v : Vfs} (g : Good v) (a : Int) (i : Nat) (h0 : 0 ≤ a) (h1 : a ≤ 1) (hi : i < 10) : (N (F v a) i).names.length ≤ 1000000 := by
  have := nod6 ((g.fit a h0 h1).nod i hi)
  omega
theorem step_eq (v : Vfs) (c : Cred) (p : Place) (s : ByteArray) : step v c p s = (if ¬ (N (F v p.fs) p.id).kind = 2 then (⟨0, 0⟩, 4) else if mayX c (N (F v p.fs) p.id) = false then (⟨0, 0⟩, 5) else
    if s.toList = dots then (down v (up v p), 0) else if atN (N (F v p.fs) p.id) s < 0 then (⟨0, 0⟩, 2) else (down v ⟨p.fs, (nE (N (F v p.fs) p.id) (atN (N (F v p.fs) p.id) s).toNat).id⟩, 0)) := rfl
theorem fn66 (v : Vfs) (c : Cred) (R : Rdy v c) (p : Place) (hp : placeOk v p = true) (s : ByteArray) :
    Fn Z 66 [.agg [.ro () 65 (row (encF 62 114 true) v.fss), .int .i64 v.mount], .agg [.int .i64 c.user, .int .i64 c.real, .ro () 3 (row encI c.groups)], .agg [.int .i64 p.fs, .int .i64 p.id], .one (.str s)] = some ⟨[(true, [.int .i64 (step v c p s).1.fs, .int .i64 (step v c p s).1.id]), (false, [.int .i64 (step v c p s).2])], []⟩ := by
  obtain ⟨hf, hid, hk⟩ := placeOk_iff.1 hp
  have hl := R.g.len
  have hfit := R.g.fit p.fs hf.1 hf.2
  have hlen := hfit.len
  have hn := node_ok hfit hid.1 hid.2 hk
  have hgl := R.gl
  have k1 : p.fs < 2 := by omega
  have k2 : p.id < 10 := by omega
  have hin := fn86 (F v p.fs) p.id hid.1 (by omega) c (by omega) hn.m
  have hlo := fn87 (F v p.fs) p.id hid.1 (by omega) c (by omega) hn.m s (by have := hn.l; omega)
  have h49 := fn49 v p (good_l2 R.g) hf.1 hf.2 (fun a i h0 h1 hi => names6 R.g a i h0 h1 hi)
  have h48 := fn48 v (up v p)
  unfold inF at hin
  unfold lookF at hlo
  rw [step_eq]
  unfold dots
  refine Fn_ans Z rfl Tryz.func66 rfl K66 ?_
  rw [ZP, M66, nt66]
  have hb : bodyOf Tryz.f66 = bodyOf Tryz.f66 := rfl
  conv at hb => rhs; simp only [bodyOf, Tryz.f66]
  rw [hb]
  clear hb 
  by_cases hd : s.toList = [46, 46]
  · have hdb : (s.toList == [46, 46]) = true := by simp [hd]
    by_cases q0 : (N (F v p.fs) p.id).kind = 2
    rotate_left 1
    · rw [if_pos q0] at hin
      rw [if_pos q0]
      simp [dots_l, hd, hl, hf.1, k1, hin]
    rw [if_neg (by simp [q0])] at hin
    rw [if_neg (by simp [q0])]
    by_cases q1 : mayX c (N (F v p.fs) p.id) = false
    · rw [if_pos q1] at hin
      rw [if_pos q1]
      simp [dots_l, hd, hl, hf.1, k1, hin]
    · rw [if_neg q1] at hin
      rw [if_neg q1, if_pos hd]
      simp [dots_l, hd, hl, hf.1, k1, hin, h49, h48]
  · by_cases q0 : (N (F v p.fs) p.id).kind = 2
    rotate_left 1
    · simp only [q0, not_false_eq_true, if_true] at hlo
      rw [if_pos q0]
      simp [dots_l, hd, hl, hf.1, k1, hlo]
    simp only [q0, not_true_eq_false, if_false] at hlo
    rw [if_neg (by simp [q0])]
    by_cases q1 : mayX c (N (F v p.fs) p.id) = false
    · rw [if_pos q1] at hlo
      rw [if_pos q1]
      simp [dots_l, hd, hl, hf.1, k1, hlo]
    rw [if_neg q1] at hlo
    rw [if_neg q1, if_neg hd]
    by_cases q2 : atN (N (F v p.fs) p.id) s < 0
    · rw [if_pos q2] at hlo
      rw [if_pos q2]
      simp [dots_l, hd, hl, hf.1, k1, hlo]
    · rw [if_neg q2] at hlo
      rw [if_neg q2]
      have h48' := fn48 v ⟨p.fs, (nE (N (F v p.fs) p.id) (atN (N (F v p.fs) p.id) s).toNat).id⟩
      simp [dots_l, hd, hl, hf.1, k1, hlo, h48']
theorem parS_ok {f : Fs} (h : Fit f) {id : Int} (h0 : 0 < id) (h9 : id ≤ 9) (hk : (N f id).kind = 2) : (parS f id 0 f.length).1 = parN f id ∧ 0 ≤ parN f id := by
  have := parN_some h h0 h9 hk
  exact ⟨parS_par f id f.length 0 this, this⟩
theorem fn73 (v : Vfs) (c : Cred) (R : Rdy v c) (p : Place) (hp : placeOk v p = true) (s : ByteArray) (hs : stepOk s = true) :
    Fn Z 73 [.agg [.ro () 65 (row (encF 62 114 true) v.fss), .int .i64 v.mount], .agg [.int .i64 c.user, .int .i64 c.real, .ro () 3 (row encI c.groups)], .agg [.int .i64 p.fs, .int .i64 p.id], .one (.str s)] = some ⟨[(true, [.int .i64 (step v c p s).1.fs, .int .i64 (step v c p s).1.id]), (false, [.int .i64 (step v c p s).2])], []⟩ := by
  obtain ⟨hf, hid, hk⟩ := placeOk_iff.1 hp
  have hl := R.g.len
  have hfit := R.g.fit p.fs hf.1 hf.2
  have hlen := hfit.len
  have hn := node_ok hfit hid.1 hid.2 hk
  have hgl := R.gl
  have k1 : p.fs < 2 := by omega
  have k2 : p.id < 10 := by omega
  have h46 := fn46 v p (good_l2 R.g) hp
  have h93 := fn93 (N (F v p.fs) p.id) c (by omega) R.c hn.ow hn.gr hn.m
  rw [step_eq]
  unfold dots
  refine Fn_ans Z rfl Tryz.func73 rfl K73 ?_
  rw [ZP, M73, nt73]
  have hb : bodyOf Tryz.f73 = bodyOf Tryz.f73 := rfl
  conv at hb => rhs; simp only [bodyOf, Tryz.f73]
  rw [hb]
  clear hb 
  by_cases q0 : (N (F v p.fs) p.id).kind = 2
  rotate_left 1
  · rw [if_pos q0]
    simp [h46, q0]
  rw [if_neg (by simp [q0])]
  by_cases hd : s.toList = [46, 46]
  rotate_left 1
  · have hdb : (s.toList != [46, 46]) = true := by simp [hd]
    have hnm : nm s = true := by
      unfold stepOk dots at hs
      rw [Bool.or_eq_true, decide_eq_true_eq] at hs
      exact hs.resolve_left hd
    have h92 := fn92 (F v p.fs) (R.of hf.1 hf.2) hfit c R.c hgl p.id hid.1 hid.2 hk s hnm
    unfold lookF at h92
    simp only [q0, not_true_eq_false, if_false] at h92
    by_cases q1 : mayX c (N (F v p.fs) p.id) = false
    · rw [if_pos q1] at h92
      rw [if_pos q1]
      simp [h46, eq_true q0, hdb, dots_l, hl, hf.1, k1, h92]
    rw [if_neg q1] at h92
    rw [if_neg q1, if_neg hd]
    by_cases q2 : atN (N (F v p.fs) p.id) s < 0
    · rw [if_pos q2] at h92
      rw [if_pos q2]
      simp [h46, eq_true q0, hdb, dots_l, hl, hf.1, k1, h92]
    · rw [if_neg q2] at h92
      rw [if_neg q2]
      have hmem := (atN_ok q2).2
      have hpos : 0 ≤ (nE (N (F v p.fs) p.id) (atN (N (F v p.fs) p.id) s).toNat).id := by
        have := nodS_ids (f := F v p.fs) (n := N (F v p.fs) p.id) (by have := hfit.nod p.id.toNat (by omega); rwa [Int.toNat_of_nonneg hid.1] at this) _ hmem
        omega
      have h72 := fn72 v ⟨p.fs, (nE (N (F v p.fs) p.id) (atN (N (F v p.fs) p.id) s).toNat).id⟩ R.g.mt.2.2 hpos
      simp [h46, eq_true q0, hdb, dots_l, hl, hf.1, k1, h92, h72]
  have hdb : (s.toList != [46, 46]) = false := by simp [hd]
  by_cases q1 : mayX c (N (F v p.fs) p.id) = false
  · rw [if_pos q1]
    simp [h46, eq_true q0, hdb, dots_l, h93, q1]
  have q1' : mayX c (N (F v p.fs) p.id) = true := by simpa using q1
  rw [if_neg q1, if_pos hd]
  have hmt := R.g.mt
  by_cases e0 : p.id = 0
  · by_cases e1 : p.fs = 0
    · have hup : up v p = p := by unfold up; rw [if_pos e0, if_pos (.inl e1)]
      have h72 := fn72 v p hmt.2.2 hid.1
      have hb : (p.fs == 1 && p.id == 0) = false := by simp [e1]
      rw [hup]
      simp [h46, eq_true q0, hdb, dots_l, h93, q1', hb, eq_true e0, h72]
    · have e1' : p.fs = 1 := by omega
      have hb : (p.fs == 1 && p.id == 0) = true := by simp [e1', e0]
      by_cases e2 : v.mount < 0
      · have hup : up v p = p := by unfold up; rw [if_pos e0, if_pos (.inr e2)]
        have hdn : down v p = p := by unfold down; rw [if_neg (by omega)]
        rw [hup, hdn]
        simp [h46, eq_true q0, hdb, dots_l, h93, q1', hb, e2]
      · have hfit0 := R.g.fit 0 (by omega) (by omega)
        obtain ⟨a1, a2⟩ := parS_ok hfit0 (id := v.mount) (by omega) (by omega) (R.g.fol (by omega))
        have hup : up v p = ⟨0, parN (F v 0) v.mount⟩ := by
          unfold up; rw [if_pos e0, if_neg (by omega)]
          unfold upF; rw [if_pos a2]
        have h47 := fn47 (F v 0) v.mount (by have := hfit0.len; omega) (fun i hi => names6 R.g 0 i (by omega) (by omega) (by have := hfit0.len; omega))
        rw [a1] at h47
        have h72 := fn72 v ⟨0, parN (F v 0) v.mount⟩ hmt.2.2 a2
        have e3 : ¬ v.mount = 0 := hmt.2.2
        rw [hup]
        simp [h46, eq_true q0, hdb, dots_l, h93, q1', hb, e2, hl, e3, h47, h72]
  · obtain ⟨a1, a2⟩ := parS_ok hfit (id := p.id) (by omega) (by omega) q0
    have hup : up v p = ⟨p.fs, parN (F v p.fs) p.id⟩ := by
      unfold up; rw [if_neg e0]
      unfold upF; rw [if_pos a2]
    have h47 := fn47 (F v p.fs) p.id (by omega) (fun i hi => names6 R.g p.fs i hf.1 hf.2 (by omega))
    rw [a1] at h47
    have h72 := fn72 v ⟨p.fs, parN (F v p.fs) p.id⟩ hmt.2.2 a2
    have hb : (p.fs == 1 && p.id == 0) = false := by simp [e0]
    rw [hup]
    simp [h46, eq_true q0, hdb, dots_l, h93, q1', hb, e0, hl, hf.1, k1, h47, h72]
end Go.Mach.Fv
