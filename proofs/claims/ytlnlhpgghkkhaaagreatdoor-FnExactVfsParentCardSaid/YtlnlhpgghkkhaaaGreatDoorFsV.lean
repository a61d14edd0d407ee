/- File systems with a mount: both checks. -/
import Derived.Test.YtlnlhpgghkkhaaaGreatDoorFsM3
open Go Go.Mach Go.Mach.Fv Go.Proofs
set_option maxRecDepth 100000
set_option maxHeartbeats 8000000
set_option linter.unusedVariables false
set_option linter.unusedSimpArgs false
namespace Go.Mach.Fv
theorem okS_len {f : Fs} (h : okS f = true) : f.length = 10 := (okS_fit h).len
theorem okS_opens {f : Fs} (h : okS f = true) : ∀ i : Nat, i < f.length → 0 ≤ (N f i).opens ∧ (N f i).opens ≤ 99 := by
  intro i hi
  have hf := okS_fit h
  have hn := hf.nod i (by rw [hf.len] at hi; exact hi)
  unfold nodS at hn
  split at hn
  · simp only [plain, Bool.and_eq_true, decide_eq_true_eq] at hn
    omega
  · simp only [Bool.and_eq_true, inR_iff] at hn
    omega
theorem vfsOk_eq (v : Vfs) : vfsOk v = (decide (v.fss.length = 2) && okS (F v 0) && okS (F v 1) && inR v.mount (-1) 9 && !decide (v.mount = 0) &&
  (if v.mount < 0 then opensZ (F v 1) else decide ((N (F v 0) v.mount).kind = 2) && decide (0 < (N (F v 0) v.mount).opens))) := rfl
theorem fn31 (v : Vfs) (hO : OkV 1048576 v) : Fn Z 31 [.agg [.ro () 65 (row (encF 62 114 true) v.fss), .int .i64 v.mount]] = some ⟨[(false, [.bool (vfsOk v)])], []⟩ := by
  rw [vfsOk_eq]
  refine Fn_ans Z rfl Tryz.func31 rfl K31 ?_
  rw [ZP, M31, nt31]
  have hb : bodyOf Tryz.f31 = bodyOf Tryz.f31 := rfl
  conv at hb => rhs; simp only [bodyOf, Tryz.f31]
  rw [hb]
  clear hb 
  by_cases hl : v.fss.length = 2
  rotate_left 1
  · have hl' : ¬ (v.fss.length : Int) = 2 := by omega
    simp [hl, hl']
  have o0 : OkF 1048576 (F v 0) := hO.2 0 (by omega)
  have o1 : OkF 1048576 (F v 1) := hO.2 1 (by omega)
  have f0 := fn61 (F v 0) o0
  have f1 := fn61 (F v 1) o1
  by_cases h0 : okS (F v 0) = true
  rotate_left 1
  · simp [hl, f0, h0]
  by_cases h1 : okS (F v 1) = true
  rotate_left 1
  · simp [hl, f0, h0, f1, h1]
  by_cases h2 : inR v.mount (-1) 9 = true
  rotate_left 1
  · simp [hl, f0, h0, f1, h1, fn62, h2]
  by_cases h3 : v.mount = 0
  · simp [hl, f0, h0, f1, h1, fn62, h2, eq_true h3]
  have l0 := okS_len h0
  have l1 := okS_len h1
  by_cases h4 : v.mount < 0
  · have h63 := fn63 (F v 1) (by omega) (okS_opens h1)
    have hz := (sumO_z (F v 1) (fun i hi => (okS_opens h1 i hi).1) (F v 1).length 0 0 (by omega) (by omega)).2
    have hs : decide (sumO (F v 1) 0 (F v 1).length 0 = 0) = opensZ (F v 1) := by
      rw [Bool.eq_iff_iff, decide_eq_true_eq, hz]
      exact ⟨fun h => h.2, fun h => ⟨rfl, h⟩⟩
    simp [hl, f0, h0, f1, h1, fn62, h2, h3, h4, h63, hs]
  · have hm := inR_iff.1 h2
    have g0 : 0 ≤ v.mount := by omega
    have g1 : v.mount < 10 := by omega
    by_cases h5 : (N (F v 0) v.mount).kind = 2
    · simp [hl, f0, h0, f1, h1, fn62, h2, h3, h4, l0, g0, g1, eq_true h5]
    · simp [hl, f0, h0, f1, h1, fn62, h2, h3, h4, l0, g0, g1, h5]
theorem fn37 (v : Vfs) (hO : OkV 1048576 v) : Fn Z 37 [.agg [.ro () 65 (row (encF 62 114 true) v.fss), .int .i64 v.mount]] = some ⟨[(false, [.bool (vfsOk v)])], []⟩ := by
  rw [vfsOk_eq]
  refine Fn_ans Z rfl Tryz.func37 rfl K37 ?_
  rw [ZP, M37, nt37]
  have hb : bodyOf Tryz.f37 = bodyOf Tryz.f37 := rfl
  conv at hb => rhs; simp only [bodyOf, Tryz.f37]
  rw [hb]
  clear hb 
  by_cases hl : v.fss.length = 2
  rotate_left 1
  · have hl' : ¬ (v.fss.length : Int) = 2 := by omega
    simp [hl, hl']
  have o0 : OkF 1048576 (F v 0) := hO.2 0 (by omega)
  have o1 : OkF 1048576 (F v 1) := hO.2 1 (by omega)
  have f0 := fn68 (F v 0) o0
  have f1 := fn68 (F v 1) o1
  rw [ok_eq] at f0 f1
  by_cases h0 : okS (F v 0) = true
  rotate_left 1
  · simp [hl, f0, h0]
  by_cases h1 : okS (F v 1) = true
  rotate_left 1
  · simp [hl, f0, h0, f1, h1]
  have l0 := okS_len h0
  have l1 := okS_len h1
  by_cases h4 : v.mount = -1
  · have h69 := fn69 (F v 1) (by omega)
    rw [opened_z] at h69
    have h5 : v.mount < 0 := by omega
    have h6 : inR v.mount (-1) 9 = true := by rw [h4]; rfl
    have h7 : ¬ v.mount = 0 := by omega
    simp [hl, f0, h0, f1, h1, eq_true h4, h69, h5, h6, h7]
  · by_cases h5 : inR v.mount 1 9 = true
    · have hm := inR_iff.1 h5
      have g0 : 0 ≤ v.mount := by omega
      have g1 : v.mount < 10 := by omega
      have h6 : inR v.mount (-1) 9 = true := inR_iff.2 (by omega)
      have h7 : ¬ v.mount = 0 := by omega
      have h8 : ¬ v.mount < 0 := by omega
      by_cases h9 : (N (F v 0) v.mount).kind = 2
      · simp [hl, f0, h0, f1, h1, fn70, h4, h5, h6, h7, h8, l0, g0, g1, eq_true h9]
      · simp [hl, f0, h0, f1, h1, fn70, h4, h5, h6, h7, h8, l0, g0, g1, h9]
    · have hx : (inR v.mount (-1) 9 && !decide (v.mount = 0)) = false := by
        rw [← Bool.not_eq_true]
        simp only [Bool.and_eq_true, inR_iff, Bool.not_eq_true', decide_eq_false_iff_not] at h5 ⊢
        omega
      have hx2 : ∀ b : Bool, (inR v.mount (-1) 9 && !decide (v.mount = 0) && b) = false := fun b => by rw [hx, Bool.false_and]
      rw [show (decide (v.fss.length = 2) && okS (F v 0) && okS (F v 1) && inR v.mount (-1) 9 && !decide (v.mount = 0) && (if v.mount < 0 then opensZ (F v 1) else decide ((N (F v 0) v.mount).kind = 2) && decide (0 < (N (F v 0) v.mount).opens))) = false by
        simp only [Bool.and_assoc] at hx2 ⊢
        rw [hx2]; simp]
      simp [hl, f0, h0, f1, h1, fn70, h4, h5]
theorem good_l2 {v : Vfs} (g : Good v) : L2 v := ⟨g.len, fun i h0 h1 => (g.fit i h0 h1).len⟩
end Go.Mach.Fv
