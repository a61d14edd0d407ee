/- A walk by a path; the law of walks. -/
import Derived.Test.YtlnlhpgghkkhaaaGreatDoorFsH
import Derived.Test.YtlnlhpgghkkhaaaGreatDoorFsO2
open Go Go.Mach Go.Mach.Fv Go.Proofs
set_option maxRecDepth 100000
set_option maxHeartbeats 8000000
set_option linter.unusedVariables false
set_option linter.unusedSimpArgs false
namespace Go.Mach.Fv
def walkR (v : Vfs) (c : Cred) (p : Place) (l : List UInt8) : Place × Int :=
  if (pathR l).2.2 = true ∧ vfsOk v = true ∧ credOk c = true ∧ placeOk v p = true then walk v c p (pathR l).1 (pathR l).2.1 else (⟨0, 0⟩, 1)
theorem path_len (l : List UInt8) (hn : l.length ≤ 1048576) : (pathR l).2.1.length ≤ 10000000 := by
  have hr := restL_le l
  have hcl := cutL_len (restL l) []
  unfold pathR
  split
  · simp
  · split
    · simp
    · simp; omega
theorem path_ok (l : List UInt8) : ∀ j : Nat, j < (pathR l).2.1.length → stepOk (el (pathR l).2.1 j) = true := by
  unfold pathR
  split
  · intro j hj; simp at hj
  · split
    · intro j hj; simp at hj
    · rename_i h
      intro j hj
      simp only [List.length_map] at hj
      rw [not_or] at h
      have ha := h.2
      simp only [Bool.not_eq_true, List.any_eq_false, Bool.not_eq_true', Bool.not_eq_false] at ha
      have hm : el ((cutL [] (restL l)).map Bs) j = Bs ((cutL [] (restL l))[j]) := by
        simp [el, List.getD_eq_getElem?_getD, hj]
      show stepOk (el ((cutL [] (restL l)).map Bs) j) = true
      rw [hm]
      exact ha _ (List.getElem_mem hj)
theorem fn12 (v : Vfs) (hO : OkV 1048576 v) (c : Cred) (hg : c.groups.length ≤ 1048576) (p : Place) (l : List UInt8) (hn : l.length ≤ 1048576) : Fn Z 12 [.agg [.ro () 65 (row (encF 62 114 true) v.fss), .int .i64 v.mount], .agg [.int .i64 c.user, .int .i64 c.real, .ro () 3 (row encI c.groups)], .agg [.int .i64 p.fs, .int .i64 p.id], .one (.str (Bs l))] = rp (walkR v c p l) := by
  have h30 := fn30 l hn
  have h31 := fn31 v hO
  have h32 := fn32 c (by omega)
  have hlen := path_len l hn
  have hstep := path_ok l
  unfold r3 at h30
  unfold walkR
  generalize hr : pathR l = r at *
  obtain ⟨top, steps, ok⟩ := r
  simp only at h30 hlen hstep ⊢
  refine Fn_ans Z rfl Tryz.func12 rfl K12 ?_
  rw [ZP, M12, nt12]
  have hb : bodyOf Tryz.f12 = bodyOf Tryz.f12 := rfl
  conv at hb => rhs; simp only [bodyOf, Tryz.f12]
  rw [hb]
  clear hb 
  cases ok with
  | false => simp [rp, h30]
  | true =>
    by_cases h1 : vfsOk v = true
    rotate_left 1
    · simp [rp, h30, h31, h1]
    by_cases h2 : credOk c = true
    rotate_left 1
    · simp [rp, h30, h31, h1, h32, h2]
    have h33 := fn33 v p (good_l2 (good h1))
    by_cases h3 : placeOk v p = true
    rotate_left 1
    · simp [rp, h30, h31, h1, h32, h2, h33, h3]
    have h34 := fn34 v c ⟨good h1, hO, h2⟩ p h3 top steps hlen
    unfold rp at h34
    simp [rp, h30, h31, h1, h32, h2, h33, h3, h34]
theorem fn16 (v : Vfs) (hO : OkV 1048576 v) (c : Cred) (hg : c.groups.length ≤ 1048576) (p : Place) (l : List UInt8) (hn : l.length ≤ 1048576) : Fn Z 16 [.agg [.ro () 65 (row (encF 62 114 true) v.fss), .int .i64 v.mount], .agg [.int .i64 c.user, .int .i64 c.real, .ro () 3 (row encI c.groups)], .agg [.int .i64 p.fs, .int .i64 p.id], .one (.str (Bs l))] = rp (walkR v c p l) := by
  have h30 := fn23 l hn
  have h31 := fn37 v hO
  have h32 := fn38 c (by omega)
  have hlen := path_len l hn
  have hstep := path_ok l
  unfold r3 at h30
  unfold walkR
  generalize hr : pathR l = r at *
  obtain ⟨top, steps, ok⟩ := r
  simp only at h30 hlen hstep ⊢
  refine Fn_ans Z rfl Tryz.func16 rfl K16 ?_
  rw [ZP, M16, nt16]
  have hb : bodyOf Tryz.f16 = bodyOf Tryz.f16 := rfl
  conv at hb => rhs; simp only [bodyOf, Tryz.f16]
  rw [hb]
  clear hb 
  cases ok with
  | false => simp [rp, h30]
  | true =>
    by_cases h1 : vfsOk v = true
    rotate_left 1
    · simp [rp, h30, h31, h1]
    by_cases h2 : credOk c = true
    rotate_left 1
    · simp [rp, h30, h31, h1, h32, h2]
    have h33 := fn39 v p (good_l2 (good h1))
    by_cases h3 : placeOk v p = true
    rotate_left 1
    · simp [rp, h30, h31, h1, h32, h2, h33, h3]
    have h34 := fn40 v c ⟨good h1, hO, h2⟩ p h3 top steps hlen hstep
    unfold rp at h34
    simp [rp, h30, h31, h1, h32, h2, h33, h3, h34]
/-! what the sizes say -/
theorem szG_ok {c : Nat → Int → Int} (hc : ∀ j left, c j left ≤ left ∨ c j left = -1) : ∀ n i left, 0 ≤ szG c i n left → 0 ≤ left ∧ szG c i n left ≤ left ∧ ∀ j, i ≤ j → j < i + n → ∃ x, 0 ≤ x ∧ x ≤ left ∧ 0 ≤ c j x
  | 0, i, left, h => ⟨h, Int.le_refl _, fun j h1 h2 => by omega⟩
  | n + 1, i, left, h => by
    unfold szG at h ⊢
    by_cases h0 : c i left < 0
    · rw [if_pos h0] at h; omega
    rw [if_neg h0] at h ⊢
    have hle : c i left ≤ left := by rcases hc i left with h | h <;> omega
    obtain ⟨a1, a2, a3⟩ := szG_ok hc n (i + 1) (c i left) h
    refine ⟨by omega, by omega, fun j h1 h2 => ?_⟩
    by_cases e : j = i
    · subst e; exact ⟨left, by omega, Int.le_refl _, a1⟩
    · obtain ⟨x, b1, b2, b3⟩ := a3 j (by omega) (by omega)
      exact ⟨x, b1, by omega, b3⟩
theorem szR_ok {c : Nat → Int → Int} (hc : ∀ j left, c j left ≤ left ∨ c j left = -1) {n : Nat} {left : Int} (h : 0 ≤ szR c n left) : (n : Int) ≤ left ∧ szR c n left ≤ left ∧ ∀ j, j < n → ∃ x, 0 ≤ x ∧ x ≤ left ∧ 0 ≤ c j x := by
  unfold szR at h ⊢
  by_cases h0 : left - n < 0
  · rw [if_pos h0] at h; omega
  rw [if_neg h0] at h ⊢
  obtain ⟨a1, a2, a3⟩ := szG_ok hc n 0 (left - n) h
  refine ⟨by omega, by omega, fun j hj => ?_⟩
  obtain ⟨x, b1, b2, b3⟩ := a3 j (by omega) (by omega)
  exact ⟨x, b1, by omega, b3⟩
theorem szG_dn {c : Nat → Int → Int} (hc : ∀ j left, c j left ≤ left ∨ c j left = -1) : ∀ n i left, szG c i n left ≤ left ∨ szG c i n left = -1
  | 0, i, left => .inl (Int.le_refl _)
  | n + 1, i, left => by
    unfold szG
    split
    · exact .inr rfl
    · rcases szG_dn hc n (i + 1) (c i left) with h | h
      · rcases hc i left with h2 | h2 <;> first | (left; omega) | omega
      · exact .inr h
theorem szR_dn {c : Nat → Int → Int} (hc : ∀ j left, c j left ≤ left ∨ c j left = -1) (n : Nat) (left : Int) : szR c n left ≤ left ∨ szR c n left = -1 := by
  unfold szR
  split
  · exact .inr rfl
  · rcases szG_dn hc n 0 (left - n) with h | h
    · left; omega
    · exact .inr h
theorem neg1_dn {z left : Int} (h : z ≤ left ∨ z = -1) : neg1 z ≤ left ∨ neg1 z = -1 := by
  unfold neg1
  split
  · exact .inr rfl
  · exact h
theorem szE_dn (e : Entry) (left : Int) : szE e left ≤ left ∨ szE e left = -1 := by
  unfold szE; split
  · exact .inr rfl
  · left; omega
theorem szN_dn (n : Inode) (left : Int) : szN n left ≤ left ∨ szN n left = -1 := by
  unfold szN
  split
  · exact .inr rfl
  · split
    · exact .inr rfl
    · rcases szR_dn (c := fun i => szE (nE n i)) (fun j left => szE_dn _ _) n.names.length (left - n.text.size) with h | h
      · left; omega
      · exact .inr h
theorem szF_dn (f : Fs) (left : Int) : szF f left ≤ left ∨ szF f left = -1 := neg1_dn (szR_dn (fun j left => szN_dn _ _) _ _)
theorem szE_ok {e : Entry} {x : Int} (h1 : x ≤ 1048576) (h : 0 ≤ szE e x) : OkE 1048576 e := by
  unfold szE at h
  unfold OkE
  split at h <;> omega
theorem szN_ok {n : Inode} {x : Int} (h1 : x ≤ 1048576) (h : 0 ≤ szN n x) : OkN 1048576 n := by
  unfold szN at h
  split at h
  · omega
  split at h
  · omega
  obtain ⟨a1, a2, a3⟩ := szR_ok (c := fun i => szE (nE n i)) (fun j left => szE_dn _ _) h
  refine ⟨by omega, by omega, fun i hi => ?_⟩
  obtain ⟨x, b1, b2, b3⟩ := a3 i hi
  exact szE_ok (by omega) b3
theorem szF_ok {f : Fs} {x : Int} (h1 : x ≤ 1048576) (h : 0 ≤ szF f x) : OkF 1048576 f := by
  unfold szF neg1 at h
  split at h
  · omega
  obtain ⟨a1, a2, a3⟩ := szR_ok (c := fun i => szN (N f i)) (fun j left => szN_dn _ _) h
  refine ⟨by omega, fun i hi => ?_⟩
  obtain ⟨x, b1, b2, b3⟩ := a3 i hi
  exact szN_ok (by omega) b3
theorem szV_ok {v : Vfs} {x : Int} (h1 : x ≤ 1048576) (h : 0 ≤ szV v x) : OkV 1048576 v := by
  unfold szV neg1 at h
  split at h
  · omega
  obtain ⟨a1, a2, a3⟩ := szR_ok (c := fun i => szF (F v i)) (fun j left => szF_dn _ _) h
  refine ⟨by omega, fun i hi => ?_⟩
  obtain ⟨x, b1, b2, b3⟩ := a3 i hi
  exact szF_ok (by omega) b3
theorem szV_dn (v : Vfs) (left : Int) : szV v left ≤ left ∨ szV v left = -1 := neg1_dn (szR_dn (fun j left => szF_dn _ _) _ _)
end Go.Mach.Fv
