/- Names. -/
import Derived.Test.YtlnlhpgghkkhaaaGreatDoorFsP
import Derived.Lib.Strings
import Derived.WideShapes
open Go Go.Mach Go.Mach.Fv Go.Proofs
set_option maxRecDepth 100000
set_option maxHeartbeats 4000000
set_option linter.unusedVariables false
set_option linter.unusedSimpArgs false
namespace Go.Mach.Fv
def Bs (l : List UInt8) : ByteArray := ⟨l.toArray⟩
theorem Bs_eta (s : ByteArray) : Bs s.data.toList = s := by cases s; simp [Bs]
theorem Bs_size (l : List UInt8) : (Bs l).size = l.length := by simp [Bs, ByteArray.size]
theorem Bs_toList (l : List UInt8) : (Bs l).toList = l := by rw [Lib.toList_data]; simp [Bs]
theorem Bs_data (l : List UInt8) : (Bs l).data.toList = l := by simp [Bs]
theorem Bs_extract (l : List UInt8) (a b : Nat) : (Bs l).extract a b = Bs ((l.drop a).take (b - a)) := by
  have h : ((Bs l).extract a b).data.toList = (Bs ((l.drop a).take (b - a))).data.toList := by
    simp [Bs, ByteArray.data_extract, Array.toList_extract, List.extract_eq_take_drop]
  rw [← Bs_eta ((Bs l).extract a b), h, Bs_data]
theorem decode_lo (s : ByteArray) (pos : Nat) (h : (s.get! pos).toNat < 128) : Utf8.decode s pos = ((s.get! pos).toNat, 1) := by
  unfold Utf8.decode
  simp only [Nat.add_zero]
  rw [if_pos h]
theorem decode_hi (s : ByteArray) (pos : Nat) (h : ¬ (s.get! pos).toNat < 128) : 128 ≤ (Utf8.decode s pos).1 := by
  unfold Utf8.decode
  simp only [Nat.add_zero]
  rw [if_neg h]
  split
  · split
    · assumption
    · show 128 ≤ Utf8.runeError; decide
  · split
    · split
      · rename_i hc
        simp only [Bool.and_eq_true, decide_eq_true_eq] at hc
        show 128 ≤ _
        omega
      · show 128 ≤ Utf8.runeError; decide
    · split
      · split
        · rename_i hc
          simp only [Bool.and_eq_true, decide_eq_true_eq] at hc
          show 128 ≤ _
          omega
        · show 128 ≤ Utf8.runeError; decide
      · show 128 ≤ Utf8.runeError; decide
theorem Bs_get (l : List UInt8) {i : Nat} (h : i < l.length) : (Bs l).get! i = l[i]'h := by
  show (Bs l).data[i]! = _
  simp [Bs, h]
theorem p_hi (x : Nat) (h : 122 < x) : p82 x = true := by
  unfold p82
  rw [if_neg (by omega)]
  exact decide_eq_true (by omega)
theorem idx_ev (full : List UInt8) : ∀ (rest pre : List UInt8) (f : Nat), full = pre ++ rest → rest.length ≤ f → decide (Lib.idxFuncFrom p82 true (Bs full) f pre.length < 0) = rest.all okB := by
  intro rest
  induction rest with
  | nil =>
    intro pre f hp hf
    rw [Lib.idxFuncFrom_end _ _ _ _ _ (by rw [Bs_size, hp]; simp)]
    rfl
  | cons b rest ih =>
    intro pre f hp hf
    obtain ⟨f, rfl⟩ : ∃ g, f = g + 1 := ⟨f - 1, by simp at hf; omega⟩
    have hlt : pre.length < full.length := by rw [hp]; simp
    have hb : (Bs full).get! pre.length = b := by
      rw [Bs_get full hlt]
      simp [hp]
    rw [List.all_cons]
    unfold Lib.idxFuncFrom
    rw [if_pos (by rw [Bs_size]; exact hlt)]
    by_cases h128 : b.toNat < 128
    · rw [decode_lo (Bs full) pre.length (by rw [hb]; exact h128), hb]
      by_cases hok : okB b = true
      · rw [hok, Bool.true_and]
        unfold okB at hok
        rw [Bool.and_eq_true, decide_eq_true_eq, decide_eq_true_eq] at hok
        have hp0 : p82 b.toNat = false := by
          unfold p82
          rw [if_neg (by omega)]
          exact decide_eq_false (by omega)
        simp only [hp0]
        rw [if_neg (by simp)]
        have := ih (pre ++ [b]) f (by simp [hp]) (by simp at hf; omega)
        simpa using this
      · have hok' : okB b = false := by simpa using hok
        rw [hok', Bool.false_and]
        have hp1 : p82 b.toNat = true := by
          unfold okB at hok
          rw [Bool.and_eq_true, decide_eq_true_eq, decide_eq_true_eq] at hok
          unfold p82
          split
          · rfl
          · exact decide_eq_true (by omega)
        simp only [hp1]
        rw [if_pos (by trivial)]
        exact decide_eq_false (by omega)
    · have hd := decode_hi (Bs full) pre.length (by rw [hb]; exact h128)
      have hp1 := p_hi (Utf8.decode (Bs full) pre.length).1 (by omega)
      rw [if_pos hp1]
      have hok' : okB b = false := by
        unfold okB
        rw [decide_eq_false (by omega : ¬ b.toNat ≤ 122), Bool.and_false]
      rw [hok', Bool.false_and]
      exact decide_eq_false (by omega)
theorem size_l (s : ByteArray) : s.size = s.toList.length := by
  rw [Lib.toList_data, Array.length_toList]; rfl
def by8 (s : ByteArray) (j : Nat) : UInt8 := s.toList.getD j 0
theorem allF_all (s : ByteArray) : allF (fun i => okB (by8 s i)) 0 s.size = s.toList.all okB := by
  rw [Bool.eq_iff_iff, all0, List.all_eq_true, size_l]
  constructor
  · intro h x hx
    obtain ⟨j, hj, rfl⟩ := List.getElem_of_mem hx
    have := h j hj
    simpa [by8, List.getD_eq_getElem?_getD, hj] using this
  · intro h j hj
    have := h _ (List.getElem_mem hj)
    simpa [by8, List.getD_eq_getElem?_getD, hj] using this
theorem byteAt_l (s : ByteArray) (j : Nat) : byteAt s (j : Int) = ((by8 s j).toNat : Int) := by
  unfold by8
  rw [Lib.toList_data]; rfl
theorem ev60 (s : ByteArray) (hm : s.size ≤ 10000000) (t : Bool) (r : List It) (hr : ∀ σ : St Unit, σ = ⟨23, [(0, .one (.str s))], []⟩ → ans Tryz.prog Tryz.f60 [.ro] (Mach.go Z (Z.H 60) r σ) = some ⟨[(false, [.bool t])], []⟩) :
    ∀ (n j : Nat) (σ : St Unit), j + n = s.size →
    σ.keep ⟨[3, 0], [], [3, 0]⟩ = some ⟨23, [(3, .one (.int .i64 (j))), (0, .one (.str s))], []⟩ →
      ans Tryz.prog Tryz.f60 [.ro] (Mach.go Z (Z.H 60) ((.lp (lpc Tryz.f60 2)) :: .blk 0 :: r) σ) = some ⟨[(false, [.bool (allF (fun i => okB (by8 s i)) j n && t)])], []⟩ := by
  have hb : lpc Tryz.f60 2 = lpc Tryz.f60 2 := rfl
  conv at hb => rhs; simp only [lpc, bodyOf, Tryz.f60, nthLoop, headId, if_true, if_false, reduceIte, Nat.reduceEqDiff]
  have hc := fun r σ => congrArg (fun c => Mach.go Z (Z.H 60) (.code c :: r) σ) hb
  clear hb
  intro n
  induction n with
  | zero =>
    intro j σ h hσ
    have hx : ¬ j < s.size := by omega
    rw [go_lp, b60_2, L60_2, hσ, nx_, hc]
    simp [hx]
    exact (hr _ rfl).trans (by simp [allF])
  | succ n ih =>
    intro j σ h hσ
    have h2 : j < s.size := by omega
    have hb := byteAt_l s j
    rw [go_lp, b60_2, L60_2, hσ, nx_, hc]
    unfold allF
    by_cases h3 : okB (by8 s j) = true
    · have h4 := h3
      simp only [okB, Bool.and_eq_true, decide_eq_true_eq] at h4
      have h5 : ¬ byteAt s j < 97 := by omega
      have h6 : ¬ 122 < byteAt s j := by omega
      simp [h2, h5, h6, wrapJ (show j ≤ 1000000000000 by omega)]
      exact (ih (j + 1) _ (by omega) (by simp)).trans (by rw [h3, Bool.true_and])
    · have h4 : ¬ byteAt s j < 97 → 122 < byteAt s j := by
        intro h; simp only [okB, Bool.and_eq_true, decide_eq_true_eq] at h3; omega
      by_cases h5 : byteAt s j < 97
      · simp [h2, h5, h3]
      · have h6 := h4 h5
        simp [h2, h5, h6, h3]
theorem nm_eq (s : ByteArray) : nm s = (s.toList.all okB && inR s.size 1 3) := by
  unfold nm inR
  rw [size_l]
  rw [Bool.eq_iff_iff]
  simp only [Bool.and_eq_true, decide_eq_true_eq]
  constructor
  · rintro ⟨a, b, c⟩; exact ⟨c, by omega, by omega⟩
  · rintro ⟨a, b, c⟩; exact ⟨by omega, by omega, a⟩
theorem fn60 (s : ByteArray) (hm : s.size ≤ 10000000) : Fn Z 60 [.one (.str s)] = some ⟨[(false, [.bool (nm s)])], []⟩ := by
  rw [nm_eq, ← allF_all]
  refine Fn_ans Z rfl Tryz.func60 rfl K60 ?_
  rw [ZP, M60, nt60]
  have hb : bodyOf Tryz.f60 = bodyOf Tryz.f60 := rfl
  conv at hb => rhs; simp only [bodyOf, Tryz.f60]
  have hb2 : lpc Tryz.f60 2 = lpc Tryz.f60 2 := rfl
  conv at hb2 => rhs; simp only [lpc, bodyOf, Tryz.f60, nthLoop, headId, if_true, if_false, reduceIte, Nat.reduceEqDiff]
  rw [← hb2] at hb
  rw [hb]
  clear hb hb2
  simp
  refine ev60 s hm _ _ (fun σ hσ => ?_) s.size 0 _ (by omega) (by simp)
  subst hσ
  simp [fn62]
theorem fn81 (s : ByteArray) : Fn Z 81 [.one (.str s), .one (.fn 82)] = some ⟨[(false, [.int .i64 (Lib.idxFunc p82 true s)])], []⟩ := by
  rw [Fn_orac (g := o81) rfl]
  rfl
theorem idx_all (s : ByteArray) : decide (Lib.idxFunc p82 true s < 0) = s.toList.all okB := by
  have h := idx_ev s.data.toList s.data.toList [] s.data.toList.length rfl (Nat.le_refl _)
  rw [Bs_eta] at h
  rw [Lib.toList_data, ← h]
  congr 2
theorem fn55 (s : ByteArray) : Fn Z 55 [.one (.str s)] = some ⟨[(false, [.bool (nm s)])], []⟩ := by
  rw [nm_eq, ← idx_all]
  refine Fn_ans Z rfl Tryz.func55 rfl K55 ?_
  rw [ZP, M55, nt55]
  have hb : bodyOf Tryz.f55 = bodyOf Tryz.f55 := rfl
  conv at hb => rhs; simp only [bodyOf, Tryz.f55]
  rw [hb]
  clear hb 
  by_cases h : inR s.size 1 3 = true
  · simp [fn70, h, fn81, M81]
  · simp [fn70, h]
def dotsB : ByteArray := ⟨#[46, 46]⟩
theorem dots_l : (ByteArray.mk #[46, 46]).toList = [46, 46] := by rw [Lib.toList_data]
def stepOk (s : ByteArray) : Bool := decide (s.toList = dots) || nm s
theorem fn54 (s : ByteArray) : Fn Z 54 [.one (.str s)] = some ⟨[(false, [.bool (!stepOk s)])], []⟩ := by
  unfold stepOk dots
  refine Fn_ans Z rfl Tryz.func54 rfl K54 ?_
  rw [ZP, M54, nt54]
  have hb : bodyOf Tryz.f54 = bodyOf Tryz.f54 := rfl
  conv at hb => rhs; simp only [bodyOf, Tryz.f54]
  rw [hb]
  clear hb 
  by_cases h : s.toList = [46, 46]
  · simp [h, dots_l]
  · have hb : (s.toList != [46, 46]) = true := by simp [h]
    simp [h, hb, dots_l, fn55]
end Go.Mach.Fv
