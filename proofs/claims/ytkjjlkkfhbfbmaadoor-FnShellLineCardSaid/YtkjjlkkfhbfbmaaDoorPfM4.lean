-- printed by wip/qd.py, laid together by wip/mergepf.py
import Derived.Test.YtkjjlkkfhbfbmaaDoorPf0
import Derived.Test.YtkjjlkkfhbfbmaaDoorQWords
import Derived.Carry
import Derived.Test.YtkjjlkkfhbfbmaaDoorPfM3
import Derived.Test.YtkjjlkkfhbfbmaaDoorQSem9
import Derived.Deep.CutBlock
import Derived.Deep.CutRange
namespace Go.Proofs.YtkjjlkkfhbfbmaaDoor.P
open Go.RowKit Go.Proofs.YtkjjlkkfhbfbmaaDoorW.PrintWords Go.Proofs.YtkjjlkkfhbfbmaaDoorW.PrintLast Go.Proofs.YtkjjlkkfhbfbmaaDoorW.PrintMore
attribute [local go_sem] max2_int min2_int max_two min_two max_three min_three max_four min_four Q.cell_set_map Q.str_gtr Q.str_geq Q.str_leq
set_option linter.unusedVariables false
set_option linter.unusedSimpArgs false

/-! ### impl_words_1: function 27 -/
-- IMPORT Derived.Test.YtkjjlkkfhbfbmaaDoorQWords
set_option maxHeartbeats 8000000 in
set_option maxRecDepth 100000 in
/-- Each word of the list is stored, with its kind and what it needs. -/
theorem impl_words_1.calls (needs list : ByteArray) (kb c : Nat) (K : List Int) (pb mb : Nat) (L : List Q.WEntry) (F : List ByteArray) (w : World) (hT : Q.Tabs w)
    (hP : w.cell? ⟨pb, 0, none⟩ = some (.map (some mb))) (hM : Q.WMap w mb L) (hr : ∀ i, i < K.length → w.cell? ⟨kb, i, none⟩ = some (.int .i64 (K.getD i 0))) (hz : list.size < 4294967281) (ha : ∀ (j : Nat) b, list.data.toList[j]? = some b → b.toNat < 128)
    (hF : (Lib.fields list.data.toList).map (fun l => (⟨l.toArray⟩ : ByteArray)) = F) (hFl : F.length ≤ K.length) (hF40 : ∀ x ∈ F, x.size ≤ 40) (hl9 : K.length < 1000000) (hnd : (L.map (·.1) ++ F).Nodup) :
    Calls Tryd.prog 27 #[.string needs, .string list, .slice (some ⟨kb, 0, none⟩) K.length c, .pointer (some ⟨pb, 0, none⟩)] w fun e w' => e = .returned (.tuple #[]) ∧ Q.WMap w' mb (L ++ Q.wgot needs F K) ∧ w.grownBy w' (some mb) := by
  have hFlen : (Lib.fields list.data.toList).length = F.length := by rw [← hF, List.length_map]
  have hFs : ((Lib.fields list.data.toList).map fun l => Value.string (⟨l.toArray⟩ : ByteArray)) = F.map (fun l => Value.string l) := by rw [← hF, List.map_map]; rfl
  have HT := Aside0.mk hT
  have HM := Aside0.mk hM
  have HR := Aside0.mk hr
  have HP := Aside0.mk hP
  have HA := Aside0.mk ha
  have HN := Aside0.mk hnd
  have H40 := Aside0.mk hF40
  clear hT hM hr hP ha hF hnd hF40
  go_enter Tryd.func27, Tryd.ntmps27
  go_wp2_with (go_at_call 28; refine (Tryd.strings_Fields list _ hz HA.out HT.out.sp).mono ?_; rintro e w1 ⟨rfl, rfl⟩)
  try rw [hFlen]
  try rw [hFs]
  have hb1 : Below w.heap.size w (w.alloc (.cells (F.map fun l => Value.string l).toArray 9)) := below_alloc (Below.refl _ _) _
  have HC : Aside0 (∀ i, i < F.length → (w.alloc (.cells (F.map fun l => Value.string l).toArray 9)).cell? ⟨w.heap.size, i, none⟩ = some (.string (F.getD i ByteArray.empty))) := ⟨fun i hi => Q.fields_cell w F 9 i hi⟩
  have HG := Aside0.mk (grown_of_below hb1 (some mb))
  replace HM := Aside0.mk (HM.out.below hb1)
  replace HP := Aside0.mk (pw_cell_below hb1 HP.out)
  have HR1 := Aside0.mk (fun i hi => pw_cell_below hb1 (HR.out i hi))
  clear HR hb1
  generalize w.alloc (.cells (F.map fun l => Value.string l).toArray 9) = W1 at HC HG HM HP HR1 ⊢
  obtain ⟨fb, hfb⟩ : ∃ fb, fb = w.heap.size := ⟨_, rfl⟩
  rw [← hfb] at HC ⊢
  clear hfb HT HA hFs hFlen
  go_loopg [12] F.length (fun kq v12 w' => ∃ (i : Nat), v12 = .int .i64 (i : Int) ∧ i + kq = F.length ∧ Aside0 (w'.cell? ⟨pb, 0, none⟩ = some (.map (some mb))) ∧ Aside0 (Q.WMap w' mb (L ++ (Q.wgot needs F K).take i)) ∧ Aside0 (∀ i, i < F.length → w'.cell? ⟨fb, i, none⟩ = some (.string (F.getD i ByteArray.empty))) ∧ Aside0 (∀ i, i < K.length → w'.cell? ⟨kb, i, none⟩ = some (.int .i64 (K.getD i 0))) ∧ Aside0 (w.grownBy w' (some mb)))
  case atStart => exact ⟨0, rfl, by omega, HP, ⟨by rw [List.take_zero, List.append_nil]; exact HM.out⟩, HC, HR1, HG⟩
  case round =>
    clear HP HM HC HR1 HG
    obtain ⟨i, rfl, hi, HP, HM, HC, HR, HG⟩ := hrel
    cases gk with
    | zero =>
      have hltz : ¬ (i : Int) < (F.length : Int) := by omega
      have hit : i = F.length := by omega
      go_wp2
      go_end0
      refine ⟨rfl, ?_, HG.out⟩
      have h := HM.out
      rw [hit, ← Q.wgot_length (needs := needs) hFl, List.take_length] at h
      exact h
    | succ kr =>
      have hltz : (i : Int) < (F.length : Int) := by omega
      have hltk : (i : Int) < (K.length : Int) := by omega
      have hx := HC.out i (by omega)
      have hk := HR.out i (by omega)
      have hp := HP.out
      obtain ⟨hnot, hnext⟩ := Q.wgot_next (needs := needs) HN.out hFl (show i < F.length by omega)
      have h40 : (F.getD i ByteArray.empty).size ≤ 40 := H40.out _ (by simp [List.getD, show i < F.length by omega])
      have hpn := HM.out.cell_ne hp
      have hkn := HM.out.cell_ne hk
      have hfn := HM.out.cell_ne hx
      obtain ⟨fs, hfs⟩ : ∃ fs, fs = F.getD i ByteArray.empty := ⟨_, rfl⟩
      obtain ⟨ks, hks⟩ : ∃ ks, ks = K.getD i 0 := ⟨_, rfl⟩
      rw [← hfs] at hx hnot hnext h40
      rw [← hks] at hk hnext
      have HNX := Aside0.mk hnext
      have HMd : Q.WMap wr.drew mb (L ++ (Q.wgot needs F K).take i) := HM.out.keep rfl
      obtain ⟨w4, hrun, M4, G4, _⟩ := HMd.store (P := Tryd.prog) (k := 9) (e := 40) (t := 42) Tryd.underlying9 Tryd.underlying42 (s := fs) (by simp only [maxLen]; omega) hnot ks needs
      have HM4 := Aside0.mk M4
      have HG4 := Aside0.mk G4
      have HP4 := Aside0.mk (G4.cell (show wr.drew.cell? _ = _ from hp) hpn)
      have HC4 := Aside0.mk (fun j hj => G4.cell (show wr.drew.cell? ⟨fb, j, none⟩ = _ from HC.out j hj) hfn)
      have HR4 := Aside0.mk (fun j hj => G4.cell (show wr.drew.cell? ⟨kb, j, none⟩ = _ from HR.out j hj) hkn)
      have HGn : Aside0 (w.grownBy w4 (some mb)) := ⟨HG.out.trans ⟨G4.os, G4.tape, G4.output, G4.size, G4.block⟩⟩
      clear hfs hks hnext hnot HMd M4 G4 hpn hkn hfn
      go_wp2_with fail
      refine start_ (n := 9) (S := fun w' => w'.cell? ⟨pb, 0, none⟩ = some (.map (some mb)) ∧ w'.cell? ⟨kb, i, none⟩ = some (.int .i64 ks)) (ds := [8]) #[false, false, false, false, false, false, false, false, false] (by kernel_rfl) rfl rfl ⟨hp, hk⟩ (fun hHeld => ?_)
      refine pure_ (i := 1) (N := some 18) (v := ?_) (a' := ?_) #[false, true, false, false, false, false, false, false, false] rfl rfl (by kernel_rfl) (fun _ _ _ h => h) (Or.inl ⟨by rfl, ?_⟩) ?_ ?_
      rotate_left
      · intro w'
        go_simp
        with_reducible rfl
      rotate_left
      · simp only [Act.put, List.setIfInBounds_toArray, List.set_cons_zero, List.set_cons_succ, i64_w, i32_w]
        rfl
      refine pure_ (i := 2) (N := some 19) (v := ?_) (a' := ?_) #[false, true, true, false, false, false, false, false, false] rfl rfl (by kernel_rfl) (fun _ _ _ h => h) (Or.inl ⟨by rfl, ?_⟩) ?_ ?_
      rotate_left
      · intro w'
        go_simp
        with_reducible rfl
      rotate_left
      · simp only [Act.put, List.setIfInBounds_toArray, List.set_cons_zero, List.set_cons_succ, i64_w, i32_w]
        rfl
      refine pure_ (i := 3) (N := some 20) (v := ?_) (a' := ?_) #[false, true, true, true, false, false, false, false, false] rfl rfl (by kernel_rfl) (fun _ _ _ h => h) (Or.inl ⟨by rfl, ?_⟩) ?_ ?_
      rotate_left
      · intro w'
        go_simp
        with_reducible rfl
      rotate_left
      · simp only [Act.put, List.setIfInBounds_toArray, List.set_cons_zero, List.set_cons_succ, i64_w, i32_w]
        rfl
      refine pure_ (i := 4) (N := some 21) (v := ?_) (a' := ?_) #[false, true, true, true, true, false, false, false, false] rfl rfl (by kernel_rfl) (fun _ _ _ h => h) (Or.inl ⟨by rfl, ?_⟩) ?_ ?_
      rotate_left
      · intro w'
        go_simp
        with_reducible rfl
      rotate_left
      · simp only [Act.put, List.setIfInBounds_toArray, List.set_cons_zero, List.set_cons_succ, i64_w, i32_w]
        rfl
      refine pure_ (i := 6) (N := some 23) (v := ?_) (a' := ?_) #[false, true, true, true, true, false, true, false, false] rfl rfl (by kernel_rfl) (fun _ _ _ h => h) (Or.inl ⟨by rfl, ?_⟩) ?_ ?_
      rotate_left
      · intro w'
        go_simp
        with_reducible rfl
      rotate_left
      · simp only [Act.put, List.setIfInBounds_toArray, List.set_cons_zero, List.set_cons_succ, i64_w, i32_w]
        rfl
      refine take_ (i := 0) (N := some 17) (v := ?_) (a' := ?_) #[true, true, true, true, true, false, true, false, false] rfl rfl (by kernel_rfl) (fun _ _ _ h => h) (Or.inl ⟨by rfl, ?_⟩) hHeld ?_ ?_
      rotate_left
      · rintro w' ⟨s0, s1⟩
        go_simp
        with_reducible rfl
      rotate_left
      · simp only [Act.put, List.setIfInBounds_toArray, List.set_cons_zero, List.set_cons_succ, i64_w, i32_w]
        rfl
      refine take_ (i := 5) (N := some 22) (v := ?_) (a' := ?_) #[true, true, true, true, true, true, true, false, false] rfl rfl (by kernel_rfl) (fun _ _ _ h => h) (Or.inl ⟨by rfl, ?_⟩) hHeld ?_ ?_
      rotate_left
      · rintro w' ⟨s0, s1⟩
        go_simp
        with_reducible rfl
      rotate_left
      · simp only [Act.put, List.setIfInBounds_toArray, List.set_cons_zero, List.set_cons_succ, i64_w, i32_w]
        rfl
      refine pure_ (i := 7) (N := some 24) (v := ?_) (a' := ?_) #[true, true, true, true, true, true, true, true, false] rfl rfl (by kernel_rfl) (fun _ _ _ h => h) (Or.inl ⟨by rfl, ?_⟩) ?_ ?_
      rotate_left
      · intro w'
        go_simp
        with_reducible rfl
      rotate_left
      · simp only [Act.put, List.setIfInBounds_toArray, List.set_cons_zero, List.set_cons_succ, i64_w, i32_w]
        rfl
      refine last_ (i := 8) (N := none) #[true, true, true, true, true, true, true, true, true] rfl rfl (by kernel_rfl) (by decide) (fun K hK => ?_)
      refine skip_ (w1 := w4) (by rfl) rfl ?_ ?_
      · go_simp
      refine hK.out _ _ ?_
      clear hK K
      refine done_ (by kernel_rfl) ?_

      try go_wp2
      go_roundg kr
      case measure => omega
      case rel =>
        exact ⟨i + 1, by go_num, by omega, HP4, ⟨HNX.out ▸ HM4.out⟩, HC4, HR4, HGn⟩


end Go.Proofs.YtkjjlkkfhbfbmaaDoor.P

namespace Go.Proofs.YtkjjlkkfhbfbmaaDoor.P
open Go.RowKit Go.Proofs.YtkjjlkkfhbfbmaaDoorW.PrintWords Go.Proofs.YtkjjlkkfhbfbmaaDoorW.PrintLast Go.Proofs.YtkjjlkkfhbfbmaaDoorW.PrintMore
attribute [local go_sem] max2_int min2_int max_two min_two max_three min_three max_four min_four Q.cell_set_map Q.str_gtr Q.str_geq Q.str_leq
set_option linter.unusedVariables false
set_option linter.unusedSimpArgs false

/-! ### impl_words: function 16 -/
-- IMPORT Derived.Test.YtkjjlkkfhbfbmaaDoorQWords
-- IMPORT Derived.Carry
def impl_words.F0 : List ByteArray := [(⟨#[102, 111, 114, 107]⟩ : ByteArray), (⟨#[119, 97, 105, 116]⟩ : ByteArray), (⟨#[115, 105, 103, 115]⟩ : ByteArray), (⟨#[112, 105, 112, 101]⟩ : ByteArray), (⟨#[117, 110, 109, 111, 117, 110, 116]⟩ : ByteArray), (⟨#[105, 100]⟩ : ByteArray)]
def impl_words.K0 : List Int := [1, 3, 7, 17, 27, 31]
def impl_words.L0 : List Q.WEntry := []
def impl_words.F1 : List ByteArray := [(⟨#[101, 120, 105, 116]⟩ : ByteArray), (⟨#[98, 108, 111, 99, 107]⟩ : ByteArray), (⟨#[108, 111, 97, 100]⟩ : ByteArray), (⟨#[99, 108, 111, 115, 101]⟩ : ByteArray), (⟨#[100, 117, 112]⟩ : ByteArray), (⟨#[117, 115, 101, 114]⟩ : ByteArray), (⟨#[119, 101, 105, 103, 104, 116]⟩ : ByteArray)]
def impl_words.K1 : List Int := [2, 6, 10, 13, 16, 25, 30]
def impl_words.L1 : List Q.WEntry := impl_words.L0 ++ Q.wgot (⟨#[]⟩ : ByteArray) impl_words.F0 impl_words.K0
def impl_words.F2 : List ByteArray := [(⟨#[107, 105, 108, 108]⟩ : ByteArray), (⟨#[115, 105, 103]⟩ : ByteArray), (⟨#[117, 110, 109, 97, 112]⟩ : ByteArray), (⟨#[115, 116, 111, 114, 101]⟩ : ByteArray), (⟨#[114, 101, 97, 100]⟩ : ByteArray), (⟨#[115, 101, 101, 107]⟩ : ByteArray)]
def impl_words.K2 : List Int := [4, 5, 9, 11, 14, 29]
def impl_words.L2 : List Q.WEntry := impl_words.L1 ++ Q.wgot (⟨#[97]⟩ : ByteArray) impl_words.F1 impl_words.K1
def impl_words.F3 : List ByteArray := [(⟨#[109, 97, 112]⟩ : ByteArray)]
def impl_words.K3 : List Int := [8]
def impl_words.L3 : List Q.WEntry := impl_words.L2 ++ Q.wgot (⟨#[97, 98]⟩ : ByteArray) impl_words.F2 impl_words.K2
def impl_words.F4 : List ByteArray := [(⟨#[100, 105, 114]⟩ : ByteArray), (⟨#[100, 114, 111, 112]⟩ : ByteArray), (⟨#[109, 111, 117, 110, 116]⟩ : ByteArray), (⟨#[114, 117, 110]⟩ : ByteArray)]
def impl_words.K4 : List Int := [18, 20, 26, 28]
def impl_words.L4 : List Q.WEntry := impl_words.L3 ++ Q.wgot (⟨#[97, 98, 116]⟩ : ByteArray) impl_words.F3 impl_words.K3
def impl_words.F5 : List ByteArray := [(⟨#[108, 105, 110, 107]⟩ : ByteArray), (⟨#[109, 111, 118, 101]⟩ : ByteArray)]
def impl_words.K5 : List Int := [21, 22]
def impl_words.L5 : List Q.WEntry := impl_words.L4 ++ Q.wgot (⟨#[112]⟩ : ByteArray) impl_words.F4 impl_words.K4
def impl_words.F6 : List ByteArray := [(⟨#[102, 111, 108, 100, 101, 114]⟩ : ByteArray), (⟨#[109, 111, 100, 101]⟩ : ByteArray), (⟨#[111, 119, 110]⟩ : ByteArray)]
def impl_words.K6 : List Int := [19, 23, 24]
def impl_words.L6 : List Q.WEntry := impl_words.L5 ++ Q.wgot (⟨#[112, 113]⟩ : ByteArray) impl_words.F5 impl_words.K5
def impl_words.F7 : List ByteArray := [(⟨#[111, 112, 101, 110]⟩ : ByteArray)]
def impl_words.K7 : List Int := [12]
def impl_words.L7 : List Q.WEntry := impl_words.L6 ++ Q.wgot (⟨#[112, 97]⟩ : ByteArray) impl_words.F6 impl_words.K6
def impl_words.F8 : List ByteArray := [(⟨#[119, 114, 105, 116, 101]⟩ : ByteArray)]
def impl_words.K8 : List Int := [15]
def impl_words.L8 : List Q.WEntry := impl_words.L7 ++ Q.wgot (⟨#[112, 97, 98]⟩ : ByteArray) impl_words.F7 impl_words.K7
def impl_words.f : List Q.WEntry := impl_words.L8 ++ Q.wgot (⟨#[97, 116]⟩ : ByteArray) impl_words.F8 impl_words.K8
set_option maxHeartbeats 8000000 in
set_option maxRecDepth 100000 in
/-- All words, with their kinds and what they need. -/
theorem impl_words.calls (w : World) (hT : Q.Tabs w) :
    Calls Tryd.prog 16 #[] w fun e w' => ∃ mb, e = .returned (.map (some mb)) ∧ Q.WMap w' mb impl_words.f ∧ Below w.heap.size w w' := by
  have HT := Aside0.mk hT
  have HB := Aside0.mk (Below.refl w.heap.size w)
  clear hT
  have hmm := @run_makeMap Tryd.prog 42
  go_enter Tryd.func16, Tryd.ntmps16
  go_upto_region 2 with fail
  have HS : Q.WSt w ((w.alloc (.map #[] 0)).alloc (.cells #[.map (some w.heap.size)] 42)) (w.heap.size + 1) w.heap.size impl_words.L0 := by
    exact Q.WSt.made HT.out 42
  obtain ⟨mb, hmb⟩ : ∃ mb, mb = w.heap.size := ⟨_, rfl⟩
  obtain ⟨pb, hpb⟩ : ∃ pb, pb = w.heap.size + 1 := ⟨_, rfl⟩
  rw [← hpb, ← hmb] at HS ⊢
  generalize (w.alloc (.map #[] 0)).alloc (.cells #[.map (some mb)] 42) = W0 at HS ⊢
  clear HT HB hmm hmb hpb
  have S0 := Aside0.mk (HS.step (.cells (impl_words.K0.map fun l => Value.int .i64 l).toArray 3))
  have C0 := Aside0.mk (Q.kinds_cell W0 impl_words.K0 3)
  clear HS
  go_upto_region 4 with (go_at_call 27; refine (impl_words_1.calls (⟨#[]⟩ : ByteArray) (⟨#[102, 111, 114, 107, 32, 119, 97, 105, 116, 32, 115, 105, 103, 115, 32, 112, 105, 112, 101, 32, 117, 110, 109, 111, 117, 110, 116, 32, 105, 100]⟩ : ByteArray) W0.heap.size 6 impl_words.K0 pb mb impl_words.L0 impl_words.F0 _ S0.out.tabs S0.out.cell S0.out.map C0.out (by decide) (Q.ascii_of (by decide +kernel)) (by kernel_rfl) (by decide) (by decide +kernel) (by decide) (by decide +kernel)).mono ?_; rintro e W1 ⟨rfl, M, G⟩; have HS : Q.WSt w W1 pb mb impl_words.L1 := S0.out.next M G; clear M G)
  clear S0 C0
  have S1 := Aside0.mk (HS.step (.cells (impl_words.K1.map fun l => Value.int .i64 l).toArray 3))
  have C1 := Aside0.mk (Q.kinds_cell W1 impl_words.K1 3)
  clear HS
  go_upto_region 5 with (go_at_call 27; refine (impl_words_1.calls (⟨#[97]⟩ : ByteArray) (⟨#[101, 120, 105, 116, 32, 98, 108, 111, 99, 107, 32, 108, 111, 97, 100, 32, 99, 108, 111, 115, 101, 32, 100, 117, 112, 32, 117, 115, 101, 114, 32, 119, 101, 105, 103, 104, 116]⟩ : ByteArray) W1.heap.size 7 impl_words.K1 pb mb impl_words.L1 impl_words.F1 _ S1.out.tabs S1.out.cell S1.out.map C1.out (by decide) (Q.ascii_of (by decide +kernel)) (by kernel_rfl) (by decide) (by decide +kernel) (by decide) (by decide +kernel)).mono ?_; rintro e W2 ⟨rfl, M, G⟩; have HS : Q.WSt w W2 pb mb impl_words.L2 := S1.out.next M G; clear M G)
  clear S1 C1
  have S2 := Aside0.mk (HS.step (.cells (impl_words.K2.map fun l => Value.int .i64 l).toArray 3))
  have C2 := Aside0.mk (Q.kinds_cell W2 impl_words.K2 3)
  clear HS
  go_upto_region 6 with (go_at_call 27; refine (impl_words_1.calls (⟨#[97, 98]⟩ : ByteArray) (⟨#[107, 105, 108, 108, 32, 115, 105, 103, 32, 117, 110, 109, 97, 112, 32, 115, 116, 111, 114, 101, 32, 114, 101, 97, 100, 32, 115, 101, 101, 107]⟩ : ByteArray) W2.heap.size 6 impl_words.K2 pb mb impl_words.L2 impl_words.F2 _ S2.out.tabs S2.out.cell S2.out.map C2.out (by decide) (Q.ascii_of (by decide +kernel)) (by kernel_rfl) (by decide) (by decide +kernel) (by decide) (by decide +kernel)).mono ?_; rintro e W3 ⟨rfl, M, G⟩; have HS : Q.WSt w W3 pb mb impl_words.L3 := S2.out.next M G; clear M G)
  clear S2 C2
  have S3 := Aside0.mk (HS.step (.cells (impl_words.K3.map fun l => Value.int .i64 l).toArray 3))
  have C3 := Aside0.mk (Q.kinds_cell W3 impl_words.K3 3)
  clear HS
  go_upto_region 7 with (go_at_call 27; refine (impl_words_1.calls (⟨#[97, 98, 116]⟩ : ByteArray) (⟨#[109, 97, 112]⟩ : ByteArray) W3.heap.size 1 impl_words.K3 pb mb impl_words.L3 impl_words.F3 _ S3.out.tabs S3.out.cell S3.out.map C3.out (by decide) (Q.ascii_of (by decide +kernel)) (by kernel_rfl) (by decide) (by decide +kernel) (by decide) (by decide +kernel)).mono ?_; rintro e W4 ⟨rfl, M, G⟩; have HS : Q.WSt w W4 pb mb impl_words.L4 := S3.out.next M G; clear M G)
  clear S3 C3
  have S4 := Aside0.mk (HS.step (.cells (impl_words.K4.map fun l => Value.int .i64 l).toArray 3))
  have C4 := Aside0.mk (Q.kinds_cell W4 impl_words.K4 3)
  clear HS
  go_upto_region 8 with (go_at_call 27; refine (impl_words_1.calls (⟨#[112]⟩ : ByteArray) (⟨#[100, 105, 114, 32, 100, 114, 111, 112, 32, 109, 111, 117, 110, 116, 32, 114, 117, 110]⟩ : ByteArray) W4.heap.size 4 impl_words.K4 pb mb impl_words.L4 impl_words.F4 _ S4.out.tabs S4.out.cell S4.out.map C4.out (by decide) (Q.ascii_of (by decide +kernel)) (by kernel_rfl) (by decide) (by decide +kernel) (by decide) (by decide +kernel)).mono ?_; rintro e W5 ⟨rfl, M, G⟩; have HS : Q.WSt w W5 pb mb impl_words.L5 := S4.out.next M G; clear M G)
  clear S4 C4
  have S5 := Aside0.mk (HS.step (.cells (impl_words.K5.map fun l => Value.int .i64 l).toArray 3))
  have C5 := Aside0.mk (Q.kinds_cell W5 impl_words.K5 3)
  clear HS
  go_upto_region 9 with (go_at_call 27; refine (impl_words_1.calls (⟨#[112, 113]⟩ : ByteArray) (⟨#[108, 105, 110, 107, 32, 109, 111, 118, 101]⟩ : ByteArray) W5.heap.size 2 impl_words.K5 pb mb impl_words.L5 impl_words.F5 _ S5.out.tabs S5.out.cell S5.out.map C5.out (by decide) (Q.ascii_of (by decide +kernel)) (by kernel_rfl) (by decide) (by decide +kernel) (by decide) (by decide +kernel)).mono ?_; rintro e W6 ⟨rfl, M, G⟩; have HS : Q.WSt w W6 pb mb impl_words.L6 := S5.out.next M G; clear M G)
  clear S5 C5
  have S6 := Aside0.mk (HS.step (.cells (impl_words.K6.map fun l => Value.int .i64 l).toArray 3))
  have C6 := Aside0.mk (Q.kinds_cell W6 impl_words.K6 3)
  clear HS
  go_upto_region 10 with (go_at_call 27; refine (impl_words_1.calls (⟨#[112, 97]⟩ : ByteArray) (⟨#[102, 111, 108, 100, 101, 114, 32, 109, 111, 100, 101, 32, 111, 119, 110]⟩ : ByteArray) W6.heap.size 3 impl_words.K6 pb mb impl_words.L6 impl_words.F6 _ S6.out.tabs S6.out.cell S6.out.map C6.out (by decide) (Q.ascii_of (by decide +kernel)) (by kernel_rfl) (by decide) (by decide +kernel) (by decide) (by decide +kernel)).mono ?_; rintro e W7 ⟨rfl, M, G⟩; have HS : Q.WSt w W7 pb mb impl_words.L7 := S6.out.next M G; clear M G)
  clear S6 C6
  have S7 := Aside0.mk (HS.step (.cells (impl_words.K7.map fun l => Value.int .i64 l).toArray 3))
  have C7 := Aside0.mk (Q.kinds_cell W7 impl_words.K7 3)
  clear HS
  go_upto_region 11 with (go_at_call 27; refine (impl_words_1.calls (⟨#[112, 97, 98]⟩ : ByteArray) (⟨#[111, 112, 101, 110]⟩ : ByteArray) W7.heap.size 1 impl_words.K7 pb mb impl_words.L7 impl_words.F7 _ S7.out.tabs S7.out.cell S7.out.map C7.out (by decide) (Q.ascii_of (by decide +kernel)) (by kernel_rfl) (by decide) (by decide +kernel) (by decide) (by decide +kernel)).mono ?_; rintro e W8 ⟨rfl, M, G⟩; have HS : Q.WSt w W8 pb mb impl_words.L8 := S7.out.next M G; clear M G)
  clear S7 C7
  have S8 := Aside0.mk (HS.step (.cells (impl_words.K8.map fun l => Value.int .i64 l).toArray 3))
  have C8 := Aside0.mk (Q.kinds_cell W8 impl_words.K8 3)
  clear HS
  go_upto_region 12 with (go_at_call 27; refine (impl_words_1.calls (⟨#[97, 116]⟩ : ByteArray) (⟨#[119, 114, 105, 116, 101]⟩ : ByteArray) W8.heap.size 1 impl_words.K8 pb mb impl_words.L8 impl_words.F8 _ S8.out.tabs S8.out.cell S8.out.map C8.out (by decide) (Q.ascii_of (by decide +kernel)) (by kernel_rfl) (by decide) (by decide +kernel) (by decide) (by decide +kernel)).mono ?_; rintro e W9 ⟨rfl, M, G⟩; have HS : Q.WSt w W9 pb mb impl_words.f := S8.out.next M G; clear M G)
  clear S8 C8
  have hc := HS.cell
  have HS := Aside0.mk HS
  go_wp2
  go_ret
  exact ⟨mb, rfl, HS.out.map, HS.out.below⟩


end Go.Proofs.YtkjjlkkfhbfbmaaDoor.P

namespace Go.Proofs.YtkjjlkkfhbfbmaaDoor.P
open Go.RowKit Go.Proofs.YtkjjlkkfhbfbmaaDoorW.PrintWords Go.Proofs.YtkjjlkkfhbfbmaaDoorW.PrintLast Go.Proofs.YtkjjlkkfhbfbmaaDoorW.PrintMore
attribute [local go_sem] max2_int min2_int max_two min_two max_three min_three max_four min_four Q.cell_set_map Q.str_gtr Q.str_geq Q.str_leq
set_option linter.unusedVariables false
set_option linter.unusedSimpArgs false

/-! ### impl_ShellLine: function 6 -/
-- IMPORT Derived.Test.YtkjjlkkfhbfbmaaDoorQWords
-- IMPORT Derived.Test.YtkjjlkkfhbfbmaaDoorQSem9
-- IMPORT Derived.Deep.CutBlock
-- IMPORT Derived.Deep.CutRange
def impl_ShellLine.step (c : Int) (s : ByteArray) (x : S23) : S23 × Bool :=
  if c = 97 then ({ x with f1 := (impl_number.f s).1 }, (impl_number.f s).2)
  else if c = 98 then ({ x with f2 := (impl_number.f s).1 }, (impl_number.f s).2)
  else if c = 112 then ({ x with f3 := s }, !s.toList.isEmpty)
  else if c = 113 then ({ x with f4 := s }, !s.toList.isEmpty)
  else if c = 116 then ({ x with f5 := s }, !s.toList.isEmpty)
  else (x, !s.toList.isEmpty)
def impl_ShellLine.loop (parts : List ByteArray) (needs : ByteArray) : Nat → Nat → S23 → S23 × Bool
  | 0, _, x => (x, true)
  | k + 1, i, x => if (impl_ShellLine.step (needs.data.toList.getD i 0).toNat (rdOf ByteArray.empty parts ((i + 2 : Nat) : Int)) x).2 = true then impl_ShellLine.loop parts needs k (i + 1) (impl_ShellLine.step (needs.data.toList.getD i 0).toNat (rdOf ByteArray.empty parts ((i + 2 : Nat) : Int)) x).1 else (x, false)
def impl_ShellLine.zero : S23 := ⟨0, 0, 0, ⟨#[]⟩, ⟨#[]⟩, ⟨#[]⟩⟩
def impl_ShellLine.fin (k : Nat) (id : Int) (r : S23 × Bool) : Option (Int × S23 × Bool) :=
  if r.2 = true then (impl_CallOk.f k r.1.f0 r.1.f1 r.1.f2 r.1.f3 r.1.f4 r.1.f5).bind fun b => if b = true then some (id, r.1, true) else some (0, impl_ShellLine.zero, false)
  else some (0, impl_ShellLine.zero, false)
def impl_ShellLine.g2 (k : Nat) (parts : List ByteArray) (n : Int × Bool) (e : Int × ByteArray × Bool) : Option (Int × S23 × Bool) :=
  if n.2 = true then
    if e.2.2 = true then
      if parts.length = 2 + e.2.1.size then impl_ShellLine.fin k n.1 (impl_ShellLine.loop parts e.2.1 e.2.1.size 0 ⟨e.1, 0, 0, ⟨#[]⟩, ⟨#[]⟩, ⟨#[]⟩⟩)
      else some (0, impl_ShellLine.zero, false)
    else some (0, impl_ShellLine.zero, false)
  else some (0, impl_ShellLine.zero, false)
def impl_ShellLine.g (k : Nat) (parts : List ByteArray) : Option (Int × S23 × Bool) :=
  if parts.length < 2 then some (0, impl_ShellLine.zero, false) else impl_ShellLine.g2 k parts (impl_number.f (rdOf ByteArray.empty parts 0)) (Q.wfind impl_words.f (rdOf ByteArray.empty parts 1))
def impl_ShellLine.f (k : Nat) (a0 : ByteArray) : Option (Int × S23 × Bool) :=
  (strings_Split.f k a0 (⟨#[32]⟩ : ByteArray)).bind fun parts => if parts.all (fun s => decide (s.size ≤ 1048576)) = true ∧ parts.length ≤ 1048577 then impl_ShellLine.g k parts else none
theorem impl_ShellLine.zero40 (u : World) : (zeroValue 40).run Tryd.prog u = .ok (.agg #[.int .i64 0, .string ByteArray.empty]) u := by kernel_rfl
set_option maxHeartbeats 16000000 in
set_option maxRecDepth 100000 in
/-- A line is read. -/
theorem impl_ShellLine.calls (k : Nat) (a0 : ByteArray) (r1 : Int) (x : S23) (r8 : Bool) (w : World) (hT : Q.Tabs w) (h : impl_ShellLine.f k a0 = some (r1, x, r8)) :
    Calls Tryd.prog 6 #[.string a0] w fun e w' => e = .returned (.tuple #[.int .i64 r1, .agg #[.int .i64 x.f0, .int .i64 x.f1, .int .i64 x.f2, .string x.f3, .string x.f4, .string x.f5], .bool r8]) ∧ Below w.heap.size w w' := by
  obtain ⟨parts, hs, H⟩ := Option.bind_eq_some_iff.1 h
  by_cases hsz : parts.all (fun s => decide (s.size ≤ 1048576)) = true ∧ parts.length ≤ 1048577
  rotate_left
  · rw [if_neg hsz] at H
    cases H
  rw [if_pos hsz] at H
  have hpl := hsz.2
  have HSZ : Aside0 (∀ s ∈ parts, s.size ≤ 1048576) := ⟨fun s hs => of_decide_eq_true (List.all_eq_true.1 hsz.1 s hs)⟩
  have HS := Aside0.mk hs
  have HH := Aside0.mk H
  have HT := Aside0.mk hT
  have HT0 := Aside0.mk hT
  have HB := Aside0.mk (Below.refl w.heap.size w)
  clear hs H h hT hsz
  go_enter Tryd.func6, Tryd.ntmps6
  go_upto_region 2 with (first | ((with_reducible refine gate_dst (N := 3) rfl ?_); (try (refine gate_guard (by rfl) ?_; dsimp only)); refine box_event ?hg (N := 3) ?hd (cs := #[.int .i64 0, .int .i64 0, .int .i64 0, .string (⟨#[]⟩ : ByteArray), .string (⟨#[]⟩ : ByteArray), .string (⟨#[]⟩ : ByteArray)]) (t := 23) ?hr ?_; (case hd => rfl); (case hg => rfl); (case hr => first | (go_simp; done) | (go_simp; rfl)); intro gb3 hg w5 hbox hb; have BK3 := Aside0.mk hbox; have GE3 := Aside0.mk (by rw [hg]; exact below_size HB.out : w.heap.size ≤ gb3);  replace HT := Aside0.mk (HT.out.below hb); replace HB := Aside0.mk (below_step HB.out hb); clear hb hbox hg) | (go_at_call 14; refine (strings_Split.calls k a0 (⟨#[32]⟩ : ByteArray) parts _ HS.out).mono ?_; rintro e w7 ⟨v7, rfl, ho, hb⟩; obtain ⟨A7, c7, e7⟩ := Kd.R_slice ho; subst e7; have HC := Aside0.mk (Kd.R_reads' ho).2.2; have hcap := (Kd.R_reads' ho).2.1; replace BK3 := Aside0.mk (blk_below BK3.out hb); replace HT := Aside0.mk (HT.out.below hb); replace HB := Aside0.mk (below_step HB.out hb); clear hb ho))
  by_cases c2 : parts.length < 2
  · have H := HH.out
    unfold impl_ShellLine.g at H
    rw [if_pos c2] at H
    have c2a : ((parts.length : Int) < 2) := by omega
    simp only [Option.some.injEq, Prod.mk.injEq] at H
    obtain ⟨rfl, rfl, rfl⟩ := H
    obtain ⟨hz0, hz1, hz2, hz3, hz4, hz5⟩ := cz6 BK3.out
    obtain ⟨hf0, hf1, hf2, hf3, hf4, hf5⟩ := fz6 BK3.out
    obtain ⟨q1, q2, q3⟩ := Q.wfill6 BK3.out (.int .i64 0) (.int .i64 0) (.int .i64 0) (.string (⟨#[]⟩ : ByteArray)) (.string (⟨#[]⟩ : ByteArray)) (.string (⟨#[]⟩ : ByteArray))
    have Q1 := Aside0.mk q1
    have Q3 := Aside0.mk (q3 w HB.out GE3.out)
    clear q1 q2 q3
    go_wp2
    refine bodyPost_ret (results_list (rs := [.tmp 2, .cell 3 23, .tmp 4]) rfl (by simp) (.tmp (.cell gb3 23 #[.int .i64 0, .int .i64 0, .int .i64 0, .string (⟨#[]⟩ : ByteArray), .string (⟨#[]⟩ : ByteArray), .string (⟨#[]⟩ : ByteArray)] (0, 0) _ rfl Q1.out Tryd.underlying23 rfl zk (.tmp .nil)))) rfl ?_
    exact ⟨rfl, Q3.out⟩
  have H := HH.out
  unfold impl_ShellLine.g at H
  rw [if_neg c2] at H
  have c2a : ¬ ((parts.length : Int) < 2) := by omega
  have c2b : (0 : Int) < (parts.length : Int) := by omega
  have c2c : (1 : Int) < (parts.length : Int) := by omega
  obtain ⟨ad, ead, hx0⟩ := Kd.at_string HC.out 0 (Int.le_refl _) c2b
  subst ead
  obtain ⟨ad', ead, hx1⟩ := Kd.at_string HC.out 1 (by omega) c2c
  injection ead with ead
  subst ead
  rw [show ((0 : Int)).toNat = 0 from rfl, Addr.add_zero'] at hx0
  rw [show ((1 : Int)).toNat = 1 from rfl] at hx1
  obtain ⟨s0, hs0⟩ : ∃ s, s = rdOf ByteArray.empty parts 0 := ⟨_, rfl⟩
  obtain ⟨s1, hs1⟩ : ∃ s, s = rdOf ByteArray.empty parts 1 := ⟨_, rfl⟩
  have z0 : s0.size ≤ 1048576 := HSZ.out _ (by rw [hs0]; exact Q.rd_mem_ (by omega))
  have z1 : s1.size ≤ 1048576 := HSZ.out _ (by rw [hs1]; exact Q.rd_mem_ (by omega))
  rw [← hs0] at hx0 H
  rw [← hs1] at hx1 H
  obtain ⟨n1, n2, hn⟩ : ∃ n1 n2, impl_number.f s0 = (n1, n2) := ⟨_, _, rfl⟩
  rw [hn] at H
  obtain ⟨e1, e2, e3, he⟩ : ∃ e1 e2 e3, Q.wfind impl_words.f s1 = (e1, e2, e3) := ⟨_, _, _, rfl⟩
  rw [he] at H
  replace HH := Aside0.mk H
  have HX1 := Aside0.mk hx1
  have HE := Aside0.mk he
  have HN := Aside0.mk hn
  clear H hs0 hs1 hx1 he hn
  go_upto_region 5 with (go_at_call 15; refine (impl_number.calls s0 _ HT.out z0).mono ?_; rintro e w8 ⟨rfl, hb⟩; rw [HN.out]; replace BK3 := Aside0.mk (blk_below BK3.out hb); replace HC := Aside0.mk (Kd.C_below HC.out hb); replace HX1 := Aside0.mk (pw_cell_below hb HX1.out); replace HT := Aside0.mk (HT.out.below hb); replace HB := Aside0.mk (below_step HB.out hb); clear hb)
  refine start_ (n := 11) (S := fun w' => w'.cell? ⟨ad.block, ad.off + 1, none⟩ = some (.string s1)) (ds := [9]) #[false, false, false, false, false, false, false, false, false, false, false] (by kernel_rfl) rfl rfl (HX1.out) (fun hHeld => ?_)
  refine pure_ (i := 1) (N := some 29) (v := ?_) (a' := ?_) #[false, true, false, false, false, false, false, false, false, false, false] rfl rfl (by kernel_rfl) (fun _ _ _ h => h) (Or.inl ⟨by rfl, ?_⟩) ?_ ?_
  rotate_left
  · intro w'
    go_simp
    with_reducible rfl
  rotate_left
  · simp only [Act.put, List.setIfInBounds_toArray, List.set_cons_zero, List.set_cons_succ, i64_w, i32_w]
    rfl
  refine pure_ (i := 2) (N := some 30) (v := ?_) (a' := ?_) #[false, true, true, false, false, false, false, false, false, false, false] rfl rfl (by kernel_rfl) (fun _ _ _ h => h) (Or.inl ⟨by rfl, ?_⟩) ?_ ?_
  rotate_left
  · intro w'
    go_simp
    with_reducible rfl
  rotate_left
  · simp only [Act.put, List.setIfInBounds_toArray, List.set_cons_zero, List.set_cons_succ, i64_w, i32_w]
    rfl
  refine take_ (i := 3) (N := some 31) (v := ?_) (a' := ?_) #[false, true, true, true, false, false, false, false, false, false, false] rfl rfl (by kernel_rfl) (fun _ _ _ h => h) (Or.inl ⟨by rfl, ?_⟩) hHeld ?_ ?_
  rotate_left
  · intro w' s0
    go_simp
    with_reducible rfl
  rotate_left
  · simp only [Act.put, List.setIfInBounds_toArray, List.set_cons_zero, List.set_cons_succ, i64_w, i32_w]
    rfl
  refine join_ (σ := Nat × Nat) 2 #[true, true, true, true, true, true, true, true, true, false, false] (fun s_ => [(28, .map (some s_.1)), (32, .tuple #[.agg #[.int .i64 e1, .string e2], .bool e3]), (8, .pointer (some ⟨s_.2, 0, none⟩)), (27, .tuple #[.agg #[.int .i64 e1, .string e2], .bool e3]), (33, .agg #[.int .i64 e1, .string e2]), (34, .bool e3)]) (fun s_ w' => (w'.cell? ⟨ad.block, ad.off + 1, none⟩ = some (.string s1)) ∧ (w'.heap[s_.2]? = some (.cells #[.int .i64 0, .string (⟨#[]⟩ : ByteArray)] 40 (0, 0))) ∧ Below w8.heap.size w8 w' ∧ w8.heap.size ≤ s_.2) ?_ ?_
  rotate_left
  · intro hCont
    refine two_ (i := 0) (j := 8) (Ni := some 28) (Nj := some 8) #[true, true, true, true, false, false, false, false, false, false, false] #[false, true, true, true, false, false, false, false, true, false, false] rfl rfl rfl rfl (by kernel_rfl) (by decide) (by decide) (fun K hK => ?_) (fun K hK => ?_)
    · skip
      refine goes_ Tryd.func16 (by kernel_rfl) rfl #[] (by rfl) rfl rfl zm ?_
      refine (impl_words.calls _ (HT.out.below (below_drew1 (Below.refl w8.heap.size w8)))).mono ?_
      rintro e w10 ⟨mb, rfl, M10, b10⟩
      refine ⟨_, rfl, ?_⟩
      have B10 := below_step (below_drew1 (Below.refl w8.heap.size w8)) b10
      refine hK.out _ _ (pw_cell_below b10 hHeld) (fun hHeld => ?_)
      clear hK K
      refine norm_ (a' := ?_) ?_ ?_
      rotate_left
      · show Act.put _ (some 28) _ = _
        simp only [Act.put, List.setIfInBounds_toArray, List.set_cons_zero, List.set_cons_succ, i64_w, i32_w]
        rfl
      refine two_ (i := 4) (j := 8) (Ni := some 32) (Nj := some 8) #[true, true, true, true, true, false, false, false, false, false, false] #[true, true, true, true, false, false, false, false, true, false, false] rfl rfl rfl rfl (by kernel_rfl) (by decide) (by decide) (fun K hK => ?_) (fun K hK => ?_)
      · skip
        have hrun := M10.look (P := Tryd.prog) (k := 9) (e := 40) (t := 42) Tryd.underlying9 Tryd.underlying42 (impl_ShellLine.zero40 _) (s := s1) (by simp only [maxLen]; omega)
        rw [HE.out] at hrun
        refine value_ (w1 := ?_) (v := ?_) (by rfl) rfl ?_ ?_
        rotate_left 2
        · go_simp
          constructor
          · rfl
          · rfl
        refine hK.out _ _ (hHeld) (fun hHeld => ?_)
        clear hK K
        refine norm_ (a' := ?_) ?_ ?_
        rotate_left
        · show Act.put _ (some 32) _ = _
          simp only [Act.put, List.setIfInBounds_toArray, List.set_cons_zero, List.set_cons_succ, i64_w, i32_w]
          rfl
        refine pure_ (i := 5) (N := some 27) (v := ?_) (a' := ?_) #[true, true, true, true, true, true, false, false, false, false, false] rfl rfl (by kernel_rfl) (fun _ _ _ h => h) (Or.inl ⟨by rfl, ?_⟩) ?_ ?_
        rotate_left
        · intro w'
          go_simp
          with_reducible rfl
        rotate_left
        · simp only [Act.put, List.setIfInBounds_toArray, List.set_cons_zero, List.set_cons_succ, i64_w, i32_w]
          rfl
        refine pure_ (i := 6) (N := some 33) (v := ?_) (a' := ?_) #[true, true, true, true, true, true, true, false, false, false, false] rfl rfl (by kernel_rfl) (fun _ _ _ h => h) (Or.inl ⟨by rfl, ?_⟩) ?_ ?_
        rotate_left
        · intro w'
          go_simp
          with_reducible rfl
        rotate_left
        · simp only [Act.put, List.setIfInBounds_toArray, List.set_cons_zero, List.set_cons_succ, i64_w, i32_w]
          rfl
        refine pure_ (i := 7) (N := some 34) (v := ?_) (a' := ?_) #[true, true, true, true, true, true, true, true, false, false, false] rfl rfl (by kernel_rfl) (fun _ _ _ h => h) (Or.inl ⟨by rfl, ?_⟩) ?_ ?_
        rotate_left
        · intro w'
          go_simp
          with_reducible rfl
        rotate_left
        · simp only [Act.put, List.setIfInBounds_toArray, List.set_cons_zero, List.set_cons_succ, i64_w, i32_w]
          rfl
        refine one_ (i := 8) (N := some 8) #[true, true, true, true, true, true, true, true, true, false, false] rfl rfl (by kernel_rfl) (by decide) (fun K hK => ?_)
        refine value_ (w1 := ?_) (v := ?_) (by rfl) rfl ?_ ?_
        rotate_left 2
        · go_simp
          constructor
          · rfl
          · rfl
        refine hK.out _ _ (pw_cell_below (below_alloc (Below.refl _ _) _) hHeld) (fun hHeld => ?_)
        clear hK K
        refine norm_ (a' := ?_) ?_ ?_
        rotate_left
        · show Act.put _ (some 8) _ = _
          simp only [Act.put, List.setIfInBounds_toArray, List.set_cons_zero, List.set_cons_succ, i64_w, i32_w]
          rfl
        exact norm_ (by simp only [putAll, Act.put, List.setIfInBounds_toArray, List.set_cons_zero, List.set_cons_succ]) (hCont (mb, w10.heap.size) _ ⟨hHeld, blk_new w10 _, below_step B10 (below_alloc (Below.refl _ _) _), B10.size⟩)
      · skip
        refine value_ (w1 := ?_) (v := ?_) (by rfl) rfl ?_ ?_
        rotate_left 2
        · go_simp
          constructor
          · rfl
          · rfl
        refine hK.out _ _ (pw_cell_below (below_alloc (Below.refl _ _) _) hHeld) (fun hHeld => ?_)
        clear hK K
        refine norm_ (a' := ?_) ?_ ?_
        rotate_left
        · show Act.put _ (some 8) _ = _
          simp only [Act.put, List.setIfInBounds_toArray, List.set_cons_zero, List.set_cons_succ, i64_w, i32_w]
          rfl
        refine one_ (i := 4) (N := some 32) #[true, true, true, true, true, false, false, false, true, false, false] rfl rfl (by kernel_rfl) (by decide) (fun K hK => ?_)
        have hrun := fun o => (M10.below (below_alloc (Below.refl _ _) o)).look (P := Tryd.prog) (k := 9) (e := 40) (t := 42) Tryd.underlying9 Tryd.underlying42 (impl_ShellLine.zero40 _) (s := s1) (by simp only [maxLen]; omega)
        simp only [HE.out] at hrun
        refine value_ (w1 := ?_) (v := ?_) (by rfl) rfl ?_ ?_
        rotate_left 2
        · go_simp
          constructor
          · rfl
          · rfl
        refine hK.out _ _ (hHeld) (fun hHeld => ?_)
        clear hK K
        refine norm_ (a' := ?_) ?_ ?_
        rotate_left
        · show Act.put _ (some 32) _ = _
          simp only [Act.put, List.setIfInBounds_toArray, List.set_cons_zero, List.set_cons_succ, i64_w, i32_w]
          rfl
        refine pure_ (i := 5) (N := some 27) (v := ?_) (a' := ?_) #[true, true, true, true, true, true, false, false, true, false, false] rfl rfl (by kernel_rfl) (fun _ _ _ h => h) (Or.inl ⟨by rfl, ?_⟩) ?_ ?_
        rotate_left
        · intro w'
          go_simp
          with_reducible rfl
        rotate_left
        · simp only [Act.put, List.setIfInBounds_toArray, List.set_cons_zero, List.set_cons_succ, i64_w, i32_w]
          rfl
        refine pure_ (i := 6) (N := some 33) (v := ?_) (a' := ?_) #[true, true, true, true, true, true, true, false, true, false, false] rfl rfl (by kernel_rfl) (fun _ _ _ h => h) (Or.inl ⟨by rfl, ?_⟩) ?_ ?_
        rotate_left
        · intro w'
          go_simp
          with_reducible rfl
        rotate_left
        · simp only [Act.put, List.setIfInBounds_toArray, List.set_cons_zero, List.set_cons_succ, i64_w, i32_w]
          rfl
        refine pure_ (i := 7) (N := some 34) (v := ?_) (a' := ?_) #[true, true, true, true, true, true, true, true, true, false, false] rfl rfl (by kernel_rfl) (fun _ _ _ h => h) (Or.inl ⟨by rfl, ?_⟩) ?_ ?_
        rotate_left
        · intro w'
          go_simp
          with_reducible rfl
        rotate_left
        · simp only [Act.put, List.setIfInBounds_toArray, List.set_cons_zero, List.set_cons_succ, i64_w, i32_w]
          rfl
        exact norm_ (by simp only [putAll, Act.put, List.setIfInBounds_toArray, List.set_cons_zero, List.set_cons_succ]) (hCont (mb, w10.heap.size) _ ⟨hHeld, blk_new w10 _, below_step B10 (below_alloc (Below.refl _ _) _), B10.size⟩)
    · skip
      refine value_ (w1 := ?_) (v := ?_) (by rfl) rfl ?_ ?_
      rotate_left 2
      · go_simp
        constructor
        · rfl
        · rfl
      refine hK.out _ _ (pw_cell_below (below_alloc (Below.refl _ _) _) hHeld) (fun hHeld => ?_)
      clear hK K
      refine norm_ (a' := ?_) ?_ ?_
      rotate_left
      · show Act.put _ (some 8) _ = _
        simp only [Act.put, List.setIfInBounds_toArray, List.set_cons_zero, List.set_cons_succ, i64_w, i32_w]
        rfl
      refine one_ (i := 0) (N := some 28) #[true, true, true, true, false, false, false, false, true, false, false] rfl rfl (by kernel_rfl) (by decide) (fun K hK => ?_)
      refine goes_ Tryd.func16 (by kernel_rfl) rfl #[] (by rfl) rfl rfl zm ?_
      refine (impl_words.calls _ ((HT.out.below (below_drew1 (Below.refl w8.heap.size w8))).below (below_alloc (Below.refl _ _) _))).mono ?_
      rintro e w10 ⟨mb, rfl, M10, b10⟩
      refine ⟨_, rfl, ?_⟩
      have B10 := below_step (below_step (below_drew1 (Below.refl w8.heap.size w8)) (below_alloc (Below.refl _ _) _)) b10
      refine hK.out _ _ (pw_cell_below b10 hHeld) (fun hHeld => ?_)
      clear hK K
      refine norm_ (a' := ?_) ?_ ?_
      rotate_left
      · show Act.put _ (some 28) _ = _
        simp only [Act.put, List.setIfInBounds_toArray, List.set_cons_zero, List.set_cons_succ, i64_w, i32_w]
        rfl
      refine one_ (i := 4) (N := some 32) #[true, true, true, true, true, false, false, false, true, false, false] rfl rfl (by kernel_rfl) (by decide) (fun K hK => ?_)
      have hrun := M10.look (P := Tryd.prog) (k := 9) (e := 40) (t := 42) Tryd.underlying9 Tryd.underlying42 (impl_ShellLine.zero40 _) (s := s1) (by simp only [maxLen]; omega)
      rw [HE.out] at hrun
      refine value_ (w1 := ?_) (v := ?_) (by rfl) rfl ?_ ?_
      rotate_left 2
      · go_simp
        constructor
        · rfl
        · rfl
      refine hK.out _ _ (hHeld) (fun hHeld => ?_)
      clear hK K
      refine norm_ (a' := ?_) ?_ ?_
      rotate_left
      · show Act.put _ (some 32) _ = _
        simp only [Act.put, List.setIfInBounds_toArray, List.set_cons_zero, List.set_cons_succ, i64_w, i32_w]
        rfl
      refine pure_ (i := 5) (N := some 27) (v := ?_) (a' := ?_) #[true, true, true, true, true, true, false, false, true, false, false] rfl rfl (by kernel_rfl) (fun _ _ _ h => h) (Or.inl ⟨by rfl, ?_⟩) ?_ ?_
      rotate_left
      · intro w'
        go_simp
        with_reducible rfl
      rotate_left
      · simp only [Act.put, List.setIfInBounds_toArray, List.set_cons_zero, List.set_cons_succ, i64_w, i32_w]
        rfl
      refine pure_ (i := 6) (N := some 33) (v := ?_) (a' := ?_) #[true, true, true, true, true, true, true, false, true, false, false] rfl rfl (by kernel_rfl) (fun _ _ _ h => h) (Or.inl ⟨by rfl, ?_⟩) ?_ ?_
      rotate_left
      · intro w'
        go_simp
        with_reducible rfl
      rotate_left
      · simp only [Act.put, List.setIfInBounds_toArray, List.set_cons_zero, List.set_cons_succ, i64_w, i32_w]
        rfl
      refine pure_ (i := 7) (N := some 34) (v := ?_) (a' := ?_) #[true, true, true, true, true, true, true, true, true, false, false] rfl rfl (by kernel_rfl) (fun _ _ _ h => h) (Or.inl ⟨by rfl, ?_⟩) ?_ ?_
      rotate_left
      · intro w'
        go_simp
        with_reducible rfl
      rotate_left
      · simp only [Act.put, List.setIfInBounds_toArray, List.set_cons_zero, List.set_cons_succ, i64_w, i32_w]
        rfl
      exact norm_ (by simp only [putAll, Act.put, List.setIfInBounds_toArray, List.set_cons_zero, List.set_cons_succ]) (hCont (mb, w8.heap.size) _ ⟨hHeld, blk_below (blk_new w8.drew _) b10, B10, Nat.le_refl _⟩)
  rintro ⟨mb, gb8⟩ w13 ⟨hS_, hbx, hbb, hge⟩
  have BK8 : Aside0 (w13.heap[gb8]? = some (.cells #[.int .i64 0, .string (⟨#[]⟩ : ByteArray)] 40 (0, 0))) := ⟨hbx⟩
  have BB := Aside0.mk hbb
  have GG8 := Aside0.mk hge
  clear hbx hbb hge
  have hHeld : w13.cell? ⟨ad.block, ad.off + 1, none⟩ = some (.string s1) := hS_
  refine norm_ (a' := ?_) ?_ ?_
  rotate_left
  · simp only [putAll, Act.put, List.setIfInBounds_toArray, List.set_cons_zero, List.set_cons_succ]
    rfl
  refine last_ (i := 9) (N := none) #[true, true, true, true, true, true, true, true, true, true, false] rfl rfl (by kernel_rfl) (by decide) (fun K hK => ?_)
  obtain ⟨hy0, hy1⟩ := cz2 BK8.out
  obtain ⟨hf0, hf1⟩ := fz2 BK8.out
  refine skip_ (w1 := ?_) (by rfl) rfl ?_ ?_
  rotate_left
  · go_simp
    rfl
  refine hK.out _ _ ?_
  clear hK K
  refine pure_ (i := 10) (N := some 9) (v := ?_) (a' := ?_) #[true, true, true, true, true, true, true, true, true, true, true] rfl rfl (by kernel_rfl) (fun _ _ _ h => h) (Or.inl ⟨by rfl, ?_⟩) ?_ ?_
  rotate_left
  · intro w'
    go_simp
    with_reducible rfl
  rotate_left
  · simp only [Act.put, List.setIfInBounds_toArray, List.set_cons_zero, List.set_cons_succ, i64_w, i32_w]
    rfl
  refine done_ (by kernel_rfl) ?_

  obtain ⟨q1, q2, q3⟩ := Q.wfill2 BK8.out (.int .i64 e1) (.string e2)
  have B14 := q3 w8 BB.out GG8.out
  generalize (w13.setCell ⟨gb8, 0, none⟩ (.int .i64 e1)).setCell ⟨gb8, 1, none⟩ (.string e2) = w14 at q1 B14 ⊢
  have GE8 : Aside0 (w.heap.size ≤ gb8) := ⟨Nat.le_trans HB.out.size GG8.out⟩
  replace BK8 := Aside0.mk q1
  replace BK3 := Aside0.mk (blk_below BK3.out B14)
  replace HC := Aside0.mk (Kd.C_below HC.out B14)
  replace HT := Aside0.mk (HT.out.below B14)
  replace HB := Aside0.mk (below_step HB.out B14)
  clear q1 q2 q3 B14 BB GG8 HX1 hx0
  have H := HH.out
  unfold impl_ShellLine.g2 at H
  cases n2 with
  | false =>
    rw [if_neg (by simp)] at H
    simp only [Option.some.injEq, Prod.mk.injEq] at H
    obtain ⟨rfl, rfl, rfl⟩ := H
    obtain ⟨hz0, hz1, hz2, hz3, hz4, hz5⟩ := cz6 BK3.out
    obtain ⟨hf0, hf1, hf2, hf3, hf4, hf5⟩ := fz6 BK3.out
    obtain ⟨q1, q2, q3⟩ := Q.wfill6 BK3.out (.int .i64 0) (.int .i64 0) (.int .i64 0) (.string (⟨#[]⟩ : ByteArray)) (.string (⟨#[]⟩ : ByteArray)) (.string (⟨#[]⟩ : ByteArray))
    have Q1 := Aside0.mk q1
    have Q3 := Aside0.mk (q3 w HB.out GE3.out)
    clear q1 q2 q3
    go_wp2
    refine bodyPost_ret (results_list (rs := [.tmp 2, .cell 3 23, .tmp 4]) rfl (by simp) (.tmp (.cell gb3 23 #[.int .i64 0, .int .i64 0, .int .i64 0, .string (⟨#[]⟩ : ByteArray), .string (⟨#[]⟩ : ByteArray), .string (⟨#[]⟩ : ByteArray)] (0, 0) _ rfl Q1.out Tryd.underlying23 rfl zk (.tmp .nil)))) rfl ?_
    exact ⟨rfl, Q3.out⟩
  | true =>
  rw [if_pos rfl] at H
  cases e3 with
  | false =>
    rw [if_neg (by simp)] at H
    simp only [Option.some.injEq, Prod.mk.injEq] at H
    obtain ⟨rfl, rfl, rfl⟩ := H
    obtain ⟨hz0, hz1, hz2, hz3, hz4, hz5⟩ := cz6 BK3.out
    obtain ⟨hf0, hf1, hf2, hf3, hf4, hf5⟩ := fz6 BK3.out
    obtain ⟨q1, q2, q3⟩ := Q.wfill6 BK3.out (.int .i64 0) (.int .i64 0) (.int .i64 0) (.string (⟨#[]⟩ : ByteArray)) (.string (⟨#[]⟩ : ByteArray)) (.string (⟨#[]⟩ : ByteArray))
    have Q1 := Aside0.mk q1
    have Q3 := Aside0.mk (q3 w HB.out GE3.out)
    clear q1 q2 q3
    go_wp2
    refine bodyPost_ret (results_list (rs := [.tmp 2, .cell 3 23, .tmp 4]) rfl (by simp) (.tmp (.cell gb3 23 #[.int .i64 0, .int .i64 0, .int .i64 0, .string (⟨#[]⟩ : ByteArray), .string (⟨#[]⟩ : ByteArray), .string (⟨#[]⟩ : ByteArray)] (0, 0) _ rfl Q1.out Tryd.underlying23 rfl zk (.tmp .nil)))) rfl ?_
    exact ⟨rfl, Q3.out⟩
  | true =>
  rw [if_pos rfl] at H
  by_cases c4 : parts.length = 2 + e2.size
  rotate_left
  · rw [if_neg c4] at H
    have c4b : ((parts.length : Int) - 2 != (e2.size : Int)) = true := bne_iff_ne.mpr (by omega)
    obtain ⟨hy0, hy1⟩ := cz2 BK8.out
    simp only [Option.some.injEq, Prod.mk.injEq] at H
    obtain ⟨rfl, rfl, rfl⟩ := H
    obtain ⟨hz0, hz1, hz2, hz3, hz4, hz5⟩ := cz6 BK3.out
    obtain ⟨hf0, hf1, hf2, hf3, hf4, hf5⟩ := fz6 BK3.out
    obtain ⟨q1, q2, q3⟩ := Q.wfill6 BK3.out (.int .i64 0) (.int .i64 0) (.int .i64 0) (.string (⟨#[]⟩ : ByteArray)) (.string (⟨#[]⟩ : ByteArray)) (.string (⟨#[]⟩ : ByteArray))
    have Q1 := Aside0.mk q1
    have Q3 := Aside0.mk (q3 w HB.out GE3.out)
    clear q1 q2 q3
    go_wp2
    refine bodyPost_ret (results_list (rs := [.tmp 2, .cell 3 23, .tmp 4]) rfl (by simp) (.tmp (.cell gb3 23 #[.int .i64 0, .int .i64 0, .int .i64 0, .string (⟨#[]⟩ : ByteArray), .string (⟨#[]⟩ : ByteArray), .string (⟨#[]⟩ : ByteArray)] (0, 0) _ rfl Q1.out Tryd.underlying23 rfl zk (.tmp .nil)))) rfl ?_
    exact ⟨rfl, Q3.out⟩
  rw [if_pos c4] at H
  have c4b : ((parts.length : Int) - 2 != (e2.size : Int)) = false := bne_eq_false_iff_eq.mpr (by omega)
  replace HH := Aside0.mk H
  clear H
  obtain ⟨hy0, hy1⟩ := cz2 BK8.out
  have C4 := Aside0.mk c4
  clear c4
  go_upto_region 9 with ((with_reducible refine gate_dst (N := 10) rfl ?_); (try (refine gate_guard (by rfl) ?_; dsimp only)); refine box_event ?hg (N := 10) ?hd (cs := #[.int .i64 0, .int .i64 0, .int .i64 0, .string (⟨#[]⟩ : ByteArray), .string (⟨#[]⟩ : ByteArray), .string (⟨#[]⟩ : ByteArray)]) (t := 23) ?hr ?_; (case hd => rfl); (case hg => rfl); (case hr => first | (go_simp; done) | (go_simp; rfl)); intro gb10 hg w5 hbox hb; have BK10 := Aside0.mk hbox; have GE10 := Aside0.mk (by rw [hg]; exact below_size HB.out : w.heap.size ≤ gb10); have N310 := Aside0.mk (by rw [hg]; exact Nat.ne_of_lt (blk_lt BK3.out) : gb3 ≠ gb10); have N810 := Aside0.mk (by rw [hg]; exact Nat.ne_of_lt (blk_lt BK8.out) : gb8 ≠ gb10); have GX := Aside0.mk (Nat.le_of_eq hg.symm); have BX := Aside0.mk hb; obtain ⟨hg0, hg1, hg2, hg3, hg4, hg5⟩ := cz6 BK10.out; obtain ⟨hk0, hk1, hk2, hk3, hk4, hk5⟩ := fz6 BK10.out; clear hy0 hy1; obtain ⟨hy0, hy1⟩ := cz2 (blk_below BK8.out hb); clear hb hbox hg)
  obtain ⟨q1, q2, q3⟩ := Q.wfill6 BK10.out (.int .i64 e1) (.int .i64 0) (.int .i64 0) (.string (⟨#[]⟩ : ByteArray)) (.string (⟨#[]⟩ : ByteArray)) (.string (⟨#[]⟩ : ByteArray))
  have NP : Aside0 (ad.block ≠ gb10) := ⟨by
    obtain ⟨a2, ea, hx⟩ := Kd.at_string HC.out 0 (Int.le_refl _) (by omega)
    injection ea with ea
    subst ea
    have h1 : ad.block < _ := World.block_lt_of_cell? _ _ hx
    have h2 := GX.out
    omega⟩
  have B15 := q3 _ BX.out GX.out
  clear hg0 hg1 hg2 hg3 hg4 hg5 hk0 hk1 hk2 hk3 hk4 hk5 hy0 hy1 q3
  generalize ((((((w5.setCell ⟨gb10, 0, none⟩ (.int .i64 e1)).setCell ⟨gb10, 1, none⟩ (.int .i64 0)).setCell ⟨gb10, 2, none⟩ (.int .i64 0)).setCell ⟨gb10, 3, none⟩ (.string (⟨#[]⟩ : ByteArray))).setCell ⟨gb10, 4, none⟩ (.string (⟨#[]⟩ : ByteArray))).setCell ⟨gb10, 5, none⟩ (.string (⟨#[]⟩ : ByteArray))) = w15 at q1 q2 B15 ⊢
  replace BK10 := Aside0.mk q1
  replace BK3 := Aside0.mk (blk_below BK3.out B15)
  replace BK8 := Aside0.mk (blk_below BK8.out B15)
  replace HC := Aside0.mk (Kd.C_below HC.out B15)
  replace HT := Aside0.mk (HT.out.below B15)
  replace HB := Aside0.mk (below_step HB.out B15)
  clear q1 q2 B15 BX GX
  have HP : Aside0 (∀ i, i + 2 < parts.length → w15.cell? ⟨ad.block, ad.off + 2 + i, none⟩ = some (.string (rdOf ByteArray.empty parts ((i + 2 : Nat) : Int)))) := ⟨fun i hi => by
    obtain ⟨a2, ea, hx⟩ := Kd.at_string HC.out ((i + 2 : Nat) : Int) (by omega) (by omega)
    injection ea with ea
    subst ea
    rw [Int.toNat_natCast] at hx
    exact Q.add_at_ hx⟩
  clear HC
  have C5 : 2 ≤ parts.length := by have := C4.out; omega
  obtain ⟨i9, hi9, hz9⟩ : ∃ i, Tryd.prog.info? 9 = some i ∧ i.size = 1 := by
    cases hi : Tryd.prog.info? 9 with
    | none =>
      have h := info9
      rw [hi] at h
      cases h
    | some i =>
      have h := info9
      rw [hi] at h
      simp only [Option.map_some, Option.some.injEq, Prod.mk.injEq] at h
      exact ⟨i, rfl, h.2.1⟩
  obtain ⟨A55, hA55⟩ : ∃ A, A = (if c7 = (2 : Int).toNat then some ad else (some ad).map (·.add ((2 : Int).toNat * 1))) := ⟨_, rfl⟩
  have hslc := cut_from 32 9 .i64 Tryd.underlying32 hi9 1 hz9 (some ad) parts.length c7 2 (by decide) (by omega)
  rw [← hA55, show (2 : Int).toNat = 2 from rfl] at hslc
  have HA55 : Aside0 (2 < parts.length → A55 = some ⟨ad.block, ad.off + 2, none⟩) := ⟨fun h2 => by
    rw [hA55, if_neg (by simp only [Int.reduceToNat]; omega)]
    exact Q.add_eq_⟩
  clear hA55 hi9 hz9
  obtain ⟨m, hm⟩ : ∃ m, m = parts.length - 2 := ⟨_, rfl⟩
  have hmm : m = e2.size := by have := C4.out; omega
  rw [← hm] at hslc
  have C6 : Aside0 (parts.length = 2 + m) := ⟨by omega⟩
  have HM := Aside0.mk hmm
  clear hm hmm c4b hcap c2 c2a c2b c2c
  go_wp2
  obtain ⟨xr, br, hl⟩ : ∃ xr br, impl_ShellLine.loop parts e2 e2.size 0 ⟨e1, 0, 0, ⟨#[]⟩, ⟨#[]⟩, ⟨#[]⟩⟩ = (xr, br) := ⟨_, _, rfl⟩
  have H := HH.out
  rw [hl] at H
  replace HH := Aside0.mk H
  rw [← HM.out] at hl
  have HL := Aside0.mk hl
  clear H hl
  go_loopg [57] m (fun kq v57 w' => ∃ (i : Nat) (y : S23), v57 = .int .i64 (i : Int) ∧ i + kq = m ∧ Aside0 (impl_ShellLine.loop parts e2 kq i y = (xr, br)) ∧ Aside0 (w'.heap[gb3]? = some (.cells #[.int .i64 0, .int .i64 0, .int .i64 0, .string (⟨#[]⟩ : ByteArray), .string (⟨#[]⟩ : ByteArray), .string (⟨#[]⟩ : ByteArray)] 23 (0, 0))) ∧ Aside0 (w'.heap[gb8]? = some (.cells #[.int .i64 e1, .string e2] 40 (0, 0))) ∧ Aside0 (w'.heap[gb10]? = some (.cells #[.int .i64 y.f0, .int .i64 y.f1, .int .i64 y.f2, .string y.f3, .string y.f4, .string y.f5] 23 (0, 0))) ∧ Aside0 (∀ i, i + 2 < parts.length → w'.cell? ⟨ad.block, ad.off + 2 + i, none⟩ = some (.string (rdOf ByteArray.empty parts ((i + 2 : Nat) : Int)))) ∧ Aside0 (Below w.heap.size w w'))
  case atStart => exact ⟨0, ⟨e1, 0, 0, ⟨#[]⟩, ⟨#[]⟩, ⟨#[]⟩⟩, rfl, by omega, HL, BK3, BK8, BK10, HP, HB⟩
  case round =>
    clear HL BK3 BK8 BK10 HP HT HB
    obtain ⟨i, y, rfl, hi, HL, BK3, BK8, BK10, HP, HB⟩ := hrel
    cases gk with
    | zero =>
      have hlt : ¬ (i : Int) < (m : Int) := by omega
      have h := HL.out
      simp only [impl_ShellLine.loop, Prod.mk.injEq] at h
      obtain ⟨rfl, rfl⟩ := h
      have H := HH.out
      unfold impl_ShellLine.fin at H
      rw [if_pos rfl] at H
      obtain ⟨b, hb, H⟩ := Option.bind_eq_some_iff.1 H
      have HC := Aside0.mk hb
      clear hb
      obtain ⟨hg0, hg1, hg2, hg3, hg4, hg5⟩ := cz6 BK10.out
      go_upto_region 27 with fail
      cases b with
      | false =>
        rw [if_neg (by simp)] at H
        simp only [Option.some.injEq, Prod.mk.injEq] at H
        obtain ⟨rfl, rfl, rfl⟩ := H
        go_upto_region 28 with (go_at_call 9; refine (impl_CallOk.calls k y.f0 y.f1 y.f2 y.f3 y.f4 y.f5 _ _ HC.out).mono ?_; rintro e w9 ⟨rfl, hb⟩; replace BK3 := Aside0.mk (blk_below BK3.out hb); replace BK10 := Aside0.mk (blk_below BK10.out hb); replace HB := Aside0.mk (below_step HB.out hb); clear hb)
        obtain ⟨hz0, hz1, hz2, hz3, hz4, hz5⟩ := cz6 BK3.out
        obtain ⟨hf0, hf1, hf2, hf3, hf4, hf5⟩ := fz6 BK3.out
        obtain ⟨q1, q2, q3⟩ := Q.wfill6 BK3.out (.int .i64 0) (.int .i64 0) (.int .i64 0) (.string (⟨#[]⟩ : ByteArray)) (.string (⟨#[]⟩ : ByteArray)) (.string (⟨#[]⟩ : ByteArray))
        have Q1 := Aside0.mk q1
        have Q3 := Aside0.mk (q3 w HB.out GE3.out)
        clear q1 q2 q3
        go_wp2
        refine bodyPost_ret (results_list (rs := [.tmp 2, .cell 3 23, .tmp 4]) rfl (by simp) (.tmp (.cell gb3 23 #[.int .i64 0, .int .i64 0, .int .i64 0, .string (⟨#[]⟩ : ByteArray), .string (⟨#[]⟩ : ByteArray), .string (⟨#[]⟩ : ByteArray)] (0, 0) _ rfl Q1.out Tryd.underlying23 rfl zk (.tmp .nil)))) rfl ?_
        exact ⟨rfl, Q3.out⟩
      | true =>
        rw [if_pos rfl] at H
        simp only [Option.some.injEq, Prod.mk.injEq] at H
        obtain ⟨rfl, rfl, rfl⟩ := H
        go_upto_region 29 with (go_at_call 9; refine (impl_CallOk.calls k y.f0 y.f1 y.f2 y.f3 y.f4 y.f5 _ _ HC.out).mono ?_; rintro e w9 ⟨rfl, hb⟩; replace BK3 := Aside0.mk (blk_below BK3.out hb); replace BK10 := Aside0.mk (blk_below BK10.out hb); replace HB := Aside0.mk (below_step HB.out hb); clear hb)
        obtain ⟨hz0, hz1, hz2, hz3, hz4, hz5⟩ := cz6 BK3.out
        obtain ⟨hf0, hf1, hf2, hf3, hf4, hf5⟩ := fz6 BK3.out
        obtain ⟨q1, q2, q3⟩ := Q.wfill6 BK3.out (.int .i64 y.f0) (.int .i64 y.f1) (.int .i64 y.f2) (.string y.f3) (.string y.f4) (.string y.f5)
        have Q1 := Aside0.mk (blk_drew q1)
        have Q3 := Aside0.mk (below_drew1 (q3 w HB.out GE3.out))
        clear q1 q2 q3
        refine start_ (n := 5) (S := fun w' => w'.cell? ⟨gb10, 0, none⟩ = some (.int .i64 y.f0) ∧ w'.cell? ⟨gb10, 1, none⟩ = some (.int .i64 y.f1) ∧ w'.cell? ⟨gb10, 2, none⟩ = some (.int .i64 y.f2) ∧ w'.cell? ⟨gb10, 3, none⟩ = some (.string y.f3) ∧ w'.cell? ⟨gb10, 4, none⟩ = some (.string y.f4) ∧ w'.cell? ⟨gb10, 5, none⟩ = some (.string y.f5)) (ds := [3]) #[false, false, false, false, false] (by kernel_rfl) rfl rfl ⟨(blk_cell (blk_drew BK10.out) 0).trans rfl, (blk_cell (blk_drew BK10.out) 1).trans rfl, (blk_cell (blk_drew BK10.out) 2).trans rfl, (blk_cell (blk_drew BK10.out) 3).trans rfl, (blk_cell (blk_drew BK10.out) 4).trans rfl, (blk_cell (blk_drew BK10.out) 5).trans rfl⟩ (fun hHeld => ?_)
        refine pure_ (i := 0) (N := some 104) (v := ?_) (a' := ?_) #[true, false, false, false, false] rfl rfl (by kernel_rfl) (fun _ _ _ h => h) (Or.inl ⟨by rfl, ?_⟩) ?_ ?_
        rotate_left
        · intro w'
          go_simp
          with_reducible rfl
        rotate_left
        · simp only [Act.put, List.setIfInBounds_toArray, List.set_cons_zero, List.set_cons_succ, i64_w, i32_w]
          rfl
        refine pure_ (i := 2) (N := some 2) (v := ?_) (a' := ?_) #[true, false, true, false, false] rfl rfl (by kernel_rfl) (fun _ _ _ h => h) (Or.inl ⟨by rfl, ?_⟩) ?_ ?_
        rotate_left
        · intro w'
          go_simp
          with_reducible rfl
        rotate_left
        · simp only [Act.put, List.setIfInBounds_toArray, List.set_cons_zero, List.set_cons_succ, i64_w, i32_w]
          rfl
        refine take_ (i := 1) (N := some 105) (v := ?_) (a' := ?_) #[true, true, true, false, false] rfl rfl (by kernel_rfl) (fun _ _ _ h => h) (Or.inl ⟨by rfl, ?_⟩) hHeld ?_ ?_
        rotate_left
        · rintro w' ⟨s0, s1, s2, s3, s4, s5⟩
          go_simp
          with_reducible rfl
        rotate_left
        · simp only [Act.put, List.setIfInBounds_toArray, List.set_cons_zero, List.set_cons_succ, i64_w, i32_w]
          rfl
        refine last_ (i := 3) (N := none) #[true, true, true, true, false] rfl rfl (by kernel_rfl) (by decide) (fun K hK => ?_)
        refine skip_ (w1 := ?_) (by rfl) rfl ?_ ?_
        rotate_left
        · go_simp
          rfl
        refine hK.out _ _ ?_
        clear hK K
        refine pure_ (i := 4) (N := some 4) (v := ?_) (a' := ?_) #[true, true, true, true, true] rfl rfl (by kernel_rfl) (fun _ _ _ h => h) (Or.inl ⟨by rfl, ?_⟩) ?_ ?_
        rotate_left
        · intro w'
          go_simp
          with_reducible rfl
        rotate_left
        · simp only [Act.put, List.setIfInBounds_toArray, List.set_cons_zero, List.set_cons_succ, i64_w, i32_w]
          rfl
        refine done_ (by kernel_rfl) ?_
        go_wp2
        refine bodyPost_ret (results_list (rs := [.tmp 2, .cell 3 23, .tmp 4]) rfl (by simp) (.tmp (.cell gb3 23 #[.int .i64 y.f0, .int .i64 y.f1, .int .i64 y.f2, .string y.f3, .string y.f4, .string y.f5] (0, 0) _ rfl Q1.out Tryd.underlying23 rfl zk (.tmp .nil)))) rfl ?_
        exact ⟨rfl, Q3.out⟩
    | succ kr =>
      have hlt : (i : Int) < (m : Int) := by omega
      have ea := HA55.out (by have := C6.out; omega)
      clear HA55
      subst ea
      have hie : i < e2.size := by have := HM.out; omega
      have hiez : (i : Int) < (e2.size : Int) := by omega
      have hx := HP.out i (by have := C6.out; omega)
      obtain ⟨s, hs⟩ : ∃ s, s = rdOf ByteArray.empty parts ((i + 2 : Nat) : Int) := ⟨_, rfl⟩
      have zs : s.size ≤ 1048576 := HSZ.out _ (by rw [hs]; exact Q.rd_mem_ (by have := C6.out; omega))
      have h := HL.out
      simp only [impl_ShellLine.loop] at h
      rw [← hs] at hx h
      replace HL := Aside0.mk h
      clear h hs
      obtain ⟨hy0, hy1⟩ := cz2 BK8.out
      go_upto_block 2 with fail
      obtain ⟨ch, hch⟩ : ∃ ch : Int, ch = ((e2[i]).toNat : Int) := ⟨_, rfl⟩
      rw [← hch]
      have hce : ch = ((e2.data.toList.getD i 0).toNat : Int) := by rw [hch, Q.byte_at_ hie]
      rw [← hce] at HL
      obtain ⟨y1, fine, hst⟩ : ∃ y1 fine, impl_ShellLine.step ch s y = (y1, fine) := ⟨_, _, rfl⟩
      rw [hst] at HL
      have HST := Aside0.mk hst
      clear hst hce hch hy0 hy1 hx
      go_cut [13] from 68 to 95 (fun v13 wc => v13 = .bool fine ∧ Aside0 (wc.heap[gb3]? = some (.cells #[.int .i64 0, .int .i64 0, .int .i64 0, .string (⟨#[]⟩ : ByteArray), .string (⟨#[]⟩ : ByteArray), .string (⟨#[]⟩ : ByteArray)] 23 (0, 0))) ∧ Aside0 (wc.heap[gb8]? = some (.cells #[.int .i64 e1, .string e2] 40 (0, 0))) ∧ Aside0 (wc.heap[gb10]? = some (.cells #[.int .i64 y1.f0, .int .i64 y1.f1, .int .i64 y1.f2, .string y1.f3, .string y1.f4, .string y1.f5] 23 (0, 0))) ∧ Aside0 (∀ i, i + 2 < parts.length → wc.cell? ⟨ad.block, ad.off + 2 + i, none⟩ = some (.string (rdOf ByteArray.empty parts ((i + 2 : Nat) : Int)))) ∧ Aside0 (Below w.heap.size w wc))
      case first =>
        have hst := HST.out
        unfold impl_ShellLine.step at hst
        obtain ⟨hf0, hf1, hf2, hf3, hf4, hf5⟩ := fz6 BK10.out
        obtain ⟨hg0, hg1, hg2, hg3, hg4, hg5⟩ := cz6 BK10.out
        by_cases kc0 : ch = 97
        · rw [if_pos kc0] at hst
          have kc0b : (ch == 97) = true := beq_iff_eq.mpr kc0
          clear kc0
          simp only [Prod.mk.injEq] at hst
          obtain ⟨rfl, rfl⟩ := hst
          go_wp2_with (go_at_call 15; refine (impl_number.calls s _ (HT0.out.below HB.out) zs).mono ?_; rintro e w9 ⟨rfl, hb⟩; replace BK3 := Aside0.mk (blk_below BK3.out hb); replace BK8 := Aside0.mk (blk_below BK8.out hb); replace BK10 := Aside0.mk (blk_below BK10.out hb); replace HP := Aside0.mk (fun i hi => pw_cell_below hb (HP.out i hi)); replace HB := Aside0.mk (below_step HB.out hb); clear hb hf0 hf1 hf2 hf3 hf4 hf5 hg0 hg1 hg2 hg3 hg4 hg5; obtain ⟨hf0, hf1, hf2, hf3, hf4, hf5⟩ := fz6 BK10.out; obtain ⟨hg0, hg1, hg2, hg3, hg4, hg5⟩ := cz6 BK10.out)
          go_meet
          case rel => exact ⟨rfl, ⟨blk_far BK3.out N310.out _⟩, ⟨blk_far BK8.out N810.out _⟩, ⟨blk_put BK10.out 1 _ rfl⟩, ⟨fun i hi => Q.cell_far_ (HP.out i hi) NP.out⟩, ⟨below_set HB.out GE10.out⟩⟩
        rw [if_neg kc0] at hst
        have kc0b : (ch == 97) = false := beq_eq_false_iff_ne.mpr kc0
        by_cases kc1 : ch = 98
        · rw [if_pos kc1] at hst
          have kc1b : (ch == 98) = true := beq_iff_eq.mpr kc1
          clear kc1
          simp only [Prod.mk.injEq] at hst
          obtain ⟨rfl, rfl⟩ := hst
          go_wp2_with (go_at_call 15; refine (impl_number.calls s _ (HT0.out.below HB.out) zs).mono ?_; rintro e w9 ⟨rfl, hb⟩; replace BK3 := Aside0.mk (blk_below BK3.out hb); replace BK8 := Aside0.mk (blk_below BK8.out hb); replace BK10 := Aside0.mk (blk_below BK10.out hb); replace HP := Aside0.mk (fun i hi => pw_cell_below hb (HP.out i hi)); replace HB := Aside0.mk (below_step HB.out hb); clear hb hf0 hf1 hf2 hf3 hf4 hf5 hg0 hg1 hg2 hg3 hg4 hg5; obtain ⟨hf0, hf1, hf2, hf3, hf4, hf5⟩ := fz6 BK10.out; obtain ⟨hg0, hg1, hg2, hg3, hg4, hg5⟩ := cz6 BK10.out)
          go_meet
          case rel => exact ⟨rfl, ⟨blk_far BK3.out N310.out _⟩, ⟨blk_far BK8.out N810.out _⟩, ⟨blk_put BK10.out 2 _ rfl⟩, ⟨fun i hi => Q.cell_far_ (HP.out i hi) NP.out⟩, ⟨below_set HB.out GE10.out⟩⟩
        rw [if_neg kc1] at hst
        have kc1b : (ch == 98) = false := beq_eq_false_iff_ne.mpr kc1
        by_cases kc2 : ch = 112
        · rw [if_pos kc2] at hst
          have kc2b : (ch == 112) = true := beq_iff_eq.mpr kc2
          clear kc2
          simp only [Prod.mk.injEq] at hst
          obtain ⟨rfl, rfl⟩ := hst
          go_wp2
          go_meet
          case rel => exact ⟨rfl, ⟨blk_far BK3.out N310.out _⟩, ⟨blk_far BK8.out N810.out _⟩, ⟨blk_put BK10.out 3 _ rfl⟩, ⟨fun i hi => Q.cell_far_ (HP.out i hi) NP.out⟩, ⟨below_set HB.out GE10.out⟩⟩
        rw [if_neg kc2] at hst
        have kc2b : (ch == 112) = false := beq_eq_false_iff_ne.mpr kc2
        by_cases kc3 : ch = 113
        · rw [if_pos kc3] at hst
          have kc3b : (ch == 113) = true := beq_iff_eq.mpr kc3
          clear kc3
          simp only [Prod.mk.injEq] at hst
          obtain ⟨rfl, rfl⟩ := hst
          go_wp2
          go_meet
          case rel => exact ⟨rfl, ⟨blk_far BK3.out N310.out _⟩, ⟨blk_far BK8.out N810.out _⟩, ⟨blk_put BK10.out 4 _ rfl⟩, ⟨fun i hi => Q.cell_far_ (HP.out i hi) NP.out⟩, ⟨below_set HB.out GE10.out⟩⟩
        rw [if_neg kc3] at hst
        have kc3b : (ch == 113) = false := beq_eq_false_iff_ne.mpr kc3
        by_cases kc4 : ch = 116
        · rw [if_pos kc4] at hst
          have kc4b : (ch == 116) = true := beq_iff_eq.mpr kc4
          clear kc4
          simp only [Prod.mk.injEq] at hst
          obtain ⟨rfl, rfl⟩ := hst
          go_wp2
          go_meet
          case rel => exact ⟨rfl, ⟨blk_far BK3.out N310.out _⟩, ⟨blk_far BK8.out N810.out _⟩, ⟨blk_put BK10.out 5 _ rfl⟩, ⟨fun i hi => Q.cell_far_ (HP.out i hi) NP.out⟩, ⟨below_set HB.out GE10.out⟩⟩
        rw [if_neg kc4] at hst
        have kc4b : (ch == 116) = false := beq_eq_false_iff_ne.mpr kc4
        simp only [Prod.mk.injEq] at hst
        obtain ⟨rfl, rfl⟩ := hst
        go_wp2
        go_meet
        case rel => exact ⟨rfl, BK3, BK8, BK10, HP, HB⟩
      case rest =>
        obtain ⟨rfl, BK3, BK8, BK10, HP, HB⟩ := hcut
        have h := HL.out
        cases fine with
        | false =>
          rw [if_neg (by simp)] at h
          simp only [Prod.mk.injEq] at h
          obtain ⟨_, rfl⟩ := h
          have H := HH.out
          unfold impl_ShellLine.fin at H
          rw [if_neg (by simp)] at H
          simp only [Option.some.injEq, Prod.mk.injEq] at H
          obtain ⟨rfl, rfl, rfl⟩ := H
          obtain ⟨hz0, hz1, hz2, hz3, hz4, hz5⟩ := cz6 BK3.out
          obtain ⟨hf0, hf1, hf2, hf3, hf4, hf5⟩ := fz6 BK3.out
          obtain ⟨q1, q2, q3⟩ := Q.wfill6 BK3.out (.int .i64 0) (.int .i64 0) (.int .i64 0) (.string (⟨#[]⟩ : ByteArray)) (.string (⟨#[]⟩ : ByteArray)) (.string (⟨#[]⟩ : ByteArray))
          have Q1 := Aside0.mk q1
          have Q3 := Aside0.mk (q3 w HB.out GE3.out)
          clear q1 q2 q3
          go_wp2
          refine bodyPost_ret (results_list (rs := [.tmp 2, .cell 3 23, .tmp 4]) rfl (by simp) (.tmp (.cell gb3 23 #[.int .i64 0, .int .i64 0, .int .i64 0, .string (⟨#[]⟩ : ByteArray), .string (⟨#[]⟩ : ByteArray), .string (⟨#[]⟩ : ByteArray)] (0, 0) _ rfl Q1.out Tryd.underlying23 rfl zk (.tmp .nil)))) rfl ?_
          exact ⟨rfl, Q3.out⟩
        | true =>
          rw [if_pos rfl] at h
          have HL1 := Aside0.mk h
          clear h
          have hib : (i : Int) + 1 ≤ 1048577 := by have := C6.out; omega
          go_wp2
          go_roundg kr
          case measure => omega
          case rel => exact ⟨i + 1, y1, by go_num, by omega, HL1, BK3, BK8, BK10, HP, HB⟩


end Go.Proofs.YtkjjlkkfhbfbmaaDoor.P

namespace Go.Proofs.YtkjjlkkfhbfbmaaDoor.P
open Go.RowKit Go.Proofs.YtkjjlkkfhbfbmaaDoorW.PrintWords Go.Proofs.YtkjjlkkfhbfbmaaDoorW.PrintLast Go.Proofs.YtkjjlkkfhbfbmaaDoorW.PrintMore
attribute [local go_sem] max2_int min2_int max_two min_two max_three min_three max_four min_four Q.cell_set_map Q.str_gtr Q.str_geq Q.str_leq
set_option linter.unusedVariables false
set_option linter.unusedSimpArgs false

/-- A state of type 59 at block g of W; what its slices lead to came in by w0. -/
def IsS59 (w0 W : World) (g : Nat) (f0 : List Int) (f1 : Int) : Prop := ∃ A0 c0, W.heap[g]? = some (.cells #[.slice A0 f0.length c0, .int .i64 f1] 59 (0, 0)) ∧ w0.heap.size ≤ g ∧ Kd.C (Kd.int .u8) w0 A0 f0.length f0
theorem IsS59.grown {w0 W : World} {g : Nat} {f0 : List Int} {f1 : Int} {W1 : World} {row : Option Nat} (h : IsS59 w0 W g f0 f1) (hw : W.grownBy W1 row) (hne : some g ≠ row) : IsS59 w0 W1 g f0 f1 := by
 obtain ⟨A0, c0, hb, hg, hr0⟩ := h
 exact ⟨A0, c0, blk_grown hb hw hne, hg, hr0⟩
theorem IsS59.own_neN {w0 W : World} {g : Nat} {f0 : List Int} {f1 : Int} {α : Type} {d : Kd α} {e : Nat} {base : Nat} {ok : Nat → Prop} {v : Value} {xs : List α} (h : IsS59 w0 W g f0 f1) (ho : Kd.N d e W base ok v xs) (ht : e ≠ 59) : some g ≠ v.ownBlock := by
 obtain ⟨A0, c0, hb, hg, hr0⟩ := h
 exact Kd.N_ne ho hb ht
theorem IsS59.fresh {w0 W : World} {g : Nat} {f0 : List Int} {f1 : Int} (h : IsS59 w0 W g f0 f1) : ∀ k, W.heap.size ≤ k → k ≠ g := by
 obtain ⟨A0, c0, hb, hg, hr0⟩ := h
 exact Kd.freshB hb
theorem IsS59.kept {w0 W : World} {g : Nat} {f0 : List Int} {f1 : Int} {W1 : World} {S : Nat → Prop} (h : IsS59 w0 W g f0 f1) (hk : Kept W W1 S) (hne : ¬ S g) : IsS59 w0 W1 g f0 f1 := by
 obtain ⟨A0, c0, hb, hg, hr0⟩ := h
 exact ⟨A0, c0, blk_kept hb hk hne, hg, hr0⟩
theorem IsS59.below {w0 W : World} {g : Nat} {f0 : List Int} {f1 : Int} {W1 : World} (h : IsS59 w0 W g f0 f1) (hw : Below W.heap.size W W1) : IsS59 w0 W1 g f0 f1 := h.grown (grown_of_below hw none) (by simp)
theorem IsS59.alloc {w0 W : World} {g : Nat} {f0 : List Int} {f1 : Int} (h : IsS59 w0 W g f0 f1) (o : Obj) : IsS59 w0 (W.alloc o) g f0 f1 := h.below (below_alloc (Below.refl _ _) o)
theorem IsS59.drewN {w0 W : World} {g : Nat} {f0 : List Int} {f1 : Int} (h : IsS59 w0 W g f0 f1) (m : Nat) : IsS59 w0 (W.drewN m) g f0 f1 := h
theorem IsS59.drew {w0 W : World} {g : Nat} {f0 : List Int} {f1 : Int} (h : IsS59 w0 W g f0 f1) : IsS59 w0 W.drew g f0 f1 := h
theorem IsS59.at_ {w0 W : World} {g : Nat} {f0 : List Int} {f1 : Int} {w' : World} {m : Nat} (hq : W.drewN m = w') (h : IsS59 w0 W g f0 f1) : IsS59 w0 w' g f0 f1 := by subst hq; exact IsS59.drewN h m
theorem IsS59.apart {w0 W : World} {g : Nat} {f0 : List Int} {f1 : Int} {α : Type} {d : Kd α} {e : Nat} {base : Nat} {ok : Nat → Prop} {v : Value} {xs : List α} (h : IsS59 w0 W g f0 f1) (ho : d.R e W base ok v xs) (ht : ∀ q, q ∈ e :: d.E → q ≠ 59) : d.R e W base (fun k => ok k ∧ k ≠ g) v xs := by
 obtain ⟨A0, c0, hb, hg, hr0⟩ := h
 exact Kd.R_types ho hb ht
theorem IsS59.own_ne {w0 W : World} {g : Nat} {f0 : List Int} {f1 : Int} {α : Type} {d : Kd α} {e : Nat} {base : Nat} {ok : Nat → Prop} {v : Value} {xs : List α} (h : IsS59 w0 W g f0 f1) (ho : d.R e W base ok v xs) (ht : e ≠ 59) : some g ≠ v.ownBlock := by
 obtain ⟨A0, c0, hb, hg, hr0⟩ := h
 exact Kd.R_ne ho hb ht
theorem IsS59.apartQ {w0 W : World} {g : Nat} {f0 : List Int} {f1 : Int} {α : Type} {d : Kd α} {e : Nat} {base : Nat} {ok : Nat → Prop} {v : Value} {xs : List α} (h : IsS59 w0 W g f0 f1) (ho : d.Q e W base ok v xs) (ht : ∀ q, q ∈ e :: d.E → q ≠ 59) : d.Q e W base (fun k => ok k ∧ k ≠ g) v xs := by
 obtain ⟨A0, c0, hb, hg, hr0⟩ := h
 exact Kd.Q_types ho hb ht
theorem IsS59.own_neQ {w0 W : World} {g : Nat} {f0 : List Int} {f1 : Int} {α : Type} {d : Kd α} {e : Nat} {base : Nat} {ok : Nat → Prop} {v : Value} {xs : List α} (h : IsS59 w0 W g f0 f1) (ho : d.Q e W base ok v xs) (ht : e ≠ 59) : some g ≠ v.ownBlock := by
 obtain ⟨A0, c0, hb, hg, hr0⟩ := h
 exact Kd.Q_ne ho hb ht
theorem IsS59.apartS {w0 W : World} {g : Nat} {f0 : List Int} {f1 : Int} {α : Type} {d : Kd α} {e : Nat} {base : Nat} {ok : Nat → Prop} {v : Value} {xs : List α} (h : IsS59 w0 W g f0 f1) (ho : d.S e W base ok v xs) (ht : ∀ q, q ∈ e :: d.E → q ≠ 59) : d.S e W base (fun k => ok k ∧ k ≠ g) v xs := by
 obtain ⟨A0, c0, hb, hg, hr0⟩ := h
 exact Kd.S_types ho hb ht
theorem IsS59.own_neS {w0 W : World} {g : Nat} {f0 : List Int} {f1 : Int} {α : Type} {d : Kd α} {e : Nat} {base : Nat} {ok : Nat → Prop} {v : Value} {xs : List α} (h : IsS59 w0 W g f0 f1) (ho : d.S e W base ok v xs) (ht : e ≠ 59) : some g ≠ v.ownBlock := by
 obtain ⟨A0, c0, hb, hg, hr0⟩ := h
 exact Kd.S_ne ho hb ht
theorem IsS59.lt {w0 W : World} {g : Nat} {f0 : List Int} {f1 : Int} (h : IsS59 w0 W g f0 f1) : g < W.heap.size := by
 obtain ⟨A0, c0, hb, hg, hr0⟩ := h
 exact blk_lt hb
theorem IsS59.ge {w0 W : World} {g : Nat} {f0 : List Int} {f1 : Int} (h : IsS59 w0 W g f0 f1) : w0.heap.size ≤ g := by
 obtain ⟨A0, c0, hb, hg, hr0⟩ := h
 exact hg
theorem IsS59.ne_blk {w0 W : World} {g : Nat} {f0 : List Int} {f1 : Int} {a : Nat} {cs : Array Value} {t : TypeId} {fr : Nat × Nat} (h : IsS59 w0 W g f0 f1) (hb2 : W.heap[a]? = some (.cells cs t fr)) (ht : t ≠ 59) : g ≠ a := by
 obtain ⟨A0, c0, hb, hg, hr0⟩ := h
 rintro rfl
 rw [hb] at hb2
 injection hb2 with hb2
 injection hb2 with _ ht2
 exact ht ht2.symm
theorem IsS59.far {w0 W : World} {g : Nat} {f0 : List Int} {f1 : Int} {p : Addr} (h : IsS59 w0 W g f0 f1) (hne : g ≠ p.block) (u : Value) : IsS59 w0 (W.setCell p u) g f0 f1 := by
 obtain ⟨A0, c0, hb, hg, hr0⟩ := h
 exact ⟨A0, c0, blk_far hb hne u, hg, hr0⟩
theorem cellS59_0 {W : World} {g : Nat} {A0 : Option Addr} {c0 : Nat} {f0 : List Int} {f1 : Int} (h : W.heap[g]? = some (.cells #[.slice A0 f0.length c0, .int .i64 f1] 59 (0, 0))) : W.cell? ⟨g, 0, none⟩ = some (.slice A0 f0.length c0) := (blk_cell h 0).trans rfl
theorem cellS59_1 {W : World} {g : Nat} {A0 : Option Addr} {c0 : Nat} {f0 : List Int} {f1 : Int} (h : W.heap[g]? = some (.cells #[.slice A0 f0.length c0, .int .i64 f1] 59 (0, 0))) : W.cell? ⟨g, 1, none⟩ = some (.int .i64 f1) := (blk_cell h 1).trans rfl
theorem IsS59.set_1 {w0 W : World} {g : Nat} {f0 : List Int} {f1 : Int} (h : IsS59 w0 W g f0 f1) (x : Int) : IsS59 w0 (W.setCell ⟨g, 1, none⟩ (.int .i64 x)) g f0 x := by
 obtain ⟨A0, c0, hb, hg, hr0⟩ := h
 exact ⟨A0, c0, by simpa using blk_set hb 1 (.int .i64 x), hg, hr0⟩
theorem IsS59.new (w0 W : World) (A0 : Option Addr) (c0 : Nat) (f0 : List Int) (f1 : Int) (hB : Below w0.heap.size w0 W) (hr0 : Kd.C (Kd.int .u8) w0 A0 f0.length f0) : IsS59 w0 (W.alloc (.cells #[.slice A0 f0.length c0, .int .i64 f1] 59)) W.heap.size f0 f1 := ⟨A0, c0, by simpa using heap_alloc_new W _, hB.size, hr0⟩

/-! ### spec_l6Open: function 17 -/
def spec_l6Open.f (l0 : List Int) : Option (List Int × Int) := if (l0.length : Int) > 2000 then (if 2000 ≤ (l0.length : Int) then (some (l0.take 2000, 0)) else (none)) else (some (l0, 0))
set_option maxHeartbeats 8000000 in
set_option maxRecDepth 100000 in
theorem spec_l6Open.calls (A0 : Option Addr) (c0 : Nat) (l0 : List Int) (r1 : List Int) (r2 : Int) (w0 w : World) (hB : Below w0.heap.size w0 w) (hr0 : Kd.C (Kd.int .u8) w0 A0 l0.length l0) (hc0 : l0.length ≤ c0) (h : spec_l6Open.f l0 = some (r1, r2)) :
  Calls Tryd.prog 17 #[.slice A0 l0.length c0] w fun e w' => ∃ g_ : Nat, e = .returned (.pointer (some ⟨g_, 0, none⟩)) ∧ IsS59 w0 w' g_ r1 r2 ∧ Below w0.heap.size w0 w' ∧ Below w.heap.size w w' := by
 have hu59 := Tryd.underlying59
 have HR0 := Aside0.mk hr0
 have HC0 := Aside0.mk hc0
 clear hr0 hc0
 have HBW := Aside0.mk (Below.refl w.heap.size w)
 have HW0 := Aside0.mk hB.size
 have HB := Aside0.mk hB
 clear hB
 have H : (if (l0.length : Int) > 2000 then (if 2000 ≤ (l0.length : Int) then (some (l0.take 2000, 0)) else (none)) else (some (l0, 0))) = some (r1, r2) := h
 clear h
 by_cases c2 : (l0.length : Int) > 2000
 ·
  rw [if_pos c2] at H
  have c2b0 : decide (2000 < (l0.length : Int)) = true := decide_eq_true c2
  have c2b1 : decide (2000 < l0.length) = true := decide_eq_true (by omega)
  clear c2
  by_cases c3 : 2000 ≤ (l0.length : Int)
  ·
   rw [if_pos c3] at H
   have c3b0 := eq_true c3
   have c3b1 : decide (2000 ≤ (l0.length : Int)) = true := decide_eq_true c3
   clear c3
   simp only [Option.some.injEq, Prod.mk.injEq] at H
   obtain ⟨rfl, rfl⟩ := H
   obtain ⟨i04, hi04, _, hsz4, _⟩ := info_parts info5
   obtain ⟨hcut4, hA4, hC4⟩ := print_take_of (P := Tryd.prog) (Value.int .u8) 0 28 5 .i64 Tryd.underlying28 hi04 hsz4 A0 c0 l0 2000 (by omega) (of_decide_eq_true zs) HC0.out
   have HR101 := Aside0.mk (Kd.C_of_reads (h1 := fun _ => rfl) (hA4 _ (Kd.reads_of_C HR0.out)))
   have HC101 := Aside0.mk hC4
   clear hA4 hC4 hi04 hsz4
   go_enter Tryd.func17, Tryd.ntmps17
   go_wp2_with (first | ((with_reducible refine gate_dst (N := 10) rfl ?_); refine box_event ?hg (N := 10) ?hd (cs := #[.slice A0 (l0.take 2000).length c0, .int .i64 0]) (t := 59) ?hr ?_; (case hd => rfl); (case hg => rfl); (case hr => first | (go_simp; done) | (go_simp; rfl)); intro gb102 hg w5 hbox hb; replace HB := Aside0.mk (below_step (bz HB.out) hb); have BK102 := Aside0.mk (hbox); have GW102 := Aside0.mk ((by rw [hg]; exact (below_size (bz HBW.out)) : w.heap.size ≤ gb102)); have GE102 := Aside0.mk ((Nat.le_trans HW0.out (by rw [hg]; exact (below_size (bz HBW.out)) : w.heap.size ≤ gb102) : w0.heap.size ≤ gb102)); replace HBW := Aside0.mk (below_step HBW.out hb); clear hb hbox hg))
   go_ret
   exact ⟨_, rfl, (show IsS59 w0 _ gb102 (l0.take 2000) 0 from ⟨_, _, by (with_reducible repeat (first | refine blk_drewN ?_ _ | refine blk_drew ?_ | refine blk_alloc ?_ _)); exact BK102.out, GE102.out, HR101.out⟩), bs HB.out GE102.out, bs HBW.out GW102.out⟩
  ·
   rw [if_neg c3] at H
   exact absurd H (by simp)
 ·
  rw [if_neg c2] at H
  have c2b0 : decide (2000 < (l0.length : Int)) = false := decide_eq_false c2
  have c2b1 : decide (2000 < l0.length) = false := decide_eq_false (by omega)
  clear c2
  simp only [Option.some.injEq, Prod.mk.injEq] at H
  obtain ⟨rfl, rfl⟩ := H
  go_enter Tryd.func17, Tryd.ntmps17
  go_wp2_with (first | ((with_reducible refine gate_dst (N := 10) rfl ?_); refine box_event ?hg (N := 10) ?hd (cs := #[.slice A0 l0.length c0, .int .i64 0]) (t := 59) ?hr ?_; (case hd => rfl); (case hg => rfl); (case hr => first | (go_simp; done) | (go_simp; rfl)); intro gb103 hg w6 hbox hb; replace HB := Aside0.mk (below_step (bz HB.out) hb); have BK103 := Aside0.mk (hbox); have GW103 := Aside0.mk ((by rw [hg]; exact (below_size (bz HBW.out)) : w.heap.size ≤ gb103)); have GE103 := Aside0.mk ((Nat.le_trans HW0.out (by rw [hg]; exact (below_size (bz HBW.out)) : w.heap.size ≤ gb103) : w0.heap.size ≤ gb103)); replace HBW := Aside0.mk (below_step HBW.out hb); clear hb hbox hg))
  go_ret
  exact ⟨_, rfl, (show IsS59 w0 _ gb103 l0 0 from ⟨_, _, by (with_reducible repeat (first | refine blk_drewN ?_ _ | refine blk_drew ?_ | refine blk_alloc ?_ _)); exact BK103.out, GE103.out, HR0.out⟩), bs HB.out GE103.out, bs HBW.out GW103.out⟩

end Go.Proofs.YtkjjlkkfhbfbmaaDoor.P

namespace Go.Proofs.YtkjjlkkfhbfbmaaDoor.P
open Go.RowKit Go.Proofs.YtkjjlkkfhbfbmaaDoorW.PrintWords Go.Proofs.YtkjjlkkfhbfbmaaDoorW.PrintLast Go.Proofs.YtkjjlkkfhbfbmaaDoorW.PrintMore
attribute [local go_sem] max2_int min2_int max_two min_two max_three min_three max_four min_four Q.cell_set_map Q.str_gtr Q.str_geq Q.str_leq
set_option linter.unusedVariables false
set_option linter.unusedSimpArgs false

/-! ### spec_l6Rd_pick: function 29 -/
def spec_l6Rd_pick.j0 : Nat → Int → Bool → List Int → Int → Option (Int × Int)
 | 0, _, _, _, _ => none
 | k + 1, x1, x24, x1000, x1001 => if x24 = true then (some (0, x1001)) else (if (wrap64 (x1001 - 1)) < (x1000.length : Int) then (if 0 ≤ (wrap64 (x1001 - 1)) then (if x1 = 0 then (none) else (some (Int.tmod (wrap64 (rd x1000 (wrap64 (x1001 - 1)))) x1, x1001))) else (none)) else (if (x1000.length : Int) = 0 then (none) else (if 0 ≤ (Int.tmod (wrap64 (x1001 - 1)) (x1000.length : Int)) then (if (Int.tmod (wrap64 (x1001 - 1)) (x1000.length : Int)) < (x1000.length : Int) then (if 0 ≤ (Int.tmod (wrap64 ((wrap64 ((wrap64 (x1001 - 1)) * 7)) + 3)) (x1000.length : Int)) then (if (Int.tmod (wrap64 ((wrap64 ((wrap64 (x1001 - 1)) * 7)) + 3)) (x1000.length : Int)) < (x1000.length : Int) then (if x1 = 0 then (none) else (some (Int.tmod (Go.bits .xor .i64 (wrap64 ((wrap64 ((wrap64 ((wrap64 ((wrap64 (rd x1000 (Int.tmod (wrap64 (x1001 - 1)) (x1000.length : Int)))) * 131)) + (wrap64 ((wrap64 (rd x1000 (Int.tmod (wrap64 ((wrap64 ((wrap64 (x1001 - 1)) * 7)) + 3)) (x1000.length : Int)))) * 1117)))) + (wrap64 ((wrap64 (x1001 - 1)) * 29)))) + (wrap64 ((wrap64 (Int.tdiv (wrap64 (x1001 - 1)) (x1000.length : Int))) * 53)))) (wrap64 (Int.tdiv (wrap64 ((wrap64 ((wrap64 ((wrap64 ((wrap64 (rd x1000 (Int.tmod (wrap64 (x1001 - 1)) (x1000.length : Int)))) * 131)) + (wrap64 ((wrap64 (rd x1000 (Int.tmod (wrap64 ((wrap64 ((wrap64 (x1001 - 1)) * 7)) + 3)) (x1000.length : Int)))) * 1117)))) + (wrap64 ((wrap64 (x1001 - 1)) * 29)))) + (wrap64 ((wrap64 (Int.tdiv (wrap64 (x1001 - 1)) (x1000.length : Int))) * 53)))) 64))) x1, x1001))) else (none)) else (none)) else (none)) else (none))))
def spec_l6Rd_pick.f (k : Nat) (s0_0 : List Int) (s0_1 : Int) (a1 : Int) : Option (Int × Int) := if a1 < 1 then (spec_l6Rd_pick.j0 k a1 true s0_0 (wrap64 (s0_1 + 1))) else (spec_l6Rd_pick.j0 k a1 ((s0_0.length : Int) == 0) s0_0 (wrap64 (s0_1 + 1)))
theorem spec_l6Rd_pick.mono_l : ∀ k, (∀ y0 y1 y2 y3, LeO (spec_l6Rd_pick.j0 k y0 y1 y2 y3) (spec_l6Rd_pick.j0 (k + 1) y0 y1 y2 y3))
 | 0 => fun _ _ _ _ r h => by simp [spec_l6Rd_pick.j0] at h
 | k + 1 => by
  have ih0 := spec_l6Rd_pick.mono_l k
  ·
   intro y0 y1 y2 y3
   unfold spec_l6Rd_pick.j0
   repeat' first
   | (with_reducible exact ih0 _ _ _ _)
   | (with_reducible exact LeO.refl _)
   | (with_reducible exact LeO.none _)
   | (with_reducible refine LeO.ite ?_ ?_)
   | (with_reducible refine LeO.bind ?_ (fun _ => ?_))
   | exact ih0 _ _ _ _
   | exact LeO.none _
   | refine LeO.ite ?_ ?_
   | refine LeO.bind ?_ (fun _ => ?_)
theorem spec_l6Rd_pick.mono : ∀ a0 a1 a2 k, LeO (spec_l6Rd_pick.f k a0 a1 a2) (spec_l6Rd_pick.f (k + 1) a0 a1 a2) := by
 intro a0 a1 a2 k
 have ih0 := spec_l6Rd_pick.mono_l k
 unfold spec_l6Rd_pick.f
 repeat' first
   | (with_reducible exact ih0 _ _ _ _)
   | (with_reducible exact LeO.refl _)
   | (with_reducible exact LeO.none _)
   | (with_reducible refine LeO.ite ?_ ?_)
   | (with_reducible refine LeO.bind ?_ (fun _ => ?_))
   | exact ih0 _ _ _ _
   | exact LeO.none _
   | refine LeO.ite ?_ ?_
   | refine LeO.bind ?_ (fun _ => ?_)
set_option maxHeartbeats 8000000 in
set_option maxRecDepth 100000 in
theorem spec_l6Rd_pick.calls (k : Nat) (g : Nat) (s0_0 : List Int) (s0_1 : Int) (a1 : Int) (r1 : Int) (r2 : Int) (w0 w : World) (hI : IsS59 w0 w g s0_0 s0_1) (hB : Below w0.heap.size w0 w) (h : spec_l6Rd_pick.f k s0_0 s0_1 a1 = some (r1, r2)) :
  Calls Tryd.prog 29 #[.pointer (some ⟨g, 0, none⟩), .int .i64 a1] w fun e w' => e = .returned (.int .i64 r1) ∧ IsS59 w0 w' g s0_0 r2 ∧ Below w0.heap.size w0 w' ∧ KeepBut w w' g none := by
 have HI0 := Aside0.mk hI
 have HK := Aside0.mk (KeepBut.refl w g none)
 have HL := Aside0.mk hB.size
 clear hI
 have HW0 := Aside0.mk hB.size
 have HB := Aside0.mk hB
 clear hB
 have H : (if a1 < 1 then (spec_l6Rd_pick.j0 k a1 true s0_0 (wrap64 (s0_1 + 1))) else (spec_l6Rd_pick.j0 k a1 ((s0_0.length : Int) == 0) s0_0 (wrap64 (s0_1 + 1)))) = some (r1, r2) := h
 clear h
 have HC3 := Aside0.mk H
 clear H
 obtain ⟨ASz4_0, cSz4_0, HGz4, hgz4, HSz4_0⟩ := HI0.out
 have hcz4_0 := cellS59_0 HGz4
 have hcz4_1 := cellS59_1 HGz4
 have hfz4_1 := blk_frozen HGz4 1
 clear HGz4 hgz4
 go_enter Tryd.func29, Tryd.ntmps29
 go_upto_region 2 with (fail)
 repeat (go_quiet (fail); go_upto_region 2 with (fail))
 go_cut [24] (fun v24 wc => ∃ (kq : Nat) (x24_2 : Bool), v24 = .bool x24_2 ∧ Aside0 (spec_l6Rd_pick.j0 kq a1 x24_2 s0_0 (wrap64 (s0_1 + 1)) = some (r1, r2)) ∧ Aside0 (kq ≤ k) ∧ Aside0 (IsS59 w0 wc g s0_0 (wrap64 (s0_1 + 1))) ∧ Aside0 (KeepBut w wc g none) ∧ Aside0 (Below w0.heap.size w0 wc))
 case first =>
  have H := HC3.out
  clear HC3
  by_cases c5 : a1 < 1
  ·
   rw [if_pos c5] at H
   have c5b0 : decide (a1 < 1) = true := decide_eq_true c5
   clear c5
   (first | rw [c5b0] | (simp only [i64_w, i32_w]; rw [c5b0]) | skip)
   have H' := Aside0.mk H
   clear H
   go_wp2
   repeat (go_quiet (fail); try go_wp2)
   go_meet
   case rel => exact ⟨_, (true), zr, H', ⟨by first | omega | exact Nat.le_refl _⟩, ⟨by repeat (first | (with_reducible first | exact HI0.out | apply IsS59.alloc | apply IsS59.drewN | apply IsS59.drew | apply IsS59.set_1) | exact HI0.out)⟩, ⟨by repeat (first | (with_reducible first | exact HK.out | apply KeepBut.set_ | apply keep_drewN | apply keep_drew | apply keep_alloc) | exact HK.out)⟩, ⟨by repeat (first | (with_reducible first | exact HB.out | apply below_alloc | apply pw_below_drewN | apply below_drew1 | refine below_set ?_ (IsS59.ge HI0.out)) | exact HB.out)⟩⟩
  ·
   rw [if_neg c5] at H
   have c5b0 : decide (a1 < 1) = false := decide_eq_false c5
   clear c5
   (first | rw [c5b0] | (simp only [i64_w, i32_w]; rw [c5b0]) | skip)
   have H' := Aside0.mk H
   clear H
   obtain ⟨ASz6_0, cSz6_0, HGz6, hgz6, HSz6_0⟩ := HI0.out
   have hcz6_0 := cellS59_0 HGz6
   have hcz6_1 := cellS59_1 HGz6
   have hfz6_1 := blk_frozen HGz6 1
   clear HGz6 hgz6
   go_wp2
   repeat (go_quiet (fail); try go_wp2)
   go_meet
   case rel => exact ⟨_, (((s0_0.length : Int) == 0)), zr, H', ⟨by first | omega | exact Nat.le_refl _⟩, ⟨by repeat (first | (with_reducible first | exact HI0.out | apply IsS59.alloc | apply IsS59.drewN | apply IsS59.drew | apply IsS59.set_1) | exact HI0.out)⟩, ⟨by repeat (first | (with_reducible first | exact HK.out | apply KeepBut.set_ | apply keep_drewN | apply keep_drew | apply keep_alloc) | exact HK.out)⟩, ⟨by repeat (first | (with_reducible first | exact HB.out | apply below_alloc | apply pw_below_drewN | apply below_drew1 | refine below_set ?_ (IsS59.ge HI0.out)) | exact HB.out)⟩⟩
 case rest =>
  clear HC3
  try clear c2
  try clear p2
  try clear c5
  try clear c5b0
  try clear p6
  try clear hcz4_0
  try clear hcz4_1
  try clear hcz6_0
  try clear hcz6_1
  try clear hfz4_1
  try clear hfz6_1
  obtain ⟨kq, x24_2, rfl, HA, HJ2, HI0, HK, HB⟩ := hcut
  cases kq with
  | zero => exact absurd HA.out (by simp [spec_l6Rd_pick.j0])
  | succ kj2 =>
   have H := HA.out
   clear HA
   simp only [spec_l6Rd_pick.j0] at H
   by_cases c7 : x24_2 = true
   ·
    subst c7
    rw [if_pos rfl] at H
    simp only [Option.some.injEq, Prod.mk.injEq] at H
    obtain ⟨rfl, rfl⟩ := H
    go_wp2
    repeat (go_quiet (fail); try go_wp2)
    go_ret
    exact ⟨ze, by repeat (first | (with_reducible first | exact HI0.out | apply IsS59.alloc | apply IsS59.drewN | apply IsS59.drew | apply IsS59.set_1) | exact HI0.out), by repeat (first | (with_reducible first | exact HB.out | apply below_alloc | apply pw_below_drewN | apply below_drew1 | refine below_set ?_ (IsS59.ge HI0.out)) | exact HB.out), by repeat (first | (with_reducible first | exact HK.out | apply KeepBut.set_ | apply keep_drewN | apply keep_drew | apply keep_alloc) | exact HK.out)⟩
   ·
    replace c7 := Bool.eq_false_iff.mpr c7
    subst c7
    rw [if_neg nf_] at H
    by_cases c8 : (wrap64 ((wrap64 (s0_1 + 1)) - 1)) < (s0_0.length : Int)
    ·
     rw [if_pos c8] at H
     have c8b0 : decide ((wrap64 ((wrap64 (s0_1 + 1)) - 1)) < (s0_0.length : Int)) = true := decide_eq_true c8
     clear c8
     obtain ⟨ji9, hji9⟩ : ∃ j_ : Int, (wrap64 ((wrap64 (s0_1 + 1)) - 1)) = j_ := ⟨_, rfl⟩
     replace H : (if 0 ≤ (ji9) then (if a1 = 0 then (none) else (some (Int.tmod (wrap64 (rd s0_0 (ji9))) a1, (wrap64 (s0_1 + 1))))) else (none)) = some (r1, r2) := by first | (rw [hji9] at H; exact H) | (simp only [hji9] at H ⊢; exact H)
     (try rw [hji9] at c8b0)
     have hji9w : (IntKind.i64.wrap ((wrap64 (s0_1 + 1)) - 1)) = ji9 := (i64_w _).trans hji9
     by_cases c10 : 0 ≤ (ji9)
     ·
      rw [if_pos c10] at H
      have c10b0 : decide (0 ≤ (ji9)) = true := decide_eq_true c10
      clear c10
      by_cases c11 : a1 = 0
      ·
       rw [if_pos c11] at H
       exact absurd H (by simp)
      ·
       rw [if_neg c11] at H
       have c11b0 : (a1 == 0) = false := beq_eq_false_iff_ne.mpr c11
       have c11b1 : (a1 != 0) = true := bne_iff_ne.mpr c11
       simp only [Option.some.injEq, Prod.mk.injEq] at H
       obtain ⟨rfl, rfl⟩ := H
       obtain ⟨ASz12_0, cSz12_0, HGz12, hgz12, HSz12_0⟩ := HI0.out
       have hcz12_0 := cellS59_0 HGz12
       have hcz12_1 := cellS59_1 HGz12
       have hfz12_1 := blk_frozen HGz12 1
       clear HGz12 hgz12
       have p101 : 0 ≤ ((ji9) : Int) := of_decide_eq_true zs
       have q101 : (ji9) < (s0_0.length : Int) := of_decide_eq_true zs
       obtain ⟨ad101, e101, hx101_0⟩ := Kd.at_int HSz12_0 (ji9) p101 q101
       cases e101
       replace hx101_0 := pw_cell_below HB.out hx101_0
       replace p101 := eq_true p101
       replace q101 := eq_true q101
       go_wp2
       repeat (go_quiet (fail); try go_wp2)
       go_ret
       exact ⟨by first | rfl | (simp [errW_none, errW_some] <;> rfl) | (simp only [← hji9]; first | rfl | (simp [errW_none, errW_some] <;> rfl)) | (simp [*, errW_none, errW_some] <;> rfl), by repeat (first | (with_reducible first | exact HI0.out | apply IsS59.alloc | apply IsS59.drewN | apply IsS59.drew | apply IsS59.set_1) | exact HI0.out), by repeat (first | (with_reducible first | exact HB.out | apply below_alloc | apply pw_below_drewN | apply below_drew1 | refine below_set ?_ (IsS59.ge HI0.out)) | exact HB.out), by repeat (first | (with_reducible first | exact HK.out | apply KeepBut.set_ | apply keep_drewN | apply keep_drew | apply keep_alloc) | exact HK.out)⟩
     ·
      rw [if_neg c10] at H
      exact absurd H (by simp)
    ·
     rw [if_neg c8] at H
     have c8b0 : decide ((wrap64 ((wrap64 (s0_1 + 1)) - 1)) < (s0_0.length : Int)) = false := decide_eq_false c8
     clear c8
     by_cases c13 : (s0_0.length : Int) = 0
     ·
      rw [if_pos c13] at H
      exact absurd H (by simp)
     ·
      rw [if_neg c13] at H
      have c13b0 : ((s0_0.length : Int) == 0) = false := beq_eq_false_iff_ne.mpr c13
      have c13b1 : ((s0_0.length : Int) != 0) = true := bne_iff_ne.mpr c13
      have c13b2 : ¬ (s0_0 = []) := fun h_ => c13 (by rw [h_]; rfl)
      obtain ⟨ji14, hji14⟩ : ∃ j_ : Int, (Int.tmod (wrap64 ((wrap64 (s0_1 + 1)) - 1)) (s0_0.length : Int)) = j_ := ⟨_, rfl⟩
      replace H : (if 0 ≤ (ji14) then (if (ji14) < (s0_0.length : Int) then (if 0 ≤ (Int.tmod (wrap64 ((wrap64 ((wrap64 ((wrap64 (s0_1 + 1)) - 1)) * 7)) + 3)) (s0_0.length : Int)) then (if (Int.tmod (wrap64 ((wrap64 ((wrap64 ((wrap64 (s0_1 + 1)) - 1)) * 7)) + 3)) (s0_0.length : Int)) < (s0_0.length : Int) then (if a1 = 0 then (none) else (some (Int.tmod (Go.bits .xor .i64 (wrap64 ((wrap64 ((wrap64 ((wrap64 ((wrap64 (rd s0_0 (ji14))) * 131)) + (wrap64 ((wrap64 (rd s0_0 (Int.tmod (wrap64 ((wrap64 ((wrap64 ((wrap64 (s0_1 + 1)) - 1)) * 7)) + 3)) (s0_0.length : Int)))) * 1117)))) + (wrap64 ((wrap64 ((wrap64 (s0_1 + 1)) - 1)) * 29)))) + (wrap64 ((wrap64 (Int.tdiv (wrap64 ((wrap64 (s0_1 + 1)) - 1)) (s0_0.length : Int))) * 53)))) (wrap64 (Int.tdiv (wrap64 ((wrap64 ((wrap64 ((wrap64 ((wrap64 (rd s0_0 (ji14))) * 131)) + (wrap64 ((wrap64 (rd s0_0 (Int.tmod (wrap64 ((wrap64 ((wrap64 ((wrap64 (s0_1 + 1)) - 1)) * 7)) + 3)) (s0_0.length : Int)))) * 1117)))) + (wrap64 ((wrap64 ((wrap64 (s0_1 + 1)) - 1)) * 29)))) + (wrap64 ((wrap64 (Int.tdiv (wrap64 ((wrap64 (s0_1 + 1)) - 1)) (s0_0.length : Int))) * 53)))) 64))) a1, (wrap64 (s0_1 + 1))))) else (none)) else (none)) else (none)) else (none)) = some (r1, r2) := by first | (rw [hji14] at H; exact H) | (simp only [hji14] at H ⊢; exact H)
      by_cases c15 : 0 ≤ (ji14)
      ·
       rw [if_pos c15] at H
       have c15b0 : decide (0 ≤ (ji14)) = true := decide_eq_true c15
       clear c15
       by_cases c16 : (ji14) < (s0_0.length : Int)
       ·
        rw [if_pos c16] at H
        have c16b0 : decide ((ji14) < (s0_0.length : Int)) = true := decide_eq_true c16
        clear c16
        obtain ⟨ji17, hji17⟩ : ∃ j_ : Int, (Int.tmod (wrap64 ((wrap64 ((wrap64 ((wrap64 (s0_1 + 1)) - 1)) * 7)) + 3)) (s0_0.length : Int)) = j_ := ⟨_, rfl⟩
        replace H : (if 0 ≤ (ji17) then (if (ji17) < (s0_0.length : Int) then (if a1 = 0 then (none) else (some (Int.tmod (Go.bits .xor .i64 (wrap64 ((wrap64 ((wrap64 ((wrap64 ((wrap64 (rd s0_0 (ji14))) * 131)) + (wrap64 ((wrap64 (rd s0_0 (ji17))) * 1117)))) + (wrap64 ((wrap64 ((wrap64 (s0_1 + 1)) - 1)) * 29)))) + (wrap64 ((wrap64 (Int.tdiv (wrap64 ((wrap64 (s0_1 + 1)) - 1)) (s0_0.length : Int))) * 53)))) (wrap64 (Int.tdiv (wrap64 ((wrap64 ((wrap64 ((wrap64 ((wrap64 (rd s0_0 (ji14))) * 131)) + (wrap64 ((wrap64 (rd s0_0 (ji17))) * 1117)))) + (wrap64 ((wrap64 ((wrap64 (s0_1 + 1)) - 1)) * 29)))) + (wrap64 ((wrap64 (Int.tdiv (wrap64 ((wrap64 (s0_1 + 1)) - 1)) (s0_0.length : Int))) * 53)))) 64))) a1, (wrap64 (s0_1 + 1))))) else (none)) else (none)) = some (r1, r2) := by first | (rw [hji17] at H; exact H) | (simp only [hji17] at H ⊢; exact H)
        by_cases c18 : 0 ≤ (ji17)
        ·
         rw [if_pos c18] at H
         have c18b0 : decide (0 ≤ (ji17)) = true := decide_eq_true c18
         clear c18
         by_cases c19 : (ji17) < (s0_0.length : Int)
         ·
          rw [if_pos c19] at H
          have c19b0 : decide ((ji17) < (s0_0.length : Int)) = true := decide_eq_true c19
          clear c19
          by_cases c20 : a1 = 0
          ·
           rw [if_pos c20] at H
           exact absurd H (by simp)
          ·
           rw [if_neg c20] at H
           have c20b0 : (a1 == 0) = false := beq_eq_false_iff_ne.mpr c20
           have c20b1 : (a1 != 0) = true := bne_iff_ne.mpr c20
           simp only [Option.some.injEq, Prod.mk.injEq] at H
           obtain ⟨rfl, rfl⟩ := H
           obtain ⟨ASz21_0, cSz21_0, HGz21, hgz21, HSz21_0⟩ := HI0.out
           have hcz21_0 := cellS59_0 HGz21
           have hcz21_1 := cellS59_1 HGz21
           have hfz21_1 := blk_frozen HGz21 1
           clear HGz21 hgz21
           have p102 : 0 ≤ ((ji14) : Int) := of_decide_eq_true zs
           have q102 : (ji14) < (s0_0.length : Int) := of_decide_eq_true zs
           obtain ⟨ad102, e102, hx102_0⟩ := Kd.at_int HSz21_0 (ji14) p102 q102
           cases e102
           replace hx102_0 := pw_cell_below HB.out hx102_0
           replace p102 := eq_true p102
           replace q102 := eq_true q102
           have p103 : 0 ≤ ((ji17) : Int) := of_decide_eq_true zs
           have q103 : (ji17) < (s0_0.length : Int) := of_decide_eq_true zs
           obtain ⟨ad103, e103, hx103_0⟩ := Kd.at_int HSz21_0 (ji17) p103 q103
           obtain rfl : ad102 = ad103 := (by injection e103)
           replace hx103_0 := pw_cell_below HB.out hx103_0
           replace p103 := eq_true p103
           replace q103 := eq_true q103
           go_wp2
           repeat (go_quiet (fail); try go_wp2)
           go_ret
           exact ⟨by first | rfl | (simp [errW_none, errW_some] <;> rfl) | (simp only [← hji14, ← hji17]; first | rfl | (simp [errW_none, errW_some] <;> rfl)) | (simp [*, errW_none, errW_some] <;> rfl), by repeat (first | (with_reducible first | exact HI0.out | apply IsS59.alloc | apply IsS59.drewN | apply IsS59.drew | apply IsS59.set_1) | exact HI0.out), by repeat (first | (with_reducible first | exact HB.out | apply below_alloc | apply pw_below_drewN | apply below_drew1 | refine below_set ?_ (IsS59.ge HI0.out)) | exact HB.out), by repeat (first | (with_reducible first | exact HK.out | apply KeepBut.set_ | apply keep_drewN | apply keep_drew | apply keep_alloc) | exact HK.out)⟩
         ·
          rw [if_neg c19] at H
          exact absurd H (by simp)
        ·
         rw [if_neg c18] at H
         exact absurd H (by simp)
       ·
        rw [if_neg c16] at H
        exact absurd H (by simp)
      ·
       rw [if_neg c15] at H
       exact absurd H (by simp)

end Go.Proofs.YtkjjlkkfhbfbmaaDoor.P
