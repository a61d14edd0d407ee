-- printed by wip/qd.py
import Derived.Test.YtkjjlkkfhbfbmaaDoorPf0
import Derived.Test.YtkjjlkkfhbfbmaaDoorQWords
namespace Go.Proofs.YtkjjlkkfhbfbmaaDoor.P
open Go.RowKit Go.Proofs.YtkjjlkkfhbfbmaaDoorW.PrintWords Go.Proofs.YtkjjlkkfhbfbmaaDoorW.PrintLast Go.Proofs.YtkjjlkkfhbfbmaaDoorW.PrintMore
attribute [local go_sem] max2_int min2_int max_two min_two max_three min_three max_four min_four Q.cell_set_map Q.str_gtr Q.str_geq Q.str_leq
set_option linter.unusedVariables false
set_option linter.unusedSimpArgs false

/-! ### impl_words_1: function 27 -/
-- IMPORT Derived.Test.YtkjjlkkfhbfbmaaDoorQWords
set_option maxHeartbeats 8000000 in
set_option maxRecDepth 100000 in
/-- Each word of the list is stored, with its kind and what it needs. -/
theorem impl_words_1.calls (needs list : ByteArray) (kb c : Nat) (K : List Int) (pb mb : Nat) (L : List Q.WEntry) (F : List ByteArray) (w : World) (hT : Q.Tabs w)
    (hP : w.cell? ⟨pb, 0, none⟩ = some (.map (some mb))) (hM : Q.WMap w mb L) (hr : ∀ i, i < K.length → w.cell? ⟨kb, i, none⟩ = some (.int .i64 (K.getD i 0))) (hz : list.size < 4294967281) (ha : ∀ (j : Nat) b, list.data.toList[j]? = some b → b.toNat < 128)
    (hF : (Lib.fields list.data.toList).map (fun l => (⟨l.toArray⟩ : ByteArray)) = F) (hFl : F.length ≤ K.length) (hF40 : ∀ x ∈ F, x.size ≤ 40) (hl9 : K.length < 1000000) (hnd : (L.map (·.1) ++ F).Nodup) :
    Calls Tryd.prog 27 #[.string needs, .string list, .slice (some ⟨kb, 0, none⟩) K.length c, .pointer (some ⟨pb, 0, none⟩)] w fun e w' => e = .returned (.tuple #[]) ∧ Q.WMap w' mb (L ++ Q.wgot needs F K) ∧ w.grownBy w' (some mb) := by
  have hFlen : (Lib.fields list.data.toList).length = F.length := by rw [← hF, List.length_map]
  have hFs : ((Lib.fields list.data.toList).map fun l => Value.string (⟨l.toArray⟩ : ByteArray)) = F.map (fun l => Value.string l) := by rw [← hF, List.map_map]; rfl
  have HT := Aside0.mk hT
  have HM := Aside0.mk hM
  have HR := Aside0.mk hr
  have HP := Aside0.mk hP
  have HA := Aside0.mk ha
  have HN := Aside0.mk hnd
  have H40 := Aside0.mk hF40
  clear hT hM hr hP ha hF hnd hF40
  go_enter Tryd.func27, Tryd.ntmps27
  go_wp2_with (go_at_call 28; refine (Tryd.strings_Fields list _ hz HA.out HT.out.sp).mono ?_; rintro e w1 ⟨rfl, rfl⟩)
  try rw [hFlen]
  try rw [hFs]
  have hb1 : Below w.heap.size w (w.alloc (.cells (F.map fun l => Value.string l).toArray 9)) := below_alloc (Below.refl _ _) _
  have HC : Aside0 (∀ i, i < F.length → (w.alloc (.cells (F.map fun l => Value.string l).toArray 9)).cell? ⟨w.heap.size, i, none⟩ = some (.string (F.getD i ByteArray.empty))) := ⟨fun i hi => Q.fields_cell w F 9 i hi⟩
  have HG := Aside0.mk (grown_of_below hb1 (some mb))
  replace HM := Aside0.mk (HM.out.below hb1)
  replace HP := Aside0.mk (pw_cell_below hb1 HP.out)
  have HR1 := Aside0.mk (fun i hi => pw_cell_below hb1 (HR.out i hi))
  clear HR hb1
  generalize w.alloc (.cells (F.map fun l => Value.string l).toArray 9) = W1 at HC HG HM HP HR1 ⊢
  obtain ⟨fb, hfb⟩ : ∃ fb, fb = w.heap.size := ⟨_, rfl⟩
  rw [← hfb] at HC ⊢
  clear hfb HT HA hFs hFlen
  go_loopg [12] F.length (fun kq v12 w' => ∃ (i : Nat), v12 = .int .i64 (i : Int) ∧ i + kq = F.length ∧ Aside0 (w'.cell? ⟨pb, 0, none⟩ = some (.map (some mb))) ∧ Aside0 (Q.WMap w' mb (L ++ (Q.wgot needs F K).take i)) ∧ Aside0 (∀ i, i < F.length → w'.cell? ⟨fb, i, none⟩ = some (.string (F.getD i ByteArray.empty))) ∧ Aside0 (∀ i, i < K.length → w'.cell? ⟨kb, i, none⟩ = some (.int .i64 (K.getD i 0))) ∧ Aside0 (w.grownBy w' (some mb)))
  case atStart => exact ⟨0, rfl, by omega, HP, ⟨by rw [List.take_zero, List.append_nil]; exact HM.out⟩, HC, HR1, HG⟩
  case round =>
    clear HP HM HC HR1 HG
    obtain ⟨i, rfl, hi, HP, HM, HC, HR, HG⟩ := hrel
    cases gk with
    | zero =>
      have hltz : ¬ (i : Int) < (F.length : Int) := by omega
      have hit : i = F.length := by omega
      go_wp2
      go_end0
      refine ⟨rfl, ?_, HG.out⟩
      have h := HM.out
      rw [hit, ← Q.wgot_length (needs := needs) hFl, List.take_length] at h
      exact h
    | succ kr =>
      have hltz : (i : Int) < (F.length : Int) := by omega
      have hltk : (i : Int) < (K.length : Int) := by omega
      have hx := HC.out i (by omega)
      have hk := HR.out i (by omega)
      have hp := HP.out
      obtain ⟨hnot, hnext⟩ := Q.wgot_next (needs := needs) HN.out hFl (show i < F.length by omega)
      have h40 : (F.getD i ByteArray.empty).size ≤ 40 := H40.out _ (by simp [List.getD, show i < F.length by omega])
      have hpn := HM.out.cell_ne hp
      have hkn := HM.out.cell_ne hk
      have hfn := HM.out.cell_ne hx
      obtain ⟨fs, hfs⟩ : ∃ fs, fs = F.getD i ByteArray.empty := ⟨_, rfl⟩
      obtain ⟨ks, hks⟩ : ∃ ks, ks = K.getD i 0 := ⟨_, rfl⟩
      rw [← hfs] at hx hnot hnext h40
      rw [← hks] at hk hnext
      have HNX := Aside0.mk hnext
      have HMd : Q.WMap wr.drew mb (L ++ (Q.wgot needs F K).take i) := HM.out.keep rfl
      obtain ⟨w4, hrun, M4, G4, _⟩ := HMd.store (P := Tryd.prog) (k := 9) (e := 40) (t := 42) Tryd.underlying9 Tryd.underlying42 (s := fs) (by simp only [maxLen]; omega) hnot ks needs
      have HM4 := Aside0.mk M4
      have HG4 := Aside0.mk G4
      have HP4 := Aside0.mk (G4.cell (show wr.drew.cell? _ = _ from hp) hpn)
      have HC4 := Aside0.mk (fun j hj => G4.cell (show wr.drew.cell? ⟨fb, j, none⟩ = _ from HC.out j hj) hfn)
      have HR4 := Aside0.mk (fun j hj => G4.cell (show wr.drew.cell? ⟨kb, j, none⟩ = _ from HR.out j hj) hkn)
      have HGn : Aside0 (w.grownBy w4 (some mb)) := ⟨HG.out.trans ⟨G4.os, G4.tape, G4.output, G4.size, G4.block⟩⟩
      clear hfs hks hnext hnot HMd M4 G4 hpn hkn hfn
      go_wp2_with fail
      refine start_ (n := 9) (S := fun w' => w'.cell? ⟨pb, 0, none⟩ = some (.map (some mb)) ∧ w'.cell? ⟨kb, i, none⟩ = some (.int .i64 ks)) (ds := [8]) #[false, false, false, false, false, false, false, false, false] (by kernel_rfl) rfl rfl ⟨hp, hk⟩ (fun hHeld => ?_)
      refine pure_ (i := 1) (N := some 18) (v := ?_) (a' := ?_) #[false, true, false, false, false, false, false, false, false] rfl rfl (by kernel_rfl) (fun _ _ _ h => h) (Or.inl ⟨by rfl, ?_⟩) ?_ ?_
      rotate_left
      · intro w'
        go_simp
        with_reducible rfl
      rotate_left
      · simp only [Act.put, List.setIfInBounds_toArray, List.set_cons_zero, List.set_cons_succ, i64_w, i32_w]
        rfl
      refine pure_ (i := 2) (N := some 19) (v := ?_) (a' := ?_) #[false, true, true, false, false, false, false, false, false] rfl rfl (by kernel_rfl) (fun _ _ _ h => h) (Or.inl ⟨by rfl, ?_⟩) ?_ ?_
      rotate_left
      · intro w'
        go_simp
        with_reducible rfl
      rotate_left
      · simp only [Act.put, List.setIfInBounds_toArray, List.set_cons_zero, List.set_cons_succ, i64_w, i32_w]
        rfl
      refine pure_ (i := 3) (N := some 20) (v := ?_) (a' := ?_) #[false, true, true, true, false, false, false, false, false] rfl rfl (by kernel_rfl) (fun _ _ _ h => h) (Or.inl ⟨by rfl, ?_⟩) ?_ ?_
      rotate_left
      · intro w'
        go_simp
        with_reducible rfl
      rotate_left
      · simp only [Act.put, List.setIfInBounds_toArray, List.set_cons_zero, List.set_cons_succ, i64_w, i32_w]
        rfl
      refine pure_ (i := 4) (N := some 21) (v := ?_) (a' := ?_) #[false, true, true, true, true, false, false, false, false] rfl rfl (by kernel_rfl) (fun _ _ _ h => h) (Or.inl ⟨by rfl, ?_⟩) ?_ ?_
      rotate_left
      · intro w'
        go_simp
        with_reducible rfl
      rotate_left
      · simp only [Act.put, List.setIfInBounds_toArray, List.set_cons_zero, List.set_cons_succ, i64_w, i32_w]
        rfl
      refine pure_ (i := 6) (N := some 23) (v := ?_) (a' := ?_) #[false, true, true, true, true, false, true, false, false] rfl rfl (by kernel_rfl) (fun _ _ _ h => h) (Or.inl ⟨by rfl, ?_⟩) ?_ ?_
      rotate_left
      · intro w'
        go_simp
        with_reducible rfl
      rotate_left
      · simp only [Act.put, List.setIfInBounds_toArray, List.set_cons_zero, List.set_cons_succ, i64_w, i32_w]
        rfl
      refine take_ (i := 0) (N := some 17) (v := ?_) (a' := ?_) #[true, true, true, true, true, false, true, false, false] rfl rfl (by kernel_rfl) (fun _ _ _ h => h) (Or.inl ⟨by rfl, ?_⟩) hHeld ?_ ?_
      rotate_left
      · rintro w' ⟨s0, s1⟩
        go_simp
        with_reducible rfl
      rotate_left
      · simp only [Act.put, List.setIfInBounds_toArray, List.set_cons_zero, List.set_cons_succ, i64_w, i32_w]
        rfl
      refine take_ (i := 5) (N := some 22) (v := ?_) (a' := ?_) #[true, true, true, true, true, true, true, false, false] rfl rfl (by kernel_rfl) (fun _ _ _ h => h) (Or.inl ⟨by rfl, ?_⟩) hHeld ?_ ?_
      rotate_left
      · rintro w' ⟨s0, s1⟩
        go_simp
        with_reducible rfl
      rotate_left
      · simp only [Act.put, List.setIfInBounds_toArray, List.set_cons_zero, List.set_cons_succ, i64_w, i32_w]
        rfl
      refine pure_ (i := 7) (N := some 24) (v := ?_) (a' := ?_) #[true, true, true, true, true, true, true, true, false] rfl rfl (by kernel_rfl) (fun _ _ _ h => h) (Or.inl ⟨by rfl, ?_⟩) ?_ ?_
      rotate_left
      · intro w'
        go_simp
        with_reducible rfl
      rotate_left
      · simp only [Act.put, List.setIfInBounds_toArray, List.set_cons_zero, List.set_cons_succ, i64_w, i32_w]
        rfl
      refine last_ (i := 8) (N := none) #[true, true, true, true, true, true, true, true, true] rfl rfl (by kernel_rfl) (by decide) (fun K hK => ?_)
      refine skip_ (w1 := w4) (by rfl) rfl ?_ ?_
      · go_simp
      refine hK.out _ _ ?_
      clear hK K
      refine done_ (by kernel_rfl) ?_

      try go_wp2
      go_roundg kr
      case measure => omega
      case rel =>
        exact ⟨i + 1, by go_num, by omega, HP4, ⟨HNX.out ▸ HM4.out⟩, HC4, HR4, HGn⟩


end Go.Proofs.YtkjjlkkfhbfbmaaDoor.P
