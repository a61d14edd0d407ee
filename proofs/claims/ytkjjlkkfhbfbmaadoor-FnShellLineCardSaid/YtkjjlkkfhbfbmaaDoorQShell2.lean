/- Lines of the shell: words and what they need; the loop over what a word needs. -/
import Derived.Test.YtkjjlkkfhbfbmaaDoorQShell
import Derived.Test.YtkjjlkkfhbfbmaaDoorQWords
import Derived.Test.YtkjjlkkfhbfbmaaDoorPf0
import Derived.Test.YtkjjlkkfhbfbmaaDoorPfM4
import Derived.Test.YtkjjlkkfhbfbmaaDoorPfM3
import Derived.Test.YtkjjlkkfhbfbmaaDoorPfM1
import Derived.Test.YtkjjlkkfhbfbmaaDoorPfspecShellLine
namespace Go.Proofs.YtkjjlkkfhbfbmaaDoor.Q
open Go.RowKit Go.Proofs.YtkjjlkkfhbfbmaaDoorW.PrintWords Go.Proofs.YtkjjlkkfhbfbmaaDoorW.PrintLast Go.Proofs.YtkjjlkkfhbfbmaaDoorW.PrintMore Go.Proofs.YtkjjlkkfhbfbmaaDoor.P
set_option linter.unusedVariables false
set_option linter.unusedSimpArgs false
theorem num_ne {l : List UInt8} (h : (numR l).2 = true) : l ≠ [] := by
  unfold numR at h
  split at h
  · rename_i n hs
    simp only [decide_eq_true_eq] at h
    intro e
    have := dec_len n
    rw [← h, e] at this
    simp at this
  · cases h
def okF : List UInt8 → List UInt8 → Nat → Nat → Bool
  | [], [], _, _ => true
  | c :: cs, d :: ds, a, p =>
    if c = 97 then decide (d = 110) && (decide (a = 0) && okF cs ds 1 p) else
    if c = 98 then decide (d = 110) && (decide (a = 1) && okF cs ds 2 p) else
    if c = 112 then decide (d = 112) && (decide (p = 0) && okF cs ds a 1) else
    if c = 113 then decide (d = 112) && (decide (p = 1) && okF cs ds a 2) else
    if c = 116 then decide (d = 116) && okF cs ds a p else false
  | _, _, _, _ => false
theorem okF_len : ∀ (cs ds : List UInt8) (a p : Nat), okF cs ds a p = true → cs.length = ds.length
  | [], [], _, _, _ => rfl
  | [], _ :: _, _, _, h => by simp [okF] at h
  | _ :: _, [], _, _, h => by simp [okF] at h
  | c :: cs, d :: ds, a, p, h => by
    rw [okF] at h
    simp only [List.length_cons]
    congr 1
    split at h
    · simp only [Bool.and_eq_true] at h; exact okF_len _ _ _ _ h.2.2
    split at h
    · simp only [Bool.and_eq_true] at h; exact okF_len _ _ _ _ h.2.2
    split at h
    · simp only [Bool.and_eq_true] at h; exact okF_len _ _ _ _ h.2.2
    split at h
    · simp only [Bool.and_eq_true] at h; exact okF_len _ _ _ _ h.2.2
    split at h
    · simp only [Bool.and_eq_true] at h; exact okF_len _ _ _ _ h.2
    · cases h
theorem rdP (P : List (List UInt8)) (j : Nat) : rdOf ByteArray.empty (P.map Bs) (j : Int) = Bs (P.getD j []) := by
  unfold rdOf
  rw [Int.toNat_natCast, List.getD_eq_getElem?_getD, List.getD_eq_getElem?_getD, List.getElem?_map]
  cases P[j]? with
  | none => rfl
  | some x => rfl
abbrev R8 := Int × Int × Int × Int × ByteArray × ByteArray × ByteArray × Bool
def zer : R8 := (0, 0, 0, 0, (⟨#[]⟩ : ByteArray), (⟨#[]⟩ : ByteArray), (⟨#[]⟩ : ByteArray), false)
section
variable (P : List (List UInt8)) (hP : ∀ p ∈ P, p.length ≤ 1048576) (hL : P.length ≤ 1048577) (id kind : Int)
theorem getP (hP : ∀ p ∈ P, p.length ≤ 1048576) (j : Nat) : (P.getD j []).length ≤ 1048576 := by
  rw [List.getD_eq_getElem?_getD]
  cases h : P[j]? with
  | none => simp
  | some x => exact hP x (List.mem_of_getElem? h)
theorem bt_mid (pre : List UInt8) (d : UInt8) (ds : List UInt8) : bt (Bs (pre ++ d :: ds)) (pre.length : Int) = (d.toNat : Int) := by
  have hlt : pre.length < (pre ++ d :: ds).length := by simp
  rw [Bs_bt _ hlt]
  congr 2
  have : (pre ++ d :: ds)[pre.length]? = some d := by simp
  rw [List.getElem?_eq_getElem hlt] at this
  exact Option.some.inj this
include hP hL in
theorem dead_ev : ∀ (ds pre : List UInt8) (nums : List Int) (paths : List ByteArray) (text : ByteArray), (pre ++ ds).length + 2 ≤ P.length → nums.length ≤ pre.length → paths.length ≤ pre.length →
    Ev (fun k => spec_ShellLine.l0 k (P.map Bs) id false (Bs (pre ++ ds)) nums paths (pre.length : Int) kind 0 0 (⟨#[]⟩ : ByteArray) (⟨#[]⟩ : ByteArray) text) zer := by
  intro ds
  induction ds with
  | nil =>
    intro pre nums paths text hlen hn hp
    simp only [List.append_nil] at hlen ⊢
    refine Ev.step (fun k => by simp only [spec_ShellLine.l0]; rfl) ?_
    refine Ev.neg (by rw [Bs_size]; omega) (Ev.bind (Ev.now _) (Ev.pos (by simp; omega) (Ev.bind (Ev.now _) (Ev.bind (Ev.now _) (Ev.pos (by simp; omega) (Ev.bind (Ev.now _) ?_))))))
    exact Ev.pos (by simp; omega) (Ev.pos (by simp; omega) (Ev.pos (by simp; omega) (Ev.pos (by simp; omega) (Ev.neg (by simp) (Ev.now _)))))
  | cons d ds ih =>
    intro pre nums paths text hlen hn hp
    have hl : (pre ++ d :: ds).length = pre.length + (ds.length + 1) := by simp
    rw [hl] at hlen
    have hw : wrap64 ((pre.length : Int) + 1) = ((pre.length + 1 : Nat) : Int) := by rw [wrap_id (by omega) (by omega)]; omega
    have h2 : wrap64 (2 + (pre.length : Int)) = ((pre.length + 2 : Nat) : Int) := by rw [wrap_id (by omega) (by omega)]; omega
    have next := fun nums paths text h1 h2 => ih (pre ++ [d]) nums paths text (by simp; omega) h1 h2
    simp only [List.append_assoc, List.singleton_append, List.length_append, List.length_singleton] at next
    refine Ev.step (fun k => by simp only [spec_ShellLine.l0]; rfl) ?_
    rw [h2, hw, bt_mid, rdP]
    refine Ev.pos (by rw [Bs_size, hl]; omega) (Ev.pos (by omega) (Ev.pos (by rw [List.length_map]; omega) (Ev.pos (by omega) ?_)))
    by_cases c1 : (d.toNat : Int) = 110
    · refine Ev.pos c1 (Ev.bind (numSpec _ (getP P hP _)) (Ev.neg (by simp) (Ev.pos (by omega) (next _ _ _ (by simp; omega) (by omega)))))
    refine Ev.neg c1 ?_
    by_cases c2 : (d.toNat : Int) = 112
    · exact Ev.pos c2 (Ev.pos (by omega) (Ev.bind (Ev.now _) (Ev.neg (by simp) (next _ _ _ (by omega) (by simp; omega)))))
    · exact Ev.neg c2 (Ev.neg (by simp) (next _ _ _ (by omega) (by omega)))
/-- What the reference has gathered is what the program's record has. -/
structure Same (y : S23) (nums : List Int) (paths : List ByteArray) (text : ByteArray) (kind : Int) : Prop where
  h0 : y.f0 = kind
  h1 : y.f1 = (nums ++ [0, 0]).getD 0 0
  h2 : y.f2 = (nums ++ [0, 0]).getD 1 0
  h3 : y.f3 = (paths ++ [(⟨#[]⟩ : ByteArray), (⟨#[]⟩ : ByteArray)]).getD 0 ByteArray.empty
  h4 : y.f4 = (paths ++ [(⟨#[]⟩ : ByteArray), (⟨#[]⟩ : ByteArray)]).getD 1 ByteArray.empty
  h5 : y.f5 = text
theorem neE (s : List UInt8) : (((Bs s).toList != ([] : List UInt8)) = true) ↔ s ≠ [] := by rw [Bs_toList, bne_iff_ne]
theorem neI (s : List UInt8) : (!(Bs s).toList.isEmpty) = !s.isEmpty := by rw [Bs_toList]
theorem step97 (s : ByteArray) (y : S23) : impl_ShellLine.step ((97 : UInt8).toNat : Int) s y = ({ y with f1 := (impl_number.f s).1 }, (impl_number.f s).2) := rfl
theorem step98 (s : ByteArray) (y : S23) : impl_ShellLine.step ((98 : UInt8).toNat : Int) s y = ({ y with f2 := (impl_number.f s).1 }, (impl_number.f s).2) := rfl
theorem step112 (s : ByteArray) (y : S23) : impl_ShellLine.step ((112 : UInt8).toNat : Int) s y = ({ y with f3 := s }, !s.toList.isEmpty) := rfl
theorem step113 (s : ByteArray) (y : S23) : impl_ShellLine.step ((113 : UInt8).toNat : Int) s y = ({ y with f4 := s }, !s.toList.isEmpty) := rfl
theorem step116 (s : ByteArray) (y : S23) : impl_ShellLine.step ((116 : UInt8).toNat : Int) s y = ({ y with f5 := s }, !s.toList.isEmpty) := rfl
def FinS (id : Int) (r : S23 × Bool) (k : Nat) : Option R8 := (spec_CallOk.f k r.1.f0 r.1.f1 r.1.f2 r.1.f3 r.1.f4 r.1.f5).bind fun b => if b = true then some (id, r.1.f0, r.1.f1, r.1.f2, r.1.f3, r.1.f4, r.1.f5, true) else some zer
include hP hL in
theorem live_ev (R : R8) : ∀ (cs ds preN preF : List UInt8) (nums : List Int) (paths : List ByteArray) (text : ByteArray) (y : S23), preN.length = preF.length → (preF ++ ds).length + 2 = P.length → nums.length ≤ preF.length → paths.length ≤ preF.length →
    okF cs ds nums.length paths.length = true → Same y nums paths text kind →
    ((impl_ShellLine.loop (P.map Bs) (Bs (preN ++ cs)) cs.length preN.length y).2 = true → Ev (FinS id (impl_ShellLine.loop (P.map Bs) (Bs (preN ++ cs)) cs.length preN.length y)) R) → ((impl_ShellLine.loop (P.map Bs) (Bs (preN ++ cs)) cs.length preN.length y).2 = false → R = zer) →
    Ev (fun k => spec_ShellLine.l0 k (P.map Bs) id true (Bs (preF ++ ds)) nums paths (preF.length : Int) kind 0 0 (⟨#[]⟩ : ByteArray) (⟨#[]⟩ : ByteArray) text) R := by
  intro cs
  induction cs with
  | nil =>
    intro ds preN preF nums paths text y hpl hlen hn hp hok hS hT hF
    cases ds with
    | cons d ds => simp [okF] at hok
    | nil =>
    have h := hT rfl
    simp only [List.length_nil, impl_ShellLine.loop] at h
    simp only [List.append_nil] at hlen ⊢
    refine Ev.step (fun k => by simp only [spec_ShellLine.l0]; rfl) ?_
    refine Ev.neg (by rw [Bs_size]; omega) (Ev.bind (Ev.now _) (Ev.pos (by simp; omega) (Ev.bind (Ev.now _) (Ev.bind (Ev.now _) (Ev.pos (by simp; omega) (Ev.bind (Ev.now _) ?_))))))
    refine Ev.pos (by simp; omega) (Ev.pos (by simp; omega) (Ev.pos (by simp; omega) (Ev.pos (by simp; omega) (Ev.pos (by trivial) ?_))))
    unfold FinS at h
    simp only [hS.h0, hS.h1, hS.h2, hS.h3, hS.h4, hS.h5] at h
    exact h
  | cons c cs ih =>
    intro ds preN preF nums paths text y hpl hlen hn hp hok hS hT hF
    cases ds with
    | nil => simp [okF] at hok
    | cons d ds =>
    have hl : (preF ++ d :: ds).length = preF.length + (ds.length + 1) := by simp
    rw [hl] at hlen
    have hw : wrap64 ((preF.length : Int) + 1) = ((preF.length + 1 : Nat) : Int) := by rw [wrap_id (by omega) (by omega)]; omega
    have h2 : wrap64 (2 + (preF.length : Int)) = ((preF.length + 2 : Nat) : Int) := by rw [wrap_id (by omega) (by omega)]; omega
    have next := fun nums paths text y h1 h2 h3 h4 => ih ds (preN ++ [c]) (preF ++ [d]) nums paths text y (by simp [hpl]) (by simp; omega) h1 h2 h3 h4
    have dead := fun nums paths text h1 h2 => dead_ev P hP hL id kind ds (preF ++ [d]) nums paths text (by simp; omega) h1 h2
    simp only [List.append_assoc, List.singleton_append, List.length_append, List.length_singleton] at next dead
    have hbyte : (Bs (preN ++ c :: cs)).data.toList.getD preN.length 0 = c := by rw [Bs_data]; simp [List.getD]
    simp only [List.length_cons, impl_ShellLine.loop, hbyte, rdP] at hT hF
    rw [hpl] at hT hF next
    have hs := getP P hP (preF.length + 2)
    refine Ev.step (fun k => by simp only [spec_ShellLine.l0]; rfl) ?_
    rw [h2, hw, bt_mid, rdP]
    generalize P.getD (preF.length + 2) [] = s at hT hF hs ⊢
    refine Ev.pos (by rw [Bs_size, hl]; omega) (Ev.pos (by omega) (Ev.pos (by rw [List.length_map]; omega) (Ev.pos (by omega) ?_)))
    rw [okF] at hok
    by_cases c97 : c = 97
    · rw [if_pos c97] at hok
      subst c97
      simp only [Bool.and_eq_true, decide_eq_true_eq] at hok
      obtain ⟨rfl, ha, hok⟩ := hok
      obtain ⟨n2, n1⟩ := numImpl s
      refine Ev.pos (by decide) (Ev.bind (numSpec s hs) (Ev.pos (by trivial) (Ev.pos (by omega) (Ev.bind (Ev.now _) ?_))))
      cases hb : (numR s).2 with
      | false =>
        have hst : impl_ShellLine.step ((97 : UInt8).toNat : Int) (Bs s) y = ({ y with f1 := (impl_number.f (Bs s)).1 }, false) := by rw [step97, n2, hb]
        rw [hst] at hF
        rw [hF rfl]
        exact Ev.neg (by simp) (dead _ _ _ (by simp; omega) (by omega))
      | true =>
        have hst : impl_ShellLine.step ((97 : UInt8).toNat : Int) (Bs s) y = ({ y with f1 := (numR s).1 }, true) := by rw [step97, n1 hb, hb]
        rw [hst] at hT hF
        rw [(neE s).2 (num_ne hb)]
        refine Ev.pos rfl (next _ _ _ _ (by simp; omega) (by omega) (by simpa [ha] using hok) ?_ hT hF)
        obtain rfl : nums = [] := List.length_eq_zero_iff.1 ha
        exact ⟨hS.h0, rfl, hS.h2, hS.h3, hS.h4, hS.h5⟩
    rw [if_neg c97] at hok
    by_cases c98 : c = 98
    · rw [if_pos c98] at hok
      subst c98
      simp only [Bool.and_eq_true, decide_eq_true_eq] at hok
      obtain ⟨rfl, ha, hok⟩ := hok
      obtain ⟨n2, n1⟩ := numImpl s
      refine Ev.pos (by decide) (Ev.bind (numSpec s hs) (Ev.pos (by trivial) (Ev.pos (by omega) (Ev.bind (Ev.now _) ?_))))
      cases hb : (numR s).2 with
      | false =>
        have hst : impl_ShellLine.step ((98 : UInt8).toNat : Int) (Bs s) y = ({ y with f2 := (impl_number.f (Bs s)).1 }, false) := by rw [step98, n2, hb]
        rw [hst] at hF
        rw [hF rfl]
        exact Ev.neg (by simp) (dead _ _ _ (by simp; omega) (by omega))
      | true =>
        have hst : impl_ShellLine.step ((98 : UInt8).toNat : Int) (Bs s) y = ({ y with f2 := (numR s).1 }, true) := by rw [step98, n1 hb, hb]
        rw [hst] at hT hF
        rw [(neE s).2 (num_ne hb)]
        refine Ev.pos rfl (next _ _ _ _ (by simp; omega) (by omega) (by simpa [ha] using hok) ?_ hT hF)
        obtain ⟨v, rfl⟩ : ∃ v, nums = [v] := List.length_eq_one_iff.1 ha
        exact ⟨hS.h0, hS.h1, rfl, hS.h3, hS.h4, hS.h5⟩
    rw [if_neg c98] at hok
    by_cases c112 : c = 112
    · rw [if_pos c112] at hok
      subst c112
      simp only [Bool.and_eq_true, decide_eq_true_eq] at hok
      obtain ⟨rfl, ha, hok⟩ := hok
      refine Ev.neg (by decide) (Ev.pos (by decide) (Ev.pos (by omega) (Ev.bind (Ev.now _) (Ev.pos (by trivial) ?_))))
      cases s with
      | nil =>
        have hst : impl_ShellLine.step ((112 : UInt8).toNat : Int) (Bs []) y = ({ y with f3 := Bs [] }, false) := by rw [step112, neI]; rfl
        rw [hst] at hF
        rw [hF rfl, show ((Bs []).toList != ([] : List UInt8)) = false by rw [Bs_toList]; rfl]
        exact dead _ _ _ (by omega) (by simp; omega)
      | cons b s =>
        have hst : impl_ShellLine.step ((112 : UInt8).toNat : Int) (Bs (b :: s)) y = ({ y with f3 := Bs (b :: s) }, true) := by rw [step112, neI]; rfl
        rw [hst] at hT hF
        rw [(neE (b :: s)).2 (by simp)]
        refine next _ _ _ _ (by omega) (by simp; omega) (by simpa [ha] using hok) ?_ hT hF
        obtain rfl : paths = [] := List.length_eq_zero_iff.1 ha
        exact ⟨hS.h0, hS.h1, hS.h2, rfl, hS.h4, hS.h5⟩
    rw [if_neg c112] at hok
    by_cases c113 : c = 113
    · rw [if_pos c113] at hok
      subst c113
      simp only [Bool.and_eq_true, decide_eq_true_eq] at hok
      obtain ⟨rfl, ha, hok⟩ := hok
      refine Ev.neg (by decide) (Ev.pos (by decide) (Ev.pos (by omega) (Ev.bind (Ev.now _) (Ev.pos (by trivial) ?_))))
      cases s with
      | nil =>
        have hst : impl_ShellLine.step ((113 : UInt8).toNat : Int) (Bs []) y = ({ y with f4 := Bs [] }, false) := by rw [step113, neI]; rfl
        rw [hst] at hF
        rw [hF rfl, show ((Bs []).toList != ([] : List UInt8)) = false by rw [Bs_toList]; rfl]
        exact dead _ _ _ (by omega) (by simp; omega)
      | cons b s =>
        have hst : impl_ShellLine.step ((113 : UInt8).toNat : Int) (Bs (b :: s)) y = ({ y with f4 := Bs (b :: s) }, true) := by rw [step113, neI]; rfl
        rw [hst] at hT hF
        rw [(neE (b :: s)).2 (by simp)]
        refine next _ _ _ _ (by omega) (by simp; omega) (by simpa [ha] using hok) ?_ hT hF
        obtain ⟨v, rfl⟩ : ∃ v, paths = [v] := List.length_eq_one_iff.1 ha
        exact ⟨hS.h0, hS.h1, hS.h2, hS.h3, rfl, hS.h5⟩
    rw [if_neg c113] at hok
    by_cases c116 : c = 116
    · rw [if_pos c116] at hok
      subst c116
      simp only [Bool.and_eq_true, decide_eq_true_eq] at hok
      obtain ⟨rfl, hok⟩ := hok
      refine Ev.neg (by decide) (Ev.neg (by decide) (Ev.pos (by trivial) ?_))
      cases s with
      | nil =>
        have hst : impl_ShellLine.step ((116 : UInt8).toNat : Int) (Bs []) y = ({ y with f5 := Bs [] }, false) := by rw [step116, neI]; rfl
        rw [hst] at hF
        rw [hF rfl, show ((Bs []).toList != ([] : List UInt8)) = false by rw [Bs_toList]; rfl]
        exact dead _ _ _ (by omega) (by omega)
      | cons b s =>
        have hst : impl_ShellLine.step ((116 : UInt8).toNat : Int) (Bs (b :: s)) y = ({ y with f5 := Bs (b :: s) }, true) := by rw [step116, neI]; rfl
        rw [hst] at hT hF
        rw [(neE (b :: s)).2 (by simp)]
        refine next _ _ _ _ (by omega) (by omega) (by simpa using hok) ?_ hT hF
        exact ⟨hS.h0, hS.h1, hS.h2, hS.h3, hS.h4, rfl⟩
    rw [if_neg c116] at hok
    cases hok
end
end Go.Proofs.YtkjjlkkfhbfbmaaDoor.Q
