/- Paths: the program's and the reference's steps. -/
import Derived.Test.YtkjjlkkfhbfbmaaDoorQBase
import Derived.Test.YtkjjlkkfhbfbmaaDoorQLoops
import Derived.Lib.Strings
import Derived.WideShapes
import Derived.Test.YtkjjlkkfhbfbmaaDoorPfM3
import Derived.Test.YtkjjlkkfhbfbmaaDoorPfM1
import Derived.Test.YtkjjlkkfhbfbmaaDoorPfM0
namespace Go.Proofs.YtkjjlkkfhbfbmaaDoor.Q
open Go.RowKit Go.Proofs.YtkjjlkkfhbfbmaaDoorW.PrintWords Go.Proofs.YtkjjlkkfhbfbmaaDoorW.PrintLast Go.Proofs.YtkjjlkkfhbfbmaaDoorW.PrintMore Go.Proofs.YtkjjlkkfhbfbmaaDoor.P
set_option linter.unusedVariables false
set_option linter.unusedSimpArgs false

def Bs (l : List UInt8) : ByteArray := ⟨l.toArray⟩
theorem Bs_eta (s : ByteArray) : Bs s.data.toList = s := by cases s; simp [Bs]
theorem Bs_size (l : List UInt8) : (Bs l).size = l.length := by simp [Bs, ByteArray.size]
theorem Bs_toList (l : List UInt8) : (Bs l).toList = l := by rw [Lib.toList_data]; simp [Bs]
theorem Bs_data (l : List UInt8) : (Bs l).data.toList = l := by simp [Bs]
theorem Bs_extract (l : List UInt8) (a b : Nat) : (Bs l).extract a b = Bs ((l.drop a).take (b - a)) := by
  have h : ((Bs l).extract a b).data.toList = (Bs ((l.drop a).take (b - a))).data.toList := by
    simp [Bs, ByteArray.data_extract, Array.toList_extract, List.extract_eq_take_drop]
  rw [← Bs_eta ((Bs l).extract a b), h, Bs_data]
theorem Bs_bt (l : List UInt8) {i : Nat} (h : i < l.length) : bt (Bs l) (i : Int) = ((l[i]'h).toNat : Int) := by
  unfold bt
  have h' : (i : Int).toNat < (Bs l).size := by rw [Bs_size, Int.toNat_natCast]; exact h
  rw [dif_pos h']
  rfl
theorem dlen (s : ByteArray) : s.data.toList.length = s.size := by rw [Array.length_toList]; rfl
def okC (b : UInt8) : Bool := decide (97 ≤ b.toNat) && decide (b.toNat ≤ 122)
def nm (l : List UInt8) : Bool := decide (1 ≤ l.length) && (decide (l.length ≤ 3) && l.all okC)
def okStep (l : List UInt8) : Bool := decide (l = [46, 46]) || nm l
def cutL : List UInt8 → List UInt8 → List (List UInt8)
  | cur, [] => [cur]
  | cur, b :: l => if b = 47 then cur :: cutL [] l else cutL (cur ++ [b]) l
theorem cutL_no : ∀ (l cur : List UInt8), (47 : UInt8) ∉ l → cutL cur l = [cur ++ l]
  | [], cur, _ => by simp [cutL]
  | b :: l, cur, h => by
    have hb : b ≠ 47 := fun e => h (by rw [e]; simp)
    rw [cutL, if_neg hb, cutL_no l (cur ++ [b]) (fun hm => h (List.mem_cons_of_mem _ hm))]
    simp
theorem cutL_at : ∀ (a b cur : List UInt8), (47 : UInt8) ∉ a → cutL cur (a ++ 47 :: b) = (cur ++ a) :: cutL [] b
  | [], b, cur, _ => by simp [cutL]
  | x :: a, b, cur, h => by
    have hb : x ≠ 47 := fun e => h (by rw [e]; simp)
    rw [List.cons_append, cutL, if_neg hb, cutL_at a b (cur ++ [x]) (fun hm => h (List.mem_cons_of_mem _ hm))]
    simp
theorem index_at : ∀ (a b : List UInt8), (47 : UInt8) ∉ a → Lib.indexByte (a ++ 47 :: b) 47 = (a.length : Int)
  | [], b, _ => by simp [Lib.indexByte]
  | x :: a, b, h => by
    have hb : ¬ (x == 47) = true := fun e => h (by rw [beq_iff_eq.1 e]; simp)
    have ih := index_at a b (fun hm => h (List.mem_cons_of_mem _ hm))
    rw [List.cons_append, Lib.indexByte, if_neg hb, ih, if_neg (by rw [beq_iff_eq]; omega)]
    simp
theorem gen_l (sep : ByteArray) (h1 : sep.size = 1) (h47 : sep.data.getD 0 0 = 47) (c : Nat) (hc : c ≤ 2000000) : ∀ (m : Nat) (l : List UInt8) (done : List ByteArray), l.count 47 = m → done.length + m = c → l.length ≤ 1048576 →
    Ev (fun k => strings_genSplit.l0 k (Bs l) sep 0 (c : Int) (done ++ List.replicate (m + 1) (⟨#[]⟩ : ByteArray)) (done.length : Int)) (done ++ (cutL [] l).map Bs) := by
  intro m
  induction m with
  | zero =>
    intro l done hl hd hn
    have hno : (47 : UInt8) ∉ l := List.count_eq_zero.1 hl
    have hw : wrap64 ((done.length : Int) + 1) = ((done.length + 1 : Nat) : Int) := by rw [wrap_id (by omega) (by omega)]; omega
    have hlen : (done ++ List.replicate (0 + 1) (⟨#[]⟩ : ByteArray)).length = done.length + 1 := by simp
    refine Ev.step (fun k => by simp only [strings_genSplit.l0]; rfl) ?_
    refine Ev.neg (by omega) (Ev.pos (by omega) (Ev.pos (by omega) ?_))
    rw [hw]
    refine Ev.pos (by omega) (Ev.pos (by omega) (Ev.pure ?_))
    rw [Int.toNat_natCast, Int.toNat_natCast, cutL_no l [] hno, List.replicate_succ, lset_prefix]
    simp
    exact List.take_of_length_le (by simp)
  | succ m ih =>
    intro l done hl hd hn
    have hmem : (47 : UInt8) ∈ l := List.count_pos_iff.1 (by omega)
    obtain ⟨a, b, rfl, ha⟩ := List.eq_append_cons_of_mem hmem
    have hb : b.count 47 = m := by
      rw [List.count_append, List.count_cons_self, List.count_eq_zero.2 ha] at hl
      omega
    rw [List.length_append, List.length_cons] at hn
    have hw : wrap64 ((done.length : Int) + 1) = ((done.length + 1 : Nat) : Int) := by rw [wrap_id (by omega) (by omega)]; omega
    have hlen : (done ++ List.replicate (m + 1 + 1) (⟨#[]⟩ : ByteArray)).length = done.length + (m + 2) := by simp
    have hsz : ((Bs (a ++ 47 :: b)).size : Int) = (a.length : Int) + ((b.length : Int) + 1) := by rw [Bs_size, List.length_append, List.length_cons]; omega
    have hi : strings_Index.f (Bs (a ++ 47 :: b)) sep = some (a.length : Int) := by
      unfold strings_Index.f
      rw [if_pos h1, Bs_data, h47]
      exact congrArg some (index_at a b ha)
    have w1 : Aside0 (wrap64 ((a.length : Int) + 0) = (a.length : Int)) := ⟨by rw [Int.add_zero, wrap_id (by omega) (by omega)]⟩
    have w2 : Aside0 (wrap64 ((a.length : Int) + (sep.size : Int)) = ((a.length + 1 : Nat) : Int)) := ⟨by rw [h1, wrap_id (by omega) (by omega)]; omega⟩
    have e1 : (Bs (a ++ 47 :: b)).extract 0 (a.length : Int).toNat = Bs a := by
      rw [Int.toNat_natCast, Bs_extract]
      simp
    have e2 : (Bs (a ++ 47 :: b)).extract ((a.length + 1 : Nat) : Int).toNat (Bs (a ++ 47 :: b)).size = Bs b := by
      rw [Int.toNat_natCast, Bs_extract, Bs_size]
      congr 1
      rw [List.drop_append, List.take_of_length_le (by simp; omega)]
      simp
    have h := ih b (done ++ [Bs a]) hb (by simp; omega) (by omega)
    refine Ev.step (fun k => by simp only [strings_genSplit.l0]; rfl) ?_
    refine Ev.pos (by omega) (Ev.bind (Ev.const hi) (Ev.neg (by omega) ?_))
    rw [w1.out, w2.out, e1, e2, hw]
    refine Ev.pos (by omega) (Ev.pos (by omega) (Ev.pos (by omega) (Ev.pos (by omega) (Ev.pos (by omega) (Ev.pos (by omega) ?_)))))
    rw [Int.toNat_natCast, List.replicate_succ, lset_prefix, cutL_at a b [] ha]
    rw [List.length_append, List.length_singleton, List.append_assoc, List.append_assoc] at h
    exact h
theorem split_ev (sep : ByteArray) (h1 : sep.size = 1) (h47 : sep.data.getD 0 0 = 47) (l : List UInt8) (hn : l.length ≤ 1048576) : Ev (fun k => strings_Split.f k (Bs l) sep) ((cutL [] l).map Bs) := by
  unfold strings_Split.f strings_genSplit.f
  have hcl : l.count 47 ≤ l.length := List.count_le_length
  have hcount : strings_Count.f (Bs l) sep = some (l.count 47 : Int) := by
    unfold strings_Count.f
    rw [if_pos h1, Bs_data, h47]
    rfl
  have hne : ¬ sep.toList = ([] : List UInt8) := fun e => by
    rw [Lib.toList_data] at e
    have e2 : sep.data.toList.length = sep.size := by rw [Array.length_toList]; rfl
    rw [e, h1] at e2
    cases e2
  have h := gen_l sep h1 h47 (l.count 47) (by omega) (l.count 47) l [] rfl (by simp) hn
  refine Ev.bind (Ev.neg (by omega) (Ev.neg hne (Ev.pos (by omega) (Ev.bind (Ev.const hcount) ?_)))) (Ev.now _)
  have hw : wrap64 ((l.count 47 : Int) + 1) = ((l.count 47 + 1 : Nat) : Int) := by rw [wrap_id (by omega) (by omega)]; omega
  have hm : mn ((l.count 47 + 1 : Nat) : Int) (wrap64 (((Bs l).size : Int) + 1)) = ((l.count 47 + 1 : Nat) : Int) := by
    rw [Bs_size, wrap_id (by omega) (by omega)]
    unfold mn
    split <;> omega
  have hw2 : wrap64 (((l.count 47 + 1 : Nat) : Int) - 1) = (l.count 47 : Int) := by rw [wrap_id (by omega) (by omega)]; omega
  rw [hw]
  refine Ev.step (fun k => by simp only [strings_genSplit.j0]; rfl) ?_
  rw [hm, hw2, Int.toNat_natCast]
  exact Ev.pos (by omega) (Ev.pos (by omega) h)
-- names
theorem implIn' (x lo hi : Int) : impl_in.f x lo hi = some (decide (lo ≤ x) && decide (x ≤ hi)) := by
  unfold impl_in.f
  by_cases h : x ≥ lo
  · rw [if_pos h, decide_eq_true (show lo ≤ x from h), Bool.true_and]
  · rw [if_neg h, decide_eq_false (show ¬ lo ≤ x from h), Bool.false_and]
theorem specIn' (x lo hi : Int) : spec_l6In.f x lo hi = some (decide (lo ≤ x) && decide (x ≤ hi)) := by
  unfold spec_l6In.f
  by_cases h : x ≥ lo
  · rw [if_pos h, decide_eq_true (show lo ≤ x from h), Bool.true_and]
  · rw [if_neg h, decide_eq_false (show ¬ lo ≤ x from h), Bool.false_and]
theorem decode_lo (s : ByteArray) (pos : Nat) (h : (s.get! pos).toNat < 128) : Utf8.decode s pos = ((s.get! pos).toNat, 1) := by
  unfold Utf8.decode
  simp only [Nat.add_zero]
  rw [if_pos h]
theorem decode_hi (s : ByteArray) (pos : Nat) (h : ¬ (s.get! pos).toNat < 128) : 128 ≤ (Utf8.decode s pos).1 := by
  unfold Utf8.decode
  simp only [Nat.add_zero]
  rw [if_neg h]
  split
  · split
    · assumption
    · show 128 ≤ Utf8.runeError; decide
  · split
    · split
      · rename_i hc
        simp only [Bool.and_eq_true, decide_eq_true_eq] at hc
        show 128 ≤ _
        omega
      · show 128 ≤ Utf8.runeError; decide
    · split
      · split
        · rename_i hc
          simp only [Bool.and_eq_true, decide_eq_true_eq] at hc
          show 128 ≤ _
          omega
        · show 128 ≤ Utf8.runeError; decide
      · show 128 ≤ Utf8.runeError; decide
theorem Bs_get (l : List UInt8) {i : Nat} (h : i < l.length) : (Bs l).get! i = l[i]'h := by
  show (Bs l).data[i]! = _
  simp [Bs, h]
theorem p_hi (x : Nat) (h : 122 < x) : strings_IndexFunc.p x = true := by
  unfold strings_IndexFunc.p
  rw [if_neg (by omega)]
  exact decide_eq_true (by omega)
theorem idx_ev (full : List UInt8) : ∀ (rest pre : List UInt8) (f : Nat), full = pre ++ rest → rest.length ≤ f → decide (Lib.idxFuncFrom strings_IndexFunc.p true (Bs full) f pre.length < 0) = rest.all okC := by
  intro rest
  induction rest with
  | nil =>
    intro pre f hp hf
    rw [Lib.idxFuncFrom_end _ _ _ _ _ (by rw [Bs_size, hp]; simp)]
    rfl
  | cons b rest ih =>
    intro pre f hp hf
    obtain ⟨f, rfl⟩ : ∃ g, f = g + 1 := ⟨f - 1, by simp at hf; omega⟩
    have hlt : pre.length < full.length := by rw [hp]; simp
    have hb : (Bs full).get! pre.length = b := by
      rw [Bs_get full hlt]
      simp [hp]
    rw [List.all_cons]
    unfold Lib.idxFuncFrom
    rw [if_pos (by rw [Bs_size]; exact hlt)]
    by_cases h128 : b.toNat < 128
    · rw [decode_lo (Bs full) pre.length (by rw [hb]; exact h128), hb]
      by_cases hok : okC b = true
      · rw [hok, Bool.true_and]
        unfold okC at hok
        rw [Bool.and_eq_true, decide_eq_true_eq, decide_eq_true_eq] at hok
        have hp0 : strings_IndexFunc.p b.toNat = false := by
          unfold strings_IndexFunc.p
          rw [if_neg (by omega)]
          exact decide_eq_false (by omega)
        simp only [hp0]
        rw [if_neg (by simp)]
        have := ih (pre ++ [b]) f (by simp [hp]) (by simp at hf; omega)
        simpa using this
      · have hok' : okC b = false := by simpa using hok
        rw [hok', Bool.false_and]
        have hp1 : strings_IndexFunc.p b.toNat = true := by
          unfold okC at hok
          rw [Bool.and_eq_true, decide_eq_true_eq, decide_eq_true_eq] at hok
          unfold strings_IndexFunc.p
          split
          · rfl
          · exact decide_eq_true (by omega)
        simp only [hp1]
        rw [if_pos (by trivial)]
        exact decide_eq_false (by omega)
    · have hd := decode_hi (Bs full) pre.length (by rw [hb]; exact h128)
      have hp1 := p_hi (Utf8.decode (Bs full) pre.length).1 (by omega)
      rw [if_pos hp1]
      have hok' : okC b = false := by
        unfold okC
        rw [decide_eq_false (by omega : ¬ b.toNat ≤ 122), Bool.and_false]
      rw [hok', Bool.false_and]
      exact decide_eq_false (by omega)
theorem nameI (l : List UInt8) : impl_nameOk.f (Bs l) = some (nm l) := by
  unfold impl_nameOk.f nm
  rw [implIn', Bs_size]
  have hi := idx_ev l l [] l.length rfl (Nat.le_refl _)
  have e : Lib.idxFunc strings_IndexFunc.p true (Bs l) = Lib.idxFuncFrom strings_IndexFunc.p true (Bs l) l.length ([] : List UInt8).length := by unfold Lib.idxFunc; rw [Bs_size]; rfl
  rw [← e] at hi
  by_cases h1 : 1 ≤ l.length
  · by_cases h3 : l.length ≤ 3
    · rw [decide_eq_true (by omega : (1 : Int) ≤ (l.length : Int)), decide_eq_true (by omega : (l.length : Int) ≤ 3), decide_eq_true h1, decide_eq_true h3]
      simp only [Option.bind_some, Bool.and_self, Bool.true_and, if_true, strings_IndexFunc.f]
      rw [hi]
    · rw [decide_eq_false (by omega : ¬ (l.length : Int) ≤ 3), decide_eq_false h3]
      simp
  · rw [decide_eq_false (by omega : ¬ (1 : Int) ≤ (l.length : Int)), decide_eq_false h1]
    simp
theorem nameS_l (l : List UInt8) (hn : l.length ≤ 1048576) : ∀ (rest pre : List UInt8), l = pre ++ rest → Ev (fun k => spec_l7Name.l0 k (Bs l) (pre.length : Int)) (decide (1 ≤ l.length) && (decide (l.length ≤ 3) && rest.all okC)) := by
  intro rest
  induction rest with
  | nil =>
    intro pre hp
    refine Ev.step (fun k => by simp only [spec_l7Name.l0]; rfl) ?_
    refine Ev.neg (by rw [Bs_size, hp]; simp) ?_
    rw [Bs_size, specIn']
    refine Ev.pure ?_
    simp only [List.all_nil, Bool.and_true]
    congr 1
    · exact decide_eq_decide.2 (by omega)
    · exact decide_eq_decide.2 (by omega)
  | cons b rest ih =>
    intro pre hp
    have hlt : pre.length < l.length := by rw [hp]; simp
    have hb : bt (Bs l) (pre.length : Int) = (b.toNat : Int) := by
      rw [Bs_bt l hlt]
      simp [hp]
    have hw : wrap64 ((pre.length : Int) + 1) = ((pre ++ [b]).length : Int) := by rw [wrap_id (by omega) (by omega)]; simp
    refine Ev.step (fun k => by simp only [spec_l7Name.l0]; rfl) ?_
    refine Ev.pos (by rw [Bs_size]; omega) (Ev.pos (by omega) ?_)
    rw [hb, hw, List.all_cons]
    by_cases h1 : (b.toNat : Int) < 97
    · refine Ev.pos h1 (Ev.pure ?_)
      have : okC b = false := by unfold okC; rw [decide_eq_false (by omega), Bool.false_and]
      rw [this]; simp
    · refine Ev.neg h1 ?_
      by_cases h2 : (b.toNat : Int) > 122
      · refine Ev.pos h2 (Ev.pure ?_)
        have : okC b = false := by unfold okC; rw [decide_eq_false (by omega : ¬ b.toNat ≤ 122), Bool.and_false]
        rw [this]; simp
      · have : okC b = true := by unfold okC; rw [decide_eq_true (by omega : 97 ≤ b.toNat), decide_eq_true (by omega : b.toNat ≤ 122)]; rfl
        rw [this, Bool.true_and]
        exact Ev.neg h2 (ih (pre ++ [b]) (by simp [hp]))
theorem nameS (l : List UInt8) (hn : l.length ≤ 1048576) : Ev (fun k => spec_l7Name.f k (Bs l)) (nm l) := by
  unfold spec_l7Name.f nm
  exact nameS_l l hn l [] rfl
-- steps
theorem stepI (l : List UInt8) : impl_PathSteps_1.f (Bs l) = some (!okStep l) := by
  unfold impl_PathSteps_1.f okStep
  rw [Bs_toList]
  by_cases h : l = [46, 46]
  · rw [if_pos h, decide_eq_true h]
    rfl
  · rw [if_neg h, decide_eq_false h, nameI]
    rfl
theorem anyI_l (st : List (List UInt8)) (hn : st.length ≤ 1048576) : ∀ (rest pre : List (List UInt8)), st = pre ++ rest → ∃ r : Int, Ev (fun k => slices_IndexFunc_string.l0 k (st.map Bs) (st.length : Int) (pre.length : Int)) r ∧ decide (r ≥ 0) = rest.any fun x => !okStep x := by
  intro rest
  induction rest with
  | nil =>
    intro pre hp
    refine ⟨-1, ?_, rfl⟩
    refine Ev.step (fun k => by simp only [slices_IndexFunc_string.l0]; rfl) ?_
    exact Ev.neg (by rw [hp]; simp) (Ev.now _)
  | cons y rest ih =>
    intro pre hp
    have hlt : pre.length < st.length := by rw [hp]; simp
    have hr : rdOf ByteArray.empty (st.map Bs) (pre.length : Int) = Bs y := by
      unfold rdOf
      rw [Int.toNat_natCast, hp, List.map_append, List.map_cons]
      have := lgetD_prefix (pre.map Bs) (Bs y) ByteArray.empty (rest.map Bs)
      rw [List.length_map] at this
      exact this
    rw [List.any_cons]
    cases hk : okStep y with
    | false =>
      refine ⟨(pre.length : Int), ?_, by simp⟩
      refine Ev.step (fun k => by simp only [slices_IndexFunc_string.l0]; rfl) ?_
      refine Ev.pos (by omega) (Ev.pos (by omega) (Ev.pos (by simp; omega) ?_))
      rw [hr, stepI, hk]
      exact Ev.bind (Ev.now _) (Ev.pos rfl (Ev.now _))
    | true =>
      obtain ⟨r, e, h⟩ := ih (pre ++ [y]) (by simp [hp])
      rw [show ((pre ++ [y]).length : Int) = wrap64 ((pre.length : Int) + 1) by rw [wrap_id (by omega) (by omega)]; simp] at e
      refine ⟨r, ?_, by simpa using h⟩
      refine Ev.step (fun k => by simp only [slices_IndexFunc_string.l0]; rfl) ?_
      refine Ev.pos (by omega) (Ev.pos (by omega) (Ev.pos (by simp; omega) ?_))
      rw [hr, stepI, hk]
      exact Ev.bind (Ev.now _) (Ev.neg (by simp) e)
def topL : List UInt8 → Bool
  | [] => false
  | b :: _ => b == 47
def restL : List UInt8 → List UInt8
  | [] => []
  | b :: l => if b = 47 then l else b :: l
theorem restL_le (l : List UInt8) : (restL l).length ≤ l.length := by
  cases l with
  | nil => simp [restL]
  | cons b l => simp only [restL]; split <;> simp
theorem cutL_len : ∀ (l cur : List UInt8), (cutL cur l).length ≤ l.length + 1
  | [], cur => by simp [cutL]
  | b :: l, cur => by
    unfold cutL
    split
    · have := cutL_len l []
      simp; omega
    · have := cutL_len l (cur ++ [b])
      simp; omega
def pathR (l : List UInt8) : Bool × List ByteArray × Bool :=
  if restL l = [] then (topL l, [], true)
  else if (cutL [] (restL l)).length > 6 ∨ ((cutL [] (restL l)).any fun x => !okStep x) = true then (false, [], false)
  else (topL l, (cutL [] (restL l)).map Bs, true)
theorem cutP (l : List UInt8) : strings_CutPrefix.f (Bs l) (⟨#[47]⟩ : ByteArray) = some (Bs (restL l), topL l) := by
  unfold strings_CutPrefix.f stringslite_CutPrefix.f stringslite_HasPrefix.f
  have h1 : ((⟨#[47]⟩ : ByteArray).size : Int) = 1 := rfl
  rw [h1, Bs_size]
  cases l with
  | nil => simp [restL, topL]
  | cons b l =>
    have e1 : (Bs (b :: l)).extract 0 (1 : Int).toNat = Bs [b] := by rw [Bs_extract]; simp
    have e2 : (Bs (b :: l)).extract (1 : Int).toNat (b :: l).length = Bs l := by rw [Bs_extract]; simp
    have e3 : (⟨#[47]⟩ : ByteArray).toList = [47] := by rw [Lib.toList_data]
    have hlen : ((b :: l).length : Int) ≥ 1 := by simp only [List.length_cons]; omega
    rw [if_pos hlen, if_pos (by decide), if_pos hlen, e1, Bs_toList, e3]
    by_cases hb : b = 47
    · subst hb
      have ht : (some (([(47 : UInt8)] : List UInt8) == [47])) = some true := rfl
      rw [ht, Option.bind_some, if_pos rfl, if_pos (by decide), if_pos hlen, e2, Option.bind_some]
      simp [restL, topL]
    · have ht : (some (([b] : List UInt8) == [47])) = some false := by simp [hb]
      rw [ht, Option.bind_some, if_neg (by simp), Option.bind_some]
      simp [restL, topL, hb]
theorem pathI (l : List UInt8) (hn : l.length ≤ 1048576) : Ev (fun k => impl_PathSteps.f k (Bs l)) (pathR l) := by
  unfold impl_PathSteps.f pathR
  have hr := restL_le l
  have hcl := cutL_len (restL l) []
  refine Ev.bind (Ev.const (cutP l)) ?_
  simp only [Bs_toList]
  by_cases h : restL l = []
  · rw [if_pos h]
    exact Ev.pos h (Ev.now _)
  · rw [if_neg h]
    refine Ev.neg h (Ev.bind (split_ev _ rfl rfl (restL l) (by omega)) ?_)
    rw [List.length_map]
    by_cases h6 : (cutL [] (restL l)).length > 6
    · rw [if_pos (show (cutL [] (restL l)).length > 6 ∨ ((cutL [] (restL l)).any fun x => !okStep x) = true from .inl h6)]
      exact Ev.pos (by omega) (Ev.now _)
    · refine Ev.neg (by omega) ?_
      obtain ⟨r, e, hd⟩ := anyI_l (cutL [] (restL l)) (by omega) (cutL [] (restL l)) [] rfl
      have ec : Ev (fun k => slices_ContainsFunc_string.f k ((cutL [] (restL l)).map Bs)) ((cutL [] (restL l)).any fun x => !okStep x) := by
        unfold slices_ContainsFunc_string.f slices_IndexFunc_string.f
        rw [List.length_map]
        exact Ev.bind e (Ev.pure hd)
      refine Ev.bind ec ?_
      by_cases ha : ((cutL [] (restL l)).any fun x => !okStep x) = true
      · rw [if_pos (show (cutL [] (restL l)).length > 6 ∨ ((cutL [] (restL l)).any fun x => !okStep x) = true from .inr ha)]
        exact Ev.pos ha (Ev.now _)
      · rw [if_neg (show ¬ ((cutL [] (restL l)).length > 6 ∨ ((cutL [] (restL l)).any fun x => !okStep x) = true) from fun q => q.elim h6 ha)]
        exact Ev.neg ha (Ev.now _)
-- the reference
def specR (top : Bool) : List ByteArray → List (List UInt8) → Bool × List ByteArray × Bool
  | out, [] => (top, out, true)
  | out, p :: ps => if okStep p = true ∧ out.length < 6 then specR top (out ++ [Bs p]) ps else (false, [], false)
theorem specR_eq (top : Bool) : ∀ (ps : List (List UInt8)) (out : List ByteArray), out.length ≤ 6 → specR top out ps = if out.length + ps.length > 6 ∨ (ps.any fun x => !okStep x) = true then (false, [], false) else (top, out ++ ps.map Bs, true)
  | [], out, h => by rw [specR, if_neg (by simp; omega)]; simp
  | p :: ps, out, h => by
    rw [specR]
    by_cases hk : okStep p = true
    · by_cases h6 : out.length < 6
      · rw [if_pos ⟨hk, h6⟩, specR_eq top ps _ (by simp; omega)]
        simp only [List.length_append, List.length_singleton, List.length_cons, List.length_nil, Nat.zero_add, List.any_cons, hk, Bool.not_true, Bool.false_or, List.map_cons, List.append_assoc, List.singleton_append]
        rw [show out.length + 1 + ps.length = out.length + (ps.length + 1) by omega]
      · rw [if_neg (fun q => h6 q.2), if_pos (.inl (by simp; omega))]
    · rw [if_neg (fun q => hk q.1), if_pos (.inr (by simp [hk]))]
theorem spec_step (full : List UInt8) (hn : full.length ≤ 1048576) (top : Bool) (pre cur rest : List UInt8) (hp : full = pre ++ cur ++ rest) (out : List ByteArray) {r : Bool × List ByteArray × Bool}
    (h0 : ¬ (okStep cur = true ∧ out.length < 6) → r = (false, [], false))
    (h1 : okStep cur = true ∧ out.length < 6 → Ev (fun k => spec_PathSteps.l0 k (Bs full) (out ++ [Bs cur]) top (wrap64 (((pre.length + cur.length : Nat) : Int) + 1)) (wrap64 (((pre.length + cur.length : Nat) : Int) + 1))) r) :
    Ev (fun k => spec_PathSteps.j4 k (Bs full) out top (pre.length : Int) ((pre.length + cur.length : Nat) : Int) false) r := by
  have hl : full.length = pre.length + cur.length + rest.length := by rw [hp]; simp; omega
  have e : (Bs full).extract (pre.length : Int).toNat ((pre.length + cur.length : Nat) : Int).toNat = Bs cur := by
    rw [Int.toNat_natCast, Int.toNat_natCast, Bs_extract, hp]
    congr 1
    rw [List.append_assoc, List.drop_left, show pre.length + cur.length - pre.length = cur.length by omega, List.take_left]
  refine Ev.step (fun k => by simp only [spec_PathSteps.j4]; rfl) ?_
  refine Ev.neg (by simp) (Ev.pos (by omega) (Ev.pos (by omega) (Ev.pos (by rw [Bs_size]; omega) ?_)))
  rw [e, Bs_toList]
  have tail : okStep cur = true → Ev (fun k => if (out.length : Int) ≥ 6 then some (false, ([] : List ByteArray), false) else if out.length < 8796093022208 then spec_PathSteps.l0 k (Bs full) (out ++ [Bs cur]) top (wrap64 (((pre.length + cur.length : Nat) : Int) + 1)) (wrap64 (((pre.length + cur.length : Nat) : Int) + 1)) else none) r := by
    intro hk
    by_cases h6 : out.length < 6
    · exact Ev.neg (by omega) (Ev.pos (by omega) (h1 ⟨hk, h6⟩))
    · exact Ev.pos (by omega) (Ev.pure (h0 (fun q => h6 q.2)).symm)
  by_cases hd : cur = [46, 46]
  · refine Ev.pos hd (tail ?_)
    unfold okStep
    rw [decide_eq_true hd]; rfl
  · refine Ev.neg hd (Ev.bind (nameS cur (by omega)) ?_)
    have hk : okStep cur = nm cur := by unfold okStep; rw [decide_eq_false hd]; rfl
    cases hm : nm cur with
    | true => exact Ev.pos rfl (tail (by rw [hk, hm]))
    | false => exact Ev.neg (by simp) (Ev.pure (h0 (fun q => by rw [hk, hm] at q; cases q.1)).symm)
theorem spec_l (full : List UInt8) (hn : full.length ≤ 1048576) (hne : full ≠ []) (top : Bool) : ∀ (rest pre cur : List UInt8) (out : List ByteArray), full = pre ++ cur ++ rest →
    Ev (fun k => spec_PathSteps.l0 k (Bs full) out top (pre.length : Int) ((pre.length + cur.length : Nat) : Int)) (specR top out (cutL cur rest)) := by
  have hb : ((Bs full).toList != ([] : List UInt8)) = true := by rw [Bs_toList]; simp [hne]
  intro rest
  induction rest with
  | nil =>
    intro pre cur out hp
    have hl : full.length = pre.length + cur.length := by rw [hp]; simp
    refine Ev.step (fun k => by simp only [spec_PathSteps.l0]; rfl) ?_
    refine Ev.pos (by rw [Bs_size]; omega) ?_
    rw [hb]
    refine Ev.step (fun k => by simp only [spec_PathSteps.j3]; rfl) ?_
    refine Ev.pos (by trivial) (Ev.neg (by rw [Bs_size]; omega) ?_)
    refine spec_step full hn top pre cur [] hp out (fun q => by rw [cutL, specR, if_neg q]) (fun q => ?_)
    rw [cutL, specR, if_pos q, specR]
    have hw : wrap64 (((pre.length + cur.length : Nat) : Int) + 1) = ((pre.length + cur.length + 1 : Nat) : Int) := by rw [wrap_id (by omega) (by omega)]; omega
    rw [hw]
    refine Ev.step (fun k => by simp only [spec_PathSteps.l0]; rfl) ?_
    refine Ev.neg (by rw [Bs_size]; omega) ?_
    refine Ev.step (fun k => by simp only [spec_PathSteps.j3]; rfl) ?_
    exact Ev.neg (by simp) (Ev.now _)
  | cons b rest ih =>
    intro pre cur out hp
    have hl : full.length = pre.length + cur.length + (rest.length + 1) := by rw [hp]; simp; omega
    have hlt : pre.length + cur.length < full.length := by omega
    have hw : wrap64 (((pre.length + cur.length : Nat) : Int) + 1) = ((pre.length + cur.length + 1 : Nat) : Int) := by rw [wrap_id (by omega) (by omega)]; omega
    have hbt : bt (Bs full) ((pre.length + cur.length : Nat) : Int) = (b.toNat : Int) := by
      rw [Bs_bt full hlt]
      congr 2
      have : full[pre.length + cur.length]? = some b := by rw [hp]; simp
      rw [List.getElem?_eq_getElem hlt] at this
      exact Option.some.inj this
    refine Ev.step (fun k => by simp only [spec_PathSteps.l0]; rfl) ?_
    refine Ev.pos (by rw [Bs_size]; omega) ?_
    rw [hb]
    refine Ev.step (fun k => by simp only [spec_PathSteps.j3]; rfl) ?_
    refine Ev.pos (by trivial) (Ev.pos (by rw [Bs_size]; omega) (Ev.pos (by omega) ?_))
    rw [hbt]
    by_cases h47 : b = 47
    · subst h47
      rw [show (((47 : UInt8).toNat : Int) != 47) = false from rfl, cutL, if_pos rfl]
      refine spec_step full hn top pre cur (47 :: rest) hp out (fun q => by rw [specR, if_neg q]) (fun q => ?_)
      rw [specR, if_pos q, hw]
      have h := ih (pre ++ cur ++ [47]) [] (out ++ [Bs cur]) (by rw [hp]; simp)
      rw [show (pre ++ cur ++ [(47 : UInt8)]).length = pre.length + cur.length + 1 by simp; omega] at h
      exact h
    · have hne : ((b.toNat : Int) != 47) = true := by
        rw [bne_iff_ne]
        intro e
        apply h47
        apply UInt8.toNat_inj.1
        have : (47 : UInt8).toNat = 47 := rfl
        omega
      rw [hne, cutL, if_neg h47]
      refine Ev.step (fun k => by simp only [spec_PathSteps.j4]; rfl) ?_
      refine Ev.pos (by trivial) ?_
      rw [hw]
      have h := ih pre (cur ++ [b]) out (by rw [hp]; simp)
      rw [show pre.length + (cur ++ [b]).length = pre.length + cur.length + 1 by simp; omega] at h
      exact h
theorem specJ1 (l : List UInt8) (hn : l.length ≤ 1048576) (top : Bool) : Ev (fun k => spec_PathSteps.j1 k (Bs l) [] top) (if l = [] then (top, [], true) else specR top [] (cutL [] l)) := by
  refine Ev.step (fun k => by simp only [spec_PathSteps.j1]; rfl) ?_
  by_cases h : l = []
  · rw [if_pos h]
    subst h
    refine Ev.step (fun k => by simp only [spec_PathSteps.l0]; rfl) ?_
    refine Ev.pos (by omega) ?_
    rw [show ((Bs []).toList != ([] : List UInt8)) = false by rw [Bs_toList]; rfl]
    refine Ev.step (fun k => by simp only [spec_PathSteps.j3]; rfl) ?_
    exact Ev.neg (by simp) (Ev.now _)
  · rw [if_neg h]
    exact spec_l l hn h top l [] [] [] rfl
theorem pathS (l : List UInt8) (hn : l.length ≤ 1048576) : Ev (fun k => spec_PathSteps.f k (Bs l)) (pathR l) := by
  have key : ∀ (top : Bool) (m : List UInt8), (if m = [] then (top, ([] : List ByteArray), true) else specR top [] (cutL [] m)) = (if m = [] then (top, [], true) else if (cutL [] m).length > 6 ∨ ((cutL [] m).any fun x => !okStep x) = true then (false, [], false) else (top, (cutL [] m).map Bs, true)) := by
    intro top m
    rw [specR_eq top _ [] (by simp)]
    simp only [List.length_nil, Nat.zero_add, List.nil_append]
  unfold spec_PathSteps.f pathR
  refine Ev.bind (Ev.now _) ?_
  cases l with
  | nil =>
    refine Ev.neg (by rw [Bs_size]; simp) ?_
    refine Ev.step (fun k => by simp only [spec_PathSteps.j0]; rfl) ?_
    refine Ev.neg (by simp) ?_
    have h := specJ1 [] (by simp) false
    exact h
  | cons b l =>
    have hb : bt (Bs (b :: l)) 0 = (b.toNat : Int) := Bs_bt (b :: l) (i := 0) (by simp)
    refine Ev.pos (by rw [Bs_size]; simp only [List.length_cons]; omega) (Ev.pos (by rw [Bs_size]; simp only [List.length_cons]; omega) ?_)
    rw [hb]
    refine Ev.step (fun k => by simp only [spec_PathSteps.j0]; rfl) ?_
    by_cases h47 : b = 47
    · subst h47
      refine Ev.pos (by decide) (Ev.pos (by rw [Bs_size]; simp only [List.length_cons]; omega) ?_)
      have e : (Bs (47 :: l)).extract 1 (Bs (47 :: l)).size = Bs l := by
        rw [Bs_extract, Bs_size]
        simp
      rw [e]
      have h := specJ1 l (by simp at hn; omega) true
      rw [key] at h
      simp only [restL, topL, if_true]
      exact h
    · have hne : ¬ (((b.toNat : Int) == 47) = true) := by
        rw [beq_iff_eq]
        intro e
        apply h47
        apply UInt8.toNat_inj.1
        have : (47 : UInt8).toNat = 47 := rfl
        omega
      refine Ev.neg hne ?_
      have h := specJ1 (b :: l) hn false
      rw [key] at h
      have h2 : topL (b :: l) = false := by simp [topL, h47]
      have h3 : restL (b :: l) = b :: l := by simp [restL, h47]
      rw [h2, h3]
      exact h
theorem pathI' (s : ByteArray) (hn : s.size ≤ 1048576) : Ev (fun k => impl_PathSteps.f k s) (pathR s.data.toList) := by
  have h := pathI s.data.toList (by rw [dlen]; exact hn)
  rw [Bs_eta] at h
  exact h
theorem pathS' (s : ByteArray) (hn : s.size ≤ 1048576) : Ev (fun k => spec_PathSteps.f k s) (pathR s.data.toList) := by
  have h := pathS s.data.toList (by rw [dlen]; exact hn)
  rw [Bs_eta] at h
  exact h
end Go.Proofs.YtkjjlkkfhbfbmaaDoor.Q
