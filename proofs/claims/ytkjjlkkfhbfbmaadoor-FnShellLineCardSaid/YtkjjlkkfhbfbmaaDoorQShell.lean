/- Lines of the shell: pieces, numbers, words. -/
import Derived.Test.YtkjjlkkfhbfbmaaDoorQBase
import Derived.Test.YtkjjlkkfhbfbmaaDoorQLoops
import Derived.Test.YtkjjlkkfhbfbmaaDoorQPath
import Derived.Lib.AtoiAllCases
import Derived.Lib.ItoaMem
import Derived.Test.YtkjjlkkfhbfbmaaDoorPfM3
import Derived.Test.YtkjjlkkfhbfbmaaDoorPfM0
namespace Go.Proofs.YtkjjlkkfhbfbmaaDoor.Q
open Go.RowKit Go.Proofs.YtkjjlkkfhbfbmaaDoorW.PrintWords Go.Proofs.YtkjjlkkfhbfbmaaDoorW.PrintLast Go.Proofs.YtkjjlkkfhbfbmaaDoorW.PrintMore Go.Proofs.YtkjjlkkfhbfbmaaDoor.P
set_option linter.unusedVariables false
set_option linter.unusedSimpArgs false
-- pieces between spaces
def cutS : List UInt8 → List UInt8 → List (List UInt8)
  | cur, [] => [cur]
  | cur, b :: l => if b = 32 then cur :: cutS [] l else cutS (cur ++ [b]) l
theorem cutS_no : ∀ (l cur : List UInt8), (32 : UInt8) ∉ l → cutS cur l = [cur ++ l]
  | [], cur, _ => by simp [cutS]
  | b :: l, cur, h => by
    have hb : b ≠ 32 := fun e => h (by rw [e]; simp)
    rw [cutS, if_neg hb, cutS_no l (cur ++ [b]) (fun hm => h (List.mem_cons_of_mem _ hm))]
    simp
theorem cutS_at : ∀ (a b cur : List UInt8), (32 : UInt8) ∉ a → cutS cur (a ++ 32 :: b) = (cur ++ a) :: cutS [] b
  | [], b, cur, _ => by simp [cutS]
  | x :: a, b, cur, h => by
    have hb : x ≠ 32 := fun e => h (by rw [e]; simp)
    rw [List.cons_append, cutS, if_neg hb, cutS_at a b (cur ++ [x]) (fun hm => h (List.mem_cons_of_mem _ hm))]
    simp
theorem cutS_ne : ∀ (l cur : List UInt8), cutS cur l ≠ []
  | [], cur => by simp [cutS]
  | b :: l, cur => by
    rw [cutS]
    split
    · simp
    · exact cutS_ne l _
theorem cutS_size : ∀ (l cur : List UInt8), ∀ p ∈ cutS cur l, p.length ≤ cur.length + l.length
  | [], cur, p, h => by
    simp only [cutS, List.mem_singleton] at h
    subst h
    simp
  | b :: l, cur, p, h => by
    rw [cutS] at h
    simp only [List.length_cons]
    split at h
    · rcases List.mem_cons.1 h with rfl | h
      · omega
      · have := cutS_size l [] p h
        simp at this
        omega
    · have := cutS_size l _ p h
      simp at this
      omega
theorem cutS_len : ∀ (l cur : List UInt8), (cutS cur l).length ≤ l.length + 1
  | [], cur => by simp [cutS]
  | b :: l, cur => by
    rw [cutS]
    simp only [List.length_cons]
    split
    · have := cutS_len l []
      simp only [List.length_cons]
      omega
    · have := cutS_len l (cur ++ [b])
      omega
theorem index_at32 : ∀ (a b : List UInt8), (32 : UInt8) ∉ a → Lib.indexByte (a ++ 32 :: b) 32 = (a.length : Int)
  | [], b, _ => by simp [Lib.indexByte]
  | x :: a, b, h => by
    have hb : ¬ (x == 32) = true := fun e => h (by rw [beq_iff_eq.1 e]; simp)
    have ih := index_at32 a b (fun hm => h (List.mem_cons_of_mem _ hm))
    rw [List.cons_append, Lib.indexByte, if_neg hb, ih, if_neg (by rw [beq_iff_eq]; omega)]
    simp
theorem gen_l32 (sep : ByteArray) (h1 : sep.size = 1) (h32 : sep.data.getD 0 0 = 32) (c : Nat) (hc : c ≤ 2000000) : ∀ (m : Nat) (l : List UInt8) (done : List ByteArray), l.count 32 = m → done.length + m = c → l.length ≤ 1048576 →
    Ev (fun k => strings_genSplit.l0 k (Bs l) sep 0 (c : Int) (done ++ List.replicate (m + 1) (⟨#[]⟩ : ByteArray)) (done.length : Int)) (done ++ (cutS [] l).map Bs) := by
  intro m
  induction m with
  | zero =>
    intro l done hl hd hn
    have hno : (32 : UInt8) ∉ l := List.count_eq_zero.1 hl
    have hw : wrap64 ((done.length : Int) + 1) = ((done.length + 1 : Nat) : Int) := by rw [wrap_id (by omega) (by omega)]; omega
    have hlen : (done ++ List.replicate (0 + 1) (⟨#[]⟩ : ByteArray)).length = done.length + 1 := by simp
    refine Ev.step (fun k => by simp only [strings_genSplit.l0]; rfl) ?_
    refine Ev.neg (by omega) (Ev.pos (by omega) (Ev.pos (by omega) ?_))
    rw [hw]
    refine Ev.pos (by omega) (Ev.pos (by omega) (Ev.pure ?_))
    rw [Int.toNat_natCast, Int.toNat_natCast, cutS_no l [] hno, List.replicate_succ, lset_prefix]
    simp
    exact List.take_of_length_le (by simp)
  | succ m ih =>
    intro l done hl hd hn
    have hmem : (32 : UInt8) ∈ l := List.count_pos_iff.1 (by omega)
    obtain ⟨a, b, rfl, ha⟩ := List.eq_append_cons_of_mem hmem
    have hb : b.count 32 = m := by
      rw [List.count_append, List.count_cons_self, List.count_eq_zero.2 ha] at hl
      omega
    rw [List.length_append, List.length_cons] at hn
    have hw : wrap64 ((done.length : Int) + 1) = ((done.length + 1 : Nat) : Int) := by rw [wrap_id (by omega) (by omega)]; omega
    have hlen : (done ++ List.replicate (m + 1 + 1) (⟨#[]⟩ : ByteArray)).length = done.length + (m + 2) := by simp
    have hsz : ((Bs (a ++ 32 :: b)).size : Int) = (a.length : Int) + ((b.length : Int) + 1) := by rw [Bs_size, List.length_append, List.length_cons]; omega
    have hi : strings_Index.f (Bs (a ++ 32 :: b)) sep = some (a.length : Int) := by
      unfold strings_Index.f
      rw [if_pos h1, Bs_data, h32]
      exact congrArg some (index_at32 a b ha)
    have w1 : Aside0 (wrap64 ((a.length : Int) + 0) = (a.length : Int)) := ⟨by rw [Int.add_zero, wrap_id (by omega) (by omega)]⟩
    have w2 : Aside0 (wrap64 ((a.length : Int) + (sep.size : Int)) = ((a.length + 1 : Nat) : Int)) := ⟨by rw [h1, wrap_id (by omega) (by omega)]; omega⟩
    have e1 : (Bs (a ++ 32 :: b)).extract 0 (a.length : Int).toNat = Bs a := by
      rw [Int.toNat_natCast, Bs_extract]
      simp
    have e2 : (Bs (a ++ 32 :: b)).extract ((a.length + 1 : Nat) : Int).toNat (Bs (a ++ 32 :: b)).size = Bs b := by
      rw [Int.toNat_natCast, Bs_extract, Bs_size]
      congr 1
      rw [List.drop_append, List.take_of_length_le (by simp; omega)]
      simp
    have h := ih b (done ++ [Bs a]) hb (by simp; omega) (by omega)
    refine Ev.step (fun k => by simp only [strings_genSplit.l0]; rfl) ?_
    refine Ev.pos (by omega) (Ev.bind (Ev.const hi) (Ev.neg (by omega) ?_))
    rw [w1.out, w2.out, e1, e2, hw]
    refine Ev.pos (by omega) (Ev.pos (by omega) (Ev.pos (by omega) (Ev.pos (by omega) (Ev.pos (by omega) (Ev.pos (by omega) ?_)))))
    rw [Int.toNat_natCast, List.replicate_succ, lset_prefix, cutS_at a b [] ha]
    rw [List.length_append, List.length_singleton, List.append_assoc, List.append_assoc] at h
    exact h
theorem splitI (sep : ByteArray) (h1 : sep.size = 1) (h32 : sep.data.getD 0 0 = 32) (l : List UInt8) (hn : l.length ≤ 1048576) : Ev (fun k => strings_Split.f k (Bs l) sep) ((cutS [] l).map Bs) := by
  unfold strings_Split.f strings_genSplit.f
  have hcl : l.count 32 ≤ l.length := List.count_le_length
  have hcount : strings_Count.f (Bs l) sep = some (l.count 32 : Int) := by
    unfold strings_Count.f
    rw [if_pos h1, Bs_data, h32]
    rfl
  have hne : ¬ sep.toList = ([] : List UInt8) := fun e => by
    rw [Lib.toList_data] at e
    have e2 : sep.data.toList.length = sep.size := by rw [Array.length_toList]; rfl
    rw [e, h1] at e2
    cases e2
  have h := gen_l32 sep h1 h32 (l.count 32) (by omega) (l.count 32) l [] rfl (by simp) hn
  refine Ev.bind (Ev.neg (by omega) (Ev.neg hne (Ev.pos (by omega) (Ev.bind (Ev.const hcount) ?_)))) (Ev.now _)
  have hw : wrap64 ((l.count 32 : Int) + 1) = ((l.count 32 + 1 : Nat) : Int) := by rw [wrap_id (by omega) (by omega)]; omega
  have hm : mn ((l.count 32 + 1 : Nat) : Int) (wrap64 (((Bs l).size : Int) + 1)) = ((l.count 32 + 1 : Nat) : Int) := by
    rw [Bs_size, wrap_id (by omega) (by omega)]
    unfold mn
    split <;> omega
  have hw2 : wrap64 (((l.count 32 + 1 : Nat) : Int) - 1) = (l.count 32 : Int) := by rw [wrap_id (by omega) (by omega)]; omega
  rw [hw]
  refine Ev.step (fun k => by simp only [strings_genSplit.j0]; rfl) ?_
  rw [hm, hw2, Int.toNat_natCast]
  exact Ev.pos (by omega) (Ev.pos (by omega) h)
theorem nat_ne_of_byte {b : UInt8} {n : Nat} (hn : n < 256) (h : b ≠ UInt8.ofNat n) : (b.toNat : Int) ≠ (n : Int) := fun e => h (by
  apply UInt8.toNat_inj.1
  rw [UInt8.toNat_ofNat']
  omega)
theorem cutSpec_l (full : List UInt8) (hn : full.length ≤ 1048576) : ∀ (rest pre cur : List UInt8) (out : List ByteArray), full = pre ++ cur ++ rest → out.length + rest.length ≤ 1048577 →
    Ev (fun k => spec_l18Cut.l0 k (Bs full) 32 out (pre.length : Int) ((pre.length + cur.length : Nat) : Int)) (out ++ (cutS cur rest).map Bs) := by
  intro rest
  induction rest with
  | nil =>
    intro pre cur out hp ho
    have hl : full.length = pre.length + cur.length := by rw [hp]; simp
    have e : (Bs full).extract (pre.length : Int).toNat (Bs full).size = Bs cur := by
      rw [Int.toNat_natCast, Bs_extract, Bs_size, hp]
      congr 1
      simp
    refine Ev.step (fun k => by simp only [spec_l18Cut.l0]; rfl) ?_
    refine Ev.neg (by rw [Bs_size]; omega) (Ev.pos (by omega) (Ev.pos (by rw [Bs_size]; omega) (Ev.pos (by simp at ho; omega) (Ev.pure ?_))))
    rw [e]
    rfl
  | cons b rest ih =>
    intro pre cur out hp ho
    simp only [List.length_cons] at ho
    have hl : full.length = pre.length + cur.length + (rest.length + 1) := by rw [hp]; simp; omega
    have hlt : pre.length + cur.length < full.length := by omega
    have hw : wrap64 (((pre.length + cur.length : Nat) : Int) + 1) = ((pre.length + cur.length + 1 : Nat) : Int) := by rw [wrap_id (by omega) (by omega)]; omega
    have hbt : bt (Bs full) ((pre.length + cur.length : Nat) : Int) = (b.toNat : Int) := by
      rw [Bs_bt full hlt]
      congr 2
      have : full[pre.length + cur.length]? = some b := by rw [hp]; simp
      rw [List.getElem?_eq_getElem hlt] at this
      exact Option.some.inj this
    refine Ev.step (fun k => by simp only [spec_l18Cut.l0]; rfl) ?_
    refine Ev.pos (by rw [Bs_size]; omega) (Ev.pos (by omega) ?_)
    rw [hbt, hw]
    by_cases h32 : b = 32
    · subst h32
      have e : (Bs full).extract (pre.length : Int).toNat ((pre.length + cur.length : Nat) : Int).toNat = Bs cur := by
        rw [Int.toNat_natCast, Int.toNat_natCast, Bs_extract, hp]
        congr 1
        rw [List.append_assoc, List.drop_left, show pre.length + cur.length - pre.length = cur.length by omega, List.take_left]
      refine Ev.pos (by decide) (Ev.pos (by omega) (Ev.pos (by omega) (Ev.pos (by rw [Bs_size]; omega) (Ev.pos (by omega) ?_))))
      rw [e, cutS, if_pos rfl]
      have h := ih (pre ++ cur ++ [32]) [] (out ++ [Bs cur]) (by rw [hp]; simp) (by simp; omega)
      rw [show (pre ++ cur ++ [(32 : UInt8)]).length = pre.length + cur.length + 1 by simp; omega] at h
      simp only [List.length_nil, Nat.add_zero, List.append_assoc, List.singleton_append] at h
      exact h
    · refine Ev.neg (fun e => nat_ne_of_byte (n := 32) (by decide) h32 e) ?_
      rw [cutS, if_neg h32]
      have h := ih pre (cur ++ [b]) out (by rw [hp]; simp) (by omega)
      rw [show pre.length + (cur ++ [b]).length = pre.length + cur.length + 1 by simp; omega] at h
      exact h
theorem cutSpec (l : List UInt8) (hn : l.length ≤ 1048576) : Ev (fun k => spec_l18Cut.f k (Bs l) 32) ((cutS [] l).map Bs) := by
  have h := cutSpec_l l hn l [] [] [] rfl (by simp; omega)
  exact h
-- numbers
theorem dec_small (u : Nat) (h : u < 10) : Lib.decDigits u = [UInt8.ofNat (48 + u)] := Lib.decDigits_one h
theorem dec_big (u : Nat) (h : ¬ u < 10) : Lib.decDigits u = Lib.decDigits (u / 10) ++ [UInt8.ofNat (48 + u % 10)] := by rw [Lib.decDigits, dif_neg h]
theorem dec_len (u : Nat) : 1 ≤ (Lib.decDigits u).length ∧ (Lib.decDigits u).length ≤ u + 1 := by
  induction u using Nat.strongRecOn with
  | ind u ih =>
    by_cases h : u < 10
    · rw [dec_small u h]
      simp
    · rw [dec_big u h]
      have := ih (u / 10) (by omega)
      simp
      omega
theorem dec_digit (u : Nat) : ∀ c ∈ Lib.decDigits u, 48 ≤ c.toNat ∧ c.toNat ≤ 57 := by
  induction u using Nat.strongRecOn with
  | ind u ih =>
    have hd : ∀ n, n < 10 → 48 ≤ (UInt8.ofNat (48 + n)).toNat ∧ (UInt8.ofNat (48 + n)).toNat ≤ 57 := by
      intro n hn
      rw [UInt8.toNat_ofNat']
      omega
    intro c hc
    by_cases h : u < 10
    · rw [dec_small u h, List.mem_singleton] at hc
      subst hc
      exact hd u h
    · rw [dec_big u h] at hc
      rcases List.mem_append.1 hc with hc | hc
      · exact ih (u / 10) (by omega) c hc
      · rw [List.mem_singleton] at hc
        subst hc
        exact hd _ (Nat.mod_lt _ (by decide))
theorem str_one (n : Nat) (h : n < 256) : strOfNums [(n : Int)] = Bs [UInt8.ofNat n] := by
  simp [strOfNums, Bs]
theorem l6Dec_ev (u : Nat) : u ≤ 1000000 → Ev (fun k => spec_l6Dec.f k (u : Int)) (Bs (Lib.decDigits u)) := by
  induction u using Nat.strongRecOn with
  | ind u ih =>
    intro hu
    refine Ev.step (fun k => by simp only [spec_l6Dec.f]; rfl) ?_
    refine Ev.neg (by omega) (Ev.neg (by omega) ?_)
    have hd : ∀ n : Nat, n < 10 → wrap64 (48 + (n : Int)) % 256 = ((48 + n : Nat) : Int) := by
      intro n hn
      rw [wrap_id (by omega) (by omega)]
      omega
    by_cases h : u < 10
    · refine Ev.pos (by omega) (Ev.pure ?_)
      rw [hd u h, str_one _ (by omega), dec_small u h]
    · refine Ev.neg (by omega) ?_
      have e1 : wrap64 (Int.tdiv (u : Int) 10) = ((u / 10 : Nat) : Int) := by
        rw [show Int.tdiv (u : Int) 10 = ((u / 10 : Nat) : Int) from by rw [Int.tdiv_eq_ediv_of_nonneg (by omega)]; omega, wrap_id (by omega) (by omega)]
      have e2 : wrap64 (48 + Int.tmod (u : Int) 10) % 256 = ((48 + u % 10 : Nat) : Int) := by
        rw [show Int.tmod (u : Int) 10 = ((u % 10 : Nat) : Int) from by rw [Int.tmod_eq_emod_of_nonneg (by omega)]; omega]
        exact hd _ (Nat.mod_lt _ (by decide))
      rw [e1, e2]
      have hl := dec_len (u / 10)
      refine Ev.bind (ih (u / 10) (by omega) (by omega)) (Ev.bind (Ev.now _) (Ev.pos (by rw [str_one _ (by omega)]; simp only [Bs_size, List.length_singleton]; omega) (Ev.pure ?_)))
      rw [dec_big u h]
      have e : ∀ a b : List UInt8, Bs a ++ Bs b = Bs (a ++ b) := by
        intro a b
        rw [← Bs_eta (Bs a ++ Bs b)]
        congr 1
      rw [str_one _ (by omega)]
      exact e _ _
def numS : Nat → List UInt8 → Option Nat
  | acc, [] => some acc
  | acc, c :: r => if 48 ≤ c.toNat ∧ c.toNat ≤ 57 then (if 10 * acc + (c.toNat - 48) > 99999 then none else numS (10 * acc + (c.toNat - 48)) r) else none
theorem numS_le : ∀ (l : List UInt8) (acc n : Nat), acc ≤ 99999 → numS acc l = some n → n ≤ 99999 ∧ Lib.parseUint10 acc l = .ok n
  | [], acc, n, ha, h => by
    simp only [numS, Option.some.injEq] at h
    subst h
    exact ⟨ha, rfl⟩
  | c :: r, acc, n, ha, h => by
    simp only [numS] at h
    split at h
    · rename_i hc
      split at h
      · cases h
      · rename_i h9
        obtain ⟨g1, g2⟩ := numS_le r _ n (by omega) h
        refine ⟨g1, ?_⟩
        simp only [Lib.parseUint10]
        rw [if_pos hc, if_neg (by omega), if_neg (by omega), show acc * 10 + (c.toNat - 48) = 10 * acc + (c.toNat - 48) by omega]
        exact g2
    · cases h
theorem parse_mono : ∀ (l : List UInt8) (acc u : Nat), Lib.parseUint10 acc l = .ok u → acc ≤ u
  | [], acc, u, h => by
    simp only [Lib.parseUint10] at h
    injection h with h
    omega
  | c :: r, acc, u, h => by
    simp only [Lib.parseUint10] at h
    split at h
    · split at h
      · cases h
      · split at h
        · cases h
        · have := parse_mono r _ u h
          omega
    · cases h
theorem numS_of : ∀ (l : List UInt8) (acc u : Nat), u ≤ 99999 → Lib.parseUint10 acc l = .ok u → numS acc l = some u
  | [], acc, u, hu, h => by
    simp only [Lib.parseUint10] at h
    injection h with h
    rw [numS, h]
  | c :: r, acc, u, hu, h => by
    simp only [Lib.parseUint10] at h
    split at h
    · rename_i hc
      split at h
      · cases h
      · split at h
        · cases h
        · have h2 := parse_mono r _ u h
          rw [numS, if_pos hc, if_neg (by omega), show 10 * acc + (c.toNat - 48) = acc * 10 + (c.toNat - 48) by omega]
          exact numS_of r _ u hu h
    · cases h
def numR (l : List UInt8) : Int × Bool := match numS 0 l with | some n => ((n : Int), decide (l = Lib.decDigits n)) | none => (0, false)
theorem numSpec_l (full : List UInt8) (hn : full.length ≤ 1048576) : ∀ (rest pre : List UInt8) (acc : Nat), full = pre ++ rest → acc ≤ 99999 →
    Ev (fun k => spec_l18Num.l0 k (Bs full) (acc : Int) (pre.length : Int)) (match numS acc rest with | some n => ((n : Int), decide (full = Lib.decDigits n)) | none => (0, false)) := by
  intro rest
  induction rest with
  | nil =>
    intro pre acc hp ha
    refine Ev.step (fun k => by simp only [spec_l18Num.l0]; rfl) ?_
    refine Ev.neg (by rw [Bs_size, hp]; simp) (Ev.bind (l6Dec_ev acc (by omega)) (Ev.pure ?_))
    rw [Bs_toList, Bs_toList]
    simp only [numS]
    congr 1
    rw [Bool.eq_iff_iff, beq_iff_eq, decide_eq_true_iff]
  | cons b rest ih =>
    intro pre acc hp ha
    have hl : full.length = pre.length + (rest.length + 1) := by rw [hp]; simp
    have hlt : pre.length < full.length := by omega
    have hbt : bt (Bs full) (pre.length : Int) = (b.toNat : Int) := by
      rw [Bs_bt full hlt]
      congr 2
      have : full[pre.length]? = some b := by rw [hp]; simp
      rw [List.getElem?_eq_getElem hlt] at this
      exact Option.some.inj this
    have hw : wrap64 ((pre.length : Int) + 1) = ((pre.length + 1 : Nat) : Int) := by rw [wrap_id (by omega) (by omega)]; omega
    have h256 : b.toNat < 256 := b.toNat_lt
    refine Ev.step (fun k => by simp only [spec_l18Num.l0]; rfl) ?_
    refine Ev.pos (by rw [Bs_size]; omega) (Ev.pos (by omega) ?_)
    rw [hbt]
    rw [numS]
    by_cases h48 : (b.toNat : Int) < 48
    · refine Ev.pos h48 ?_
      rw [if_neg (by omega)]
      refine Ev.step (fun k => by simp only [spec_l18Num.j1]; rfl) ?_
      exact Ev.pos (by trivial) (Ev.now _)
    refine Ev.neg h48 ?_
    refine Ev.step (fun k => by simp only [spec_l18Num.j1]; rfl) ?_
    by_cases h57 : (b.toNat : Int) > 57
    · rw [if_neg (by omega)]
      exact Ev.pos (decide_eq_true h57) (Ev.now _)
    refine Ev.neg (by simpa using h57) (Ev.pos (by omega) (Ev.pos (by rw [Bs_size]; omega) ?_))
    rw [hbt, hw, if_pos (by omega)]
    have e : wrap64 (wrap64 (10 * (acc : Int)) + ((b.toNat : Int) - 48) % 256) = ((10 * acc + (b.toNat - 48) : Nat) : Int) := by
      rw [wrap_id (n := 10 * (acc : Int)) (by omega) (by omega), wrap_id (by omega) (by omega)]
      omega
    rw [e]
    by_cases h9 : 10 * acc + (b.toNat - 48) > 99999
    · rw [if_pos h9]
      exact Ev.pos (by omega) (Ev.now _)
    · rw [if_neg h9]
      refine Ev.neg (by omega) ?_
      have h := ih (pre ++ [b]) _ (by rw [hp]; simp) (by omega : 10 * acc + (b.toNat - 48) ≤ 99999)
      rw [show (pre ++ [b]).length = pre.length + 1 by simp] at h
      exact h
theorem numSpec (l : List UInt8) (hn : l.length ≤ 1048576) : Ev (fun k => spec_l18Num.f k (Bs l)) (numR l) := numSpec_l l hn l [] 0 rfl (by decide)
/-- The program's number is the reference's. -/
theorem numImpl (l : List UInt8) : (impl_number.f (Bs l)).2 = (numR l).2 ∧ ((numR l).2 = true → impl_number.f (Bs l) = numR l) := by
  have key : (numR l).2 = true → impl_number.f (Bs l) = numR l := by
    intro h
    unfold numR at h ⊢
    cases hs : numS 0 l with
    | none => rw [hs] at h; cases h
    | some n =>
      rw [hs] at h
      simp only [decide_eq_true_eq] at h
      obtain ⟨h9, hp⟩ := numS_le l 0 n (by decide) hs
      have hl := dec_len n
      cases l with
      | nil => rw [← h] at hl; simp at hl
      | cons c r =>
        have hc := dec_digit n c (by rw [← h]; simp)
        have ha : Lib.atoiAll (c :: r) = .ok (n : Int) := by
          rw [Lib.atoiAll_plain c r (by omega) (by omega)]
          unfold Lib.parseMag
          rw [if_neg (by simp), hp]
          simp [Lib.signless]
          omega
        unfold impl_number.f
        rw [Bs_data, ha]
        simp only
        rw [if_pos (by omega), if_pos (by omega), Lib.itoa_nonneg, Bs_toList]
        simp only [Prod.mk.injEq, true_and]
        rw [Bool.eq_iff_iff, beq_iff_eq, decide_eq_true_iff]
        exact ⟨fun e => e.symm, fun e => e.symm⟩
  refine ⟨?_, key⟩
  cases hb : (numR l).2 with
  | true => rw [key hb, hb]
  | false =>
    cases hi : (impl_number.f (Bs l)).2 with
    | false => rfl
    | true =>
      exfalso
      unfold impl_number.f at hi
      rw [Bs_data] at hi
      split at hi
      · rename_i v hv
        simp only at hi
        split at hi
        · rename_i h0
          split at hi
          · rename_i h9
            rw [Bs_toList, beq_iff_eq] at hi
            obtain ⟨u, rfl⟩ : ∃ u : Nat, v = (u : Int) := ⟨v.toNat, by omega⟩
            rw [Lib.itoa_nonneg] at hi
            have hl := dec_len u
            cases l with
            | nil => rw [hi] at hl; simp at hl
            | cons c r =>
              have hc := dec_digit u c (by rw [hi]; simp)
              rw [Lib.atoiAll_plain c r (by omega) (by omega)] at hv
              unfold Lib.parseMag at hv
              rw [if_neg (by simp)] at hv
              cases hq : Lib.parseUint10 0 (c :: r) with
              | range => rw [hq] at hv; simp [Lib.signless] at hv
              | ok q =>
                rw [hq] at hv
                have e : q = u := by
                  simp only [Lib.signless] at hv
                  split at hv
                  · cases hv
                  · injection hv with hv
                    omega
                subst e
                have h2 := numS_of (c :: r) 0 q (by omega) hq
                unfold numR at hb
                rw [h2] at hb
                simp only [decide_eq_false_iff_not] at hb
                exact hb hi.symm
              | _ => rw [hq] at hv; simp [Lib.signless] at hv
          · cases hi
        · cases hi
      · cases hi
      · cases hi
end Go.Proofs.YtkjjlkkfhbfbmaaDoor.Q
