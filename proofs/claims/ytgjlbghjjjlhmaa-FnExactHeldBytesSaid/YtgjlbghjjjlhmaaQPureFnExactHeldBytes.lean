/- Areas without Go and memory: all that the laws over settings use, in one text. -/
import Derived.Test.YtgjlbghjjjlhmaaQLoops
import Derived.Test.YtgjlbghjjjlhmaaPf0
import Derived.Test.YtgjlbghjjjlhmaaPflawseqIntS
import Derived.Test.YtgjlbghjjjlhmaaPflawsheldIntS
import Derived.Test.YtgjlbghjjjlhmaaPflawsmarkIntS
import Derived.Test.YtgjlbghjjjlhmaaQSFnExactHeldBytes
import Derived.Test.YtgjlbghjjjlhmaaPf0
import Derived.Test.YtgjlbghjjjlhmaaPfimplHeldBytes
import Derived.Test.YtgjlbghjjjlhmaaPfimplHeldMay
import Derived.Test.YtgjlbghjjjlhmaaPfimplHeldOk
import Derived.Test.YtgjlbghjjjlhmaaPfimplHeldclashes
import Derived.Test.YtgjlbghjjjlhmaaPfimplHeldround
import Derived.Test.YtgjlbghjjjlhmaaPfimplHoldclash
import Derived.Test.YtgjlbghjjjlhmaaPfimplHoldok
import Derived.Test.YtgjlbghjjjlhmaaPfimplin
import Derived.Test.YtgjlbghjjjlhmaaPflawsFnExactHeldBytes
import Derived.Test.YtgjlbghjjjlhmaaPflawseqHeld
import Derived.Test.YtgjlbghjjjlhmaaPflawseqHold
import Derived.Test.YtgjlbghjjjlhmaaPflawseqHoldS
import Derived.Test.YtgjlbghjjjlhmaaPflawseqIntS
import Derived.Test.YtgjlbghjjjlhmaaPflawseqIntSS
import Derived.Test.YtgjlbghjjjlhmaaPflawsheldIntS
import Derived.Test.YtgjlbghjjjlhmaaPflawsheldIntSS
import Derived.Test.YtgjlbghjjjlhmaaPflawsmarkHeld
import Derived.Test.YtgjlbghjjjlhmaaPflawsmarkHoldS
import Derived.Test.YtgjlbghjjjlhmaaPflawsmarkIntS
import Derived.Test.YtgjlbghjjjlhmaaPflawsmarkIntSS
import Derived.Test.YtgjlbghjjjlhmaaPflawsszHeld
import Derived.Test.YtgjlbghjjjlhmaaPflawsszHoldS
import Derived.Test.YtgjlbghjjjlhmaaPflawstoHeld
import Derived.Test.YtgjlbghjjjlhmaaPflawstoHold
import Derived.Test.YtgjlbghjjjlhmaaPflawstoHoldS
import Derived.Test.YtgjlbghjjjlhmaaPfslicesContainsint
import Derived.Test.YtgjlbghjjjlhmaaPfslicesIndexint
import Derived.Test.YtgjlbghjjjlhmaaPfslicesSortint
import Derived.Test.YtgjlbghjjjlhmaaPfspecHeldBytes
import Derived.Test.YtgjlbghjjjlhmaaPfspecHeldOk
import Derived.Test.YtgjlbghjjjlhmaaPfspecl17Clash
import Derived.Test.YtgjlbghjjjlhmaaPfspecl17Hold
import Derived.Test.YtgjlbghjjjlhmaaPfspecl17Modes
import Derived.Test.YtgjlbghjjjlhmaaPfspecl17Round
import Derived.Test.YtgjlbghjjjlhmaaPfspecl17Tidy
import Derived.Test.YtgjlbghjjjlhmaaPfspecl17Who
import Derived.Test.YtgjlbghjjjlhmaaPfspecl6In
namespace Go.Proofs.Ytgjlbghjjjlhmaa.Q
open Go.RowKit Go.Proofs.YtgjlbghjjjlhmaaW.PrintWords Go.Proofs.YtgjlbghjjjlhmaaW.PrintLast Go.Proofs.YtgjlbghjjjlhmaaW.PrintMore Go.Proofs.Ytgjlbghjjjlhmaa.P
set_option linter.unusedVariables false
set_option linter.unusedSimpArgs false

abbrev Ho := S40
def inR (x lo hi : Int) : Bool := decide (lo ≤ x) && decide (x ≤ hi)
theorem implIn (x lo hi : Int) : impl_in.f x lo hi = some (inR x lo hi) := by
  unfold impl_in.f inR
  by_cases h : x ≥ lo <;> simp [h]
theorem specIn (x lo hi : Int) : spec_l6In.f x lo hi = some (inR x lo hi) := by
  unfold spec_l6In.f inR
  by_cases h : x ≥ lo <;> simp [h]
def vH (a : Ho) : Bool := inR a.f0 0 3 && (inR a.f1 0 15 && inR a.f2 a.f1 15)
theorem implHok (a : Ho) : impl_Hold_ok.f a.f0 a.f1 a.f2 a.f3 = some (vH a) := by
  unfold impl_Hold_ok.f vH
  simp only [implIn, Option.bind_some]
  cases inR a.f0 0 3 <;> cases inR a.f1 0 15 <;> simp
theorem specHok (a : Ho) : spec_l17Hold.f a.f0 a.f1 a.f2 a.f3 = some (vH a) := by
  unfold spec_l17Hold.f vH
  simp only [specIn, Option.bind_some]
  cases inR a.f0 0 3 <;> cases inR a.f1 0 15 <;> simp
def cl (a b : Ho) : Bool := !decide (a.f0 = b.f0) && (decide (a.f1 ≤ b.f2) && (decide (b.f1 ≤ a.f2) && (a.f3 || b.f3)))
theorem implCl (a b : Ho) : impl_Hold_clash.f a.f0 a.f1 a.f2 a.f3 b.f0 b.f1 b.f2 b.f3 = some (cl a b) := by
  unfold impl_Hold_clash.f cl
  by_cases h0 : a.f0 = b.f0 <;> by_cases h1 : a.f1 ≤ b.f2 <;> by_cases h2 : b.f1 ≤ a.f2 <;> cases a.f3 <;> simp [h0, h1, h2]
theorem specCl (a b : Ho) : spec_l17Clash.f a.f0 a.f1 a.f2 a.f3 b.f0 b.f1 b.f2 b.f3 = some (cl a b) := by
  unfold spec_l17Clash.f cl
  by_cases h0 : a.f0 = b.f0 <;> by_cases h1 : a.f1 ≤ b.f2 <;> by_cases h2 : b.f1 ≤ a.f2 <;> cases a.f3 <;> simp [h0, h1, h2]
theorem cl_comm (a b : Ho) : cl a b = cl b a := by
  unfold cl
  rw [Bool.eq_iff_iff]
  simp only [Bool.and_eq_true, Bool.not_eq_true', decide_eq_false_iff_not, decide_eq_true_eq, Bool.or_eq_true]
  constructor
  · rintro ⟨h0, h1, h2, h3⟩
    exact ⟨fun e => h0 e.symm, h2, h1, h3.symm⟩
  · rintro ⟨h0, h1, h2, h3⟩
    exact ⟨fun e => h0 e.symm, h2, h1, h3.symm⟩
-- a number in a list
theorem rdI_at (pre : List Int) (y : Int) (rest : List Int) : rd (pre ++ y :: rest) (pre.length : Int) = y := by
  unfold rd
  rw [Int.toNat_natCast]
  exact lgetD_prefix _ _ _ _
theorem rdH_at (pre : List Ho) (y : Ho) (rest : List Ho) : rd_T40 (pre ++ y :: rest) (pre.length : Int) = y := by
  unfold rd_T40
  rw [Int.toNat_natCast]
  exact lgetD_prefix _ _ _ _
theorem index_l (x : Int) (l : List Int) (hn : l.length ≤ 9223372036854775807) : ∀ rest pre : List Int, l = pre ++ rest → x ∉ pre →
    ∃ r : Int, Ev (fun k => slices_Index_int.l0 k l x (l.length : Int) (pre.length : Int)) r ∧ decide (r ≥ 0) = l.contains x := by
  intro rest
  induction rest with
  | nil =>
    intro pre hl hp
    refine ⟨-1, Ev.step (fun k => by simp only [slices_Index_int.l0]; rfl) (Ev.neg (by rw [hl]; simp) (Ev.now _)), ?_⟩
    rw [hl, List.append_nil]
    simpa using hp
  | cons y rest ih =>
    intro pre hl hp
    have hlt : pre.length < l.length := by rw [hl]; simp
    have hr : rd l (pre.length : Int) = y := by rw [hl]; exact rdI_at _ _ _
    by_cases hy : x = y
    · refine ⟨(pre.length : Int), Ev.step (fun k => by simp only [slices_Index_int.l0]; rfl) (Ev.pos (by omega) (Ev.pos (by omega) (Ev.pos (by omega) (Ev.pos (by rw [hr]; exact hy) (Ev.now _))))), ?_⟩
      rw [hl, hy]
      simp
    · obtain ⟨r, e, h⟩ := ih (pre ++ [y]) (by simp [hl]) (by simp [hp, hy])
      refine ⟨r, Ev.step (fun k => by simp only [slices_Index_int.l0]; rfl) (Ev.pos (by omega) (Ev.pos (by omega) (Ev.pos (by omega) (Ev.neg (by rw [hr]; exact hy) ?_)))), h⟩
      rw [lsucc_wrap hlt hn]
      have hlen : ((pre ++ [y]).length : Int) = ((pre.length + 1 : Nat) : Int) := by simp
      rw [← hlen]
      exact e
theorem contains_ev (x : Int) (l : List Int) (hn : l.length ≤ 9223372036854775807) : Ev (fun k => slices_Contains_int.f k l x) (l.contains x) := by
  obtain ⟨r, e, h⟩ := index_l x l hn l [] rfl (by simp)
  unfold slices_Contains_int.f slices_Index_int.f
  exact Ev.bind e (Ev.pure (by rw [h]))
-- the program's clashes
def outL (x : Ho) : List Ho → List Int → List Int
  | [], out => out
  | y :: l, out => outL x l (if cl x y = true then (if out.contains y.f0 = true then out else out ++ [y.f0]) else out)
def clI (x : Ho) (l : List Ho) : List Int := slices_Sort_int.val (outL x l [])
theorem implClashes_l (x : Ho) (l : List Ho) (hn : l.length ≤ 1048576) : ∀ (rest pre : List Ho) (out : List Int), l = pre ++ rest → out.length ≤ pre.length →
    Ev (fun k => impl_Held_clashes.l0 k out l (l.length : Int) (pre.length : Int) x.f0 x.f1 x.f2 x.f3) (slices_Sort_int.val (outL x rest out)) ∧ (outL x rest out).length ≤ l.length := by
  intro rest
  induction rest with
  | nil =>
    intro pre out hl ho
    have hb : out.length ≤ l.length := by rw [hl]; simpa using ho
    refine ⟨Ev.step (fun k => by simp only [impl_Held_clashes.l0]; rfl) (Ev.neg (by rw [hl]; simp) ?_), hb⟩
    refine Ev.const ?_
    unfold slices_Sort_int.f
    rw [if_pos (by omega)]
    rfl
  | cons y rest ih =>
    intro pre out hl ho
    have hlt : pre.length < l.length := by rw [hl]; simp
    have hr : rd_T40 l (pre.length : Int) = y := by rw [hl]; exact rdH_at _ _ _
    have hlen : ((pre ++ [y]).length : Int) = ((pre.length + 1 : Nat) : Int) := by simp
    have hx := lsucc_wrap hlt (by omega : l.length ≤ 9223372036854775807)
    have key : ∀ out', out'.length ≤ pre.length + 1 → Ev (fun k => impl_Held_clashes.l0 k out' l (l.length : Int) (wrap64 ((pre.length : Int) + 1)) x.f0 x.f1 x.f2 x.f3) (slices_Sort_int.val (outL x rest out')) ∧ (outL x rest out').length ≤ l.length := fun out' h' => by
      rw [hx, ← hlen]
      exact ih (pre ++ [y]) out' (by simp [hl]) (by simpa using h')
    have start : ∀ {r : List Int}, Ev (fun k => (impl_Hold_clash.f x.f0 x.f1 x.f2 x.f3 y.f0 y.f1 y.f2 y.f3).bind fun t109 => (if t109 = true then ((slices_Contains_int.f k out y.f0).bind fun t110 => (if t110 = true then (impl_Held_clashes.l0 k out l (l.length : Int) (wrap64 ((pre.length : Int) + 1)) x.f0 x.f1 x.f2 x.f3) else (if out.length < 17592186044416 then (impl_Held_clashes.l0 k (out ++ [y.f0]) l (l.length : Int) (wrap64 ((pre.length : Int) + 1)) x.f0 x.f1 x.f2 x.f3) else (none)))) else (impl_Held_clashes.l0 k out l (l.length : Int) (wrap64 ((pre.length : Int) + 1)) x.f0 x.f1 x.f2 x.f3))) r →
        Ev (fun k => impl_Held_clashes.l0 k out l (l.length : Int) (pre.length : Int) x.f0 x.f1 x.f2 x.f3) r := fun h => by
      refine Ev.step (fun k => by simp only [impl_Held_clashes.l0]; rfl) (Ev.pos (by omega) (Ev.pos (by omega) (Ev.pos (by omega) ?_)))
      rw [hr]
      exact h
    simp only [outL]
    by_cases h1 : cl x y = true
    · rw [if_pos h1]
      have hc := contains_ev y.f0 out (by omega)
      by_cases h2 : out.contains y.f0 = true
      · rw [if_pos h2]
        obtain ⟨e, hb⟩ := key out (by omega)
        exact ⟨start (Ev.bind (Ev.const (implCl x y)) (Ev.pos h1 (Ev.bind hc (Ev.pos h2 e)))), hb⟩
      · rw [if_neg h2]
        obtain ⟨e, hb⟩ := key (out ++ [y.f0]) (by simp; omega)
        exact ⟨start (Ev.bind (Ev.const (implCl x y)) (Ev.pos h1 (Ev.bind hc (Ev.neg h2 (Ev.pos (by omega) e))))), hb⟩
    · rw [if_neg h1]
      obtain ⟨e, hb⟩ := key out (by omega)
      exact ⟨start (Ev.bind (Ev.const (implCl x y)) (Ev.neg h1 e)), hb⟩
theorem implClashes (x : Ho) (l m : List Ho) (hn : l.length ≤ 1048576) : Ev (fun k => impl_Held_clashes.f k l m x.f0 x.f1 x.f2 x.f3) (clI x l) := by
  unfold impl_Held_clashes.f
  exact (implClashes_l x l hn l [] [] rfl (by simp)).1
theorem outL_mem (x : Ho) (o : Int) : ∀ (l : List Ho) (out : List Int), o ∈ outL x l out ↔ o ∈ out ∨ ∃ y ∈ l, cl x y = true ∧ y.f0 = o
  | [], out => by simp [outL]
  | y :: l, out => by
    simp only [outL]
    rw [outL_mem x o l]
    by_cases h1 : cl x y = true
    · rw [if_pos h1]
      by_cases h2 : out.contains y.f0 = true
      · rw [if_pos h2]
        have h2' : y.f0 ∈ out := by simpa using h2
        constructor
        · rintro (h | ⟨z, hz, h⟩)
          · exact .inl h
          · exact .inr ⟨z, List.mem_cons_of_mem _ hz, h⟩
        · rintro (h | ⟨z, hz, h⟩)
          · exact .inl h
          · rcases List.mem_cons.1 hz with rfl | hz
            · exact .inl (h.2 ▸ h2')
            · exact .inr ⟨z, hz, h⟩
      · rw [if_neg h2]
        simp only [List.mem_append, List.mem_singleton]
        constructor
        · rintro ((h | h) | ⟨z, hz, h⟩)
          · exact .inl h
          · exact .inr ⟨y, List.mem_cons_self, h1, h.symm⟩
          · exact .inr ⟨z, List.mem_cons_of_mem _ hz, h⟩
        · rintro (h | ⟨z, hz, h⟩)
          · exact .inl (.inl h)
          · rcases List.mem_cons.1 hz with rfl | hz
            · exact .inl (.inr h.2.symm)
            · exact .inr ⟨z, hz, h⟩
    · rw [if_neg h1]
      constructor
      · rintro (h | ⟨z, hz, h⟩)
        · exact .inl h
        · exact .inr ⟨z, List.mem_cons_of_mem _ hz, h⟩
      · rintro (h | ⟨z, hz, h⟩)
        · exact .inl h
        · rcases List.mem_cons.1 hz with rfl | hz
          · exact absurd h.1 h1
          · exact .inr ⟨z, hz, h⟩
theorem outL_nodup (x : Ho) : ∀ (l : List Ho) (out : List Int), out.Nodup → (outL x l out).Nodup
  | [], out, h => h
  | y :: l, out, h => by
    simp only [outL]
    refine outL_nodup x l _ ?_
    split
    · split
      · exact h
      · rename_i h2
        rw [List.nodup_append]
        exact ⟨h, by simp, fun a ha b hb e => h2 (by simp at hb; subst hb; subst e; simpa using ha)⟩
    · exact h
theorem clI_mem (x : Ho) (l : List Ho) (o : Int) : o ∈ clI x l ↔ ∃ y ∈ l, cl x y = true ∧ y.f0 = o := by
  unfold clI slices_Sort_int.val
  rw [List.mem_mergeSort, outL_mem]
  simp
theorem clI_nil (x : Ho) (l : List Ho) : (clI x l).length = 0 ↔ ∀ y ∈ l, cl x y = false := by
  constructor
  · intro h y hy
    have h0 : clI x l = [] := List.eq_nil_of_length_eq_zero h
    cases hc : cl x y with
    | false => rfl
    | true =>
      have : y.f0 ∈ clI x l := (clI_mem x l y.f0).2 ⟨y, hy, hc, rfl⟩
      rw [h0] at this
      cases this
  · intro h
    rcases hq : clI x l with _ | ⟨o, q⟩
    · rfl
    · have : o ∈ clI x l := by rw [hq]; exact List.mem_cons_self
      obtain ⟨y, hy, hc, _⟩ := (clI_mem x l o).1 this
      rw [h y hy] at hc
      cases hc
-- the reference's
def whoB (l : List Ho) (x : Ho) (o : Int) : Bool := l.any fun h => decide (h.f0 = o) && cl h x
def who (l : List Ho) (x : Ho) : List Int := [0, 1, 2, 3].filter (whoB l x)
theorem who_mem (l : List Ho) (x : Ho) (o : Int) (h : ∀ y ∈ l, 0 ≤ y.f0 ∧ y.f0 ≤ 3) : o ∈ who l x ↔ ∃ y ∈ l, cl x y = true ∧ y.f0 = o := by
  unfold who whoB
  rw [List.mem_filter, List.any_eq_true]
  simp only [Bool.and_eq_true, decide_eq_true_eq]
  constructor
  · rintro ⟨_, y, hy, h0, h1⟩
    exact ⟨y, hy, by rw [cl_comm]; exact h1, h0⟩
  · rintro ⟨y, hy, h1, h0⟩
    refine ⟨?_, y, hy, h0, by rw [cl_comm]; exact h1⟩
    have := h y hy
    simp only [List.mem_cons, List.mem_nil_iff, or_false]
    omega
theorem who_le (l : List Ho) (x : Ho) : (who l x).length ≤ 4 := by
  unfold who
  have := List.length_filter_le (whoB l x) [0, 1, 2, 3]
  simpa using this
theorem who_rng (l : List Ho) (x : Ho) : ∀ o ∈ who l x, 0 ≤ o ∧ o ≤ 3 := by
  intro o h
  have := (List.mem_filter.1 h).1
  simp only [List.mem_cons, List.mem_nil_iff, or_false] at this
  omega
/-- The two tell one list, where every owner is one. -/
theorem clI_who (x : Ho) (l : List Ho) (h : ∀ y ∈ l, 0 ≤ y.f0 ∧ y.f0 ≤ 3) : clI x l = who l x := by
  have n1 : (clI x l).Nodup := by
    unfold clI slices_Sort_int.val
    exact (List.mergeSort_perm _ _).symm.nodup (outL_nodup x l [] (by simp))
  have s1 : (clI x l).Pairwise (· ≤ ·) := by
    unfold clI slices_Sort_int.val
    have := List.pairwise_mergeSort (le := fun (a b : Int) => decide (a ≤ b)) (fun a b c h1 h2 => by simp at *; omega) (fun a b => by simp; omega) (outL x l [])
    simpa using this
  have n2 : (who l x).Nodup := by
    unfold who
    exact List.Pairwise.filter _ (by decide)
  have s2 : (who l x).Pairwise (· ≤ ·) := by
    unfold who
    exact List.Pairwise.filter _ (by decide)
  have hp : (clI x l).Perm (who l x) := (List.perm_ext_iff_of_nodup n1 n2).2 fun o => by rw [clI_mem, who_mem l x o h]
  exact hp.eq_of_pairwise (fun a b _ _ h1 h2 => by omega) s1 s2
theorem specWho_l1 (x : Ho) (o : Int) (ho : o ≤ 3) (h0 : 0 ≤ o) (l : List Ho) (hn : l.length ≤ 1048576) (out : List Int) (hout : out.length ≤ 100) {r : List Int}
    (hend : ∀ b : Bool, b = whoB l x o → Ev (fun k => spec_l17Who.l0 k l (if b = true then out ++ [o] else out) (wrap64 (o + 1)) x.f0 x.f1 x.f2 x.f3) r) : ∀ (rest pre : List Ho) (b : Bool), l = pre ++ rest → b = pre.any (fun h => decide (h.f0 = o) && cl h x) →
    Ev (fun k => spec_l17Who.l1 k l out o b (pre.length : Int) x.f0 x.f1 x.f2 x.f3) r := by
  intro rest
  induction rest with
  | nil =>
    intro pre b hl hb
    have hb' : b = whoB l x o := by rw [hb, hl, List.append_nil]; rfl
    refine Ev.step (fun k => by simp only [spec_l17Who.l1]; rfl) (Ev.neg (by rw [hl]; simp) ?_)
    have h := hend b hb'
    by_cases hbt : b = true
    · rw [if_pos hbt] at h
      exact Ev.pos hbt (Ev.pos (by omega) h)
    · rw [if_neg hbt] at h
      exact Ev.neg hbt h
  | cons y rest ih =>
    intro pre b hl hb
    have hlt : pre.length < l.length := by rw [hl]; simp
    have hr : rd_T40 l (pre.length : Int) = y := by rw [hl]; exact rdH_at _ _ _
    have hlen : ((pre ++ [y]).length : Int) = ((pre.length + 1 : Nat) : Int) := by simp
    have hx := lsucc_wrap hlt (by omega : l.length ≤ 9223372036854775807)
    have key : ∀ b', b' = (pre ++ [y]).any (fun h => decide (h.f0 = o) && cl h x) → Ev (fun k => spec_l17Who.l1 k l out o b' (wrap64 ((pre.length : Int) + 1)) x.f0 x.f1 x.f2 x.f3) r := fun b' h' => by
      rw [hx, ← hlen]
      exact ih (pre ++ [y]) b' (by simp [hl]) h'
    rw [List.any_append, ← hb] at key
    simp only [List.any_cons, List.any_nil, Bool.or_false] at key
    refine Ev.step (fun k => by simp only [spec_l17Who.l1]; rfl) (Ev.pos (by omega) ?_)
    by_cases hbt : b = true
    · exact Ev.pos hbt (key true (by rw [hbt]; rfl))
    · have hbf : b = false := by simpa using hbt
      refine Ev.neg hbt (Ev.pos (by omega) ?_)
      rw [hr]
      by_cases hy : y.f0 = o
      · exact Ev.pos hy (Ev.bind (Ev.const (specCl y x)) (key (cl y x) (by rw [hbf]; simp [hy])))
      · exact Ev.neg hy (key false (by rw [hbf]; simp [hy]))
theorem specWho (x : Ho) (l : List Ho) (hn : l.length ≤ 1048576) : Ev (fun k => spec_l17Who.f k l x.f0 x.f1 x.f2 x.f3) (who l x) := by
  unfold spec_l17Who.f
  have step : ∀ (o : Int) (out : List Int) (r : List Int), 0 ≤ o → o ≤ 3 → out.length ≤ 100 → Ev (fun k => spec_l17Who.l0 k l (if whoB l x o = true then out ++ [o] else out) (o + 1) x.f0 x.f1 x.f2 x.f3) r → Ev (fun k => spec_l17Who.l0 k l out o x.f0 x.f1 x.f2 x.f3) r := by
    intro o out r h0 h3 hout h
    refine Ev.step (fun k => by simp only [spec_l17Who.l0]; rfl) (Ev.pos (by omega) ?_)
    refine specWho_l1 x o h3 h0 l hn out hout (fun b hb => ?_) l [] false rfl rfl
    rw [hb, wrap_id (n := o + 1) (by omega) (by omega)]
    exact h
  have hl : ∀ (out : List Int) (b : Bool) (o : Int), out.length ≤ 10 → (if b = true then out ++ [o] else out).length ≤ 11 := by
    intro out b o h
    split
    · simp
      omega
    · omega
  have hl2 : ∀ (out : List Int) (b : Bool) (o : Int), (if b = true then out ++ [o] else out).length ≤ out.length + 1 := by
    intro out b o
    split
    · simp
    · omega
  refine step 0 [] _ (by omega) (by omega) (by simp) ?_
  rw [show (0 : Int) + 1 = 1 from rfl]
  have e0 : ∃ a0, a0 = (if whoB l x 0 = true then ([] : List Int) ++ [0] else []) := ⟨_, rfl⟩
  obtain ⟨a0, e0⟩ := e0
  have q0 := hl2 [] (whoB l x 0) 0
  rw [← e0] at q0 ⊢
  rw [List.length_nil] at q0
  refine step 1 _ _ (by omega) (by omega) (by omega) ?_
  rw [show (1 : Int) + 1 = 2 from rfl]
  have q1 := hl2 a0 (whoB l x 1) 1
  obtain ⟨a1, e1⟩ : ∃ a1, a1 = (if whoB l x 1 = true then a0 ++ [1] else a0) := ⟨_, rfl⟩
  rw [← e1] at q1 ⊢
  refine step 2 _ _ (by omega) (by omega) (by omega) ?_
  rw [show (2 : Int) + 1 = 3 from rfl]
  have q2 := hl2 a1 (whoB l x 2) 2
  obtain ⟨a2, e2⟩ : ∃ a2, a2 = (if whoB l x 2 = true then a1 ++ [2] else a1) := ⟨_, rfl⟩
  rw [← e2] at q2 ⊢
  refine step 3 _ _ (by omega) (by omega) (by omega) ?_
  rw [show ((3 : Int) + 1) = 4 from rfl]
  refine Ev.step (fun k => by simp only [spec_l17Who.l0]; rfl) (Ev.neg (by decide) (Ev.pure ?_))
  rw [e2, e1, e0]
  unfold who
  simp only [List.filter_cons, List.filter_nil]
  cases whoB l x 0 <;> cases whoB l x 1 <;> cases whoB l x 2 <;> cases whoB l x 3 <;> rfl
end Go.Proofs.Ytgjlbghjjjlhmaa.Q

/- Locks of records: rounds, and HeldOk: the program's and the reference's answer alike. -/
namespace Go.Proofs.Ytgjlbghjjjlhmaa.Q
open Go.RowKit Go.Proofs.YtgjlbghjjjlhmaaW.PrintWords Go.Proofs.YtgjlbghjjjlhmaaW.PrintLast Go.Proofs.YtgjlbghjjjlhmaaW.PrintMore Go.Proofs.Ytgjlbghjjjlhmaa.P
set_option linter.unusedVariables false
set_option linter.unusedSimpArgs false

def gath (hs : List Ho) (o : Int) : List Ho → List Int
  | [] => []
  | y :: l => (if y.f0 = o then who hs y else []) ++ gath hs o l
theorem gath_le (hs : List Ho) (o : Int) : ∀ l, (gath hs o l).length ≤ 4 * l.length
  | [] => by simp [gath]
  | y :: l => by
    have h1 := gath_le hs o l
    have h2 := who_le hs y
    simp only [gath, List.length_append, List.length_cons]
    split <;> simp <;> omega
theorem gath_rng (hs : List Ho) (o : Int) : ∀ l, ∀ i ∈ gath hs o l, 0 ≤ i ∧ i ≤ 3
  | [], i, h => by simp [gath] at h
  | y :: l, i, h => by
    simp only [gath, List.mem_append] at h
    rcases h with h | h
    · split at h
      · exact who_rng hs y i h
      · cases h
    · exact gath_rng hs o l i h
theorem implAdd (hs ws : List Ho) (hn : hs.length ≤ 1048576) (hr : ∀ y ∈ hs, 0 ≤ y.f0 ∧ y.f0 ≤ 3) (o : Int) : ∀ (l : List Ho) (acc : List Int), acc.length + 4 * l.length < 1000000000 → Ev (fun k => impl_Held_round.add k hs ws o l acc) (acc ++ gath hs o l)
  | [], acc, _ => Ev.pure (by simp [gath])
  | y :: l, acc, h => by
    simp only [List.length_cons] at h
    have h2 := who_le hs y
    have hc := implClashes y hs ws hn
    rw [clI_who y hs hr] at hc
    simp only [impl_Held_round.add, gath]
    by_cases hy : y.f0 = o
    · rw [if_pos hy]
      refine Ev.pos hy (Ev.pos (by omega) (Ev.bind hc (Ev.pos (by omega) ?_)))
      rw [← List.append_assoc]
      exact implAdd hs ws hn hr o l (acc ++ who hs y) (by simp <;> omega)
    · rw [if_neg hy, List.nil_append]
      exact Ev.neg hy (implAdd hs ws hn hr o l acc (by omega))
theorem specAdd (hs ws : List Ho) (hn : hs.length ≤ 1048576) (hw : ws.length ≤ 1048576) (own o : Int) (met : List Bool) {r : Bool} : ∀ (rest pre : List Ho) (acc : List Int), ws = pre ++ rest → acc.length + 4 * rest.length < 1000000000 →
    Ev (fun k => spec_l17Round.l0 k hs ws own met (acc ++ gath hs o rest)) r → Ev (fun k => spec_l17Round.l1 k hs ws own met acc o (pre.length : Int)) r := by
  intro rest
  induction rest with
  | nil =>
    intro pre acc hl hb h
    simp only [gath, List.append_nil] at h
    exact Ev.step (fun k => by simp only [spec_l17Round.l1]; rfl) (Ev.neg (by rw [hl]; simp) h)
  | cons y rest ih =>
    intro pre acc hl hb h
    simp only [List.length_cons] at hb
    have h2 := who_le hs y
    have hlt : pre.length < ws.length := by rw [hl]; simp
    have hr : rd_T40 ws (pre.length : Int) = y := by rw [hl]; exact rdH_at _ _ _
    have hlen : ((pre ++ [y]).length : Int) = ((pre.length + 1 : Nat) : Int) := by simp
    have hx := lsucc_wrap hlt (by omega : ws.length ≤ 9223372036854775807)
    simp only [gath] at h
    refine Ev.step (fun k => by simp only [spec_l17Round.l1]; rfl) (Ev.pos (by omega) (Ev.pos (by omega) ?_))
    rw [hr, hx, ← hlen]
    by_cases hy : y.f0 = o
    · rw [if_pos hy, ← List.append_assoc] at h
      exact Ev.pos hy (Ev.bind (specWho y hs hn) (Ev.pos (by omega) (ih (pre ++ [y]) (acc ++ who hs y) (by simp [hl]) (by simp <;> omega) h)))
    · rw [if_neg hy, List.nil_append] at h
      exact Ev.neg hy (ih (pre ++ [y]) acc (by simp [hl]) (by omega) h)
theorem met_set (met : List Bool) (i : Nat) (h : i < met.length) (hf : met.getD i false = false) : (met.set i true).count false + 1 = met.count false := by
  rw [List.getD_eq_getElem?_getD, List.getElem?_eq_getElem h, Option.getD_some] at hf
  have hp : 0 < met.count false := by
    rw [List.count_pos_iff]
    exact hf ▸ List.getElem_mem h
  rw [List.count_set h, hf]
  simp
  omega
/-- From owner to owner: the two tell one answer. -/
theorem rounds (hs ws : List Ho) (hn : hs.length ≤ 1048576) (hw : ws.length ≤ 1048576) (hr : ∀ y ∈ hs, 0 ≤ y.f0 ∧ y.f0 ≤ 3) (own : Int) : ∀ (m : Nat) (todo seen : List Int) (met : List Bool),
    todo.length + met.count false * (4 * ws.length) ≤ m → m ≤ 100000000 → met.length = 4 → (∀ o ∈ todo, 0 ≤ o ∧ o ≤ 3) → (∀ i : Nat, i < 4 → met.getD i false = seen.contains (i : Int)) → seen.length + met.count false = 4 →
    ∃ b, Ev (fun k => impl_Held_round.bfs hs ws own k todo seen) b ∧ Ev (fun k => spec_l17Round.l0 k hs ws own met todo) b := by
  intro m
  induction m with
  | zero =>
    intro todo seen met h1 hm hl ht hs' hc
    have : todo = [] := List.eq_nil_of_length_eq_zero (by omega)
    subst this
    exact ⟨false, Ev.step (fun k => by simp only [impl_Held_round.bfs]) (Ev.now _), Ev.step (fun k => by simp only [spec_l17Round.l0]; rfl) (Ev.neg (by simp) (Ev.now _))⟩
  | succ m ih =>
    intro todo seen met h1 hm hl ht hs' hc
    cases todo with
    | nil => exact ⟨false, Ev.step (fun k => by simp only [impl_Held_round.bfs]) (Ev.now _), Ev.step (fun k => by simp only [spec_l17Round.l0]; rfl) (Ev.neg (by simp) (Ev.now _))⟩
    | cons o l =>
      simp only [List.length_cons] at h1
      have ho := ht o List.mem_cons_self
      have ht' : ∀ i ∈ l, 0 ≤ i ∧ i ≤ 3 := fun i hi => ht i (List.mem_cons_of_mem _ hi)
      obtain ⟨i, rfl⟩ : ∃ i : Nat, o = (i : Int) := ⟨o.toNat, by omega⟩
      have hi : i < 4 := by omega
      have hmi := hs' i hi
      have hrd : rd ((i : Int) :: l) 0 = i := rfl
      have hlb : l.length ≤ 100000000 := by omega
      have si : ∀ {b : Bool}, Ev (fun k => if (0 : Int) ≤ i ∧ (i : Int) ≤ 1000 then (if (i : Int) = own then some true else if seen.contains (i : Int) = true then impl_Held_round.bfs hs ws own k l seen else if seen.length < 1000000000 then (impl_Held_round.add k hs ws i ws l).bind fun l' => impl_Held_round.bfs hs ws own k l' ((i : Int) :: seen) else none) else none) b → Ev (fun k => impl_Held_round.bfs hs ws own k ((i : Int) :: l) seen) b := fun h => Ev.step (fun k => by simp only [impl_Held_round.bfs]) h
      have ss : ∀ {b : Bool}, Ev (fun k => if (i : Int) = own then some true else (if (0 : Int) ≤ i then (if (i : Int) < (met.length : Int) then (if rdOf false met (i : Int) = true then (spec_l17Round.l0 k hs ws own met l) else (spec_l17Round.l1 k hs ws own (met.set (i : Int).toNat true) l i 0)) else none) else none)) b → Ev (fun k => spec_l17Round.l0 k hs ws own met ((i : Int) :: l)) b := fun h => by
        refine Ev.step (fun k => by simp only [spec_l17Round.l0]; rfl) (Ev.pos (by simp <;> omega) (Ev.pos (by simp <;> omega) ?_))
        rw [hrd]
        refine Ev.bind (Ev.now _) (Ev.pos (by simp <;> omega) (Ev.bind (Ev.now _) (Ev.pos (by simp <;> omega) (Ev.bind (Ev.now _) ?_))))
        exact h
      by_cases hown : (i : Int) = own
      · exact ⟨true, si (Ev.pos (by omega) (Ev.pos hown (Ev.now _))), ss (Ev.pos hown (Ev.now _))⟩
      have hro : rdOf false met (i : Int) = seen.contains (i : Int) := by
        unfold rdOf
        rw [Int.toNat_natCast]
        exact hmi
      by_cases hsn : seen.contains (i : Int) = true
      · obtain ⟨b, e1, e2⟩ := ih l seen met (by omega) (by omega) hl ht' hs' hc
        exact ⟨b, si (Ev.pos (by omega) (Ev.neg hown (Ev.pos hsn e1))), ss (Ev.neg hown (Ev.pos (by omega) (Ev.pos (by omega) (Ev.pos (by rw [hro]; exact hsn) e2))))⟩
      · have hsf : seen.contains (i : Int) = false := by simpa using hsn
        have hst := met_set met i (by omega) (hmi.trans hsf)
        have hg := gath_le hs (i : Int) ws
        have hb : (l ++ gath hs i ws).length + (met.set i true).count false * (4 * ws.length) ≤ m := by
          rw [← hst, Nat.add_mul, Nat.one_mul] at h1
          simp only [List.length_append]
          omega
        obtain ⟨b, e1, e2⟩ := ih (l ++ gath hs i ws) ((i : Int) :: seen) (met.set i true) hb (by omega) (by simpa using hl) (fun j hj => by
          rcases List.mem_append.1 hj with hj | hj
          · exact ht' j hj
          · exact gath_rng hs i ws j hj) (fun j hj => by
          rw [List.getD_eq_getElem?_getD, List.getElem?_set, List.contains_cons]
          by_cases hij : i = j
          · subst hij
            simp [hl, hi]
          · have h3 := hs' j hj
            rw [List.getD_eq_getElem?_getD] at h3
            rw [if_neg hij, h3]
            have h4 : ((j : Int) == (i : Int)) = false := by simp; omega
            rw [h4, Bool.false_or]) (by simp only [List.length_cons]; omega)
        refine ⟨b, si (Ev.pos (by omega) (Ev.neg hown (Ev.neg hsn (Ev.pos (by omega) (Ev.bind (implAdd hs ws hn hr i ws l (by omega)) e1))))), ss (Ev.neg hown (Ev.pos (by omega) (Ev.pos (by omega) (Ev.neg (by rw [hro]; exact hsn) ?_))))⟩
        rw [Int.toNat_natCast]
        exact specAdd hs ws hn hw own i (met.set i true) ws [] l rfl (by omega) e2
theorem rounds_ex (hs ws : List Ho) (hn : hs.length ≤ 1048576) (hw : ws.length ≤ 1048576) (hr : ∀ y ∈ hs, 0 ≤ y.f0 ∧ y.f0 ≤ 3) (y : Ho) : ∃ b, Ev (fun k => impl_Held_round.bfs hs ws y.f0 k (who hs y) []) b ∧ Ev (fun k => spec_l17Round.f k hs ws (who hs y) y.f0) b := by
  have h1 := who_le hs y
  obtain ⟨b, e1, e2⟩ := rounds hs ws hn hw hr y.f0 (4 + 4 * (4 * ws.length)) (who hs y) [] (List.replicate 4 false) (by rw [show (List.replicate 4 false).count false = 4 from rfl]; omega) (by omega) rfl (who_rng hs y) (fun i hi => by
    simp only [List.contains_nil, List.getD_eq_getElem?_getD, List.getElem?_replicate]
    split <;> rfl) rfl
  refine ⟨b, e1, ?_⟩
  unfold spec_l17Round.f
  exact Ev.pos (by omega) (Ev.bind (Ev.now _) (Ev.pos (by simp <;> omega) (by simpa using e2)))
-- tidy
def adjP (p x : Ho) : Bool := !(decide (p.f0 > x.f0) || (decide (p.f0 = x.f0) && (decide (p.f2 ≥ x.f1) || (decide (wrap64 (p.f2 + 1) = x.f1) && (p.f3 == x.f3)))))
def adj (p : Option Ho) (x : Ho) : Bool := match p with
  | none => true
  | some p => adjP p x
def adjL : Option Ho → List Ho → Bool
  | _, [] => true
  | p, x :: l => adj p x && adjL (some x) l
def noCl (hs : List Ho) (x : Ho) : Bool := hs.all fun y => !cl x y
def tidyI (hs : List Ho) (p : Option Ho) (l : List Ho) : Bool := (l.all fun x => vH x && noCl hs x) && adjL p l
def pairs : List Ho → List Ho → Bool
  | _, [] => true
  | pre, x :: l => (pre.all fun y => !cl y x) && pairs (pre ++ [x]) l
def tidyS (pre : List Ho) (p : Option Ho) (l : List Ho) : Bool := (l.all vH && pairs pre l) && adjL p l
theorem pairs_iff : ∀ (l pre : List Ho), pairs pre l = true ↔ (∀ y ∈ pre, ∀ x ∈ l, cl y x = false) ∧ l.Pairwise (fun a b => cl a b = false)
  | [], pre => by simp [pairs]
  | x :: l, pre => by
    simp only [pairs, Bool.and_eq_true, List.all_eq_true, Bool.not_eq_true']
    rw [pairs_iff l (pre ++ [x]), List.pairwise_cons]
    constructor
    · rintro ⟨h1, h2, h3⟩
      refine ⟨fun y hy z hz => ?_, fun z hz => h2 x (by simp) z hz, h3⟩
      rcases List.mem_cons.1 hz with rfl | hz
      · exact h1 y hy
      · exact h2 y (by simp [hy]) z hz
    · rintro ⟨h1, h2, h3⟩
      refine ⟨fun y hy => h1 y hy x List.mem_cons_self, fun y hy z hz => ?_, h3⟩
      rcases List.mem_append.1 hy with hy | hy
      · exact h1 y hy z (List.mem_cons_of_mem _ hz)
      · rw [List.mem_singleton.1 hy]
        exact h2 z hz
theorem cl_self (x : Ho) : cl x x = false := by unfold cl; simp
theorem pw_all : ∀ (l : List Ho), l.Pairwise (fun a b => cl a b = false) → ∀ x ∈ l, ∀ y ∈ l, cl x y = false
  | [], _, x, hx => by cases hx
  | z :: l, h, x, hx => by
    obtain ⟨h1, h2⟩ := List.pairwise_cons.1 h
    intro y hy
    rcases List.mem_cons.1 hx with hx' | hx'
    · subst hx'
      rcases List.mem_cons.1 hy with rfl | hy
      · exact cl_self _
      · exact h1 y hy
    · rcases List.mem_cons.1 hy with rfl | hy
      · rw [cl_comm]
        exact h1 x hx'
      · exact pw_all l h2 x hx' y hy
theorem all_pw (hs : List Ho) : ∀ (l : List Ho), (∀ x ∈ l, x ∈ hs) → (∀ x ∈ hs, ∀ y ∈ hs, cl x y = false) → l.Pairwise (fun a b => cl a b = false)
  | [], _, _ => List.Pairwise.nil
  | z :: l, hm, h => List.pairwise_cons.2 ⟨fun y hy => h z (hm z List.mem_cons_self) y (hm y (List.mem_cons_of_mem _ hy)), all_pw hs l (fun x hx => hm x (List.mem_cons_of_mem _ hx)) h⟩
theorem tidy_eq (hs : List Ho) : tidyI hs none hs = tidyS [] none hs := by
  unfold tidyI tidyS
  congr 1
  rw [Bool.eq_iff_iff, Bool.and_eq_true, List.all_eq_true, List.all_eq_true, pairs_iff]
  simp only [Bool.and_eq_true, noCl, List.all_eq_true, Bool.not_eq_true']
  constructor
  · intro h
    exact ⟨fun x hx => (h x hx).1, fun y hy => by simp at hy, all_pw hs hs (fun _ h => h) (fun x hx => (h x hx).2)⟩
  · rintro ⟨h1, _, h2⟩ x hx
    exact ⟨h1 x hx, pw_all hs h2 x hx⟩
theorem vH_rng {a : Ho} (h : vH a = true) : 0 ≤ a.f0 ∧ a.f0 ≤ 3 ∧ 0 ≤ a.f1 ∧ a.f1 ≤ a.f2 ∧ a.f2 ≤ 15 := by
  unfold vH inR at h
  simp only [Bool.and_eq_true, decide_eq_true_eq] at h
  omega
theorem specTidy_l1 (l : List Ho) (hn : l.length ≤ 1048576) (x : Ho) (i : Nat) (hi : i < l.length) (hx : rd_T40 l (i : Int) = x) {r : Bool} : ∀ (rest pre tail : List Ho), l = pre ++ rest ++ tail → (pre ++ rest).length = i →
    ((rest.all fun y => !cl y x) = true → Ev (fun k => spec_l17Tidy.l1 k l (i : Int) (i : Int)) r) → ((rest.all fun y => !cl y x) = false → r = false) → Ev (fun k => spec_l17Tidy.l1 k l (i : Int) (pre.length : Int)) r := by
  intro rest
  induction rest with
  | nil =>
    intro pre tail hl hp h1 _
    have : pre.length = i := by simpa using hp
    rw [this]
    exact h1 rfl
  | cons y rest ih =>
    intro pre tail hl hp h1 h2
    simp only [List.length_append, List.length_cons] at hp
    have hr : rd_T40 l (pre.length : Int) = y := by rw [hl, List.append_assoc, List.cons_append]; exact rdH_at _ _ _
    have hlen : ((pre ++ [y]).length : Int) = ((pre.length + 1 : Nat) : Int) := by simp
    have hx' := lsucc_wrap (show pre.length < l.length by omega) (by omega : l.length ≤ 9223372036854775807)
    refine Ev.step (fun k => by simp only [spec_l17Tidy.l1]; rfl) (Ev.pos (by omega) (Ev.pos (by omega) (Ev.pos (by omega) (Ev.pos (by omega) (Ev.pos (by omega) ?_)))))
    rw [hr, hx]
    refine Ev.bind (Ev.const (specCl y x)) ?_
    simp only [List.all_cons] at h1 h2
    cases hc : cl y x with
    | true =>
      rw [hc] at h2
      exact Ev.pos rfl (Ev.pure (h2 (by simp)).symm)
    | false =>
      rw [hc] at h1 h2
      simp only [Bool.not_false, Bool.true_and] at h1 h2
      refine Ev.neg (by simp) ?_
      rw [hx', ← hlen]
      exact ih (pre ++ [y]) tail (by simp [hl]) (by simp <;> omega) h1 h2
theorem specTidy_l (l : List Ho) (hn : l.length ≤ 1048576) : ∀ (rest pre : List Ho), l = pre ++ rest → Ev (fun k => spec_l17Tidy.l0 k l (pre.length : Int)) (tidyS pre pre.getLast? rest) := by
  intro rest
  induction rest with
  | nil =>
    intro pre hl
    exact Ev.step (fun k => by simp only [spec_l17Tidy.l0]; rfl) (Ev.neg (by rw [hl]; simp) (Ev.pure (by simp [tidyS, pairs, adjL])))
  | cons x rest ih =>
    intro pre hl
    have hlt : pre.length < l.length := by rw [hl]; simp
    have hr : rd_T40 l (pre.length : Int) = x := by rw [hl]; exact rdH_at _ _ _
    have hlen : ((pre ++ [x]).length : Int) = ((pre.length + 1 : Nat) : Int) := by simp
    have hx := lsucc_wrap hlt (by omega : l.length ≤ 9223372036854775807)
    have hi := ih (pre ++ [x]) (by simp [hl])
    rw [List.getLast?_concat, hlen, ← hx] at hi
    have hT : tidyS pre pre.getLast? (x :: rest) = (vH x && ((pre.all fun y => !cl y x) && (adj pre.getLast? x && tidyS (pre ++ [x]) (some x) rest))) := by
      unfold tidyS
      simp only [List.all_cons, pairs, adjL]
      cases vH x <;> cases rest.all vH <;> cases (pre.all fun y => !cl y x) <;> cases pairs (pre ++ [x]) rest <;> cases adj pre.getLast? x <;> rfl
    rw [hT]
    refine Ev.step (fun k => by simp only [spec_l17Tidy.l0]; rfl) (Ev.pos (by omega) (Ev.pos (by omega) ?_))
    rw [hr]
    refine Ev.bind (Ev.const (specHok x)) ?_
    cases hv : vH x with
    | false => exact Ev.neg (by simp) (Ev.now _)
    | true =>
      refine Ev.pos rfl ?_
      rw [Bool.true_and]
      refine specTidy_l1 l hn x pre.length hlt hr pre [] (x :: rest) (by simpa using hl) (by simp) (fun ha => ?_) (fun ha => by rw [ha, Bool.false_and])
      rw [ha, Bool.true_and]
      refine Ev.step (fun k => by simp only [spec_l17Tidy.l1]; rfl) (Ev.neg (by omega) ?_)
      rcases List.eq_nil_or_concat pre with rfl | ⟨pre', p, rfl⟩
      · refine Ev.pos rfl ?_
        have : adj ([] : List Ho).getLast? x = true := rfl
        rw [this, Bool.true_and]
        exact hi
      · have hq : pre'.length + 1 < l.length := by rw [List.concat_eq_append, List.length_append, List.length_singleton] at hlt; exact hlt
        have hw : wrap64 (((pre'.concat p).length : Int) - 1) = (pre'.length : Int) := by
          rw [List.concat_eq_append, List.length_append, List.length_singleton, wrap_id (by omega) (by omega)]
          omega
        have hrp : rd_T40 l (pre'.length : Int) = p := by
          rw [hl, List.concat_eq_append, List.append_assoc]
          exact rdH_at _ _ _
        have hla : adj (pre'.concat p).getLast? x = adjP p x := by rw [List.concat_eq_append, List.getLast?_concat]; rfl
        rw [hla]
        refine Ev.neg (by simp [List.concat_eq_append]; omega) ?_
        rw [hw]
        have hl' : (pre'.length : Int) < (l.length : Int) := by
          rw [List.concat_eq_append, List.length_append, List.length_singleton] at hlt
          omega
        refine Ev.pos (by omega) (Ev.pos hl' (Ev.pos (by omega) (Ev.pos (by omega) ?_)))
        rw [hrp, hr]
        unfold adjP
        by_cases h1 : p.f0 > x.f0
        · exact Ev.pos h1 (Ev.pure (by simp [h1]))
        refine Ev.neg h1 ?_
        by_cases h2 : p.f0 = x.f0
        · refine Ev.pos h2 ?_
          by_cases h3 : p.f2 ≥ x.f1
          · exact Ev.pos h3 (Ev.pure (by simp [h2, h3]))
          refine Ev.neg h3 ?_
          by_cases h4 : wrap64 (p.f2 + 1) = x.f1
          · refine Ev.pos h4 ?_
            by_cases h5 : (p.f3 == x.f3) = true
            · exact Ev.pos h5 (Ev.pure (by rw [h5]; simp [h2, h4]))
            · refine Ev.neg h5 (Ev.cast hi ?_)
              have h5' : (p.f3 == x.f3) = false := by simpa using h5
              have h3' : decide (p.f2 ≥ x.f1) = false := decide_eq_false h3
              rw [h5', h3']
              simp [h1]
          · refine Ev.neg h4 (Ev.cast hi ?_)
            have h3' : decide (p.f2 ≥ x.f1) = false := decide_eq_false h3
            have h4' : decide (wrap64 (p.f2 + 1) = x.f1) = false := decide_eq_false h4
            rw [h3', h4']
            simp [h1]
        · refine Ev.neg h2 (Ev.cast hi ?_)
          have h1' : decide (p.f0 > x.f0) = false := decide_eq_false h1
          have h2' : decide (p.f0 = x.f0) = false := decide_eq_false h2
          rw [h1', h2']
          simp
theorem specTidy (l : List Ho) (hn : l.length ≤ 1048576) : Ev (fun k => spec_l17Tidy.f k l) (tidyS [] none l) := by
  unfold spec_l17Tidy.f
  exact specTidy_l l hn l [] rfl
end Go.Proofs.Ytgjlbghjjjlhmaa.Q

/- Locks of records: HeldOk: the program's and the reference's answer alike, and what it says. -/
namespace Go.Proofs.Ytgjlbghjjjlhmaa.Q
open Go.RowKit Go.Proofs.YtgjlbghjjjlhmaaW.PrintWords Go.Proofs.YtgjlbghjjjlhmaaW.PrintLast Go.Proofs.YtgjlbghjjjlhmaaW.PrintMore Go.Proofs.Ytgjlbghjjjlhmaa.P
set_option linter.unusedVariables false
set_option linter.unusedSimpArgs false

def ordW (p : Option Ho) (y : Ho) : Bool := match p with
  | none => true
  | some p => !decide (p.f0 ≥ y.f0)
def waitsI (hs : List Ho) : Option Ho → List Ho → Bool
  | _, [] => true
  | p, y :: l => vH y && (!decide (((clI y hs).length : Int) = 0) && (ordW p y && waitsI hs (some y) l))
def waitsS (hs : List Ho) (rn : Ho → Bool) : Option Ho → List Ho → Bool
  | _, [] => true
  | p, y :: l => vH y && (ordW p y && (!decide (((who hs y).length : Int) = 0) && (!rn y && waitsS hs rn (some y) l)))
theorem waits_eq (hs : List Ho) (hr : ∀ y ∈ hs, 0 ≤ y.f0 ∧ y.f0 ≤ 3) (rn : Ho → Bool) : ∀ (l : List Ho) (p : Option Ho), (waitsI hs p l && !l.any rn) = waitsS hs rn p l
  | [], p => rfl
  | y :: l, p => by
    have ih := waits_eq hs hr rn l (some y)
    simp only [waitsI, waitsS, List.any_cons]
    rw [← ih, clI_who y hs hr]
    cases vH y <;> cases ordW p y <;> cases decide (((who hs y).length : Int) = 0) <;> cases rn y <;> simp
theorem implAll (hs ws : List Ho) (hn : hs.length ≤ 1048576) (hr : ∀ y ∈ hs, 0 ≤ y.f0 ∧ y.f0 ≤ 3) (rn : Ho → Bool) (hrn : ∀ y, Ev (fun k => impl_Held_round.bfs hs ws y.f0 k (who hs y) []) (rn y)) : ∀ l : List Ho, Ev (fun k => impl_Held_round.all k hs ws l) (l.any rn)
  | [] => Ev.now _
  | y :: l => by
    have hc := implClashes y hs ws hn
    rw [clI_who y hs hr] at hc
    simp only [impl_Held_round.all, List.any_cons]
    refine Ev.bind hc (Ev.bind (hrn y) ?_)
    cases hy : rn y with
    | true => exact Ev.pos rfl (Ev.now _)
    | false =>
      rw [Bool.false_or]
      exact Ev.neg (by simp) (implAll hs ws hn hr rn hrn l)
theorem last_wrap {pre' : List Ho} {p : Ho} {n : Nat} (h : (pre'.concat p).length < n) (hn : n ≤ 1048576) : wrap64 (((pre'.concat p).length : Int) - 1) = (pre'.length : Int) ∧ (pre'.length : Int) < (n : Int) := by
  rw [List.concat_eq_append, List.length_append, List.length_singleton] at *
  rw [wrap_id (by omega) (by omega)]
  omega
theorem last_rd {l pre' rest : List Ho} {p : Ho} (hl : l = pre'.concat p ++ rest) : rd_T40 l (pre'.length : Int) = p := by
  rw [hl, List.concat_eq_append, List.append_assoc]
  exact rdH_at _ _ _
theorem implHeld_l1 (hs ws : List Ho) (hn : hs.length ≤ 1048576) (hw : ws.length ≤ 1048576) {q : Bool} (hq : Ev (fun k => impl_Held_round.f k hs ws) q) : ∀ (rest pre : List Ho), ws = pre ++ rest →
    Ev (fun k => impl_HeldOk.l1 k ws (ws.length : Int) (pre.length : Int) hs ws) (waitsI hs pre.getLast? rest && !q) := by
  intro rest
  induction rest with
  | nil =>
    intro pre hl
    refine Ev.step (fun k => by simp only [impl_HeldOk.l1]; rfl) (Ev.neg (by rw [hl]; simp) ?_)
    exact Ev.bind hq (Ev.pure (by simp [waitsI]))
  | cons y rest ih =>
    intro pre hl
    have hlt : pre.length < ws.length := by rw [hl]; simp
    have hr : rd_T40 ws (pre.length : Int) = y := by rw [hl]; exact rdH_at _ _ _
    have hlen : ((pre ++ [y]).length : Int) = ((pre.length + 1 : Nat) : Int) := by simp
    have hx := lsucc_wrap hlt (by omega : ws.length ≤ 9223372036854775807)
    have hi := ih (pre ++ [y]) (by simp [hl])
    rw [List.getLast?_concat, hlen, ← hx] at hi
    simp only [waitsI]
    refine Ev.step (fun k => by simp only [impl_HeldOk.l1]; rfl) (Ev.pos (by omega) (Ev.pos (by omega) (Ev.pos (by omega) ?_)))
    rw [hr]
    refine Ev.bind (Ev.const (implHok y)) ?_
    cases hv : vH y with
    | false => exact Ev.neg (by simp) (Ev.now _)
    | true =>
      refine Ev.pos rfl (Ev.bind (implClashes y hs ws hn) ?_)
      rw [Bool.true_and]
      by_cases h0 : ((clI y hs).length : Int) = 0
      · exact Ev.pos h0 (Ev.pure (by simp [h0]))
      · refine Ev.neg h0 ?_
        have h0' : decide (((clI y hs).length : Int) = 0) = false := decide_eq_false h0
        rw [h0', Bool.not_false, Bool.true_and]
        rcases List.eq_nil_or_concat pre with rfl | ⟨pre', p, rfl⟩
        · refine Ev.neg (by simp) ?_
          have : ordW ([] : List Ho).getLast? y = true := rfl
          rw [this, Bool.true_and]
          exact hi
        · obtain ⟨w1, w2⟩ := last_wrap hlt hw
          have w3 := last_rd hl
          have hla : ordW (pre'.concat p).getLast? y = !decide (p.f0 ≥ y.f0) := by rw [List.concat_eq_append, List.getLast?_concat]; rfl
          rw [hla]
          refine Ev.pos (by rw [List.concat_eq_append, List.length_append, List.length_singleton]; omega) ?_
          rw [w1]
          refine Ev.pos (by omega) (Ev.pos w2 ?_)
          rw [w3]
          by_cases h1 : p.f0 ≥ y.f0
          · exact Ev.pos h1 (Ev.pure (by simp [h1]))
          · refine Ev.neg h1 (Ev.cast hi ?_)
            have h1' : decide (p.f0 ≥ y.f0) = false := decide_eq_false h1
            rw [h1']
            simp
theorem specHeld_l0 (hs ws : List Ho) (hn : hs.length ≤ 1048576) (hw : ws.length ≤ 1048576) (rn : Ho → Bool) (hrn : ∀ y, Ev (fun k => spec_l17Round.f k hs ws (who hs y) y.f0) (rn y)) : ∀ (rest pre : List Ho), ws = pre ++ rest →
    Ev (fun k => spec_HeldOk.l0 k (pre.length : Int) hs ws) (waitsS hs rn pre.getLast? rest) := by
  intro rest
  induction rest with
  | nil =>
    intro pre hl
    exact Ev.step (fun k => by simp only [spec_HeldOk.l0]; rfl) (Ev.neg (by rw [hl]; simp) (Ev.now _))
  | cons y rest ih =>
    intro pre hl
    have hlt : pre.length < ws.length := by rw [hl]; simp
    have hr : rd_T40 ws (pre.length : Int) = y := by rw [hl]; exact rdH_at _ _ _
    have hlen : ((pre ++ [y]).length : Int) = ((pre.length + 1 : Nat) : Int) := by simp
    have hx := lsucc_wrap hlt (by omega : ws.length ≤ 9223372036854775807)
    have hi := ih (pre ++ [y]) (by simp [hl])
    rw [List.getLast?_concat, hlen, ← hx] at hi
    have hj : Ev (fun k => spec_HeldOk.j1 k (pre.length : Int) false hs ws y.f0 y.f1 y.f2 y.f3) (!decide (((who hs y).length : Int) = 0) && (!rn y && waitsS hs rn (some y) rest)) := by
      refine Ev.step (fun k => by simp only [spec_HeldOk.j1]; rfl) (Ev.neg (by simp) (Ev.bind (specWho y hs hn) ?_))
      by_cases h0 : ((who hs y).length : Int) = 0
      · exact Ev.pos h0 (Ev.pure (by simp [h0]))
      · have h0' : decide (((who hs y).length : Int) = 0) = false := decide_eq_false h0
        rw [h0', Bool.not_false, Bool.true_and]
        refine Ev.neg h0 (Ev.bind (hrn y) ?_)
        cases rn y with
        | true => exact Ev.pos rfl (Ev.now _)
        | false =>
          rw [Bool.not_false, Bool.true_and]
          exact Ev.neg (by simp) hi
    have hbad : Ev (fun k => spec_HeldOk.j1 k (pre.length : Int) true hs ws y.f0 y.f1 y.f2 y.f3) false := by
      refine Ev.step (fun k => by simp only [spec_HeldOk.j1]; rfl) ?_
      exact Ev.pos (by trivial) (Ev.now _)
    simp only [waitsS]
    refine Ev.step (fun k => by simp only [spec_HeldOk.l0]; rfl) (Ev.pos (by omega) (Ev.pos (by omega) ?_))
    rw [hr]
    refine Ev.bind (Ev.const (specHok y)) ?_
    cases hv : vH y with
    | false => exact Ev.neg (by simp) hbad
    | true =>
      refine Ev.pos rfl ?_
      rw [Bool.true_and]
      rcases List.eq_nil_or_concat pre with rfl | ⟨pre', p, rfl⟩
      · refine Ev.neg (by simp) ?_
        have : ordW ([] : List Ho).getLast? y = true := rfl
        rw [this, Bool.true_and]
        exact hj
      · obtain ⟨w1, w2⟩ := last_wrap hlt hw
        have w3 := last_rd hl
        have hla : ordW (pre'.concat p).getLast? y = !decide (p.f0 ≥ y.f0) := by rw [List.concat_eq_append, List.getLast?_concat]; rfl
        rw [hla]
        refine Ev.pos (by rw [List.concat_eq_append, List.length_append, List.length_singleton]; omega) ?_
        rw [w1]
        refine Ev.pos (by omega) (Ev.pos w2 ?_)
        rw [w3]
        cases hd : decide (p.f0 ≥ y.f0) with
        | true => exact hbad
        | false =>
          rw [Bool.not_false, Bool.true_and]
          exact hj
theorem implHeld_l0 (hs ws : List Ho) (hn : hs.length ≤ 1048576) {r : Bool} : ∀ (rest pre : List Ho), hs = pre ++ rest → (∀ p, pre.getLast? = some p → vH p = true) →
    (tidyI hs pre.getLast? rest = true → Ev (fun k => impl_HeldOk.l1 k ws (ws.length : Int) 0 hs ws) r) → (tidyI hs pre.getLast? rest = false → r = false) →
    Ev (fun k => impl_HeldOk.l0 k hs (hs.length : Int) (pre.length : Int) hs ws) r := by
  intro rest
  induction rest with
  | nil =>
    intro pre hl _ h1 _
    exact Ev.step (fun k => by simp only [impl_HeldOk.l0]; rfl) (Ev.neg (by rw [hl]; simp) (h1 rfl))
  | cons x rest ih =>
    intro pre hl hp h1 h2
    have hlt : pre.length < hs.length := by rw [hl]; simp
    have hr : rd_T40 hs (pre.length : Int) = x := by rw [hl]; exact rdH_at _ _ _
    have hlen : ((pre ++ [x]).length : Int) = ((pre.length + 1 : Nat) : Int) := by simp
    have hx := lsucc_wrap hlt (by omega : hs.length ≤ 9223372036854775807)
    have hi := ih (pre ++ [x]) (by simp [hl])
    rw [List.getLast?_concat, hlen, ← hx] at hi
    have hT : tidyI hs pre.getLast? (x :: rest) = (vH x && (noCl hs x && (adj pre.getLast? x && tidyI hs (some x) rest))) := by
      unfold tidyI
      simp only [List.all_cons, adjL]
      cases vH x <;> cases noCl hs x <;> cases adj pre.getLast? x <;> cases (rest.all fun x => vH x && noCl hs x) <;> rfl
    rw [hT] at h1 h2
    have hbad : r = false → Ev (fun k => impl_HeldOk.j1 k (pre.length : Int) hs (hs.length : Int) (pre.length : Int) true hs ws x.f0 x.f1 x.f2 x.f3) r := fun e => by
      refine Ev.step (fun k => by simp only [impl_HeldOk.j1]; rfl) ?_
      exact Ev.pos (by trivial) (Ev.pure e.symm)
    refine Ev.step (fun k => by simp only [impl_HeldOk.l0]; rfl) (Ev.pos (by omega) (Ev.pos (by omega) (Ev.pos (by omega) ?_)))
    rw [hr]
    refine Ev.bind (Ev.const (implHok x)) ?_
    cases hv : vH x with
    | false =>
      rw [hv] at h2
      exact Ev.neg (by simp) (hbad (h2 rfl))
    | true =>
      rw [hv] at h1 h2
      simp only [Bool.true_and] at h1 h2
      refine Ev.pos rfl (Ev.bind (implClashes x hs ws hn) ?_)
      cases hc : noCl hs x with
      | false =>
        have hd : decide (((clI x hs).length : Int) > 0) = true := by
          refine decide_eq_true ?_
          rcases Nat.eq_zero_or_pos (clI x hs).length with h0 | h0
          · exfalso
            have := (clI_nil x hs).1 h0
            have h3 : noCl hs x = true := by
              unfold noCl
              rw [List.all_eq_true]
              intro y hy
              rw [this y hy]
              rfl
            rw [h3] at hc
            cases hc
          · omega
        rw [hc] at h2
        rw [hd]
        exact hbad (h2 rfl)
      | true =>
        have hd : decide (((clI x hs).length : Int) > 0) = false := by
          refine decide_eq_false ?_
          have h0 : (clI x hs).length = 0 := by
            rw [clI_nil]
            intro y hy
            have := List.all_eq_true.1 hc y hy
            simpa using this
          omega
        rw [hc] at h1 h2
        simp only [Bool.true_and] at h1 h2
        rw [hd]
        refine Ev.step (fun k => by simp only [impl_HeldOk.j1]; rfl) (Ev.neg (by simp) ?_)
        have hv1 : ∀ p, some x = some p → vH p = true := fun p e => by cases e; exact hv
        rcases List.eq_nil_or_concat pre with rfl | ⟨pre', p, rfl⟩
        · have : adj ([] : List Ho).getLast? x = true := rfl
          rw [this, Bool.true_and] at h1 h2
          exact Ev.pos rfl (hi hv1 h1 h2)
        · obtain ⟨w1, w2⟩ := last_wrap hlt hn
          have w3 := last_rd hl
          have hla : adj (pre'.concat p).getLast? x = adjP p x := by rw [List.concat_eq_append, List.getLast?_concat]; rfl
          have hvp : vH p = true := hp p (by rw [List.concat_eq_append, List.getLast?_concat])
          obtain ⟨_, _, _, g4, _⟩ := vH_rng hvp
          rw [hla] at h1 h2
          refine Ev.neg (by rw [List.concat_eq_append, List.length_append, List.length_singleton]; omega) ?_
          rw [w1]
          refine Ev.pos (by omega) (Ev.pos w2 ?_)
          rw [w3]
          unfold adjP at h1 h2
          by_cases c1 : p.f0 > x.f0
          · exact Ev.pos c1 (Ev.pure (h2 (by simp [c1])).symm)
          refine Ev.neg c1 ?_
          have c1' : decide (p.f0 > x.f0) = false := decide_eq_false c1
          rw [c1', Bool.false_or] at h1 h2
          by_cases c2 : p.f0 = x.f0
          · refine Ev.pos c2 ?_
            have c2' : decide (p.f0 = x.f0) = true := decide_eq_true c2
            rw [c2', Bool.true_and] at h1 h2
            by_cases c3 : p.f1 ≥ x.f1
            · have c4 : p.f2 ≥ x.f1 := by omega
              exact Ev.pos c3 (Ev.pure (h2 (by simp [c4])).symm)
            refine Ev.neg c3 ?_
            by_cases c4 : p.f2 ≥ x.f1
            · exact Ev.pos c4 (Ev.pure (h2 (by simp [c4])).symm)
            refine Ev.neg c4 ?_
            have c4' : decide (p.f2 ≥ x.f1) = false := decide_eq_false c4
            rw [c4', Bool.false_or] at h1 h2
            by_cases c5 : (p.f3 == x.f3) = true
            · refine Ev.pos c5 ?_
              rw [c5, Bool.and_true] at h1 h2
              by_cases c6 : wrap64 (p.f2 + 1) = x.f1
              · exact Ev.pos c6 (Ev.pure (h2 (by simp [c6])).symm)
              · have c6' : decide (wrap64 (p.f2 + 1) = x.f1) = false := decide_eq_false c6
                rw [c6', Bool.not_false, Bool.true_and] at h1 h2
                exact Ev.neg c6 (hi hv1 h1 h2)
            · have c5' : (p.f3 == x.f3) = false := by simpa using c5
              rw [c5', Bool.and_false, Bool.not_false, Bool.true_and] at h1 h2
              exact Ev.neg c5 (hi hv1 h1 h2)
          · have c2' : decide (p.f0 = x.f0) = false := decide_eq_false c2
            rw [c2', Bool.false_and, Bool.not_false, Bool.true_and] at h1 h2
            exact Ev.neg c2 (hi hv1 h1 h2)
/-- What a valid Held says of its holds. -/
structure Tidy (hs : List Ho) : Prop where
  rng : ∀ x ∈ hs, 0 ≤ x.f0 ∧ x.f0 ≤ 3 ∧ 0 ≤ x.f1 ∧ x.f1 ≤ x.f2 ∧ x.f2 ≤ 15
  apart : ∀ x ∈ hs, ∀ y ∈ hs, cl x y = false
  adj : adjL none hs = true
theorem tidy_of {hs : List Ho} (h : tidyI hs none hs = true) : Tidy hs := by
  unfold tidyI at h
  rw [Bool.and_eq_true, List.all_eq_true] at h
  obtain ⟨h1, h2⟩ := h
  refine ⟨fun x hx => ?_, fun x hx y hy => ?_, h2⟩
  · have := h1 x hx
    rw [Bool.and_eq_true] at this
    exact vH_rng this.1
  · have := h1 x hx
    rw [Bool.and_eq_true] at this
    have := List.all_eq_true.1 this.2 y hy
    simpa using this
theorem waitsS_ok (hs : List Ho) (rn : Ho → Bool) : ∀ (l : List Ho) (p : Option Ho) (m : Int), ((p = none ∧ m = -1) ∨ ∃ q, p = some q ∧ m = q.f0 ∧ m ≤ 3) → waitsS hs rn p l = true → (∀ y ∈ l, vH y = true) ∧ (l.length : Int) ≤ 3 - m
  | [], p, m, hp, h => ⟨fun _ hy => by simp at hy, by
    simp only [List.length_nil]
    rcases hp with ⟨_, h⟩ | ⟨q, _, _, h⟩ <;> omega⟩
  | y :: l, p, m, hp, h => by
    simp only [waitsS, Bool.and_eq_true] at h
    obtain ⟨hv, ho, _, _, hw⟩ := h
    have hr := vH_rng hv
    have ih := waitsS_ok hs rn l (some y) y.f0 (.inr ⟨y, rfl, rfl, hr.2.1⟩) hw
    have hm : m + 1 ≤ y.f0 := by
      rcases hp with ⟨rfl, h⟩ | ⟨q, rfl, h, _⟩
      · omega
      · simp only [ordW, Bool.not_eq_true', decide_eq_false_iff_not] at ho
        omega
    refine ⟨fun z hz => ?_, ?_⟩
    · rcases List.mem_cons.1 hz with rfl | hz
      · exact hv
      · exact ih.1 z hz
    · have h3 := ih.2
      simp only [List.length_cons]
      omega
/-- HeldOk: one answer; and where it is yes, the holds are tidy, the waits valid and few. -/
theorem heldOkW (hs ws : List Ho) (hn : hs.length ≤ 1048576) (hw : ws.length ≤ 1048576) : ∃ r, Ev (fun k => impl_HeldOk.f k hs ws) r ∧ Ev (fun k => spec_HeldOk.f k hs ws) r ∧ (r = true → Tidy hs ∧ (∀ y ∈ ws, vH y = true) ∧ ws.length ≤ 4) := by
  cases ht : tidyI hs none hs with
  | false =>
    refine ⟨false, ?_, ?_, fun e => by cases e⟩
    · unfold impl_HeldOk.f
      exact implHeld_l0 hs ws hn hs [] rfl (fun p e => by cases e) (fun e => by rw [show ([] : List Ho).getLast? = none from rfl, ht] at e; cases e) (fun _ => rfl)
    · unfold spec_HeldOk.f
      have h := specTidy hs hn
      rw [← tidy_eq, ht] at h
      exact Ev.bind h (Ev.neg (by simp) (Ev.now _))
  | true =>
    have hT := tidy_of ht
    have hr : ∀ y ∈ hs, 0 ≤ y.f0 ∧ y.f0 ≤ 3 := fun y hy => ⟨(hT.rng y hy).1, (hT.rng y hy).2.1⟩
    obtain ⟨rn, hrn⟩ := Classical.axiomOfChoice (rounds_ex hs ws hn hw hr)
    refine ⟨waitsS hs rn none ws, ?_, ?_, fun e => ⟨hT, (waitsS_ok hs rn ws none (-1) (.inl ⟨rfl, rfl⟩) e).1, by have := (waitsS_ok hs rn ws none (-1) (.inl ⟨rfl, rfl⟩) e).2; omega⟩⟩
    · unfold impl_HeldOk.f
      refine implHeld_l0 hs ws hn hs [] rfl (fun p e => by cases e) (fun _ => ?_) (fun e => by rw [show ([] : List Ho).getLast? = none from rfl, ht] at e; cases e)
      rw [← waits_eq hs hr rn ws none]
      exact implHeld_l1 hs ws hn hw (implAll hs ws hn hr rn (fun y => (hrn y).1) ws) ws [] rfl
    · unfold spec_HeldOk.f
      have h := specTidy hs hn
      rw [← tidy_eq, ht] at h
      exact Ev.bind h (Ev.pos rfl (specHeld_l0 hs ws hn hw rn (fun y => (hrn y).2) ws [] rfl))
theorem heldOk (hs ws : List Ho) (hn : hs.length ≤ 1048576) (hw : ws.length ≤ 1048576) : ∃ r, Ev (fun k => impl_HeldOk.f k hs ws) r ∧ Ev (fun k => spec_HeldOk.f k hs ws) r ∧ (r = true → Tidy hs) := by
  obtain ⟨r, h1, h2, h3⟩ := heldOkW hs ws hn hw
  exact ⟨r, h1, h2, fun e => (h3 e).1⟩
end Go.Proofs.Ytgjlbghjjjlhmaa.Q

/- Locks of records: what an owner holds of each byte. -/
namespace Go.Proofs.Ytgjlbghjjjlhmaa.Q
open Go.RowKit Go.Proofs.YtgjlbghjjjlhmaaW.PrintWords Go.Proofs.YtgjlbghjjjlhmaaW.PrintLast Go.Proofs.YtgjlbghjjjlhmaaW.PrintMore Go.Proofs.Ytgjlbghjjjlhmaa.P
set_option linter.unusedVariables false
set_option linter.unusedSimpArgs false

def mv (x : Ho) : Int := if x.f3 = true then 2 else 1
def cov (x : Ho) (o b : Int) : Prop := x.f0 = o ∧ x.f1 ≤ b ∧ b ≤ x.f2
instance (x : Ho) (o b : Int) : Decidable (cov x o b) := by unfold cov; exact inferInstance
def modeF (o b : Int) : Int → List Ho → Int
  | acc, [] => acc
  | acc, x :: l => modeF o b (if cov x o b then mv x else acc) l
def Rh (a b : Ho) : Prop := a.f0 < b.f0 ∨ (a.f0 = b.f0 ∧ a.f2 < b.f1)
theorem sorted_l : ∀ (l : List Ho) (p : Option Ho), (∀ x ∈ l, x.f1 ≤ x.f2 ∧ 0 ≤ x.f2 ∧ x.f2 ≤ 15) → (∀ q, p = some q → q.f1 ≤ q.f2 ∧ 0 ≤ q.f2 ∧ q.f2 ≤ 15) → adjL p l = true → l.Pairwise Rh ∧ ∀ q, p = some q → ∀ x ∈ l, Rh q x
  | [], p, _, _, _ => ⟨List.Pairwise.nil, fun q _ x hx => by cases hx⟩
  | x :: l, p, hv, hp, h => by
    simp only [adjL, Bool.and_eq_true] at h
    have hx := hv x List.mem_cons_self
    obtain ⟨h1, h2⟩ := sorted_l l (some x) (fun y hy => hv y (List.mem_cons_of_mem _ hy)) (fun q e => by cases e; exact hx) h.2
    refine ⟨List.pairwise_cons.2 ⟨h2 x rfl, h1⟩, fun q hq => ?_⟩
    subst hq
    have hqv := hp q rfl
    have hR : Rh q x := by
      have h3 : adjP q x = true := h.1
      unfold adjP at h3
      simp only [Bool.not_eq_true', Bool.or_eq_false_iff, Bool.and_eq_false_iff, decide_eq_false_iff_not] at h3
      obtain ⟨h4, h5⟩ := h3
      rcases h5 with h5 | ⟨h5, _⟩
      · exact .inl (by omega)
      · by_cases e : q.f0 = x.f0
        · exact .inr ⟨e, by omega⟩
        · exact .inl (by omega)
    intro y hy
    rcases List.mem_cons.1 hy with rfl | hy
    · exact hR
    · have h6 := h2 x rfl y hy
      unfold Rh at *
      omega
theorem Tidy.sorted {hs : List Ho} (h : Tidy hs) : hs.Pairwise Rh :=
  (sorted_l hs none (fun x hx => by have := h.rng x hx; omega) (fun q e => by cases e) h.adj).1
theorem modeF_none (o b : Int) : ∀ (l : List Ho) (acc : Int), (∀ x ∈ l, ¬ cov x o b) → modeF o b acc l = acc
  | [], acc, _ => rfl
  | x :: l, acc, h => by
    simp only [modeF]
    rw [if_neg (h x List.mem_cons_self)]
    exact modeF_none o b l acc (fun y hy => h y (List.mem_cons_of_mem _ hy))
theorem modeF_some (o b : Int) : ∀ (l : List Ho) (acc : Int), l.Pairwise Rh → ∀ x ∈ l, cov x o b → modeF o b acc l = mv x
  | [], acc, _, x, hx, _ => by cases hx
  | y :: l, acc, hp, x, hx, hc => by
    obtain ⟨h1, h2⟩ := List.pairwise_cons.1 hp
    simp only [modeF]
    rcases List.mem_cons.1 hx with e | hx'
    · subst e
      rw [if_pos hc]
      refine modeF_none o b l _ (fun z hz hcz => ?_)
      have := h1 z hz
      unfold Rh at this
      unfold cov at hc hcz
      omega
    · exact modeF_some o b l _ h2 x hx' hc
/-- One hold's bytes. -/
theorem modes_l1 (hs : List Ho) (hn : hs.length ≤ 1048576) (o : Int) (x : Ho) (i : Nat) (hi : i < hs.length) (hx : rd_T40 hs (i : Int) = x) (hv : 0 ≤ x.f1 ∧ x.f2 ≤ 15) {r : List Int} (m : Nat → Int) : ∀ (d : Nat) (out : List Int) (b : Int), 0 ≤ b → x.f1 ≤ b → b ≤ 16 → (16 - b).toNat = d → out.length = 16 →
    (∀ j : Nat, j < 16 → out.getD j 0 = if x.f0 = o ∧ x.f1 ≤ (j : Int) ∧ (j : Int) ≤ x.f2 ∧ (j : Int) < b then mv x else m j) →
    (∀ out' : List Int, out'.length = 16 → (∀ j : Nat, j < 16 → out'.getD j 0 = if cov x o (j : Int) then mv x else m j) → Ev (fun k => spec_l17Modes.l0 k hs o out' (wrap64 ((i : Int) + 1))) r) → (b > x.f2 ∨ b ≤ x.f2) → Ev (fun k => spec_l17Modes.l1 k hs o out (i : Int) b) r := by
  intro d
  induction d with
  | zero =>
    intro out b h0 h1 h2 hd hl ho hr _
    have hb : ¬ b ≤ x.f2 := by omega
    refine Ev.step (fun k => by simp only [spec_l17Modes.l1]; rfl) (Ev.pos (by omega) (Ev.pos (by omega) ?_))
    rw [hx]
    refine Ev.neg hb ?_
    refine Ev.step (fun k => by simp only [spec_l17Modes.j2]; rfl) ?_
    refine Ev.neg (by simp) (hr out hl (fun j hj => ?_))
    rw [ho j hj]
    by_cases hc : cov x o (j : Int)
    · rw [if_pos hc, if_pos ⟨hc.1, hc.2.1, hc.2.2, by have := hc.2.2; omega⟩]
    · rw [if_neg hc, if_neg (fun q => hc ⟨q.1, q.2.1, q.2.2.1⟩)]
  | succ d ih =>
    intro out b h0 h1 h2 hd hl ho hr _
    refine Ev.step (fun k => by simp only [spec_l17Modes.l1]; rfl) (Ev.pos (by omega) (Ev.pos (by omega) ?_))
    rw [hx]
    by_cases hb : b ≤ x.f2
    · refine Ev.pos hb ?_
      by_cases hown : x.f0 = o
      · have hob : (x.f0 == o) = true := beq_iff_eq.mpr hown
        rw [hob]
        refine Ev.step (fun k => by simp only [spec_l17Modes.j2]; rfl) ?_
        refine Ev.pos (by trivial) (Ev.pos h0 (Ev.pos (by omega) (Ev.bind (Ev.now _) (Ev.pos (by omega) (Ev.pos (by omega) ?_)))))
        rw [hx, wrap_id (n := b + 1) (by omega) (by omega)]
        obtain ⟨bn, rfl⟩ : ∃ bn : Nat, b = (bn : Int) := ⟨b.toNat, by omega⟩
        rw [Int.toNat_natCast]
        have key : ∀ q : List Int, q.length = 16 → (∀ j : Nat, j < 16 → q.getD j 0 = if j = bn then mv x else out.getD j 0) → Ev (fun k => spec_l17Modes.l1 k hs o q (i : Int) ((bn : Int) + 1)) r := fun q hq hqj => by
          refine ih q ((bn : Int) + 1) (by omega) (by omega) (by omega) (by omega) hq (fun j hj => ?_) hr (by omega)
          rw [hqj j hj, ho j hj]
          by_cases e : j = bn
          · rw [if_pos e, if_pos ⟨hown, by omega, by omega, by omega⟩]
          · rw [if_neg e]
            by_cases hc : x.f0 = o ∧ x.f1 ≤ (j : Int) ∧ (j : Int) ≤ x.f2 ∧ (j : Int) < (bn : Int)
            · rw [if_pos hc, if_pos ⟨hc.1, hc.2.1, hc.2.2.1, by omega⟩]
            · rw [if_neg hc, if_neg (fun q => hc ⟨q.1, q.2.1, q.2.2.1, by omega⟩)]
        have hset : ∀ (q : List Int) (v : Int) (j : Nat), q.length = 16 → j < 16 → (q.set bn v).getD j 0 = if j = bn then v else q.getD j 0 := by
          intro q v j hq hj
          simp only [List.getD_eq_getElem?_getD, List.getElem?_set]
          by_cases e : bn = j
          · subst e
            simp [hq, hj]
          · rw [if_neg e, if_neg (fun z => e z.symm)]
        by_cases hw : x.f3 = true
        · refine Ev.pos hw (key _ (by simpa using hl) (fun j hj => ?_))
          rw [hset _ _ j (by simpa using hl) hj, hset _ _ j hl hj]
          by_cases e : j = bn
          · rw [if_pos e, if_pos e]; unfold mv; rw [if_pos hw]
          · rw [if_neg e, if_neg e, if_neg e]
        · refine Ev.neg hw (key _ (by simpa using hl) (fun j hj => ?_))
          rw [hset _ _ j hl hj]
          by_cases e : j = bn
          · rw [if_pos e, if_pos e]; unfold mv; rw [if_neg hw]
          · rw [if_neg e, if_neg e]
      · have hob : (x.f0 == o) = false := beq_eq_false_iff_ne.mpr hown
        rw [hob]
        refine Ev.step (fun k => by simp only [spec_l17Modes.j2]; rfl) ?_
        refine Ev.neg (by simp) (hr out hl (fun j hj => ?_))
        rw [ho j hj, if_neg (fun q => hown q.1), if_neg (fun q => hown q.1)]
    · refine Ev.neg hb ?_
      refine Ev.step (fun k => by simp only [spec_l17Modes.j2]; rfl) ?_
      refine Ev.neg (by simp) (hr out hl (fun j hj => ?_))
      rw [ho j hj]
      by_cases hc : cov x o (j : Int)
      · rw [if_pos hc, if_pos ⟨hc.1, hc.2.1, hc.2.2, by have := hc.2.2; omega⟩]
      · rw [if_neg hc, if_neg (fun q => hc ⟨q.1, q.2.1, q.2.2.1⟩)]
theorem modeF_snoc (o b : Int) (x : Ho) : ∀ (l : List Ho) (acc : Int), modeF o b acc (l ++ [x]) = if cov x o b then mv x else modeF o b acc l
  | [], acc => rfl
  | y :: l, acc => by
    simp only [List.cons_append, modeF]
    exact modeF_snoc o b x l _
theorem modes_l (hs : List Ho) (hn : hs.length ≤ 1048576) (hv : ∀ x ∈ hs, 0 ≤ x.f1 ∧ x.f1 ≤ x.f2 ∧ x.f2 ≤ 15) (o : Int) : ∀ (rest pre : List Ho) (out : List Int), hs = pre ++ rest → out.length = 16 → (∀ j : Nat, j < 16 → out.getD j 0 = modeF o (j : Int) 0 pre) →
    ∃ out', Ev (fun k => spec_l17Modes.l0 k hs o out (pre.length : Int)) out' ∧ out'.length = 16 ∧ ∀ j : Nat, j < 16 → out'.getD j 0 = modeF o (j : Int) 0 hs := by
  intro rest
  induction rest with
  | nil =>
    intro pre out hl ho hj
    refine ⟨out, Ev.step (fun k => by simp only [spec_l17Modes.l0]; rfl) (Ev.neg (by rw [hl]; simp) (Ev.now _)), ho, fun j h => ?_⟩
    rw [hj j h, hl, List.append_nil]
  | cons x rest ih =>
    intro pre out hl ho hj
    have hlt : pre.length < hs.length := by rw [hl]; simp
    have hr : rd_T40 hs (pre.length : Int) = x := by rw [hl]; exact rdH_at _ _ _
    have hlen : ((pre ++ [x]).length : Int) = ((pre.length + 1 : Nat) : Int) := by simp
    have hx := lsucc_wrap hlt (by omega : hs.length ≤ 9223372036854775807)
    have hxm : x ∈ hs := by rw [hl]; simp
    have hvx := hv x hxm
    -- what follows is found behind one hold's bytes
    obtain ⟨out1, hl1, hj1⟩ : ∃ out1 : List Int, out1.length = 16 ∧ ∀ j : Nat, j < 16 → out1.getD j 0 = if cov x o (j : Int) then mv x else modeF o (j : Int) 0 pre :=
      ⟨(List.range 16).map fun (j : Nat) => if cov x o (j : Int) then mv x else modeF o (j : Int) 0 pre, by simp, fun j h => by simp [List.getD_eq_getElem?_getD, h]⟩
    obtain ⟨out', e, h1, h2⟩ := ih (pre ++ [x]) out1 (by simp [hl]) hl1 (fun j h => by rw [hj1 j h, modeF_snoc])
    refine ⟨out', ?_, h1, h2⟩
    refine Ev.step (fun k => by simp only [spec_l17Modes.l0]; rfl) (Ev.pos (by omega) (Ev.pos (by omega) ?_))
    rw [hr]
    refine modes_l1 hs hn o x pre.length hlt hr ⟨hvx.1, hvx.2.2⟩ (fun j => modeF o (j : Int) 0 pre) _ out x.f1 (by omega) (by omega) (by omega) rfl ho (fun j h => ?_) (fun out2 hl2 hj2 => ?_) (by omega)
    · rw [hj j h, if_neg (fun q => by omega)]
    · have : out2 = out1 := by
        apply List.ext_getElem (by omega)
        intro j g1 g2
        have a := hj2 j (by omega)
        have b := hj1 j (by omega)
        rw [List.getD_eq_getElem?_getD, List.getElem?_eq_getElem g1, Option.getD_some] at a
        rw [List.getD_eq_getElem?_getD, List.getElem?_eq_getElem g2, Option.getD_some] at b
        rw [a, b]
      rw [this, hx, ← hlen]
      exact e
theorem modes (hs : List Ho) (hn : hs.length ≤ 1048576) (hv : ∀ x ∈ hs, 0 ≤ x.f1 ∧ x.f1 ≤ x.f2 ∧ x.f2 ≤ 15) (o : Int) : ∃ out, Ev (fun k => spec_l17Modes.f k hs o) out ∧ out.length = 16 ∧ ∀ j : Nat, j < 16 → out.getD j 0 = modeF o (j : Int) 0 hs := by
  unfold spec_l17Modes.f
  obtain ⟨out, e, h1, h2⟩ := modes_l hs hn hv o hs [] (List.replicate 16 0) rfl (by simp) (fun j h => by rw [List.getD_eq_getElem?_getD, List.getElem?_replicate, if_pos h]; rfl)
  exact ⟨out, Ev.pos (by omega) e, h1, h2⟩
end Go.Proofs.Ytgjlbghjjjlhmaa.Q

/- Locks of records: who may, told by the holds. -/
namespace Go.Proofs.Ytgjlbghjjjlhmaa.Q
open Go.RowKit Go.Proofs.YtgjlbghjjjlhmaaW.PrintWords Go.Proofs.YtgjlbghjjjlhmaaW.PrintLast Go.Proofs.YtgjlbghjjjlhmaaW.PrintMore Go.Proofs.Ytgjlbghjjjlhmaa.P
set_option linter.unusedVariables false
set_option linter.unusedSimpArgs false

theorem hit_iff' (p b : Int) (wt : Bool) (x : Ho) : impl_HeldMay.hit p b wt x = true ↔ cov x p b ∧ (x.f3 = true ∨ wt = false) := by
  unfold impl_HeldMay.hit impl_HeldMay.inB cov
  simp only [Bool.and_eq_true, beq_iff_eq, Bool.or_eq_true, Bool.not_eq_true']
  constructor
  · rintro ⟨h1, h2, h3⟩
    split at h2
    · rename_i h4
      exact ⟨⟨h1, h4, of_decide_eq_true h2⟩, h3⟩
    · cases h2
  · rintro ⟨⟨h1, h2, h4⟩, h3⟩
    exact ⟨h1, by rw [if_pos h2]; exact decide_eq_true h4, h3⟩
theorem mayW (hs ws : List Ho) (hn : hs.length ≤ 1048576) (hw : ws.length ≤ 1048576) : ∃ r, Ev (fun k => impl_HeldOk.f k hs ws) r ∧ Ev (fun k => spec_HeldOk.f k hs ws) r ∧ (r = true → Tidy hs) ∧
    ∀ o b wt, Ev (fun k => impl_HeldMay.f k hs ws o b wt) (r && hs.any (impl_HeldMay.hit o b wt)) := by
  obtain ⟨r, e1, e2, h⟩ := heldOk hs ws hn hw
  exact ⟨r, e1, e2, h, fun o b wt => by unfold impl_HeldMay.f; exact Ev.bind e1 (Ev.now _)⟩
end Go.Proofs.Ytgjlbghjjjlhmaa.Q

/- Comparing and marking lists of ints, as the exact laws do. -/
namespace Go.Proofs.Ytgjlbghjjjlhmaa.Q
open Go.RowKit Go.Proofs.YtgjlbghjjjlhmaaW.PrintWords Go.Proofs.YtgjlbghjjjlhmaaW.PrintLast Go.Proofs.YtgjlbghjjjlhmaaW.PrintMore Go.Proofs.Ytgjlbghjjjlhmaa.P
theorem rdI_prefix (pre : List Int) (y : Int) (rest : List Int) : rd (pre ++ y :: rest) (pre.length : Int) = y := by
  unfold rd
  rw [Int.toNat_natCast]
  exact lgetD_prefix _ _ _ _
theorem eqIntS_l : ∀ (rest pre : List Int), (pre ++ rest).length ≤ 9223372036854775807 → Ev (fun k => laws_eqIntS.l0 k (pre ++ rest) (pre ++ rest) (pre.length : Int)) true := by
  intro rest
  induction rest with
  | nil =>
    intro pre hn
    exact Ev.step (fun k => by simp only [laws_eqIntS.l0]; rfl) (Ev.neg (by simp) (Ev.pure rfl))
  | cons y rest ih =>
    intro pre hn
    have hlt : pre.length < (pre ++ y :: rest).length := by simp
    refine Ev.step (fun k => by simp only [laws_eqIntS.l0]; rfl) ?_
    refine Ev.pos (by omega) (Ev.pos (by omega) (Ev.pos (by omega) (Ev.pos (by trivial) ?_)))
    rw [lsucc_wrap hlt hn]
    have h := ih (pre ++ [y]) (by simp at hn ⊢; omega)
    simp only [List.append_assoc, List.cons_append, List.nil_append, List.length_append, List.length_cons, List.length_nil] at h
    exact h
theorem eqIntS_self (l : List Int) (hn : l.length ≤ 9223372036854775807) : Ev (fun k => laws_eqIntS.f k l l) true := by
  unfold laws_eqIntS.f
  exact Ev.pos rfl (eqIntS_l l [] hn)
def markI : Nat → Int → List Int
  | 0, _ => []
  | d + 1, x => x :: markI d (x + 1)
theorem markI_length : ∀ (d : Nat) (x : Int), (markI d x).length = d
  | 0, _ => rfl
  | d + 1, x => by simp [markI, markI_length d]
theorem markIntS_l : ∀ (rest pre : List Int) (x : Int), 0 ≤ x → x + rest.length ≤ 4611686018427387904 → (pre ++ rest).length ≤ 9223372036854775807 → Ev (fun k => laws_markIntS.l0 k (pre ++ rest) x (pre.length : Int)) (x + rest.length, pre ++ markI rest.length x) := by
  intro rest
  induction rest with
  | nil =>
    intro pre x _ _ hn
    exact Ev.step (fun k => by simp only [laws_markIntS.l0]; rfl) (Ev.neg (by simp) (Ev.pure (by simp [markI])))
  | cons y rest ih =>
    intro pre x h0 h1 hn
    have hlt : pre.length < (pre ++ y :: rest).length := by simp
    simp only [List.length_cons] at h1
    refine Ev.step (fun k => by simp only [laws_markIntS.l0]; rfl) ?_
    refine Ev.pos (by omega) (Ev.pos (by omega) ?_)
    rw [Int.toNat_natCast, lset_prefix, lsucc_wrap hlt hn, wrap_id (n := x + 1) (by omega) (by omega)]
    have h := ih (pre ++ [x]) (x + 1) (by omega) (by omega) (by simp at hn ⊢; omega)
    simp only [List.append_assoc, List.cons_append, List.nil_append, List.length_append, List.length_cons, List.length_nil] at h
    refine Ev.cast h ?_
    simp only [List.length_cons, markI]
    refine Prod.ext ?_ rfl
    show x + 1 + (rest.length : Int) = x + ((rest.length + 1 : Nat) : Int)
    omega
theorem heldIntS_l : ∀ (d : Nat) (pre : List Int) (x : Int), 0 ≤ x → x + d ≤ 4611686018427387904 → pre.length + d ≤ 9223372036854775807 → Ev (fun k => laws_heldIntS.l0 k (pre ++ markI d x) x (pre.length : Int)) (x + d) := by
  intro d
  induction d with
  | zero =>
    intro pre x _ _ hn
    exact Ev.step (fun k => by simp only [laws_heldIntS.l0]; rfl) (Ev.neg (by simp [markI]) (Ev.pure (by simp)))
  | succ d ih =>
    intro pre x h0 h1 hn
    refine Ev.step (fun k => by simp only [laws_heldIntS.l0]; rfl) ?_
    refine Ev.pos (by simp [markI]; omega) (Ev.pos (by omega) ?_)
    have e : rd (pre ++ markI (d + 1) x) (pre.length : Int) = x := rdI_prefix _ _ _
    rw [e, wrap_id (n := (pre.length : Int) + 1) (by omega) (by omega), wrap_id (n := x + 1) (by omega) (by omega)]
    refine Ev.pos rfl ?_
    have h := ih (pre ++ [x]) (x + 1) (by omega) (by omega) (by simp; omega)
    simp only [List.append_assoc, List.cons_append, List.nil_append, List.length_append, List.length_cons, List.length_nil] at h
    refine Ev.cast h ?_
    omega
/-- Marked, a list of ints is held. -/
theorem markIntS_held (l : List Int) (x : Int) (h0 : 0 ≤ x) (h1 : x + l.length ≤ 4611686018427387904) : ∃ l' : List Int, Ev (fun k => laws_markIntS.f k l x) (x + l.length, l') ∧ Ev (fun k => laws_heldIntS.f k l' x) (x + l.length) ∧ l'.length = l.length :=
  ⟨markI l.length x, markIntS_l l [] x h0 h1 (by simp; omega), heldIntS_l l.length [] x h0 h1 (by simp; omega), markI_length _ _⟩
end Go.Proofs.Ytgjlbghjjjlhmaa.Q

/- Locks of records: what the exact laws' own functions answer (copying, comparing, sizing, marking). -/
namespace Go.Proofs.Ytgjlbghjjjlhmaa.Q
open Go.RowKit Go.Proofs.YtgjlbghjjjlhmaaW.PrintWords Go.Proofs.YtgjlbghjjjlhmaaW.PrintLast Go.Proofs.YtgjlbghjjjlhmaaW.PrintMore Go.Proofs.Ytgjlbghjjjlhmaa.P
set_option linter.unusedVariables false
set_option linter.unusedSimpArgs false

def toHd (x : S36) : Ho := ⟨x.f0, x.f1, x.f2, x.f3⟩
theorem toHoldS_ev (l : List S36) (hn : l.length ≤ 1048576) : Ev (fun k => laws_toHoldS.f k l) (l.map toHd) := by
  unfold laws_toHoldS.f
  refine Ev.pos (by omega) (Ev.pos (by omega) ?_)
  exact mapLoop (L := laws_toHoldS.l0) (z := z36) (conv := fun k x => laws_toHold.f x.f0 x.f1 x.f2 x.f3) (mkb := fun b => (⟨b.1, b.2.1, b.2.2.1, b.2.2.2⟩ : Ho)) (by intro k x0 x3 x4; simp only [laws_toHoldS.l0]; rfl) (fun x => (x.f0, x.f1, x.f2, x.f3)) l (by omega) (fun x _ => Ev.now _) _
theorem toHeld_ev (l m : List S36) (hn : l.length ≤ 1048576) (hm : m.length ≤ 1048576) : Ev (fun k => laws_toHeld.f k l m) (l.map toHd, m.map toHd) := by
  unfold laws_toHeld.f
  exact Ev.bind (toHoldS_ev l hn) (Ev.bind (toHoldS_ev m hm) (Ev.now _))
theorem eqHold_self (x : Ho) : laws_eqHold.f x.f0 x.f1 x.f2 x.f3 x.f0 x.f1 x.f2 x.f3 = some true := by
  unfold laws_eqHold.f
  simp
theorem eqHoldS_self (l : List Ho) (hn : l.length ≤ 9223372036854775807) : Ev (fun k => laws_eqHoldS.f k l l) true := by
  unfold laws_eqHoldS.f
  refine Ev.pos rfl ?_
  exact eqLoop (L := laws_eqHoldS.l0) (z := z40) (cmp := fun k x y => laws_eqHold.f x.f0 x.f1 x.f2 x.f3 y.f0 y.f1 y.f2 y.f3) (by intro k x0 x3 x4; simp only [laws_eqHoldS.l0]; rfl) l (by omega) (fun x _ => Ev.const (eqHold_self x))
theorem eqHeld_self (l m : List Ho) (hn : l.length ≤ 9223372036854775807) (hm : m.length ≤ 9223372036854775807) : Ev (fun k => laws_eqHeld.f k l m l m) true := by
  unfold laws_eqHeld.f
  exact Ev.bind (eqHoldS_self l hn) (Ev.pos rfl (Ev.bind (eqHoldS_self m hm) (Ev.pos rfl (Ev.now _))))
theorem szHeld_eq (l m : List S36) (hl : l.length ≤ 9223372036854775807) (hm : m.length ≤ 9223372036854775807) : ∃ r : Int, laws_szHeld.f l m 1048576 = some r ∧ (¬ r < 0 → l.length ≤ 1048576 ∧ m.length ≤ 1048576) := by
  unfold laws_szHeld.f laws_szHoldS.f
  rw [wrap_id (n := 1048576 - (l.length : Int)) (by omega) (by omega)]
  by_cases h : (1048576 : Int) - (l.length : Int) < 0
  · rw [if_pos h]
    exact ⟨-1, rfl, by omega⟩
  · rw [if_neg h]
    simp only [Option.bind_some]
    rw [if_neg h, wrap_id (n := 1048576 - (l.length : Int) - (m.length : Int)) (by omega) (by omega)]
    by_cases h2 : (1048576 : Int) - (l.length : Int) - (m.length : Int) < 0
    · rw [if_pos h2]
      exact ⟨-1, rfl, by omega⟩
    · rw [if_neg h2]
      simp only [Option.bind_some]
      rw [if_neg h2]
      exact ⟨_, rfl, fun _ => by omega⟩
theorem markHoldS_l : ∀ (d i : Nat) (l : List Ho) (a : Int), l.length = i + d → l.length ≤ 1048576 → 0 ≤ a → a ≤ 1000000000000 + 4 * (i : Int) → ∃ l', Ev (fun k => laws_markHoldS.l0 k l a (i : Int)) (a + 4 * (d : Int), l') ∧ l'.length = l.length := by
  intro d
  induction d with
  | zero =>
    intro i l a hl hn h0 h1
    refine ⟨l, Ev.step (fun k => by simp only [laws_markHoldS.l0]; rfl) (Ev.neg (by omega) (Ev.pure ?_)), rfl⟩
    simp
  | succ d ih =>
    intro i l a hl hn h0 h1
    have w1 : wrap64 (a + 1) = a + 1 := wrap_id (by omega) (by omega)
    have w2 : wrap64 (a + 1 + 1) = a + 1 + 1 := wrap_id (by omega) (by omega)
    have w3 : wrap64 (a + 1 + 1 + 1) = a + 1 + 1 + 1 := wrap_id (by omega) (by omega)
    have w4 : wrap64 (a + 1 + 1 + 1 + 1) = a + 1 + 1 + 1 + 1 := wrap_id (by omega) (by omega)
    have w5 : wrap64 ((i : Int) + 1) = ((i + 1 : Nat) : Int) := lsucc_wrap (n := l.length) (by omega) (by omega)
    have key : ∀ q : List Ho, q.length = l.length → ∃ l', Ev (fun k => laws_markHoldS.l0 k q (a + 1 + 1 + 1 + 1) ((i + 1 : Nat) : Int)) (a + 4 * ((d + 1 : Nat) : Int), l') ∧ l'.length = l.length := fun q hq => by
      obtain ⟨l', e, hl'⟩ := ih (i + 1) q (a + 1 + 1 + 1 + 1) (by omega) (by omega) (by omega) (by omega)
      refine ⟨l', Ev.cast e ?_, by omega⟩
      refine Prod.ext ?_ rfl
      show a + 1 + 1 + 1 + 1 + 4 * (d : Int) = a + 4 * ((d + 1 : Nat) : Int)
      omega
    obtain ⟨l', e, hl'⟩ := key ((((l.set i (⟨a, (rd_T40 l i).f1, (rd_T40 l i).f2, (rd_T40 l i).f3⟩ : Ho)).set i _).set i _).set i _) (by simp)
    refine ⟨l', Ev.step (fun k => by simp only [laws_markHoldS.l0]; rfl) (Ev.pos (by omega) (Ev.pos (by omega) ?_)), hl'⟩
    rw [w1, w2, w3, w4, w5, Int.toNat_natCast]
    exact Ev.bind (Ev.now _) (Ev.bind (Ev.now _) (Ev.bind (Ev.now _) e))
theorem markHeld_ev (l m : List Ho) (hn : l.length ≤ 1048576) (hm : m.length ≤ 1048576) : ∃ (r : Int) (l' m' : List Ho), Ev (fun k => laws_markHeld.f k l m 1) (r, l', m') ∧ 0 ≤ r := by
  obtain ⟨l', e1, _⟩ := markHoldS_l l.length 0 l 1 (by omega) hn (by omega) (by omega)
  obtain ⟨m', e2, _⟩ := markHoldS_l m.length 0 m (1 + 4 * (l.length : Int)) (by omega) hm (by omega) (by omega)
  refine ⟨1 + 4 * (l.length : Int) + 4 * (m.length : Int), l', m', ?_, by omega⟩
  unfold laws_markHeld.f laws_markHoldS.f
  exact Ev.bind e1 (Ev.bind e2 (Ev.now _))
end Go.Proofs.Ytgjlbghjjjlhmaa.Q

/- Locks of records: the owners of each byte, told twice. -/
namespace Go.Proofs.Ytgjlbghjjjlhmaa.Q
open Go.RowKit Go.Proofs.YtgjlbghjjjlhmaaW.PrintWords Go.Proofs.YtgjlbghjjjlhmaaW.PrintLast Go.Proofs.YtgjlbghjjjlhmaaW.PrintMore Go.Proofs.Ytgjlbghjjjlhmaa.P
set_option linter.unusedVariables false
set_option linter.unusedSimpArgs false

def covB (b : Int) (x : Ho) : Bool := decide (x.f1 ≤ b) && decide (b ≤ x.f2)
theorem covB_iff (b : Int) (x : Ho) : covB b x = true ↔ x.f1 ≤ b ∧ b ≤ x.f2 := by unfold covB; rw [Bool.and_eq_true, decide_eq_true_eq, decide_eq_true_eq]
def own (hs : List Ho) (b : Int) : List Int := (hs.filter (covB b)).map (·.f0)
def outF (hs : List Ho) : List (List Int) := (List.range 16).map fun (j : Nat) => own hs (j : Int)
theorem outF_len (hs : List Ho) : (outF hs).length = 16 := by simp [outF]
theorem outF_at (hs : List Ho) {j : Nat} (h : j < 16) : (outF hs).getD j [] = own hs (j : Int) := by
  simp [outF, List.getD_eq_getElem?_getD, h]
theorem outF_ext (hs : List Ho) {o : List (List Int)} (hl : o.length = 16) (h : ∀ j, j < 16 → o.getD j [] = own hs (j : Int)) : o = outF hs := by
  apply List.ext_getElem (by rw [hl, outF_len])
  intro j g1 g2
  have a := h j (by omega)
  have b := outF_at hs (j := j) (by omega)
  rw [List.getD_eq_getElem?_getD, List.getElem?_eq_getElem g1, Option.getD_some] at a
  rw [List.getD_eq_getElem?_getD, List.getElem?_eq_getElem g2, Option.getD_some] at b
  rw [a, b]
theorem own_len (hs : List Ho) (b : Int) : (own hs b).length ≤ hs.length := by
  unfold own
  rw [List.length_map]
  exact List.length_filter_le _ _
theorem own_snoc (pre : List Ho) (x : Ho) (b : Int) : own (pre ++ [x]) b = if covB b x = true then own pre b ++ [x.f0] else own pre b := by
  unfold own
  rw [List.filter_append, List.map_append]
  by_cases h : covB b x = true
  · rw [if_pos h, List.filter_cons_of_pos h]; rfl
  · rw [if_neg h, List.filter_cons_of_neg h]; simp
theorem own_mem (hs : List Ho) (b o : Int) : o ∈ own hs b ↔ ∃ x ∈ hs, cov x o b := by
  unfold own cov
  rw [List.mem_map]
  constructor
  · rintro ⟨x, hx, h⟩
    obtain ⟨h1, h2⟩ := List.mem_filter.1 hx
    exact ⟨x, h1, h, (covB_iff b x).1 h2⟩
  · rintro ⟨x, hx, h, h2⟩
    exact ⟨x, List.mem_filter.2 ⟨hx, (covB_iff b x).2 h2⟩, h⟩
theorem own_sorted {hs : List Ho} (T : Tidy hs) (b : Int) : (own hs b).Pairwise (· < ·) := by
  unfold own
  rw [List.pairwise_map]
  refine (List.Pairwise.filter _ T.sorted).imp_of_mem ?_
  intro x y hx hy h
  have h1 := (covB_iff b x).1 (List.mem_filter.1 hx).2
  have h2 := (covB_iff b y).1 (List.mem_filter.1 hy).2
  unfold Rh at h
  omega
theorem implB_l1 (hs : List Ho) (n i : Int) (x : Ho) (h0 : 0 ≤ x.f1) (h2 : x.f2 ≤ 15) {r : List (List Int) × Bool} : ∀ (d : Nat) (out : List (List Int)) (b : Int), 0 ≤ b → (x.f2 + 1 - b).toNat = d → out.length = 16 → (∀ j : Nat, b ≤ (j : Int) → (out.getD j []).length ≤ 2000000) →
    (∀ out' : List (List Int), out'.length = 16 → (∀ j : Nat, j < 16 → out'.getD j [] = if b ≤ (j : Int) ∧ (j : Int) ≤ x.f2 then out.getD j [] ++ [x.f0] else out.getD j []) → Ev (fun k => impl_HeldBytes.l0 k out' hs n (wrap64 (i + 1))) r) →
    Ev (fun k => impl_HeldBytes.l1 k out b hs n i x.f0 x.f1 x.f2 x.f3) r := by
  intro d
  induction d with
  | zero =>
    intro out b hb hd hl _ next
    refine Ev.step (fun k => by simp only [impl_HeldBytes.l1]; rfl) ?_
    exact Ev.neg (by omega) (next out hl (fun j _ => by rw [if_neg (by omega)]))
  | succ d ih =>
    intro out b hb hd hl hs' next
    have hle : b ≤ x.f2 := by omega
    obtain ⟨m, rfl⟩ : ∃ m : Nat, b = (m : Int) := ⟨b.toNat, by omega⟩
    have hw : wrap64 ((m : Int) + 1) = ((m + 1 : Nat) : Int) := by rw [wrap_id (by omega) (by omega)]; omega
    refine Ev.step (fun k => by simp only [impl_HeldBytes.l1]; rfl) ?_
    refine Ev.pos hle (Ev.pos hb (Ev.pos (by omega) ?_))
    have hrd : rd_L11 out (m : Int) = out.getD m [] := by unfold rd_L11; rw [Int.toNat_natCast]
    rw [hrd, Int.toNat_natCast, hw]
    have hlm := hs' m (by omega)
    refine Ev.pos (by omega) ?_
    have hset : ∀ j : Nat, j < 16 → (out.set m (out.getD m [] ++ [x.f0])).getD j [] = if j = m then out.getD m [] ++ [x.f0] else out.getD j [] := by
      intro j hj
      rw [List.getD_eq_getElem?_getD, List.getElem?_set]
      by_cases h : m = j
      · subst h
        rw [if_pos rfl, if_pos rfl, if_pos (by omega)]
        rfl
      · rw [if_neg h, if_neg (fun e => h e.symm), List.getD_eq_getElem?_getD]
    refine ih (out.set m (out.getD m [] ++ [x.f0])) ((m + 1 : Nat) : Int) (by omega) (by omega) (by simpa using hl) (fun j hj => ?_) (fun out' hl' h' => next out' hl' (fun j hj => ?_))
    · by_cases h16 : j < 16
      · rw [hset j h16, if_neg (by omega)]
        exact hs' j (by omega)
      · rw [List.getD_eq_getElem?_getD, List.getElem?_eq_none (by simp; omega)]
        simp
    · rw [h' j hj, hset j hj]
      by_cases e : j = m
      · subst e
        rw [if_pos rfl, if_neg (by omega), if_pos ⟨by omega, hle⟩]
      · rw [if_neg e]
        by_cases c : (m : Int) ≤ (j : Int) ∧ (j : Int) ≤ x.f2
        · rw [if_pos c, if_pos (by omega)]
        · rw [if_neg c, if_neg (by omega)]
theorem implB_l0 (hs : List Ho) (T : Tidy hs) (hn : hs.length ≤ 1048576) : ∀ (rest pre : List Ho), hs = pre ++ rest → Ev (fun k => impl_HeldBytes.l0 k (outF pre) hs (hs.length : Int) (pre.length : Int)) (outF hs, true) := by
  intro rest
  induction rest with
  | nil =>
    intro pre hp
    refine Ev.step (fun k => by simp only [impl_HeldBytes.l0]; rfl) ?_
    exact Ev.neg (by rw [hp]; simp) (Ev.pure (by rw [hp, List.append_nil]))
  | cons x rest ih =>
    intro pre hp
    have hlt : pre.length < hs.length := by rw [hp]; simp
    have hr : rd_T40 hs (pre.length : Int) = x := by rw [hp]; exact rdH_at _ _ _
    have hx := T.rng x (by rw [hp]; simp)
    have hw : wrap64 ((pre.length : Int) + 1) = ((pre ++ [x]).length : Int) := by rw [wrap_id (by omega) (by omega)]; simp
    refine Ev.step (fun k => by simp only [impl_HeldBytes.l0]; rfl) ?_
    refine Ev.pos (by omega) (Ev.pos (by omega) (Ev.pos (by omega) ?_))
    rw [hr]
    refine implB_l1 hs _ _ x (by omega) (by omega) _ (outF pre) x.f1 (by omega) rfl (outF_len pre) (fun j _ => ?_) (fun out' hl' h' => ?_)
    · by_cases h16 : j < 16
      · rw [outF_at pre h16]
        have := own_len pre (j : Int)
        omega
      · rw [List.getD_eq_getElem?_getD, List.getElem?_eq_none (by rw [outF_len]; omega)]
        simp
    · have he : out' = outF (pre ++ [x]) := outF_ext _ hl' (fun j hj => by
        rw [h' j hj, own_snoc, outF_at pre hj]
        by_cases c : x.f1 ≤ (j : Int) ∧ (j : Int) ≤ x.f2
        · rw [if_pos c, if_pos ((covB_iff _ x).2 c)]
        · rw [if_neg c, if_neg (fun e => c ((covB_iff _ x).1 e))])
      rw [he, hw]
      exact ih (pre ++ [x]) (by simp [hp])
-- the reference's
def inB (hs : List Ho) (b o : Int) : List Int := if modeF o b 0 hs > 0 then [o] else []
def own4 (hs : List Ho) (b : Int) : List Int := ((([] ++ inB hs b 0) ++ inB hs b 1) ++ inB hs b 2) ++ inB hs b 3
theorem modeF_pos {hs : List Ho} (T : Tidy hs) (o b : Int) : modeF o b 0 hs > 0 ↔ ∃ x ∈ hs, cov x o b := by
  constructor
  · intro h
    apply Classical.byContradiction
    intro hc
    rw [modeF_none o b hs 0 (fun x hx h => hc ⟨x, hx, h⟩)] at h
    omega
  · rintro ⟨x, hx, h⟩
    rw [modeF_some o b hs 0 T.sorted x hx h]
    unfold mv
    split <;> omega
theorem own4_eq {hs : List Ho} (T : Tidy hs) (b : Int) : own4 hs b = own hs b := by
  have s1 : (own4 hs b).Pairwise (· < ·) := by
    unfold own4 inB
    split <;> split <;> split <;> split <;> decide
  have s2 := own_sorted T b
  have hm : ∀ o, o ∈ own4 hs b ↔ o ∈ own hs b := by
    intro o
    have h4 : o ∈ own4 hs b ↔ (o = 0 ∨ o = 1 ∨ o = 2 ∨ o = 3) ∧ modeF o b 0 hs > 0 := by
      unfold own4 inB
      simp only [List.mem_append, List.nil_append]
      constructor
      · rintro (((h | h) | h) | h) <;> (split at h) <;> simp at h <;> subst h <;> (refine ⟨by omega, ?_⟩; assumption)
      · rintro ⟨rfl | rfl | rfl | rfl, h⟩
        · exact .inl (.inl (.inl (by rw [if_pos h]; simp)))
        · exact .inl (.inl (.inr (by rw [if_pos h]; simp)))
        · exact .inl (.inr (by rw [if_pos h]; simp))
        · exact .inr (by rw [if_pos h]; simp)
    rw [h4, own_mem, modeF_pos T]
    constructor
    · exact fun h => h.2
    · rintro ⟨x, hx, h⟩
      have := T.rng x hx
      refine ⟨?_, x, hx, h⟩
      unfold cov at h
      omega
  have n1 : (own4 hs b).Nodup := s1.imp (fun h => by omega)
  have n2 : (own hs b).Nodup := s2.imp (fun h => by omega)
  have hp : (own4 hs b).Perm (own hs b) := (List.perm_ext_iff_of_nodup n1 n2).2 hm
  exact hp.eq_of_pairwise (fun a b _ _ h1 h2 => by omega) s1 s2
theorem specB_step (hs ws : List Ho) (T : Tidy hs) (hn : hs.length ≤ 1048576) (x4 : List (List Int)) (b n : Nat) (hb : b < 16) (h4 : n < 4) (acc : List Int) (ha : acc.length ≤ 4) {r : List (List Int) × Bool}
    (next : Ev (fun k => spec_HeldBytes.l1 k x4 (b : Int) (acc ++ inB hs (b : Int) (n : Int)) ((n + 1 : Nat) : Int) hs ws) r) : Ev (fun k => spec_HeldBytes.l1 k x4 (b : Int) acc (n : Int) hs ws) r := by
  have hw : wrap64 ((n : Int) + 1) = ((n + 1 : Nat) : Int) := by rw [wrap_id (by omega) (by omega)]; omega
  obtain ⟨out, em, hl, hj⟩ := modes hs hn (fun x hx => by have := T.rng x hx; omega) (n : Int)
  have hrd : rd out (b : Int) = modeF (n : Int) (b : Int) 0 hs := by
    unfold rd
    rw [Int.toNat_natCast]
    exact hj b hb
  refine Ev.step (fun k => by simp only [spec_HeldBytes.l1]; rfl) ?_
  refine Ev.pos (by omega) (Ev.bind em (Ev.pos (by omega) (Ev.pos (by omega) ?_)))
  rw [hrd, hw]
  unfold inB at next
  by_cases h : modeF (n : Int) (b : Int) 0 hs > 0
  · rw [if_pos h] at next
    exact Ev.pos h (Ev.pos (by omega) next)
  · rw [if_neg h, List.append_nil] at next
    exact Ev.neg h next
theorem inB_le (hs : List Ho) (b o : Int) : (inB hs b o).length ≤ 1 := by
  unfold inB
  split <;> simp
theorem specB_l0 (hs ws : List Ho) (T : Tidy hs) (hn : hs.length ≤ 1048576) : ∀ (d n : Nat), n + d = 16 → Ev (fun k => spec_HeldBytes.l0 k ((List.range n).map fun (j : Nat) => own hs (j : Int)) (n : Int) hs ws) (outF hs, true) := by
  intro d
  induction d with
  | zero =>
    intro n hd
    obtain rfl : n = 16 := by omega
    refine Ev.step (fun k => by simp only [spec_HeldBytes.l0]; rfl) ?_
    exact Ev.neg (by omega) (Ev.pure rfl)
  | succ d ih =>
    intro n hd
    have hw : wrap64 ((n : Int) + 1) = ((n + 1 : Nat) : Int) := by rw [wrap_id (by omega) (by omega)]; omega
    have hi := ih (n + 1) (by omega)
    rw [List.range_succ, List.map_append, List.map_cons, List.map_nil, ← own4_eq T, ← hw] at hi
    refine Ev.step (fun k => by simp only [spec_HeldBytes.l0]; rfl) ?_
    refine Ev.pos (by omega) ?_
    have a0 := inB_le hs (n : Int) 0
    have a1 := inB_le hs (n : Int) 1
    have a2 := inB_le hs (n : Int) 2
    have a3 := inB_le hs (n : Int) 3
    have e := specB_step hs ws T hn ((List.range n).map fun (j : Nat) => own hs (j : Int)) n 0 (by omega) (by omega) [] (by simp) (r := (outF hs, true))
      (specB_step hs ws T hn _ n 1 (by omega) (by omega) ([] ++ inB hs (n : Int) 0) (by simp; omega)
        (specB_step hs ws T hn _ n 2 (by omega) (by omega) (([] ++ inB hs (n : Int) 0) ++ inB hs (n : Int) 1) (by simp; omega)
          (specB_step hs ws T hn _ n 3 (by omega) (by omega) ((([] ++ inB hs (n : Int) 0) ++ inB hs (n : Int) 1) ++ inB hs (n : Int) 2) (by simp; omega)
            (by
              refine Ev.step (fun k => by simp only [spec_HeldBytes.l1]; rfl) ?_
              exact Ev.neg (by omega) (Ev.pos (by simp; omega) hi)))))
    exact e
theorem bytesEv (hs ws : List Ho) (hn : hs.length ≤ 1048576) (hw : ws.length ≤ 1048576) : ∃ r, (r = true → Tidy hs) ∧ Ev (fun k => impl_HeldBytes.f k hs ws) (if r = true then (outF hs, true) else ([], false)) ∧ Ev (fun k => spec_HeldBytes.f k hs ws) (if r = true then (outF hs, true) else ([], false)) ∧ ∀ o b wt, Ev (fun k => impl_HeldMay.f k hs ws o b wt) (r && hs.any (impl_HeldMay.hit o b wt)) := by
  obtain ⟨r, e1, e2, hT, hm⟩ := mayW hs ws hn hw
  refine ⟨r, hT, ?_, ?_, hm⟩
  · unfold impl_HeldBytes.f
    refine Ev.bind e1 ?_
    cases r with
    | false => exact Ev.neg (by simp) (Ev.pure rfl)
    | true =>
      refine Ev.pos rfl (Ev.pos (by decide) ?_)
      have h := implB_l0 hs (hT rfl) hn hs [] rfl
      have e0 : outF [] = List.replicate 16 [] := by rfl
      rw [e0] at h
      exact h
  · unfold spec_HeldBytes.f
    refine Ev.bind (Ev.now _) (Ev.bind e2 ?_)
    cases r with
    | false => exact Ev.neg (by simp) (Ev.pure rfl)
    | true => exact Ev.pos rfl (specB_l0 hs ws (hT rfl) hn 16 0 rfl)
end Go.Proofs.Ytgjlbghjjjlhmaa.Q

/- HeldBytes and its reference agree, and what comes back is nobody else's. -/
namespace Go.Proofs.Ytgjlbghjjjlhmaa.QPure
open Go.RowKit Go.Proofs.YtgjlbghjjjlhmaaW.PrintWords Go.Proofs.YtgjlbghjjjlhmaaW.PrintLast Go.Proofs.YtgjlbghjjjlhmaaW.PrintMore Go.Proofs.Ytgjlbghjjjlhmaa.P Go.Proofs.Ytgjlbghjjjlhmaa.Q
set_option linter.unusedVariables false
set_option linter.unusedSimpArgs false
theorem when {α β : Type} [DecidableEq α] {f : Nat → Option α} {a : α} {g e : Nat → Option β} {r : β} (h : Ev f a) (hg : Ev g r) : Ev (fun k => if f k = some a then g k else e k) r := by
  obtain ⟨n1, h1⟩ := h
  obtain ⟨n2, h2⟩ := hg
  exact ⟨max n1 n2, fun k hk => by show (if f k = some a then g k else e k) = some r; rw [if_pos (h1 k (by omega))]; exact h2 k (by omega)⟩
theorem whenAnd {α β : Type} [DecidableEq α] {f : Nat → Option α} {a : α} {c : Prop} [Decidable c] {g e : Nat → Option β} {r : β} (h : Ev f a) (hc : c) (hg : Ev g r) : Ev (fun k => if f k = some a ∧ c then g k else e k) r := by
  obtain ⟨n1, h1⟩ := h
  obtain ⟨n2, h2⟩ := hg
  exact ⟨max n1 n2, fun k hk => by show (if f k = some a ∧ c then g k else e k) = some r; rw [if_pos ⟨h1 k (by omega), hc⟩]; exact h2 k (by omega)⟩
theorem rdL_at (pre : List (List Int)) (y : List Int) (rest : List (List Int)) : rd_L11 (pre ++ y :: rest) (pre.length : Int) = y := by
  unfold rd_L11
  rw [Int.toNat_natCast]
  exact lgetD_prefix _ _ _ _
theorem eqIntSS_self (l : List (List Int)) (hn : l.length ≤ 9223372036854775807) (h : ∀ x ∈ l, x.length ≤ 9223372036854775807) : Ev (fun k => laws_eqIntSS.f k l l) true := by
  unfold laws_eqIntSS.f
  exact Ev.pos rfl (eqLoop (L := laws_eqIntSS.l0) (cmp := laws_eqIntS.f) (fun k x0 x1 i => by simp only [laws_eqIntSS.l0]; rfl) l hn (fun x hx => eqIntS_self x (h x hx)))
theorem mark_l : ∀ (rest done : List (List Int)) (x : Int), 0 ≤ x → x + 1048576 * (rest.length : Int) ≤ 1000000000000 → (done ++ rest).length ≤ 1000 → (∀ y ∈ rest, y.length ≤ 1048576) →
    ∃ (r : Int) (res : List (List Int)), Ev (fun k => laws_markIntSS.l0 k (done ++ rest) x (done.length : Int)) (r, done ++ res) ∧ 0 ≤ r ∧ res.length = rest.length ∧ Ev (fun k => laws_heldIntSS.l0 k (done ++ res) x (done.length : Int)) r
  | [], done, x, h0, h1, h2, h3 => by
    refine ⟨x, [], ?_, h0, rfl, ?_⟩
    · refine Ev.step (fun k => by simp only [laws_markIntSS.l0]; rfl) ?_
      exact Ev.neg (by simp) (Ev.now _)
    · refine Ev.step (fun k => by simp only [laws_heldIntSS.l0]; rfl) ?_
      exact Ev.neg (by simp) (Ev.now _)
  | y :: rest, done, x, h0, h1, h2, h3 => by
    have hy := h3 y (by simp)
    simp only [List.length_append, List.length_cons] at h1 h2
    obtain ⟨y', e1, e2, e3⟩ := markIntS_held y x h0 (by omega)
    obtain ⟨r, res, f1, f2, f3, f4⟩ := mark_l rest (done ++ [y']) (x + (y.length : Int)) (by omega) (by omega) (by simp only [List.length_append, List.length_cons, List.length_nil]; omega) (fun z hz => h3 z (by simp [hz]))
    have hl : ((done ++ [y']).length : Int) = (done.length : Int) + 1 := by simp
    have hw : wrap64 ((done.length : Int) + 1) = (done.length : Int) + 1 := wrap_id (by omega) (by omega)
    rw [hl] at f1 f4
    refine ⟨r, y' :: res, ?_, f2, by simp [f3], ?_⟩
    · refine Ev.step (fun k => by simp only [laws_markIntSS.l0]; rfl) ?_
      refine Ev.pos (by simp only [List.length_append, List.length_cons]; omega) (Ev.pos (by omega) ?_)
      rw [rdL_at]
      refine Ev.bind e1 ?_
      rw [Int.toNat_natCast, lset_prefix]
      simpa using f1
    · refine Ev.step (fun k => by simp only [laws_heldIntSS.l0]; rfl) ?_
      refine Ev.pos (by simp only [List.length_append, List.length_cons]; omega) (Ev.pos (by omega) ?_)
      rw [rdL_at]
      refine Ev.bind e2 (Ev.neg (by omega) ?_)
      rw [hw]
      simpa using f4
theorem FnExactHeldBytes : laws_FnExactHeldBytes.Pure := by
  intro l m hl hm
  refine Ev.rounds (r := true) ?_
  unfold laws_FnExactHeldBytes.f
  obtain ⟨s, hs, hb⟩ := szHeld_eq l m hl.1 hm.1
  refine Ev.bind (Ev.const hs) ?_
  by_cases h0 : s < 0
  · exact Ev.pos h0 (Ev.pure rfl)
  refine Ev.neg h0 ?_
  obtain ⟨b1, b2⟩ := hb h0
  have ht := toHeld_ev l m b1 b2
  have c1 : (l.map toHd).length ≤ 1048576 := by simpa using b1
  have c2 : (m.map toHd).length ≤ 1048576 := by simpa using b2
  obtain ⟨rb, _, e1, e2, _⟩ := bytesEv (l.map toHd) (m.map toHd) c1 c2
  have hL : (if rb = true then (outF (l.map toHd), true) else (([] : List (List Int)), false)).1.length ≤ 16 ∧ ∀ y ∈ (if rb = true then (outF (l.map toHd), true) else (([] : List (List Int)), false)).1, y.length ≤ 1048576 := by
    cases rb with
    | false => exact ⟨by simp, fun y hy => by simp at hy⟩
    | true =>
      refine ⟨by simp [outF_len], fun y hy => ?_⟩
      simp only [if_true] at hy
      unfold outF at hy
      obtain ⟨j, _, rfl⟩ := List.mem_map.1 hy
      have := own_len (l.map toHd) (j : Int)
      omega
  generalize (if rb = true then (outF (l.map toHd), true) else (([] : List (List Int)), false)) = R at e1 e2 hL
  obtain ⟨r, l', m', em, hr⟩ := markHeld_ev (l.map toHd) (m.map toHd) c1 c2
  obtain ⟨mr, res, k1, k2, k3, k4⟩ := mark_l R.1 [] 1 (by omega) (by have := hL.1; omega) (by have := hL.1; simp only [List.nil_append]; omega) hL.2
  have g1 : Ev (fun k => laws_markIntSS.f k R.1 1) (mr, res) := by unfold laws_markIntSS.f; exact k1
  have g2 : Ev (fun k => laws_heldIntSS.f k res 1) mr := by unfold laws_heldIntSS.f; exact k4
  refine Ev.bind ht (Ev.bind e2 (Ev.bind e1 (Ev.pos rfl ?_)))
  refine when (eqIntSS_self R.1 (by have := hL.1; omega) (fun y hy => by have := hL.2 y hy; omega)) ?_
  refine when (eqHeld_self (l.map toHd) (m.map toHd) (by omega) (by omega)) ?_
  refine Ev.bind em (Ev.pos hr (Ev.bind g1 ?_))
  exact whenAnd g2 k2 (Ev.now _)
end Go.Proofs.Ytgjlbghjjjlhmaa.QPure
