/- Locks of records, without Go and memory: owners whose holds clash with one, as the program and as the reference tell them. -/
import Derived.Test.YtgjlbghjjjlhmaaQLoops
import Derived.Test.YtgjlbghjjjlhmaaPf0
import Derived.Test.YtgjlbghjjjlhmaaPfimplHeldclashes
import Derived.Test.YtgjlbghjjjlhmaaPfimplHoldclash
import Derived.Test.YtgjlbghjjjlhmaaPfimplHoldok
import Derived.Test.YtgjlbghjjjlhmaaPfimplin
import Derived.Test.YtgjlbghjjjlhmaaPfslicesContainsint
import Derived.Test.YtgjlbghjjjlhmaaPfslicesIndexint
import Derived.Test.YtgjlbghjjjlhmaaPfslicesSortint
import Derived.Test.YtgjlbghjjjlhmaaPfspecl17Clash
import Derived.Test.YtgjlbghjjjlhmaaPfspecl17Hold
import Derived.Test.YtgjlbghjjjlhmaaPfspecl17Who
import Derived.Test.YtgjlbghjjjlhmaaPfspecl6In
namespace Go.Proofs.Ytgjlbghjjjlhmaa.Q
open Go.RowKit Go.Proofs.YtgjlbghjjjlhmaaW.PrintWords Go.Proofs.YtgjlbghjjjlhmaaW.PrintLast Go.Proofs.YtgjlbghjjjlhmaaW.PrintMore Go.Proofs.Ytgjlbghjjjlhmaa.P
set_option linter.unusedVariables false
set_option linter.unusedSimpArgs false

abbrev Ho := S40
def inR (x lo hi : Int) : Bool := decide (lo ≤ x) && decide (x ≤ hi)
theorem implIn (x lo hi : Int) : impl_in.f x lo hi = some (inR x lo hi) := by
  unfold impl_in.f inR
  by_cases h : x ≥ lo <;> simp [h]
theorem specIn (x lo hi : Int) : spec_l6In.f x lo hi = some (inR x lo hi) := by
  unfold spec_l6In.f inR
  by_cases h : x ≥ lo <;> simp [h]
def vH (a : Ho) : Bool := inR a.f0 0 3 && (inR a.f1 0 15 && inR a.f2 a.f1 15)
theorem implHok (a : Ho) : impl_Hold_ok.f a.f0 a.f1 a.f2 a.f3 = some (vH a) := by
  unfold impl_Hold_ok.f vH
  simp only [implIn, Option.bind_some]
  cases inR a.f0 0 3 <;> cases inR a.f1 0 15 <;> simp
theorem specHok (a : Ho) : spec_l17Hold.f a.f0 a.f1 a.f2 a.f3 = some (vH a) := by
  unfold spec_l17Hold.f vH
  simp only [specIn, Option.bind_some]
  cases inR a.f0 0 3 <;> cases inR a.f1 0 15 <;> simp
def cl (a b : Ho) : Bool := !decide (a.f0 = b.f0) && (decide (a.f1 ≤ b.f2) && (decide (b.f1 ≤ a.f2) && (a.f3 || b.f3)))
theorem implCl (a b : Ho) : impl_Hold_clash.f a.f0 a.f1 a.f2 a.f3 b.f0 b.f1 b.f2 b.f3 = some (cl a b) := by
  unfold impl_Hold_clash.f cl
  by_cases h0 : a.f0 = b.f0 <;> by_cases h1 : a.f1 ≤ b.f2 <;> by_cases h2 : b.f1 ≤ a.f2 <;> cases a.f3 <;> simp [h0, h1, h2]
theorem specCl (a b : Ho) : spec_l17Clash.f a.f0 a.f1 a.f2 a.f3 b.f0 b.f1 b.f2 b.f3 = some (cl a b) := by
  unfold spec_l17Clash.f cl
  by_cases h0 : a.f0 = b.f0 <;> by_cases h1 : a.f1 ≤ b.f2 <;> by_cases h2 : b.f1 ≤ a.f2 <;> cases a.f3 <;> simp [h0, h1, h2]
theorem cl_comm (a b : Ho) : cl a b = cl b a := by
  unfold cl
  rw [Bool.eq_iff_iff]
  simp only [Bool.and_eq_true, Bool.not_eq_true', decide_eq_false_iff_not, decide_eq_true_eq, Bool.or_eq_true]
  constructor
  · rintro ⟨h0, h1, h2, h3⟩
    exact ⟨fun e => h0 e.symm, h2, h1, h3.symm⟩
  · rintro ⟨h0, h1, h2, h3⟩
    exact ⟨fun e => h0 e.symm, h2, h1, h3.symm⟩
-- a number in a list
theorem rdI_at (pre : List Int) (y : Int) (rest : List Int) : rd (pre ++ y :: rest) (pre.length : Int) = y := by
  unfold rd
  rw [Int.toNat_natCast]
  exact lgetD_prefix _ _ _ _
theorem rdH_at (pre : List Ho) (y : Ho) (rest : List Ho) : rd_T40 (pre ++ y :: rest) (pre.length : Int) = y := by
  unfold rd_T40
  rw [Int.toNat_natCast]
  exact lgetD_prefix _ _ _ _
theorem index_l (x : Int) (l : List Int) (hn : l.length ≤ 9223372036854775807) : ∀ rest pre : List Int, l = pre ++ rest → x ∉ pre →
    ∃ r : Int, Ev (fun k => slices_Index_int.l0 k l x (l.length : Int) (pre.length : Int)) r ∧ decide (r ≥ 0) = l.contains x := by
  intro rest
  induction rest with
  | nil =>
    intro pre hl hp
    refine ⟨-1, Ev.step (fun k => by simp only [slices_Index_int.l0]; rfl) (Ev.neg (by rw [hl]; simp) (Ev.now _)), ?_⟩
    rw [hl, List.append_nil]
    simpa using hp
  | cons y rest ih =>
    intro pre hl hp
    have hlt : pre.length < l.length := by rw [hl]; simp
    have hr : rd l (pre.length : Int) = y := by rw [hl]; exact rdI_at _ _ _
    by_cases hy : x = y
    · refine ⟨(pre.length : Int), Ev.step (fun k => by simp only [slices_Index_int.l0]; rfl) (Ev.pos (by omega) (Ev.pos (by omega) (Ev.pos (by omega) (Ev.pos (by rw [hr]; exact hy) (Ev.now _))))), ?_⟩
      rw [hl, hy]
      simp
    · obtain ⟨r, e, h⟩ := ih (pre ++ [y]) (by simp [hl]) (by simp [hp, hy])
      refine ⟨r, Ev.step (fun k => by simp only [slices_Index_int.l0]; rfl) (Ev.pos (by omega) (Ev.pos (by omega) (Ev.pos (by omega) (Ev.neg (by rw [hr]; exact hy) ?_)))), h⟩
      rw [lsucc_wrap hlt hn]
      have hlen : ((pre ++ [y]).length : Int) = ((pre.length + 1 : Nat) : Int) := by simp
      rw [← hlen]
      exact e
theorem contains_ev (x : Int) (l : List Int) (hn : l.length ≤ 9223372036854775807) : Ev (fun k => slices_Contains_int.f k l x) (l.contains x) := by
  obtain ⟨r, e, h⟩ := index_l x l hn l [] rfl (by simp)
  unfold slices_Contains_int.f slices_Index_int.f
  exact Ev.bind e (Ev.pure (by rw [h]))
-- the program's clashes
def outL (x : Ho) : List Ho → List Int → List Int
  | [], out => out
  | y :: l, out => outL x l (if cl x y = true then (if out.contains y.f0 = true then out else out ++ [y.f0]) else out)
def clI (x : Ho) (l : List Ho) : List Int := slices_Sort_int.val (outL x l [])
theorem implClashes_l (x : Ho) (l : List Ho) (hn : l.length ≤ 1048576) : ∀ (rest pre : List Ho) (out : List Int), l = pre ++ rest → out.length ≤ pre.length →
    Ev (fun k => impl_Held_clashes.l0 k out l (l.length : Int) (pre.length : Int) x.f0 x.f1 x.f2 x.f3) (slices_Sort_int.val (outL x rest out)) ∧ (outL x rest out).length ≤ l.length := by
  intro rest
  induction rest with
  | nil =>
    intro pre out hl ho
    have hb : out.length ≤ l.length := by rw [hl]; simpa using ho
    refine ⟨Ev.step (fun k => by simp only [impl_Held_clashes.l0]; rfl) (Ev.neg (by rw [hl]; simp) ?_), hb⟩
    refine Ev.const ?_
    unfold slices_Sort_int.f
    rw [if_pos (by omega)]
    rfl
  | cons y rest ih =>
    intro pre out hl ho
    have hlt : pre.length < l.length := by rw [hl]; simp
    have hr : rd_T40 l (pre.length : Int) = y := by rw [hl]; exact rdH_at _ _ _
    have hlen : ((pre ++ [y]).length : Int) = ((pre.length + 1 : Nat) : Int) := by simp
    have hx := lsucc_wrap hlt (by omega : l.length ≤ 9223372036854775807)
    have key : ∀ out', out'.length ≤ pre.length + 1 → Ev (fun k => impl_Held_clashes.l0 k out' l (l.length : Int) (wrap64 ((pre.length : Int) + 1)) x.f0 x.f1 x.f2 x.f3) (slices_Sort_int.val (outL x rest out')) ∧ (outL x rest out').length ≤ l.length := fun out' h' => by
      rw [hx, ← hlen]
      exact ih (pre ++ [y]) out' (by simp [hl]) (by simpa using h')
    have start : ∀ {r : List Int}, Ev (fun k => (impl_Hold_clash.f x.f0 x.f1 x.f2 x.f3 y.f0 y.f1 y.f2 y.f3).bind fun t109 => (if t109 = true then ((slices_Contains_int.f k out y.f0).bind fun t110 => (if t110 = true then (impl_Held_clashes.l0 k out l (l.length : Int) (wrap64 ((pre.length : Int) + 1)) x.f0 x.f1 x.f2 x.f3) else (if out.length < 17592186044416 then (impl_Held_clashes.l0 k (out ++ [y.f0]) l (l.length : Int) (wrap64 ((pre.length : Int) + 1)) x.f0 x.f1 x.f2 x.f3) else (none)))) else (impl_Held_clashes.l0 k out l (l.length : Int) (wrap64 ((pre.length : Int) + 1)) x.f0 x.f1 x.f2 x.f3))) r →
        Ev (fun k => impl_Held_clashes.l0 k out l (l.length : Int) (pre.length : Int) x.f0 x.f1 x.f2 x.f3) r := fun h => by
      refine Ev.step (fun k => by simp only [impl_Held_clashes.l0]; rfl) (Ev.pos (by omega) (Ev.pos (by omega) (Ev.pos (by omega) ?_)))
      rw [hr]
      exact h
    simp only [outL]
    by_cases h1 : cl x y = true
    · rw [if_pos h1]
      have hc := contains_ev y.f0 out (by omega)
      by_cases h2 : out.contains y.f0 = true
      · rw [if_pos h2]
        obtain ⟨e, hb⟩ := key out (by omega)
        exact ⟨start (Ev.bind (Ev.const (implCl x y)) (Ev.pos h1 (Ev.bind hc (Ev.pos h2 e)))), hb⟩
      · rw [if_neg h2]
        obtain ⟨e, hb⟩ := key (out ++ [y.f0]) (by simp; omega)
        exact ⟨start (Ev.bind (Ev.const (implCl x y)) (Ev.pos h1 (Ev.bind hc (Ev.neg h2 (Ev.pos (by omega) e))))), hb⟩
    · rw [if_neg h1]
      obtain ⟨e, hb⟩ := key out (by omega)
      exact ⟨start (Ev.bind (Ev.const (implCl x y)) (Ev.neg h1 e)), hb⟩
theorem implClashes (x : Ho) (l m : List Ho) (hn : l.length ≤ 1048576) : Ev (fun k => impl_Held_clashes.f k l m x.f0 x.f1 x.f2 x.f3) (clI x l) := by
  unfold impl_Held_clashes.f
  exact (implClashes_l x l hn l [] [] rfl (by simp)).1
theorem outL_mem (x : Ho) (o : Int) : ∀ (l : List Ho) (out : List Int), o ∈ outL x l out ↔ o ∈ out ∨ ∃ y ∈ l, cl x y = true ∧ y.f0 = o
  | [], out => by simp [outL]
  | y :: l, out => by
    simp only [outL]
    rw [outL_mem x o l]
    by_cases h1 : cl x y = true
    · rw [if_pos h1]
      by_cases h2 : out.contains y.f0 = true
      · rw [if_pos h2]
        have h2' : y.f0 ∈ out := by simpa using h2
        constructor
        · rintro (h | ⟨z, hz, h⟩)
          · exact .inl h
          · exact .inr ⟨z, List.mem_cons_of_mem _ hz, h⟩
        · rintro (h | ⟨z, hz, h⟩)
          · exact .inl h
          · rcases List.mem_cons.1 hz with rfl | hz
            · exact .inl (h.2 ▸ h2')
            · exact .inr ⟨z, hz, h⟩
      · rw [if_neg h2]
        simp only [List.mem_append, List.mem_singleton]
        constructor
        · rintro ((h | h) | ⟨z, hz, h⟩)
          · exact .inl h
          · exact .inr ⟨y, List.mem_cons_self, h1, h.symm⟩
          · exact .inr ⟨z, List.mem_cons_of_mem _ hz, h⟩
        · rintro (h | ⟨z, hz, h⟩)
          · exact .inl (.inl h)
          · rcases List.mem_cons.1 hz with rfl | hz
            · exact .inl (.inr h.2.symm)
            · exact .inr ⟨z, hz, h⟩
    · rw [if_neg h1]
      constructor
      · rintro (h | ⟨z, hz, h⟩)
        · exact .inl h
        · exact .inr ⟨z, List.mem_cons_of_mem _ hz, h⟩
      · rintro (h | ⟨z, hz, h⟩)
        · exact .inl h
        · rcases List.mem_cons.1 hz with rfl | hz
          · exact absurd h.1 h1
          · exact .inr ⟨z, hz, h⟩
theorem outL_nodup (x : Ho) : ∀ (l : List Ho) (out : List Int), out.Nodup → (outL x l out).Nodup
  | [], out, h => h
  | y :: l, out, h => by
    simp only [outL]
    refine outL_nodup x l _ ?_
    split
    · split
      · exact h
      · rename_i h2
        rw [List.nodup_append]
        exact ⟨h, by simp, fun a ha b hb e => h2 (by simp at hb; subst hb; subst e; simpa using ha)⟩
    · exact h
theorem clI_mem (x : Ho) (l : List Ho) (o : Int) : o ∈ clI x l ↔ ∃ y ∈ l, cl x y = true ∧ y.f0 = o := by
  unfold clI slices_Sort_int.val
  rw [List.mem_mergeSort, outL_mem]
  simp
theorem clI_nil (x : Ho) (l : List Ho) : (clI x l).length = 0 ↔ ∀ y ∈ l, cl x y = false := by
  constructor
  · intro h y hy
    have h0 : clI x l = [] := List.eq_nil_of_length_eq_zero h
    cases hc : cl x y with
    | false => rfl
    | true =>
      have : y.f0 ∈ clI x l := (clI_mem x l y.f0).2 ⟨y, hy, hc, rfl⟩
      rw [h0] at this
      cases this
  · intro h
    rcases hq : clI x l with _ | ⟨o, q⟩
    · rfl
    · have : o ∈ clI x l := by rw [hq]; exact List.mem_cons_self
      obtain ⟨y, hy, hc, _⟩ := (clI_mem x l o).1 this
      rw [h y hy] at hc
      cases hc
-- the reference's
def whoB (l : List Ho) (x : Ho) (o : Int) : Bool := l.any fun h => decide (h.f0 = o) && cl h x
def who (l : List Ho) (x : Ho) : List Int := [0, 1, 2, 3].filter (whoB l x)
theorem who_mem (l : List Ho) (x : Ho) (o : Int) (h : ∀ y ∈ l, 0 ≤ y.f0 ∧ y.f0 ≤ 3) : o ∈ who l x ↔ ∃ y ∈ l, cl x y = true ∧ y.f0 = o := by
  unfold who whoB
  rw [List.mem_filter, List.any_eq_true]
  simp only [Bool.and_eq_true, decide_eq_true_eq]
  constructor
  · rintro ⟨_, y, hy, h0, h1⟩
    exact ⟨y, hy, by rw [cl_comm]; exact h1, h0⟩
  · rintro ⟨y, hy, h1, h0⟩
    refine ⟨?_, y, hy, h0, by rw [cl_comm]; exact h1⟩
    have := h y hy
    simp only [List.mem_cons, List.mem_nil_iff, or_false]
    omega
theorem who_le (l : List Ho) (x : Ho) : (who l x).length ≤ 4 := by
  unfold who
  have := List.length_filter_le (whoB l x) [0, 1, 2, 3]
  simpa using this
theorem who_rng (l : List Ho) (x : Ho) : ∀ o ∈ who l x, 0 ≤ o ∧ o ≤ 3 := by
  intro o h
  have := (List.mem_filter.1 h).1
  simp only [List.mem_cons, List.mem_nil_iff, or_false] at this
  omega
/-- The two tell one list, where every owner is one. -/
theorem clI_who (x : Ho) (l : List Ho) (h : ∀ y ∈ l, 0 ≤ y.f0 ∧ y.f0 ≤ 3) : clI x l = who l x := by
  have n1 : (clI x l).Nodup := by
    unfold clI slices_Sort_int.val
    exact (List.mergeSort_perm _ _).symm.nodup (outL_nodup x l [] (by simp))
  have s1 : (clI x l).Pairwise (· ≤ ·) := by
    unfold clI slices_Sort_int.val
    have := List.pairwise_mergeSort (le := fun (a b : Int) => decide (a ≤ b)) (fun a b c h1 h2 => by simp at *; omega) (fun a b => by simp; omega) (outL x l [])
    simpa using this
  have n2 : (who l x).Nodup := by
    unfold who
    exact List.Pairwise.filter _ (by decide)
  have s2 : (who l x).Pairwise (· ≤ ·) := by
    unfold who
    exact List.Pairwise.filter _ (by decide)
  have hp : (clI x l).Perm (who l x) := (List.perm_ext_iff_of_nodup n1 n2).2 fun o => by rw [clI_mem, who_mem l x o h]
  exact hp.eq_of_pairwise (fun a b _ _ h1 h2 => by omega) s1 s2
theorem specWho_l1 (x : Ho) (o : Int) (ho : o ≤ 3) (h0 : 0 ≤ o) (l : List Ho) (hn : l.length ≤ 1048576) (out : List Int) (hout : out.length ≤ 100) {r : List Int}
    (hend : ∀ b : Bool, b = whoB l x o → Ev (fun k => spec_l17Who.l0 k l (if b = true then out ++ [o] else out) (wrap64 (o + 1)) x.f0 x.f1 x.f2 x.f3) r) : ∀ (rest pre : List Ho) (b : Bool), l = pre ++ rest → b = pre.any (fun h => decide (h.f0 = o) && cl h x) →
    Ev (fun k => spec_l17Who.l1 k l out o b (pre.length : Int) x.f0 x.f1 x.f2 x.f3) r := by
  intro rest
  induction rest with
  | nil =>
    intro pre b hl hb
    have hb' : b = whoB l x o := by rw [hb, hl, List.append_nil]; rfl
    refine Ev.step (fun k => by simp only [spec_l17Who.l1]; rfl) (Ev.neg (by rw [hl]; simp) ?_)
    have h := hend b hb'
    by_cases hbt : b = true
    · rw [if_pos hbt] at h
      exact Ev.pos hbt (Ev.pos (by omega) h)
    · rw [if_neg hbt] at h
      exact Ev.neg hbt h
  | cons y rest ih =>
    intro pre b hl hb
    have hlt : pre.length < l.length := by rw [hl]; simp
    have hr : rd_T40 l (pre.length : Int) = y := by rw [hl]; exact rdH_at _ _ _
    have hlen : ((pre ++ [y]).length : Int) = ((pre.length + 1 : Nat) : Int) := by simp
    have hx := lsucc_wrap hlt (by omega : l.length ≤ 9223372036854775807)
    have key : ∀ b', b' = (pre ++ [y]).any (fun h => decide (h.f0 = o) && cl h x) → Ev (fun k => spec_l17Who.l1 k l out o b' (wrap64 ((pre.length : Int) + 1)) x.f0 x.f1 x.f2 x.f3) r := fun b' h' => by
      rw [hx, ← hlen]
      exact ih (pre ++ [y]) b' (by simp [hl]) h'
    rw [List.any_append, ← hb] at key
    simp only [List.any_cons, List.any_nil, Bool.or_false] at key
    refine Ev.step (fun k => by simp only [spec_l17Who.l1]; rfl) (Ev.pos (by omega) ?_)
    by_cases hbt : b = true
    · exact Ev.pos hbt (key true (by rw [hbt]; rfl))
    · have hbf : b = false := by simpa using hbt
      refine Ev.neg hbt (Ev.pos (by omega) ?_)
      rw [hr]
      by_cases hy : y.f0 = o
      · exact Ev.pos hy (Ev.bind (Ev.const (specCl y x)) (key (cl y x) (by rw [hbf]; simp [hy])))
      · exact Ev.neg hy (key false (by rw [hbf]; simp [hy]))
theorem specWho (x : Ho) (l : List Ho) (hn : l.length ≤ 1048576) : Ev (fun k => spec_l17Who.f k l x.f0 x.f1 x.f2 x.f3) (who l x) := by
  unfold spec_l17Who.f
  have step : ∀ (o : Int) (out : List Int) (r : List Int), 0 ≤ o → o ≤ 3 → out.length ≤ 100 → Ev (fun k => spec_l17Who.l0 k l (if whoB l x o = true then out ++ [o] else out) (o + 1) x.f0 x.f1 x.f2 x.f3) r → Ev (fun k => spec_l17Who.l0 k l out o x.f0 x.f1 x.f2 x.f3) r := by
    intro o out r h0 h3 hout h
    refine Ev.step (fun k => by simp only [spec_l17Who.l0]; rfl) (Ev.pos (by omega) ?_)
    refine specWho_l1 x o h3 h0 l hn out hout (fun b hb => ?_) l [] false rfl rfl
    rw [hb, wrap_id (n := o + 1) (by omega) (by omega)]
    exact h
  have hl : ∀ (out : List Int) (b : Bool) (o : Int), out.length ≤ 10 → (if b = true then out ++ [o] else out).length ≤ 11 := by
    intro out b o h
    split
    · simp
      omega
    · omega
  have hl2 : ∀ (out : List Int) (b : Bool) (o : Int), (if b = true then out ++ [o] else out).length ≤ out.length + 1 := by
    intro out b o
    split
    · simp
    · omega
  refine step 0 [] _ (by omega) (by omega) (by simp) ?_
  rw [show (0 : Int) + 1 = 1 from rfl]
  have e0 : ∃ a0, a0 = (if whoB l x 0 = true then ([] : List Int) ++ [0] else []) := ⟨_, rfl⟩
  obtain ⟨a0, e0⟩ := e0
  have q0 := hl2 [] (whoB l x 0) 0
  rw [← e0] at q0 ⊢
  rw [List.length_nil] at q0
  refine step 1 _ _ (by omega) (by omega) (by omega) ?_
  rw [show (1 : Int) + 1 = 2 from rfl]
  have q1 := hl2 a0 (whoB l x 1) 1
  obtain ⟨a1, e1⟩ : ∃ a1, a1 = (if whoB l x 1 = true then a0 ++ [1] else a0) := ⟨_, rfl⟩
  rw [← e1] at q1 ⊢
  refine step 2 _ _ (by omega) (by omega) (by omega) ?_
  rw [show (2 : Int) + 1 = 3 from rfl]
  have q2 := hl2 a1 (whoB l x 2) 2
  obtain ⟨a2, e2⟩ : ∃ a2, a2 = (if whoB l x 2 = true then a1 ++ [2] else a1) := ⟨_, rfl⟩
  rw [← e2] at q2 ⊢
  refine step 3 _ _ (by omega) (by omega) (by omega) ?_
  rw [show ((3 : Int) + 1) = 4 from rfl]
  refine Ev.step (fun k => by simp only [spec_l17Who.l0]; rfl) (Ev.neg (by decide) (Ev.pure ?_))
  rw [e2, e1, e0]
  unfold who
  simp only [List.filter_cons, List.filter_nil]
  cases whoB l x 0 <;> cases whoB l x 1 <;> cases whoB l x 2 <;> cases whoB l x 3 <;> rfl
end Go.Proofs.Ytgjlbghjjjlhmaa.Q
