-- printed by wip/qd.py
import Derived.Test.YtkjjlkkfhbfbmaaDoorPf0
import Derived.Test.YtkjjlkkfhbfbmaaDoorPfstringsSplit
import Derived.Test.YtkjjlkkfhbfbmaaDoorPfimplCallOk
import Derived.Test.YtkjjlkkfhbfbmaaDoorPfimplnumber
import Derived.Test.YtkjjlkkfhbfbmaaDoorPfimplwords
import Derived.Test.YtkjjlkkfhbfbmaaDoorQWords
import Derived.Test.YtkjjlkkfhbfbmaaDoorQSem9
import Derived.Deep.CutBlock
import Derived.Deep.CutRange
namespace Go.Proofs.YtkjjlkkfhbfbmaaDoor.P
open Go.RowKit Go.Proofs.YtkjjlkkfhbfbmaaDoorW.PrintWords Go.Proofs.YtkjjlkkfhbfbmaaDoorW.PrintLast Go.Proofs.YtkjjlkkfhbfbmaaDoorW.PrintMore
attribute [local go_sem] max2_int min2_int max_two min_two max_three min_three max_four min_four Q.cell_set_map Q.str_gtr Q.str_geq Q.str_leq
set_option linter.unusedVariables false
set_option linter.unusedSimpArgs false

/-! ### impl_ShellLine: function 6 -/
-- IMPORT Derived.Test.YtkjjlkkfhbfbmaaDoorQWords
-- IMPORT Derived.Test.YtkjjlkkfhbfbmaaDoorQSem9
-- IMPORT Derived.Deep.CutBlock
-- IMPORT Derived.Deep.CutRange
def impl_ShellLine.step (c : Int) (s : ByteArray) (x : S23) : S23 × Bool :=
  if c = 97 then ({ x with f1 := (impl_number.f s).1 }, (impl_number.f s).2)
  else if c = 98 then ({ x with f2 := (impl_number.f s).1 }, (impl_number.f s).2)
  else if c = 112 then ({ x with f3 := s }, !s.toList.isEmpty)
  else if c = 113 then ({ x with f4 := s }, !s.toList.isEmpty)
  else if c = 116 then ({ x with f5 := s }, !s.toList.isEmpty)
  else (x, !s.toList.isEmpty)
def impl_ShellLine.loop (parts : List ByteArray) (needs : ByteArray) : Nat → Nat → S23 → S23 × Bool
  | 0, _, x => (x, true)
  | k + 1, i, x => if (impl_ShellLine.step (needs.data.toList.getD i 0).toNat (rdOf ByteArray.empty parts ((i + 2 : Nat) : Int)) x).2 = true then impl_ShellLine.loop parts needs k (i + 1) (impl_ShellLine.step (needs.data.toList.getD i 0).toNat (rdOf ByteArray.empty parts ((i + 2 : Nat) : Int)) x).1 else (x, false)
def impl_ShellLine.zero : S23 := ⟨0, 0, 0, ⟨#[]⟩, ⟨#[]⟩, ⟨#[]⟩⟩
def impl_ShellLine.fin (k : Nat) (id : Int) (r : S23 × Bool) : Option (Int × S23 × Bool) :=
  if r.2 = true then (impl_CallOk.f k r.1.f0 r.1.f1 r.1.f2 r.1.f3 r.1.f4 r.1.f5).bind fun b => if b = true then some (id, r.1, true) else some (0, impl_ShellLine.zero, false)
  else some (0, impl_ShellLine.zero, false)
def impl_ShellLine.g2 (k : Nat) (parts : List ByteArray) (n : Int × Bool) (e : Int × ByteArray × Bool) : Option (Int × S23 × Bool) :=
  if n.2 = true then
    if e.2.2 = true then
      if parts.length = 2 + e.2.1.size then impl_ShellLine.fin k n.1 (impl_ShellLine.loop parts e.2.1 e.2.1.size 0 ⟨e.1, 0, 0, ⟨#[]⟩, ⟨#[]⟩, ⟨#[]⟩⟩)
      else some (0, impl_ShellLine.zero, false)
    else some (0, impl_ShellLine.zero, false)
  else some (0, impl_ShellLine.zero, false)
def impl_ShellLine.g (k : Nat) (parts : List ByteArray) : Option (Int × S23 × Bool) :=
  if parts.length < 2 then some (0, impl_ShellLine.zero, false) else impl_ShellLine.g2 k parts (impl_number.f (rdOf ByteArray.empty parts 0)) (Q.wfind impl_words.f (rdOf ByteArray.empty parts 1))
def impl_ShellLine.f (k : Nat) (a0 : ByteArray) : Option (Int × S23 × Bool) :=
  (strings_Split.f k a0 (⟨#[32]⟩ : ByteArray)).bind fun parts => if parts.all (fun s => decide (s.size ≤ 1048576)) = true ∧ parts.length ≤ 1048577 then impl_ShellLine.g k parts else none
theorem impl_ShellLine.zero40 (u : World) : (zeroValue 40).run Tryd.prog u = .ok (.agg #[.int .i64 0, .string ByteArray.empty]) u := by kernel_rfl
set_option maxHeartbeats 16000000 in
set_option maxRecDepth 100000 in
/-- A line is read. -/
theorem impl_ShellLine.calls (k : Nat) (a0 : ByteArray) (r1 : Int) (x : S23) (r8 : Bool) (w : World) (hT : Q.Tabs w) (h : impl_ShellLine.f k a0 = some (r1, x, r8)) :
    Calls Tryd.prog 6 #[.string a0] w fun e w' => e = .returned (.tuple #[.int .i64 r1, .agg #[.int .i64 x.f0, .int .i64 x.f1, .int .i64 x.f2, .string x.f3, .string x.f4, .string x.f5], .bool r8]) ∧ Below w.heap.size w w' := by
  obtain ⟨parts, hs, H⟩ := Option.bind_eq_some_iff.1 h
  by_cases hsz : parts.all (fun s => decide (s.size ≤ 1048576)) = true ∧ parts.length ≤ 1048577
  rotate_left
  · rw [if_neg hsz] at H
    cases H
  rw [if_pos hsz] at H
  have hpl := hsz.2
  have HSZ : Aside0 (∀ s ∈ parts, s.size ≤ 1048576) := ⟨fun s hs => of_decide_eq_true (List.all_eq_true.1 hsz.1 s hs)⟩
  have HS := Aside0.mk hs
  have HH := Aside0.mk H
  have HT := Aside0.mk hT
  have HT0 := Aside0.mk hT
  have HB := Aside0.mk (Below.refl w.heap.size w)
  clear hs H h hT hsz
  go_enter Tryd.func6, Tryd.ntmps6
  go_upto_region 2 with (first | ((with_reducible refine gate_dst (N := 3) rfl ?_); (try (refine gate_guard (by rfl) ?_; dsimp only)); refine box_event ?hg (N := 3) ?hd (cs := #[.int .i64 0, .int .i64 0, .int .i64 0, .string (⟨#[]⟩ : ByteArray), .string (⟨#[]⟩ : ByteArray), .string (⟨#[]⟩ : ByteArray)]) (t := 23) ?hr ?_; (case hd => rfl); (case hg => rfl); (case hr => first | (go_simp; done) | (go_simp; rfl)); intro gb3 hg w5 hbox hb; have BK3 := Aside0.mk hbox; have GE3 := Aside0.mk (by rw [hg]; exact below_size HB.out : w.heap.size ≤ gb3);  replace HT := Aside0.mk (HT.out.below hb); replace HB := Aside0.mk (below_step HB.out hb); clear hb hbox hg) | (go_at_call 14; refine (strings_Split.calls k a0 (⟨#[32]⟩ : ByteArray) parts _ HS.out).mono ?_; rintro e w7 ⟨v7, rfl, ho, hb⟩; obtain ⟨A7, c7, e7⟩ := Kd.R_slice ho; subst e7; have HC := Aside0.mk (Kd.R_reads' ho).2.2; have hcap := (Kd.R_reads' ho).2.1; replace BK3 := Aside0.mk (blk_below BK3.out hb); replace HT := Aside0.mk (HT.out.below hb); replace HB := Aside0.mk (below_step HB.out hb); clear hb ho))
  by_cases c2 : parts.length < 2
  · have H := HH.out
    unfold impl_ShellLine.g at H
    rw [if_pos c2] at H
    have c2a : ((parts.length : Int) < 2) := by omega
    simp only [Option.some.injEq, Prod.mk.injEq] at H
    obtain ⟨rfl, rfl, rfl⟩ := H
    obtain ⟨hz0, hz1, hz2, hz3, hz4, hz5⟩ := cz6 BK3.out
    obtain ⟨hf0, hf1, hf2, hf3, hf4, hf5⟩ := fz6 BK3.out
    obtain ⟨q1, q2, q3⟩ := Q.wfill6 BK3.out (.int .i64 0) (.int .i64 0) (.int .i64 0) (.string (⟨#[]⟩ : ByteArray)) (.string (⟨#[]⟩ : ByteArray)) (.string (⟨#[]⟩ : ByteArray))
    have Q1 := Aside0.mk q1
    have Q3 := Aside0.mk (q3 w HB.out GE3.out)
    clear q1 q2 q3
    go_wp2
    refine bodyPost_ret (results_list (rs := [.tmp 2, .cell 3 23, .tmp 4]) rfl (by simp) (.tmp (.cell gb3 23 #[.int .i64 0, .int .i64 0, .int .i64 0, .string (⟨#[]⟩ : ByteArray), .string (⟨#[]⟩ : ByteArray), .string (⟨#[]⟩ : ByteArray)] (0, 0) _ rfl Q1.out Tryd.underlying23 rfl zk (.tmp .nil)))) rfl ?_
    exact ⟨rfl, Q3.out⟩
  have H := HH.out
  unfold impl_ShellLine.g at H
  rw [if_neg c2] at H
  have c2a : ¬ ((parts.length : Int) < 2) := by omega
  have c2b : (0 : Int) < (parts.length : Int) := by omega
  have c2c : (1 : Int) < (parts.length : Int) := by omega
  obtain ⟨ad, ead, hx0⟩ := Kd.at_string HC.out 0 (Int.le_refl _) c2b
  subst ead
  obtain ⟨ad', ead, hx1⟩ := Kd.at_string HC.out 1 (by omega) c2c
  injection ead with ead
  subst ead
  rw [show ((0 : Int)).toNat = 0 from rfl, Addr.add_zero'] at hx0
  rw [show ((1 : Int)).toNat = 1 from rfl] at hx1
  obtain ⟨s0, hs0⟩ : ∃ s, s = rdOf ByteArray.empty parts 0 := ⟨_, rfl⟩
  obtain ⟨s1, hs1⟩ : ∃ s, s = rdOf ByteArray.empty parts 1 := ⟨_, rfl⟩
  have z0 : s0.size ≤ 1048576 := HSZ.out _ (by rw [hs0]; exact Q.rd_mem_ (by omega))
  have z1 : s1.size ≤ 1048576 := HSZ.out _ (by rw [hs1]; exact Q.rd_mem_ (by omega))
  rw [← hs0] at hx0 H
  rw [← hs1] at hx1 H
  obtain ⟨n1, n2, hn⟩ : ∃ n1 n2, impl_number.f s0 = (n1, n2) := ⟨_, _, rfl⟩
  rw [hn] at H
  obtain ⟨e1, e2, e3, he⟩ : ∃ e1 e2 e3, Q.wfind impl_words.f s1 = (e1, e2, e3) := ⟨_, _, _, rfl⟩
  rw [he] at H
  replace HH := Aside0.mk H
  have HX1 := Aside0.mk hx1
  have HE := Aside0.mk he
  have HN := Aside0.mk hn
  clear H hs0 hs1 hx1 he hn
  go_upto_region 5 with (go_at_call 15; refine (impl_number.calls s0 _ HT.out z0).mono ?_; rintro e w8 ⟨rfl, hb⟩; rw [HN.out]; replace BK3 := Aside0.mk (blk_below BK3.out hb); replace HC := Aside0.mk (Kd.C_below HC.out hb); replace HX1 := Aside0.mk (pw_cell_below hb HX1.out); replace HT := Aside0.mk (HT.out.below hb); replace HB := Aside0.mk (below_step HB.out hb); clear hb)
  refine start_ (n := 11) (S := fun w' => w'.cell? ⟨ad.block, ad.off + 1, none⟩ = some (.string s1)) (ds := [9]) #[false, false, false, false, false, false, false, false, false, false, false] (by kernel_rfl) rfl rfl (HX1.out) (fun hHeld => ?_)
  refine pure_ (i := 1) (N := some 29) (v := ?_) (a' := ?_) #[false, true, false, false, false, false, false, false, false, false, false] rfl rfl (by kernel_rfl) (fun _ _ _ h => h) (Or.inl ⟨by rfl, ?_⟩) ?_ ?_
  rotate_left
  · intro w'
    go_simp
    with_reducible rfl
  rotate_left
  · simp only [Act.put, List.setIfInBounds_toArray, List.set_cons_zero, List.set_cons_succ, i64_w, i32_w]
    rfl
  refine pure_ (i := 2) (N := some 30) (v := ?_) (a' := ?_) #[false, true, true, false, false, false, false, false, false, false, false] rfl rfl (by kernel_rfl) (fun _ _ _ h => h) (Or.inl ⟨by rfl, ?_⟩) ?_ ?_
  rotate_left
  · intro w'
    go_simp
    with_reducible rfl
  rotate_left
  · simp only [Act.put, List.setIfInBounds_toArray, List.set_cons_zero, List.set_cons_succ, i64_w, i32_w]
    rfl
  refine take_ (i := 3) (N := some 31) (v := ?_) (a' := ?_) #[false, true, true, true, false, false, false, false, false, false, false] rfl rfl (by kernel_rfl) (fun _ _ _ h => h) (Or.inl ⟨by rfl, ?_⟩) hHeld ?_ ?_
  rotate_left
  · intro w' s0
    go_simp
    with_reducible rfl
  rotate_left
  · simp only [Act.put, List.setIfInBounds_toArray, List.set_cons_zero, List.set_cons_succ, i64_w, i32_w]
    rfl
  refine join_ (σ := Nat × Nat) 2 #[true, true, true, true, true, true, true, true, true, false, false] (fun s_ => [(28, .map (some s_.1)), (32, .tuple #[.agg #[.int .i64 e1, .string e2], .bool e3]), (8, .pointer (some ⟨s_.2, 0, none⟩)), (27, .tuple #[.agg #[.int .i64 e1, .string e2], .bool e3]), (33, .agg #[.int .i64 e1, .string e2]), (34, .bool e3)]) (fun s_ w' => (w'.cell? ⟨ad.block, ad.off + 1, none⟩ = some (.string s1)) ∧ (w'.heap[s_.2]? = some (.cells #[.int .i64 0, .string (⟨#[]⟩ : ByteArray)] 40 (0, 0))) ∧ Below w8.heap.size w8 w' ∧ w8.heap.size ≤ s_.2) ?_ ?_
  rotate_left
  · intro hCont
    refine two_ (i := 0) (j := 8) (Ni := some 28) (Nj := some 8) #[true, true, true, true, false, false, false, false, false, false, false] #[false, true, true, true, false, false, false, false, true, false, false] rfl rfl rfl rfl (by kernel_rfl) (by decide) (by decide) (fun K hK => ?_) (fun K hK => ?_)
    · skip
      refine goes_ Tryd.func16 (by kernel_rfl) rfl #[] (by rfl) rfl rfl zm ?_
      refine (impl_words.calls _ (HT.out.below (below_drew1 (Below.refl w8.heap.size w8)))).mono ?_
      rintro e w10 ⟨mb, rfl, M10, b10⟩
      refine ⟨_, rfl, ?_⟩
      have B10 := below_step (below_drew1 (Below.refl w8.heap.size w8)) b10
      refine hK.out _ _ (pw_cell_below b10 hHeld) (fun hHeld => ?_)
      clear hK K
      refine norm_ (a' := ?_) ?_ ?_
      rotate_left
      · show Act.put _ (some 28) _ = _
        simp only [Act.put, List.setIfInBounds_toArray, List.set_cons_zero, List.set_cons_succ, i64_w, i32_w]
        rfl
      refine two_ (i := 4) (j := 8) (Ni := some 32) (Nj := some 8) #[true, true, true, true, true, false, false, false, false, false, false] #[true, true, true, true, false, false, false, false, true, false, false] rfl rfl rfl rfl (by kernel_rfl) (by decide) (by decide) (fun K hK => ?_) (fun K hK => ?_)
      · skip
        have hrun := M10.look (P := Tryd.prog) (k := 9) (e := 40) (t := 42) Tryd.underlying9 Tryd.underlying42 (impl_ShellLine.zero40 _) (s := s1) (by simp only [maxLen]; omega)
        rw [HE.out] at hrun
        refine value_ (w1 := ?_) (v := ?_) (by rfl) rfl ?_ ?_
        rotate_left 2
        · go_simp
          constructor
          · rfl
          · rfl
        refine hK.out _ _ (hHeld) (fun hHeld => ?_)
        clear hK K
        refine norm_ (a' := ?_) ?_ ?_
        rotate_left
        · show Act.put _ (some 32) _ = _
          simp only [Act.put, List.setIfInBounds_toArray, List.set_cons_zero, List.set_cons_succ, i64_w, i32_w]
          rfl
        refine pure_ (i := 5) (N := some 27) (v := ?_) (a' := ?_) #[true, true, true, true, true, true, false, false, false, false, false] rfl rfl (by kernel_rfl) (fun _ _ _ h => h) (Or.inl ⟨by rfl, ?_⟩) ?_ ?_
        rotate_left
        · intro w'
          go_simp
          with_reducible rfl
        rotate_left
        · simp only [Act.put, List.setIfInBounds_toArray, List.set_cons_zero, List.set_cons_succ, i64_w, i32_w]
          rfl
        refine pure_ (i := 6) (N := some 33) (v := ?_) (a' := ?_) #[true, true, true, true, true, true, true, false, false, false, false] rfl rfl (by kernel_rfl) (fun _ _ _ h => h) (Or.inl ⟨by rfl, ?_⟩) ?_ ?_
        rotate_left
        · intro w'
          go_simp
          with_reducible rfl
        rotate_left
        · simp only [Act.put, List.setIfInBounds_toArray, List.set_cons_zero, List.set_cons_succ, i64_w, i32_w]
          rfl
        refine pure_ (i := 7) (N := some 34) (v := ?_) (a' := ?_) #[true, true, true, true, true, true, true, true, false, false, false] rfl rfl (by kernel_rfl) (fun _ _ _ h => h) (Or.inl ⟨by rfl, ?_⟩) ?_ ?_
        rotate_left
        · intro w'
          go_simp
          with_reducible rfl
        rotate_left
        · simp only [Act.put, List.setIfInBounds_toArray, List.set_cons_zero, List.set_cons_succ, i64_w, i32_w]
          rfl
        refine one_ (i := 8) (N := some 8) #[true, true, true, true, true, true, true, true, true, false, false] rfl rfl (by kernel_rfl) (by decide) (fun K hK => ?_)
        refine value_ (w1 := ?_) (v := ?_) (by rfl) rfl ?_ ?_
        rotate_left 2
        · go_simp
          constructor
          · rfl
          · rfl
        refine hK.out _ _ (pw_cell_below (below_alloc (Below.refl _ _) _) hHeld) (fun hHeld => ?_)
        clear hK K
        refine norm_ (a' := ?_) ?_ ?_
        rotate_left
        · show Act.put _ (some 8) _ = _
          simp only [Act.put, List.setIfInBounds_toArray, List.set_cons_zero, List.set_cons_succ, i64_w, i32_w]
          rfl
        exact norm_ (by simp only [putAll, Act.put, List.setIfInBounds_toArray, List.set_cons_zero, List.set_cons_succ]) (hCont (mb, w10.heap.size) _ ⟨hHeld, blk_new w10 _, below_step B10 (below_alloc (Below.refl _ _) _), B10.size⟩)
      · skip
        refine value_ (w1 := ?_) (v := ?_) (by rfl) rfl ?_ ?_
        rotate_left 2
        · go_simp
          constructor
          · rfl
          · rfl
        refine hK.out _ _ (pw_cell_below (below_alloc (Below.refl _ _) _) hHeld) (fun hHeld => ?_)
        clear hK K
        refine norm_ (a' := ?_) ?_ ?_
        rotate_left
        · show Act.put _ (some 8) _ = _
          simp only [Act.put, List.setIfInBounds_toArray, List.set_cons_zero, List.set_cons_succ, i64_w, i32_w]
          rfl
        refine one_ (i := 4) (N := some 32) #[true, true, true, true, true, false, false, false, true, false, false] rfl rfl (by kernel_rfl) (by decide) (fun K hK => ?_)
        have hrun := fun o => (M10.below (below_alloc (Below.refl _ _) o)).look (P := Tryd.prog) (k := 9) (e := 40) (t := 42) Tryd.underlying9 Tryd.underlying42 (impl_ShellLine.zero40 _) (s := s1) (by simp only [maxLen]; omega)
        simp only [HE.out] at hrun
        refine value_ (w1 := ?_) (v := ?_) (by rfl) rfl ?_ ?_
        rotate_left 2
        · go_simp
          constructor
          · rfl
          · rfl
        refine hK.out _ _ (hHeld) (fun hHeld => ?_)
        clear hK K
        refine norm_ (a' := ?_) ?_ ?_
        rotate_left
        · show Act.put _ (some 32) _ = _
          simp only [Act.put, List.setIfInBounds_toArray, List.set_cons_zero, List.set_cons_succ, i64_w, i32_w]
          rfl
        refine pure_ (i := 5) (N := some 27) (v := ?_) (a' := ?_) #[true, true, true, true, true, true, false, false, true, false, false] rfl rfl (by kernel_rfl) (fun _ _ _ h => h) (Or.inl ⟨by rfl, ?_⟩) ?_ ?_
        rotate_left
        · intro w'
          go_simp
          with_reducible rfl
        rotate_left
        · simp only [Act.put, List.setIfInBounds_toArray, List.set_cons_zero, List.set_cons_succ, i64_w, i32_w]
          rfl
        refine pure_ (i := 6) (N := some 33) (v := ?_) (a' := ?_) #[true, true, true, true, true, true, true, false, true, false, false] rfl rfl (by kernel_rfl) (fun _ _ _ h => h) (Or.inl ⟨by rfl, ?_⟩) ?_ ?_
        rotate_left
        · intro w'
          go_simp
          with_reducible rfl
        rotate_left
        · simp only [Act.put, List.setIfInBounds_toArray, List.set_cons_zero, List.set_cons_succ, i64_w, i32_w]
          rfl
        refine pure_ (i := 7) (N := some 34) (v := ?_) (a' := ?_) #[true, true, true, true, true, true, true, true, true, false, false] rfl rfl (by kernel_rfl) (fun _ _ _ h => h) (Or.inl ⟨by rfl, ?_⟩) ?_ ?_
        rotate_left
        · intro w'
          go_simp
          with_reducible rfl
        rotate_left
        · simp only [Act.put, List.setIfInBounds_toArray, List.set_cons_zero, List.set_cons_succ, i64_w, i32_w]
          rfl
        exact norm_ (by simp only [putAll, Act.put, List.setIfInBounds_toArray, List.set_cons_zero, List.set_cons_succ]) (hCont (mb, w10.heap.size) _ ⟨hHeld, blk_new w10 _, below_step B10 (below_alloc (Below.refl _ _) _), B10.size⟩)
    · skip
      refine value_ (w1 := ?_) (v := ?_) (by rfl) rfl ?_ ?_
      rotate_left 2
      · go_simp
        constructor
        · rfl
        · rfl
      refine hK.out _ _ (pw_cell_below (below_alloc (Below.refl _ _) _) hHeld) (fun hHeld => ?_)
      clear hK K
      refine norm_ (a' := ?_) ?_ ?_
      rotate_left
      · show Act.put _ (some 8) _ = _
        simp only [Act.put, List.setIfInBounds_toArray, List.set_cons_zero, List.set_cons_succ, i64_w, i32_w]
        rfl
      refine one_ (i := 0) (N := some 28) #[true, true, true, true, false, false, false, false, true, false, false] rfl rfl (by kernel_rfl) (by decide) (fun K hK => ?_)
      refine goes_ Tryd.func16 (by kernel_rfl) rfl #[] (by rfl) rfl rfl zm ?_
      refine (impl_words.calls _ ((HT.out.below (below_drew1 (Below.refl w8.heap.size w8))).below (below_alloc (Below.refl _ _) _))).mono ?_
      rintro e w10 ⟨mb, rfl, M10, b10⟩
      refine ⟨_, rfl, ?_⟩
      have B10 := below_step (below_step (below_drew1 (Below.refl w8.heap.size w8)) (below_alloc (Below.refl _ _) _)) b10
      refine hK.out _ _ (pw_cell_below b10 hHeld) (fun hHeld => ?_)
      clear hK K
      refine norm_ (a' := ?_) ?_ ?_
      rotate_left
      · show Act.put _ (some 28) _ = _
        simp only [Act.put, List.setIfInBounds_toArray, List.set_cons_zero, List.set_cons_succ, i64_w, i32_w]
        rfl
      refine one_ (i := 4) (N := some 32) #[true, true, true, true, true, false, false, false, true, false, false] rfl rfl (by kernel_rfl) (by decide) (fun K hK => ?_)
      have hrun := M10.look (P := Tryd.prog) (k := 9) (e := 40) (t := 42) Tryd.underlying9 Tryd.underlying42 (impl_ShellLine.zero40 _) (s := s1) (by simp only [maxLen]; omega)
      rw [HE.out] at hrun
      refine value_ (w1 := ?_) (v := ?_) (by rfl) rfl ?_ ?_
      rotate_left 2
      · go_simp
        constructor
        · rfl
        · rfl
      refine hK.out _ _ (hHeld) (fun hHeld => ?_)
      clear hK K
      refine norm_ (a' := ?_) ?_ ?_
      rotate_left
      · show Act.put _ (some 32) _ = _
        simp only [Act.put, List.setIfInBounds_toArray, List.set_cons_zero, List.set_cons_succ, i64_w, i32_w]
        rfl
      refine pure_ (i := 5) (N := some 27) (v := ?_) (a' := ?_) #[true, true, true, true, true, true, false, false, true, false, false] rfl rfl (by kernel_rfl) (fun _ _ _ h => h) (Or.inl ⟨by rfl, ?_⟩) ?_ ?_
      rotate_left
      · intro w'
        go_simp
        with_reducible rfl
      rotate_left
      · simp only [Act.put, List.setIfInBounds_toArray, List.set_cons_zero, List.set_cons_succ, i64_w, i32_w]
        rfl
      refine pure_ (i := 6) (N := some 33) (v := ?_) (a' := ?_) #[true, true, true, true, true, true, true, false, true, false, false] rfl rfl (by kernel_rfl) (fun _ _ _ h => h) (Or.inl ⟨by rfl, ?_⟩) ?_ ?_
      rotate_left
      · intro w'
        go_simp
        with_reducible rfl
      rotate_left
      · simp only [Act.put, List.setIfInBounds_toArray, List.set_cons_zero, List.set_cons_succ, i64_w, i32_w]
        rfl
      refine pure_ (i := 7) (N := some 34) (v := ?_) (a' := ?_) #[true, true, true, true, true, true, true, true, true, false, false] rfl rfl (by kernel_rfl) (fun _ _ _ h => h) (Or.inl ⟨by rfl, ?_⟩) ?_ ?_
      rotate_left
      · intro w'
        go_simp
        with_reducible rfl
      rotate_left
      · simp only [Act.put, List.setIfInBounds_toArray, List.set_cons_zero, List.set_cons_succ, i64_w, i32_w]
        rfl
      exact norm_ (by simp only [putAll, Act.put, List.setIfInBounds_toArray, List.set_cons_zero, List.set_cons_succ]) (hCont (mb, w8.heap.size) _ ⟨hHeld, blk_below (blk_new w8.drew _) b10, B10, Nat.le_refl _⟩)
  rintro ⟨mb, gb8⟩ w13 ⟨hS_, hbx, hbb, hge⟩
  have BK8 : Aside0 (w13.heap[gb8]? = some (.cells #[.int .i64 0, .string (⟨#[]⟩ : ByteArray)] 40 (0, 0))) := ⟨hbx⟩
  have BB := Aside0.mk hbb
  have GG8 := Aside0.mk hge
  clear hbx hbb hge
  have hHeld : w13.cell? ⟨ad.block, ad.off + 1, none⟩ = some (.string s1) := hS_
  refine norm_ (a' := ?_) ?_ ?_
  rotate_left
  · simp only [putAll, Act.put, List.setIfInBounds_toArray, List.set_cons_zero, List.set_cons_succ]
    rfl
  refine last_ (i := 9) (N := none) #[true, true, true, true, true, true, true, true, true, true, false] rfl rfl (by kernel_rfl) (by decide) (fun K hK => ?_)
  obtain ⟨hy0, hy1⟩ := cz2 BK8.out
  obtain ⟨hf0, hf1⟩ := fz2 BK8.out
  refine skip_ (w1 := ?_) (by rfl) rfl ?_ ?_
  rotate_left
  · go_simp
    rfl
  refine hK.out _ _ ?_
  clear hK K
  refine pure_ (i := 10) (N := some 9) (v := ?_) (a' := ?_) #[true, true, true, true, true, true, true, true, true, true, true] rfl rfl (by kernel_rfl) (fun _ _ _ h => h) (Or.inl ⟨by rfl, ?_⟩) ?_ ?_
  rotate_left
  · intro w'
    go_simp
    with_reducible rfl
  rotate_left
  · simp only [Act.put, List.setIfInBounds_toArray, List.set_cons_zero, List.set_cons_succ, i64_w, i32_w]
    rfl
  refine done_ (by kernel_rfl) ?_

  obtain ⟨q1, q2, q3⟩ := Q.wfill2 BK8.out (.int .i64 e1) (.string e2)
  have B14 := q3 w8 BB.out GG8.out
  generalize (w13.setCell ⟨gb8, 0, none⟩ (.int .i64 e1)).setCell ⟨gb8, 1, none⟩ (.string e2) = w14 at q1 B14 ⊢
  have GE8 : Aside0 (w.heap.size ≤ gb8) := ⟨Nat.le_trans HB.out.size GG8.out⟩
  replace BK8 := Aside0.mk q1
  replace BK3 := Aside0.mk (blk_below BK3.out B14)
  replace HC := Aside0.mk (Kd.C_below HC.out B14)
  replace HT := Aside0.mk (HT.out.below B14)
  replace HB := Aside0.mk (below_step HB.out B14)
  clear q1 q2 q3 B14 BB GG8 HX1 hx0
  have H := HH.out
  unfold impl_ShellLine.g2 at H
  cases n2 with
  | false =>
    rw [if_neg (by simp)] at H
    simp only [Option.some.injEq, Prod.mk.injEq] at H
    obtain ⟨rfl, rfl, rfl⟩ := H
    obtain ⟨hz0, hz1, hz2, hz3, hz4, hz5⟩ := cz6 BK3.out
    obtain ⟨hf0, hf1, hf2, hf3, hf4, hf5⟩ := fz6 BK3.out
    obtain ⟨q1, q2, q3⟩ := Q.wfill6 BK3.out (.int .i64 0) (.int .i64 0) (.int .i64 0) (.string (⟨#[]⟩ : ByteArray)) (.string (⟨#[]⟩ : ByteArray)) (.string (⟨#[]⟩ : ByteArray))
    have Q1 := Aside0.mk q1
    have Q3 := Aside0.mk (q3 w HB.out GE3.out)
    clear q1 q2 q3
    go_wp2
    refine bodyPost_ret (results_list (rs := [.tmp 2, .cell 3 23, .tmp 4]) rfl (by simp) (.tmp (.cell gb3 23 #[.int .i64 0, .int .i64 0, .int .i64 0, .string (⟨#[]⟩ : ByteArray), .string (⟨#[]⟩ : ByteArray), .string (⟨#[]⟩ : ByteArray)] (0, 0) _ rfl Q1.out Tryd.underlying23 rfl zk (.tmp .nil)))) rfl ?_
    exact ⟨rfl, Q3.out⟩
  | true =>
  rw [if_pos rfl] at H
  cases e3 with
  | false =>
    rw [if_neg (by simp)] at H
    simp only [Option.some.injEq, Prod.mk.injEq] at H
    obtain ⟨rfl, rfl, rfl⟩ := H
    obtain ⟨hz0, hz1, hz2, hz3, hz4, hz5⟩ := cz6 BK3.out
    obtain ⟨hf0, hf1, hf2, hf3, hf4, hf5⟩ := fz6 BK3.out
    obtain ⟨q1, q2, q3⟩ := Q.wfill6 BK3.out (.int .i64 0) (.int .i64 0) (.int .i64 0) (.string (⟨#[]⟩ : ByteArray)) (.string (⟨#[]⟩ : ByteArray)) (.string (⟨#[]⟩ : ByteArray))
    have Q1 := Aside0.mk q1
    have Q3 := Aside0.mk (q3 w HB.out GE3.out)
    clear q1 q2 q3
    go_wp2
    refine bodyPost_ret (results_list (rs := [.tmp 2, .cell 3 23, .tmp 4]) rfl (by simp) (.tmp (.cell gb3 23 #[.int .i64 0, .int .i64 0, .int .i64 0, .string (⟨#[]⟩ : ByteArray), .string (⟨#[]⟩ : ByteArray), .string (⟨#[]⟩ : ByteArray)] (0, 0) _ rfl Q1.out Tryd.underlying23 rfl zk (.tmp .nil)))) rfl ?_
    exact ⟨rfl, Q3.out⟩
  | true =>
  rw [if_pos rfl] at H
  by_cases c4 : parts.length = 2 + e2.size
  rotate_left
  · rw [if_neg c4] at H
    have c4b : ((parts.length : Int) - 2 != (e2.size : Int)) = true := bne_iff_ne.mpr (by omega)
    obtain ⟨hy0, hy1⟩ := cz2 BK8.out
    simp only [Option.some.injEq, Prod.mk.injEq] at H
    obtain ⟨rfl, rfl, rfl⟩ := H
    obtain ⟨hz0, hz1, hz2, hz3, hz4, hz5⟩ := cz6 BK3.out
    obtain ⟨hf0, hf1, hf2, hf3, hf4, hf5⟩ := fz6 BK3.out
    obtain ⟨q1, q2, q3⟩ := Q.wfill6 BK3.out (.int .i64 0) (.int .i64 0) (.int .i64 0) (.string (⟨#[]⟩ : ByteArray)) (.string (⟨#[]⟩ : ByteArray)) (.string (⟨#[]⟩ : ByteArray))
    have Q1 := Aside0.mk q1
    have Q3 := Aside0.mk (q3 w HB.out GE3.out)
    clear q1 q2 q3
    go_wp2
    refine bodyPost_ret (results_list (rs := [.tmp 2, .cell 3 23, .tmp 4]) rfl (by simp) (.tmp (.cell gb3 23 #[.int .i64 0, .int .i64 0, .int .i64 0, .string (⟨#[]⟩ : ByteArray), .string (⟨#[]⟩ : ByteArray), .string (⟨#[]⟩ : ByteArray)] (0, 0) _ rfl Q1.out Tryd.underlying23 rfl zk (.tmp .nil)))) rfl ?_
    exact ⟨rfl, Q3.out⟩
  rw [if_pos c4] at H
  have c4b : ((parts.length : Int) - 2 != (e2.size : Int)) = false := bne_eq_false_iff_eq.mpr (by omega)
  replace HH := Aside0.mk H
  clear H
  obtain ⟨hy0, hy1⟩ := cz2 BK8.out
  have C4 := Aside0.mk c4
  clear c4
  go_upto_region 9 with ((with_reducible refine gate_dst (N := 10) rfl ?_); (try (refine gate_guard (by rfl) ?_; dsimp only)); refine box_event ?hg (N := 10) ?hd (cs := #[.int .i64 0, .int .i64 0, .int .i64 0, .string (⟨#[]⟩ : ByteArray), .string (⟨#[]⟩ : ByteArray), .string (⟨#[]⟩ : ByteArray)]) (t := 23) ?hr ?_; (case hd => rfl); (case hg => rfl); (case hr => first | (go_simp; done) | (go_simp; rfl)); intro gb10 hg w5 hbox hb; have BK10 := Aside0.mk hbox; have GE10 := Aside0.mk (by rw [hg]; exact below_size HB.out : w.heap.size ≤ gb10); have N310 := Aside0.mk (by rw [hg]; exact Nat.ne_of_lt (blk_lt BK3.out) : gb3 ≠ gb10); have N810 := Aside0.mk (by rw [hg]; exact Nat.ne_of_lt (blk_lt BK8.out) : gb8 ≠ gb10); have GX := Aside0.mk (Nat.le_of_eq hg.symm); have BX := Aside0.mk hb; obtain ⟨hg0, hg1, hg2, hg3, hg4, hg5⟩ := cz6 BK10.out; obtain ⟨hk0, hk1, hk2, hk3, hk4, hk5⟩ := fz6 BK10.out; clear hy0 hy1; obtain ⟨hy0, hy1⟩ := cz2 (blk_below BK8.out hb); clear hb hbox hg)
  obtain ⟨q1, q2, q3⟩ := Q.wfill6 BK10.out (.int .i64 e1) (.int .i64 0) (.int .i64 0) (.string (⟨#[]⟩ : ByteArray)) (.string (⟨#[]⟩ : ByteArray)) (.string (⟨#[]⟩ : ByteArray))
  have NP : Aside0 (ad.block ≠ gb10) := ⟨by
    obtain ⟨a2, ea, hx⟩ := Kd.at_string HC.out 0 (Int.le_refl _) (by omega)
    injection ea with ea
    subst ea
    have h1 : ad.block < _ := World.block_lt_of_cell? _ _ hx
    have h2 := GX.out
    omega⟩
  have B15 := q3 _ BX.out GX.out
  clear hg0 hg1 hg2 hg3 hg4 hg5 hk0 hk1 hk2 hk3 hk4 hk5 hy0 hy1 q3
  generalize ((((((w5.setCell ⟨gb10, 0, none⟩ (.int .i64 e1)).setCell ⟨gb10, 1, none⟩ (.int .i64 0)).setCell ⟨gb10, 2, none⟩ (.int .i64 0)).setCell ⟨gb10, 3, none⟩ (.string (⟨#[]⟩ : ByteArray))).setCell ⟨gb10, 4, none⟩ (.string (⟨#[]⟩ : ByteArray))).setCell ⟨gb10, 5, none⟩ (.string (⟨#[]⟩ : ByteArray))) = w15 at q1 q2 B15 ⊢
  replace BK10 := Aside0.mk q1
  replace BK3 := Aside0.mk (blk_below BK3.out B15)
  replace BK8 := Aside0.mk (blk_below BK8.out B15)
  replace HC := Aside0.mk (Kd.C_below HC.out B15)
  replace HT := Aside0.mk (HT.out.below B15)
  replace HB := Aside0.mk (below_step HB.out B15)
  clear q1 q2 B15 BX GX
  have HP : Aside0 (∀ i, i + 2 < parts.length → w15.cell? ⟨ad.block, ad.off + 2 + i, none⟩ = some (.string (rdOf ByteArray.empty parts ((i + 2 : Nat) : Int)))) := ⟨fun i hi => by
    obtain ⟨a2, ea, hx⟩ := Kd.at_string HC.out ((i + 2 : Nat) : Int) (by omega) (by omega)
    injection ea with ea
    subst ea
    rw [Int.toNat_natCast] at hx
    exact Q.add_at_ hx⟩
  clear HC
  have C5 : 2 ≤ parts.length := by have := C4.out; omega
  obtain ⟨i9, hi9, hz9⟩ : ∃ i, Tryd.prog.info? 9 = some i ∧ i.size = 1 := by
    cases hi : Tryd.prog.info? 9 with
    | none =>
      have h := info9
      rw [hi] at h
      cases h
    | some i =>
      have h := info9
      rw [hi] at h
      simp only [Option.map_some, Option.some.injEq, Prod.mk.injEq] at h
      exact ⟨i, rfl, h.2.1⟩
  obtain ⟨A55, hA55⟩ : ∃ A, A = (if c7 = (2 : Int).toNat then some ad else (some ad).map (·.add ((2 : Int).toNat * 1))) := ⟨_, rfl⟩
  have hslc := cut_from 32 9 .i64 Tryd.underlying32 hi9 1 hz9 (some ad) parts.length c7 2 (by decide) (by omega)
  rw [← hA55, show (2 : Int).toNat = 2 from rfl] at hslc
  have HA55 : Aside0 (2 < parts.length → A55 = some ⟨ad.block, ad.off + 2, none⟩) := ⟨fun h2 => by
    rw [hA55, if_neg (by simp only [Int.reduceToNat]; omega)]
    exact Q.add_eq_⟩
  clear hA55 hi9 hz9
  obtain ⟨m, hm⟩ : ∃ m, m = parts.length - 2 := ⟨_, rfl⟩
  have hmm : m = e2.size := by have := C4.out; omega
  rw [← hm] at hslc
  have C6 : Aside0 (parts.length = 2 + m) := ⟨by omega⟩
  have HM := Aside0.mk hmm
  clear hm hmm c4b hcap c2 c2a c2b c2c
  go_wp2
  obtain ⟨xr, br, hl⟩ : ∃ xr br, impl_ShellLine.loop parts e2 e2.size 0 ⟨e1, 0, 0, ⟨#[]⟩, ⟨#[]⟩, ⟨#[]⟩⟩ = (xr, br) := ⟨_, _, rfl⟩
  have H := HH.out
  rw [hl] at H
  replace HH := Aside0.mk H
  rw [← HM.out] at hl
  have HL := Aside0.mk hl
  clear H hl
  go_loopg [57] m (fun kq v57 w' => ∃ (i : Nat) (y : S23), v57 = .int .i64 (i : Int) ∧ i + kq = m ∧ Aside0 (impl_ShellLine.loop parts e2 kq i y = (xr, br)) ∧ Aside0 (w'.heap[gb3]? = some (.cells #[.int .i64 0, .int .i64 0, .int .i64 0, .string (⟨#[]⟩ : ByteArray), .string (⟨#[]⟩ : ByteArray), .string (⟨#[]⟩ : ByteArray)] 23 (0, 0))) ∧ Aside0 (w'.heap[gb8]? = some (.cells #[.int .i64 e1, .string e2] 40 (0, 0))) ∧ Aside0 (w'.heap[gb10]? = some (.cells #[.int .i64 y.f0, .int .i64 y.f1, .int .i64 y.f2, .string y.f3, .string y.f4, .string y.f5] 23 (0, 0))) ∧ Aside0 (∀ i, i + 2 < parts.length → w'.cell? ⟨ad.block, ad.off + 2 + i, none⟩ = some (.string (rdOf ByteArray.empty parts ((i + 2 : Nat) : Int)))) ∧ Aside0 (Below w.heap.size w w'))
  case atStart => exact ⟨0, ⟨e1, 0, 0, ⟨#[]⟩, ⟨#[]⟩, ⟨#[]⟩⟩, rfl, by omega, HL, BK3, BK8, BK10, HP, HB⟩
  case round =>
    clear HL BK3 BK8 BK10 HP HT HB
    obtain ⟨i, y, rfl, hi, HL, BK3, BK8, BK10, HP, HB⟩ := hrel
    cases gk with
    | zero =>
      have hlt : ¬ (i : Int) < (m : Int) := by omega
      have h := HL.out
      simp only [impl_ShellLine.loop, Prod.mk.injEq] at h
      obtain ⟨rfl, rfl⟩ := h
      have H := HH.out
      unfold impl_ShellLine.fin at H
      rw [if_pos rfl] at H
      obtain ⟨b, hb, H⟩ := Option.bind_eq_some_iff.1 H
      have HC := Aside0.mk hb
      clear hb
      obtain ⟨hg0, hg1, hg2, hg3, hg4, hg5⟩ := cz6 BK10.out
      go_upto_region 27 with fail
      cases b with
      | false =>
        rw [if_neg (by simp)] at H
        simp only [Option.some.injEq, Prod.mk.injEq] at H
        obtain ⟨rfl, rfl, rfl⟩ := H
        go_upto_region 28 with (go_at_call 9; refine (impl_CallOk.calls k y.f0 y.f1 y.f2 y.f3 y.f4 y.f5 _ _ HC.out).mono ?_; rintro e w9 ⟨rfl, hb⟩; replace BK3 := Aside0.mk (blk_below BK3.out hb); replace BK10 := Aside0.mk (blk_below BK10.out hb); replace HB := Aside0.mk (below_step HB.out hb); clear hb)
        obtain ⟨hz0, hz1, hz2, hz3, hz4, hz5⟩ := cz6 BK3.out
        obtain ⟨hf0, hf1, hf2, hf3, hf4, hf5⟩ := fz6 BK3.out
        obtain ⟨q1, q2, q3⟩ := Q.wfill6 BK3.out (.int .i64 0) (.int .i64 0) (.int .i64 0) (.string (⟨#[]⟩ : ByteArray)) (.string (⟨#[]⟩ : ByteArray)) (.string (⟨#[]⟩ : ByteArray))
        have Q1 := Aside0.mk q1
        have Q3 := Aside0.mk (q3 w HB.out GE3.out)
        clear q1 q2 q3
        go_wp2
        refine bodyPost_ret (results_list (rs := [.tmp 2, .cell 3 23, .tmp 4]) rfl (by simp) (.tmp (.cell gb3 23 #[.int .i64 0, .int .i64 0, .int .i64 0, .string (⟨#[]⟩ : ByteArray), .string (⟨#[]⟩ : ByteArray), .string (⟨#[]⟩ : ByteArray)] (0, 0) _ rfl Q1.out Tryd.underlying23 rfl zk (.tmp .nil)))) rfl ?_
        exact ⟨rfl, Q3.out⟩
      | true =>
        rw [if_pos rfl] at H
        simp only [Option.some.injEq, Prod.mk.injEq] at H
        obtain ⟨rfl, rfl, rfl⟩ := H
        go_upto_region 29 with (go_at_call 9; refine (impl_CallOk.calls k y.f0 y.f1 y.f2 y.f3 y.f4 y.f5 _ _ HC.out).mono ?_; rintro e w9 ⟨rfl, hb⟩; replace BK3 := Aside0.mk (blk_below BK3.out hb); replace BK10 := Aside0.mk (blk_below BK10.out hb); replace HB := Aside0.mk (below_step HB.out hb); clear hb)
        obtain ⟨hz0, hz1, hz2, hz3, hz4, hz5⟩ := cz6 BK3.out
        obtain ⟨hf0, hf1, hf2, hf3, hf4, hf5⟩ := fz6 BK3.out
        obtain ⟨q1, q2, q3⟩ := Q.wfill6 BK3.out (.int .i64 y.f0) (.int .i64 y.f1) (.int .i64 y.f2) (.string y.f3) (.string y.f4) (.string y.f5)
        have Q1 := Aside0.mk (blk_drew q1)
        have Q3 := Aside0.mk (below_drew1 (q3 w HB.out GE3.out))
        clear q1 q2 q3
        refine start_ (n := 5) (S := fun w' => w'.cell? ⟨gb10, 0, none⟩ = some (.int .i64 y.f0) ∧ w'.cell? ⟨gb10, 1, none⟩ = some (.int .i64 y.f1) ∧ w'.cell? ⟨gb10, 2, none⟩ = some (.int .i64 y.f2) ∧ w'.cell? ⟨gb10, 3, none⟩ = some (.string y.f3) ∧ w'.cell? ⟨gb10, 4, none⟩ = some (.string y.f4) ∧ w'.cell? ⟨gb10, 5, none⟩ = some (.string y.f5)) (ds := [3]) #[false, false, false, false, false] (by kernel_rfl) rfl rfl ⟨(blk_cell (blk_drew BK10.out) 0).trans rfl, (blk_cell (blk_drew BK10.out) 1).trans rfl, (blk_cell (blk_drew BK10.out) 2).trans rfl, (blk_cell (blk_drew BK10.out) 3).trans rfl, (blk_cell (blk_drew BK10.out) 4).trans rfl, (blk_cell (blk_drew BK10.out) 5).trans rfl⟩ (fun hHeld => ?_)
        refine pure_ (i := 0) (N := some 104) (v := ?_) (a' := ?_) #[true, false, false, false, false] rfl rfl (by kernel_rfl) (fun _ _ _ h => h) (Or.inl ⟨by rfl, ?_⟩) ?_ ?_
        rotate_left
        · intro w'
          go_simp
          with_reducible rfl
        rotate_left
        · simp only [Act.put, List.setIfInBounds_toArray, List.set_cons_zero, List.set_cons_succ, i64_w, i32_w]
          rfl
        refine pure_ (i := 2) (N := some 2) (v := ?_) (a' := ?_) #[true, false, true, false, false] rfl rfl (by kernel_rfl) (fun _ _ _ h => h) (Or.inl ⟨by rfl, ?_⟩) ?_ ?_
        rotate_left
        · intro w'
          go_simp
          with_reducible rfl
        rotate_left
        · simp only [Act.put, List.setIfInBounds_toArray, List.set_cons_zero, List.set_cons_succ, i64_w, i32_w]
          rfl
        refine take_ (i := 1) (N := some 105) (v := ?_) (a' := ?_) #[true, true, true, false, false] rfl rfl (by kernel_rfl) (fun _ _ _ h => h) (Or.inl ⟨by rfl, ?_⟩) hHeld ?_ ?_
        rotate_left
        · rintro w' ⟨s0, s1, s2, s3, s4, s5⟩
          go_simp
          with_reducible rfl
        rotate_left
        · simp only [Act.put, List.setIfInBounds_toArray, List.set_cons_zero, List.set_cons_succ, i64_w, i32_w]
          rfl
        refine last_ (i := 3) (N := none) #[true, true, true, true, false] rfl rfl (by kernel_rfl) (by decide) (fun K hK => ?_)
        refine skip_ (w1 := ?_) (by rfl) rfl ?_ ?_
        rotate_left
        · go_simp
          rfl
        refine hK.out _ _ ?_
        clear hK K
        refine pure_ (i := 4) (N := some 4) (v := ?_) (a' := ?_) #[true, true, true, true, true] rfl rfl (by kernel_rfl) (fun _ _ _ h => h) (Or.inl ⟨by rfl, ?_⟩) ?_ ?_
        rotate_left
        · intro w'
          go_simp
          with_reducible rfl
        rotate_left
        · simp only [Act.put, List.setIfInBounds_toArray, List.set_cons_zero, List.set_cons_succ, i64_w, i32_w]
          rfl
        refine done_ (by kernel_rfl) ?_
        go_wp2
        refine bodyPost_ret (results_list (rs := [.tmp 2, .cell 3 23, .tmp 4]) rfl (by simp) (.tmp (.cell gb3 23 #[.int .i64 y.f0, .int .i64 y.f1, .int .i64 y.f2, .string y.f3, .string y.f4, .string y.f5] (0, 0) _ rfl Q1.out Tryd.underlying23 rfl zk (.tmp .nil)))) rfl ?_
        exact ⟨rfl, Q3.out⟩
    | succ kr =>
      have hlt : (i : Int) < (m : Int) := by omega
      have ea := HA55.out (by have := C6.out; omega)
      clear HA55
      subst ea
      have hie : i < e2.size := by have := HM.out; omega
      have hiez : (i : Int) < (e2.size : Int) := by omega
      have hx := HP.out i (by have := C6.out; omega)
      obtain ⟨s, hs⟩ : ∃ s, s = rdOf ByteArray.empty parts ((i + 2 : Nat) : Int) := ⟨_, rfl⟩
      have zs : s.size ≤ 1048576 := HSZ.out _ (by rw [hs]; exact Q.rd_mem_ (by have := C6.out; omega))
      have h := HL.out
      simp only [impl_ShellLine.loop] at h
      rw [← hs] at hx h
      replace HL := Aside0.mk h
      clear h hs
      obtain ⟨hy0, hy1⟩ := cz2 BK8.out
      go_upto_block 2 with fail
      obtain ⟨ch, hch⟩ : ∃ ch : Int, ch = ((e2[i]).toNat : Int) := ⟨_, rfl⟩
      rw [← hch]
      have hce : ch = ((e2.data.toList.getD i 0).toNat : Int) := by rw [hch, Q.byte_at_ hie]
      rw [← hce] at HL
      obtain ⟨y1, fine, hst⟩ : ∃ y1 fine, impl_ShellLine.step ch s y = (y1, fine) := ⟨_, _, rfl⟩
      rw [hst] at HL
      have HST := Aside0.mk hst
      clear hst hce hch hy0 hy1 hx
      go_cut [13] from 68 to 95 (fun v13 wc => v13 = .bool fine ∧ Aside0 (wc.heap[gb3]? = some (.cells #[.int .i64 0, .int .i64 0, .int .i64 0, .string (⟨#[]⟩ : ByteArray), .string (⟨#[]⟩ : ByteArray), .string (⟨#[]⟩ : ByteArray)] 23 (0, 0))) ∧ Aside0 (wc.heap[gb8]? = some (.cells #[.int .i64 e1, .string e2] 40 (0, 0))) ∧ Aside0 (wc.heap[gb10]? = some (.cells #[.int .i64 y1.f0, .int .i64 y1.f1, .int .i64 y1.f2, .string y1.f3, .string y1.f4, .string y1.f5] 23 (0, 0))) ∧ Aside0 (∀ i, i + 2 < parts.length → wc.cell? ⟨ad.block, ad.off + 2 + i, none⟩ = some (.string (rdOf ByteArray.empty parts ((i + 2 : Nat) : Int)))) ∧ Aside0 (Below w.heap.size w wc))
      case first =>
        have hst := HST.out
        unfold impl_ShellLine.step at hst
        obtain ⟨hf0, hf1, hf2, hf3, hf4, hf5⟩ := fz6 BK10.out
        obtain ⟨hg0, hg1, hg2, hg3, hg4, hg5⟩ := cz6 BK10.out
        by_cases kc0 : ch = 97
        · rw [if_pos kc0] at hst
          have kc0b : (ch == 97) = true := beq_iff_eq.mpr kc0
          clear kc0
          simp only [Prod.mk.injEq] at hst
          obtain ⟨rfl, rfl⟩ := hst
          go_wp2_with (go_at_call 15; refine (impl_number.calls s _ (HT0.out.below HB.out) zs).mono ?_; rintro e w9 ⟨rfl, hb⟩; replace BK3 := Aside0.mk (blk_below BK3.out hb); replace BK8 := Aside0.mk (blk_below BK8.out hb); replace BK10 := Aside0.mk (blk_below BK10.out hb); replace HP := Aside0.mk (fun i hi => pw_cell_below hb (HP.out i hi)); replace HB := Aside0.mk (below_step HB.out hb); clear hb hf0 hf1 hf2 hf3 hf4 hf5 hg0 hg1 hg2 hg3 hg4 hg5; obtain ⟨hf0, hf1, hf2, hf3, hf4, hf5⟩ := fz6 BK10.out; obtain ⟨hg0, hg1, hg2, hg3, hg4, hg5⟩ := cz6 BK10.out)
          go_meet
          case rel => exact ⟨rfl, ⟨blk_far BK3.out N310.out _⟩, ⟨blk_far BK8.out N810.out _⟩, ⟨blk_put BK10.out 1 _ rfl⟩, ⟨fun i hi => Q.cell_far_ (HP.out i hi) NP.out⟩, ⟨below_set HB.out GE10.out⟩⟩
        rw [if_neg kc0] at hst
        have kc0b : (ch == 97) = false := beq_eq_false_iff_ne.mpr kc0
        by_cases kc1 : ch = 98
        · rw [if_pos kc1] at hst
          have kc1b : (ch == 98) = true := beq_iff_eq.mpr kc1
          clear kc1
          simp only [Prod.mk.injEq] at hst
          obtain ⟨rfl, rfl⟩ := hst
          go_wp2_with (go_at_call 15; refine (impl_number.calls s _ (HT0.out.below HB.out) zs).mono ?_; rintro e w9 ⟨rfl, hb⟩; replace BK3 := Aside0.mk (blk_below BK3.out hb); replace BK8 := Aside0.mk (blk_below BK8.out hb); replace BK10 := Aside0.mk (blk_below BK10.out hb); replace HP := Aside0.mk (fun i hi => pw_cell_below hb (HP.out i hi)); replace HB := Aside0.mk (below_step HB.out hb); clear hb hf0 hf1 hf2 hf3 hf4 hf5 hg0 hg1 hg2 hg3 hg4 hg5; obtain ⟨hf0, hf1, hf2, hf3, hf4, hf5⟩ := fz6 BK10.out; obtain ⟨hg0, hg1, hg2, hg3, hg4, hg5⟩ := cz6 BK10.out)
          go_meet
          case rel => exact ⟨rfl, ⟨blk_far BK3.out N310.out _⟩, ⟨blk_far BK8.out N810.out _⟩, ⟨blk_put BK10.out 2 _ rfl⟩, ⟨fun i hi => Q.cell_far_ (HP.out i hi) NP.out⟩, ⟨below_set HB.out GE10.out⟩⟩
        rw [if_neg kc1] at hst
        have kc1b : (ch == 98) = false := beq_eq_false_iff_ne.mpr kc1
        by_cases kc2 : ch = 112
        · rw [if_pos kc2] at hst
          have kc2b : (ch == 112) = true := beq_iff_eq.mpr kc2
          clear kc2
          simp only [Prod.mk.injEq] at hst
          obtain ⟨rfl, rfl⟩ := hst
          go_wp2
          go_meet
          case rel => exact ⟨rfl, ⟨blk_far BK3.out N310.out _⟩, ⟨blk_far BK8.out N810.out _⟩, ⟨blk_put BK10.out 3 _ rfl⟩, ⟨fun i hi => Q.cell_far_ (HP.out i hi) NP.out⟩, ⟨below_set HB.out GE10.out⟩⟩
        rw [if_neg kc2] at hst
        have kc2b : (ch == 112) = false := beq_eq_false_iff_ne.mpr kc2
        by_cases kc3 : ch = 113
        · rw [if_pos kc3] at hst
          have kc3b : (ch == 113) = true := beq_iff_eq.mpr kc3
          clear kc3
          simp only [Prod.mk.injEq] at hst
          obtain ⟨rfl, rfl⟩ := hst
          go_wp2
          go_meet
          case rel => exact ⟨rfl, ⟨blk_far BK3.out N310.out _⟩, ⟨blk_far BK8.out N810.out _⟩, ⟨blk_put BK10.out 4 _ rfl⟩, ⟨fun i hi => Q.cell_far_ (HP.out i hi) NP.out⟩, ⟨below_set HB.out GE10.out⟩⟩
        rw [if_neg kc3] at hst
        have kc3b : (ch == 113) = false := beq_eq_false_iff_ne.mpr kc3
        by_cases kc4 : ch = 116
        · rw [if_pos kc4] at hst
          have kc4b : (ch == 116) = true := beq_iff_eq.mpr kc4
          clear kc4
          simp only [Prod.mk.injEq] at hst
          obtain ⟨rfl, rfl⟩ := hst
          go_wp2
          go_meet
          case rel => exact ⟨rfl, ⟨blk_far BK3.out N310.out _⟩, ⟨blk_far BK8.out N810.out _⟩, ⟨blk_put BK10.out 5 _ rfl⟩, ⟨fun i hi => Q.cell_far_ (HP.out i hi) NP.out⟩, ⟨below_set HB.out GE10.out⟩⟩
        rw [if_neg kc4] at hst
        have kc4b : (ch == 116) = false := beq_eq_false_iff_ne.mpr kc4
        simp only [Prod.mk.injEq] at hst
        obtain ⟨rfl, rfl⟩ := hst
        go_wp2
        go_meet
        case rel => exact ⟨rfl, BK3, BK8, BK10, HP, HB⟩
      case rest =>
        obtain ⟨rfl, BK3, BK8, BK10, HP, HB⟩ := hcut
        have h := HL.out
        cases fine with
        | false =>
          rw [if_neg (by simp)] at h
          simp only [Prod.mk.injEq] at h
          obtain ⟨_, rfl⟩ := h
          have H := HH.out
          unfold impl_ShellLine.fin at H
          rw [if_neg (by simp)] at H
          simp only [Option.some.injEq, Prod.mk.injEq] at H
          obtain ⟨rfl, rfl, rfl⟩ := H
          obtain ⟨hz0, hz1, hz2, hz3, hz4, hz5⟩ := cz6 BK3.out
          obtain ⟨hf0, hf1, hf2, hf3, hf4, hf5⟩ := fz6 BK3.out
          obtain ⟨q1, q2, q3⟩ := Q.wfill6 BK3.out (.int .i64 0) (.int .i64 0) (.int .i64 0) (.string (⟨#[]⟩ : ByteArray)) (.string (⟨#[]⟩ : ByteArray)) (.string (⟨#[]⟩ : ByteArray))
          have Q1 := Aside0.mk q1
          have Q3 := Aside0.mk (q3 w HB.out GE3.out)
          clear q1 q2 q3
          go_wp2
          refine bodyPost_ret (results_list (rs := [.tmp 2, .cell 3 23, .tmp 4]) rfl (by simp) (.tmp (.cell gb3 23 #[.int .i64 0, .int .i64 0, .int .i64 0, .string (⟨#[]⟩ : ByteArray), .string (⟨#[]⟩ : ByteArray), .string (⟨#[]⟩ : ByteArray)] (0, 0) _ rfl Q1.out Tryd.underlying23 rfl zk (.tmp .nil)))) rfl ?_
          exact ⟨rfl, Q3.out⟩
        | true =>
          rw [if_pos rfl] at h
          have HL1 := Aside0.mk h
          clear h
          have hib : (i : Int) + 1 ≤ 1048577 := by have := C6.out; omega
          go_wp2
          go_roundg kr
          case measure => omega
          case rel => exact ⟨i + 1, y1, by go_num, by omega, HL1, BK3, BK8, BK10, HP, HB⟩


end Go.Proofs.YtkjjlkkfhbfbmaaDoor.P
