-- printed by wip/qd.py
import Derived.Test.YthoapmfpokohnaaPf0
import Derived.Test.YthoapmfpokohnaaPfE1
import Derived.Test.YthoapmfpokohnaaPfM7
import Derived.Test.YthoapmfpokohnaaPfM8
import Derived.Test.YthoapmfpokohnaaQTell
import Derived.Test.YthoapmfpokohnaaQSem9
import Derived.Test.YthoapmfpokohnaaQTwo
namespace Go.Proofs.Ythoapmfpokohnaa.P
open Go.RowKit Go.Proofs.YthoapmfpokohnaaW.PrintWords Go.Proofs.YthoapmfpokohnaaW.PrintLast Go.Proofs.YthoapmfpokohnaaW.PrintMore
attribute [local go_sem] max2_int min2_int max_two min_two max_three min_three max_four min_four Q.cell_set_map Q.str_gtr Q.str_geq Q.str_leq
set_option linter.unusedVariables false
set_option linter.unusedSimpArgs false

/-! ### impl_MemOk: function 19 -/
-- IMPORT Derived.Test.YthoapmfpokohnaaQTell
-- IMPORT Derived.Test.YthoapmfpokohnaaQSem9
-- IMPORT Derived.Test.YthoapmfpokohnaaQTwo
attribute [local go_sem high] eqA65
def impl_MemOk.ne (t : S65) : Bool := !(t.f0 == 0) || (!(t.f1 == 0) || (t.f2 || t.f3))
def impl_MemOk.slot (k : Nat) (l0_0 : List ByteArray) (l0_1 : List Int) (l0_2 : List ByteArray) (l0_3 : List Int) (s : S63) (page : Int) : Option (Option (List ((Int × Int) × S94))) :=
 (if (rd_T65 s.f2 page).f0 = 0 then some true else (impl_AreasAt.f k s.f1 page).bind fun a => some (decide (a < 0))).bind fun z =>
 if z = true then (if impl_MemOk.ne (rd_T65 s.f2 page) = true then some none else some (some []))
 else (if (rd_T65 s.f2 page).f0 = 1 then (impl_Pages_has.f l0_0 l0_1 (rd_T65 s.f2 page).f1).bind fun h => some (!h) else some false).bind fun b1 =>
  if b1 = true then some none else
  (if (rd_T65 s.f2 page).f0 = 2 then (impl_Pages_has.f l0_2 l0_3 (rd_T65 s.f2 page).f1).bind fun h => some (!h) else some false).bind fun b2 =>
  if b2 = true then some none else
  (impl_in.f (rd_T65 s.f2 page).f0 1 2).bind fun b3 =>
  if b3 = true then
   (impl_Space_shared.f k s.f0 s.f1 s.f2 page).bind fun sh =>
   if sh = true then (if (rd_T65 s.f2 page).f2 = true then some (some [(((rd_T65 s.f2 page).f0, (rd_T65 s.f2 page).f1), ⟨(rd_T65 s.f2 page).f2, true⟩)]) else some none)
   else some (some [(((rd_T65 s.f2 page).f0, (rd_T65 s.f2 page).f1), ⟨(rd_T65 s.f2 page).f2, false⟩)])
  else some none
def impl_MemOk.slots (k : Nat) (l0_0 : List ByteArray) (l0_1 : List Int) (l0_2 : List ByteArray) (l0_3 : List Int) (s : S63) : Nat → Int → List ((Int × Int) × S94) → Option (Option (List ((Int × Int) × S94)))
 | 0, _, T => some (some T)
 | n + 1, p, T => (impl_MemOk.slot k l0_0 l0_1 l0_2 l0_3 s p).bind fun o => match o with
  | none => some none
  | some l => impl_MemOk.slots k l0_0 l0_1 l0_2 l0_3 s n (p + 1) (T ++ l)
def impl_MemOk.spaces (k : Nat) (l0_0 : List ByteArray) (l0_1 : List Int) (l0_2 : List ByteArray) (l0_3 : List Int) (l0_4 : List S63) : Nat → Int → List ((Int × Int) × S94) → Option (Option (List ((Int × Int) × S94)))
 | 0, _, T => some (some T)
 | n + 1, i, T => if (rd_T63 l0_4 i).f0 = true then
   (impl_AreasOk.f k (rd_T63 l0_4 i).f1).bind fun ok =>
   if ok = true then (if ((rd_T63 l0_4 i).f2.length : Int) = 16 then (impl_MemOk.slots k l0_0 l0_1 l0_2 l0_3 (rd_T63 l0_4 i) (rd_T63 l0_4 i).f2.length 0 T).bind fun o => match o with
    | none => some none
    | some T' => impl_MemOk.spaces k l0_0 l0_1 l0_2 l0_3 l0_4 n (i + 1) T'
    else some none)
   else some none
  else if ((rd_T63 l0_4 i).f1.length : Int) > 0 then some none else if ((rd_T63 l0_4 i).f2.length : Int) > 0 then some none else impl_MemOk.spaces k l0_0 l0_1 l0_2 l0_3 l0_4 n (i + 1) T
def impl_MemOk.bad (x y : S94) : Bool := x.f0 && !(x.f1 && y.f1)
def impl_MemOk.row (l : List S94) (i : Nat) : Nat → Nat → Bool
 | 0, _ => true
 | g + 1, j => !(i != j && impl_MemOk.bad (rd_T94 l (i : Int)) (rd_T94 l (j : Int))) && impl_MemOk.row l i g (j + 1)
def impl_MemOk.pairs (l : List S94) : Nat → Nat → Bool
 | 0, _ => true
 | g + 1, i => impl_MemOk.row l i l.length 0 && impl_MemOk.pairs l g (i + 1)
def impl_MemOk.place (T : List ((Int × Int) × S94)) (kind : Int) (refs : List Int) (a : Nat) : Bool := decide (((Q.at_ T (kind, (a : Int))).length : Int) = rd refs (a : Int)) && impl_MemOk.pairs (Q.at_ T (kind, (a : Int))) (Q.at_ T (kind, (a : Int))).length 0
def impl_MemOk.places (T : List ((Int × Int) × S94)) (kind : Int) (refs : List Int) : Nat → Nat → Bool
 | 0, _ => true
 | g + 1, a => impl_MemOk.place T kind refs a && impl_MemOk.places T kind refs g (a + 1)
def impl_MemOk.end (l0_1 l0_3 : List Int) (o : Option (List ((Int × Int) × S94))) : Bool := match o with
 | none => false
 | some T => impl_MemOk.places T 1 l0_1 l0_1.length 0 && impl_MemOk.places T 2 l0_3 l0_3.length 0
def impl_MemOk.next (k : Nat) (l0_0 : List ByteArray) (l0_1 : List Int) (l0_2 : List ByteArray) (l0_3 : List Int) (l0_4 : List S63) (g : Nat) (i : Int) (o : Option (List ((Int × Int) × S94))) : Option Bool :=
 (match o with
 | none => some none
 | some T' => impl_MemOk.spaces k l0_0 l0_1 l0_2 l0_3 l0_4 g i T').bind fun o => some (impl_MemOk.end l0_1 l0_3 o)
def impl_MemOk.then_ (k : Nat) (l0_0 : List ByteArray) (l0_1 : List Int) (l0_2 : List ByteArray) (l0_3 : List Int) (l0_4 : List S63) (s : S63) (g2 : Nat) (p : Int) (T2 : List ((Int × Int) × S94)) (g : Nat) (i : Int) (y : Option (List ((Int × Int) × S94))) : Option Bool :=
 (match y with
 | none => some none
 | some l => impl_MemOk.slots k l0_0 l0_1 l0_2 l0_3 s g2 p (T2 ++ l)).bind (impl_MemOk.next k l0_0 l0_1 l0_2 l0_3 l0_4 g i)
def impl_MemOk.f (k : Nat) (l0_0 : List ByteArray) (l0_1 : List Int) (l0_2 : List ByteArray) (l0_3 : List Int) (l0_4 : List S63) (a0_5 : Int) : Option Bool :=
 (impl_PagesOk.f k l0_0 l0_1).bind fun t1 => if t1 = true then (if (l0_1.length : Int) = 12 then (impl_PagesOk.f k l0_2 l0_3).bind fun t2 => if t2 = true then (if (l0_3.length : Int) = 12 then (if (l0_4.length : Int) = 5 then (impl_in.f a0_5 0 11).bind fun t3 =>
  if t3 = true then (impl_MemOk.spaces k l0_0 l0_1 l0_2 l0_3 l0_4 l0_4.length 0 []).bind fun o => some (impl_MemOk.end l0_1 l0_3 o) else some false
  else some false) else some false) else some false else some false) else some false
theorem impl_MemOk.slot_mono (k : Nat) (l0_0 : List ByteArray) (l0_1 : List Int) (l0_2 : List ByteArray) (l0_3 : List Int) (s : S63) (p : Int) : LeO (impl_MemOk.slot k l0_0 l0_1 l0_2 l0_3 s p) (impl_MemOk.slot (k + 1) l0_0 l0_1 l0_2 l0_3 s p) := by
 unfold impl_MemOk.slot
 repeat' first
 | exact impl_AreasAt.mono _ _ _
 | exact impl_Space_shared.mono _ _ _ _ _
 | (with_reducible exact LeO.refl _)
 | (with_reducible refine LeO.ite ?_ ?_)
 | (with_reducible refine LeO.bind ?_ (fun _ => ?_))
theorem impl_MemOk.slots_mono (k : Nat) (l0_0 : List ByteArray) (l0_1 : List Int) (l0_2 : List ByteArray) (l0_3 : List Int) (s : S63) : ∀ (n : Nat) (p : Int) (T : List ((Int × Int) × S94)), LeO (impl_MemOk.slots k l0_0 l0_1 l0_2 l0_3 s n p T) (impl_MemOk.slots (k + 1) l0_0 l0_1 l0_2 l0_3 s n p T)
 | 0, _, _ => LeO.refl _
 | n + 1, p, T => LeO.bind (impl_MemOk.slot_mono _ _ _ _ _ _ _) (fun o => match o with
  | none => LeO.refl _
  | some l => impl_MemOk.slots_mono k l0_0 l0_1 l0_2 l0_3 s n (p + 1) (T ++ l))
theorem impl_MemOk.spaces_mono (k : Nat) (l0_0 : List ByteArray) (l0_1 : List Int) (l0_2 : List ByteArray) (l0_3 : List Int) (l0_4 : List S63) : ∀ (n : Nat) (i : Int) (T : List ((Int × Int) × S94)), LeO (impl_MemOk.spaces k l0_0 l0_1 l0_2 l0_3 l0_4 n i T) (impl_MemOk.spaces (k + 1) l0_0 l0_1 l0_2 l0_3 l0_4 n i T)
 | 0, _, _ => LeO.refl _
 | n + 1, i, T => LeO.ite (LeO.bind (impl_AreasOk.mono _ _) (fun _ => LeO.ite (LeO.ite (LeO.bind (impl_MemOk.slots_mono _ _ _ _ _ _ _ _ _) (fun o => match o with
  | none => LeO.refl _
  | some T' => impl_MemOk.spaces_mono k l0_0 l0_1 l0_2 l0_3 l0_4 n (i + 1) T')) (LeO.refl _)) (LeO.refl _))) (LeO.ite (LeO.refl _) (LeO.ite (LeO.refl _) (impl_MemOk.spaces_mono k l0_0 l0_1 l0_2 l0_3 l0_4 n (i + 1) T)))
theorem impl_MemOk.mono : ∀ a0 a1 a2 a3 a4 a5 k, LeO (impl_MemOk.f k a0 a1 a2 a3 a4 a5) (impl_MemOk.f (k + 1) a0 a1 a2 a3 a4 a5) := by
 intro a0 a1 a2 a3 a4 a5 k
 unfold impl_MemOk.f
 repeat' first
 | exact impl_PagesOk.mono _ _ _
 | exact impl_MemOk.spaces_mono _ _ _ _ _ _ _ _ _
 | (with_reducible exact LeO.refl _)
 | (with_reducible refine LeO.ite ?_ ?_)
 | (with_reducible refine LeO.bind ?_ (fun _ => ?_))
theorem impl_MemOk.has_bd {l0 : List ByteArray} {l1 : List Int} {a : Int} (h : impl_Pages_has.f l0 l1 a = some true) : 0 ≤ a ∧ a < l1.length := by
 unfold impl_Pages_has.f at h
 obtain ⟨t, _, h⟩ := Option.bind_eq_some_iff.1 h
 split at h
 ·
  split at h
  ·
   split at h
   ·
    rename_i h1 h2
    exact ⟨h1, h2⟩
   ·
    cases h
  ·
   cases h
 ·
  cases h
theorem impl_MemOk.in_bd {a b c : Int} (h : impl_in.f a b c = some true) : b ≤ a ∧ a ≤ c := by
 unfold impl_in.f at h
 split at h
 ·
  rename_i h1
  exact ⟨h1, by simpa using h⟩
 ·
  cases h
theorem impl_MemOk.in_no {a : Int} {b : Bool} (h : impl_in.f a 1 2 = some b) (h1 : ¬ a = 1) (h2 : ¬ a = 2) : b = false := by
 cases b with
 | false => rfl
 | true =>
  have := impl_MemOk.in_bd h
  omega
theorem impl_MemOk.bd1 {l0 : List ByteArray} {l1 : List Int} {a : Int} (hl : l1.length = 12) (h : impl_Pages_has.f l0 l1 a = some true) : 0 ≤ a ∧ a < 12 := by
 have := impl_MemOk.has_bd h
 omega
theorem impl_MemOk.okq_of {a c : Int} (h : impl_in.f a 1 2 = some true) (hc : 0 ≤ c ∧ c < 12) : Aside0 (Q.okq (a, c)) := by
 have := impl_MemOk.in_bd h
 have m1 : IntKind.i64.min = -9223372036854775808 := by rfl
 have m2 : IntKind.i64.max = 9223372036854775807 := by rfl
 refine ⟨⟨?_, ?_⟩⟩ <;> (simp only [Lit.wf, Bool.and_eq_true, decide_eq_true_eq, m1, m2]; omega)
theorem impl_MemOk.okq_2 {n a : Nat} (h : n = 1 ∨ n = 2) (ha : a < 12) : Q.okq ((n : Int), (a : Int)) := by
 have m1 : IntKind.i64.min = -9223372036854775808 := by rfl
 have m2 : IntKind.i64.max = 9223372036854775807 := by rfl
 refine ⟨?_, ?_⟩ <;> (simp only [Lit.wf, Bool.and_eq_true, decide_eq_true_eq, m1, m2]; omega)
theorem impl_MemOk.zero (u : World) : (zeroValue 92).run Try.prog u = .ok (.slice none 0 0) u := by kernel_rfl
theorem impl_MemOk.laid : laidOutB Try.prog = true := by kernel_rfl
theorem impl_MemOk.arr : Go.WideMaps.ArrKey Try.prog 91 3 2 := ⟨Try.underlying91, by kernel_rfl, by kernel_rfl, by kernel_rfl⟩
theorem impl_MemOk.law : Go.WideMaps.KeyLaw Try.prog 91 := Go.deep_law_laid impl_MemOk.laid (m := 2) (by omega) (of_decide_eq_true zk) zk (by rw [Try.underlying91])
theorem impl_MemOk.tys : ∃ m, Try.prog.types.size = m + 1 := ⟨Try.prog.types.size - 1, by kernel_rfl⟩
def impl_MemOk.rest (k : Nat) (l0_0 : List ByteArray) (l0_1 : List Int) (l0_2 : List ByteArray) (l0_3 : List Int) (l0_4 : List S63) (x : Bool) : Option Bool :=
 if x = true then some false else (impl_MemOk.spaces k l0_0 l0_1 l0_2 l0_3 l0_4 l0_4.length 0 []).bind fun o => some (impl_MemOk.end l0_1 l0_3 o)
set_option maxHeartbeats 8000000 in
set_option maxRecDepth 100000 in
theorem impl_MemOk.calls (k : Nat) (A0_0 : Option Addr) (c0_0 : Nat) (l0_0 : List ByteArray) (A0_1 : Option Addr) (c0_1 : Nat) (l0_1 : List Int) (A0_2 : Option Addr) (c0_2 : Nat) (l0_2 : List ByteArray) (A0_3 : Option Addr) (c0_3 : Nat) (l0_3 : List Int) (A0_4 : Option Addr) (c0_4 : Nat) (l0_4 : List (S63)) (a0_5 : Int) (r : Bool) (w : World) (hr0_0 : Kd.C Kd.string w A0_0 l0_0.length l0_0) (hc0_0 : l0_0.length ≤ c0_0) (hr0_1 : Kd.C (Kd.int .i64) w A0_1 l0_1.length l0_1) (hc0_1 : l0_1.length ≤ c0_1) (hr0_2 : Kd.C Kd.string w A0_2 l0_2.length l0_2) (hc0_2 : l0_2.length ≤ c0_2) (hr0_3 : Kd.C (Kd.int .i64) w A0_3 l0_3.length l0_3) (hc0_3 : l0_3.length ≤ c0_3) (hr0_4 : Kd.C k63 w A0_4 l0_4.length l0_4) (hc0_4 : l0_4.length ≤ c0_4) (h : impl_MemOk.f k l0_0 l0_1 l0_2 l0_3 l0_4 a0_5 = some r) :
  Calls Try.prog 19 #[.agg #[.slice A0_0 l0_0.length c0_0, .slice A0_1 l0_1.length c0_1, .slice A0_2 l0_2.length c0_2, .slice A0_3 l0_3.length c0_3, .slice A0_4 l0_4.length c0_4, .int .i64 a0_5]] w fun e w' => e = .returned (.bool r) ∧ Below w.heap.size w w' := by
 have hu46 := Try.underlying46; have hu43 := Try.underlying43; have hu63 := Try.underlying63; have hu65 := Try.underlying65; have HR0_0 := Aside0.mk hr0_0; have HC0_0 := Aside0.mk hc0_0; have HR0_1 := Aside0.mk hr0_1; have HC0_1 := Aside0.mk hc0_1; have HR0_2 := Aside0.mk hr0_2; have HC0_2 := Aside0.mk hc0_2; have HR0_3 := Aside0.mk hr0_3; have HC0_3 := Aside0.mk hc0_3; have HR0_4 := Aside0.mk hr0_4; have HC0_4 := Aside0.mk hc0_4; clear hr0_0 hc0_0 hr0_1 hc0_1 hr0_2 hc0_2 hr0_3 hc0_3 hr0_4 hc0_4; have HB := Aside0.mk (Below.refl w.heap.size w); have H : _ = _ := h
 unfold impl_MemOk.f at H
 have HH := Aside0.mk H; clear h H
 go_enter Try.func19, Try.ntmps19
 go_upto_region 1 with (first | ((with_reducible refine gate_dst (N := 1) rfl ?_); (try (refine gate_guard (by rfl) ?_; dsimp only)); refine box_event ?hg (N := 1) ?hd (cs := #[.slice A0_0 l0_0.length c0_0, .slice A0_1 l0_1.length c0_1, .slice A0_2 l0_2.length c0_2, .slice A0_3 l0_3.length c0_3, .slice A0_4 l0_4.length c0_4, .int .i64 a0_5]) (t := 46) ?hr ?_; (case hd => rfl); (case hg => rfl); (case hr => first | (go_simp; done) | (go_simp; rfl)); intro gb101 hg w3 hbox hb; have BK101 := Aside0.mk (hbox); have GW101 := Aside0.mk ((by rw [hg]; exact (below_size (bz HB.out)) : w.heap.size ≤ gb101)); have GE101 := GW101; replace HB := Aside0.mk (below_step (bz HB.out) hb); clear hb hbox hg))
 (try simp only [Act.put, List.setIfInBounds_toArray, List.set_cons_zero, List.set_cons_succ])
 go_cut [53] (fun v53 wc => ∃ (x : Bool), v53 = .bool x ∧ Aside0 (impl_MemOk.rest k l0_0 l0_1 l0_2 l0_3 l0_4 x = some r) ∧ Aside0 (x = false → l0_1.length = 12 ∧ l0_3.length = 12 ∧ l0_4.length = 5) ∧ Aside0 (wc.heap[gb101]? = some (.cells #[(.slice A0_0 l0_0.length c0_0), (.slice A0_1 l0_1.length c0_1), (.slice A0_2 l0_2.length c0_2), (.slice A0_3 l0_3.length c0_3), (.slice A0_4 l0_4.length c0_4), .int .i64 a0_5] 46 (0, 0))) ∧ Aside0 (Below w.heap.size w wc))
 case first =>
  have H := HH.out; clear HH; obtain ⟨t1, h1, H⟩ := Option.bind_eq_some_iff.1 H; have H1 := Aside0.mk h1; clear h1; obtain ⟨hcz0, hcz1, hcz2, hcz3, hcz4, hcz5⟩ := cz6 BK101.out

  cases t1 with
  | false =>
   rw [if_neg nf_] at H; have HF := Aside0.mk H; clear H
   go_wp2_with (first | (go_at_call 53; (with_reducible refine (impl_PagesOk.calls k _ _ l0_0 _ _ l0_1 _ _ ?side1 ?side2 ?side3 ?side4 H1.out).mono ?_); (case side1 => exact cz (Kd.C_below HR0_0.out HB.out)); (case side2 => exact HC0_0.out); (case side3 => exact cz (Kd.C_below HR0_1.out HB.out)); (case side4 => exact HC0_1.out); rintro e w9 ⟨rfl, hb⟩; replace BK101 := Aside0.mk (blk_below (kz BK101.out) hb); replace HB := Aside0.mk (below_step (bs HB.out GE101.out) hb); (try clear hb); clear hcz0 hcz1 hcz2 hcz3 hcz4 hcz5; obtain ⟨hcz0, hcz1, hcz2, hcz3, hcz4, hcz5⟩ := cz6 BK101.out))
   go_meet
   case rel => exact ⟨true, zr, HF, ⟨fun h => by cases h⟩, ⟨kz (BK101.out)⟩, ⟨bs HB.out GE101.out⟩⟩
  | true =>
   rw [if_pos rfl] at H
   by_cases c1 : (l0_1.length : Int) = 12
   rotate_left
   ·
    rw [if_neg c1] at H; have c1b0 : ((l0_1.length : Int) == 12) = false := beq_eq_false_iff_ne.mpr c1; have c1b1 : ((l0_1.length : Int) != 12) = true := bne_iff_ne.mpr c1; have HF := Aside0.mk H; clear H
    go_wp2_with (first | (go_at_call 53; (with_reducible refine (impl_PagesOk.calls k _ _ l0_0 _ _ l0_1 _ _ ?side1 ?side2 ?side3 ?side4 H1.out).mono ?_); (case side1 => exact cz (Kd.C_below HR0_0.out HB.out)); (case side2 => exact HC0_0.out); (case side3 => exact cz (Kd.C_below HR0_1.out HB.out)); (case side4 => exact HC0_1.out); rintro e w9 ⟨rfl, hb⟩; replace BK101 := Aside0.mk (blk_below (kz BK101.out) hb); replace HB := Aside0.mk (below_step (bs HB.out GE101.out) hb); (try clear hb); clear hcz0 hcz1 hcz2 hcz3 hcz4 hcz5; obtain ⟨hcz0, hcz1, hcz2, hcz3, hcz4, hcz5⟩ := cz6 BK101.out))
    go_meet
    case rel => exact ⟨true, zr, HF, ⟨fun h => by cases h⟩, ⟨kz (BK101.out)⟩, ⟨bs HB.out GE101.out⟩⟩
   rw [if_pos c1] at H; have c1b0 : ((l0_1.length : Int) == 12) = true := beq_iff_eq.mpr c1; have c1b1 : ((l0_1.length : Int) != 12) = false := bne_eq_false_iff_eq.mpr c1; have Nc1 := Aside0.mk c1; clear c1; obtain ⟨t2, h2, H⟩ := Option.bind_eq_some_iff.1 H; have H2 := Aside0.mk h2; clear h2
   by_cases ct : t2 = true
   rotate_left
   ·
    replace ct := Bool.eq_false_iff.mpr ct; subst ct; rw [if_neg nf_] at H; have HF := Aside0.mk H; clear H
    go_wp2_with (first | (go_at_call 53; (with_reducible refine (impl_PagesOk.calls k _ _ l0_0 _ _ l0_1 _ _ ?side1 ?side2 ?side3 ?side4 H1.out).mono ?_); (case side1 => exact cz (Kd.C_below HR0_0.out HB.out)); (case side2 => exact HC0_0.out); (case side3 => exact cz (Kd.C_below HR0_1.out HB.out)); (case side4 => exact HC0_1.out); rintro e w9 ⟨rfl, hb⟩; replace BK101 := Aside0.mk (blk_below (kz BK101.out) hb); replace HB := Aside0.mk (below_step (bs HB.out GE101.out) hb); (try clear hb); clear hcz0 hcz1 hcz2 hcz3 hcz4 hcz5; obtain ⟨hcz0, hcz1, hcz2, hcz3, hcz4, hcz5⟩ := cz6 BK101.out) | (go_at_call 53; (with_reducible refine (impl_PagesOk.calls k _ _ l0_2 _ _ l0_3 _ _ ?side1 ?side2 ?side3 ?side4 H2.out).mono ?_); (case side1 => exact cz (Kd.C_below HR0_2.out HB.out)); (case side2 => exact HC0_2.out); (case side3 => exact cz (Kd.C_below HR0_3.out HB.out)); (case side4 => exact HC0_3.out); rintro e w9 ⟨rfl, hb⟩; replace BK101 := Aside0.mk (blk_below (kz BK101.out) hb); replace HB := Aside0.mk (below_step (bs HB.out GE101.out) hb); (try clear hb); clear hcz0 hcz1 hcz2 hcz3 hcz4 hcz5; obtain ⟨hcz0, hcz1, hcz2, hcz3, hcz4, hcz5⟩ := cz6 BK101.out))
    go_meet
    case rel => exact ⟨true, zr, HF, ⟨fun h => by cases h⟩, ⟨kz (BK101.out)⟩, ⟨bs HB.out GE101.out⟩⟩
   subst ct; rw [if_pos rfl] at H
   by_cases c2 : (l0_3.length : Int) = 12
   rotate_left
   ·
    rw [if_neg c2] at H; have c2b0 : ((l0_3.length : Int) == 12) = false := beq_eq_false_iff_ne.mpr c2; have c2b1 : ((l0_3.length : Int) != 12) = true := bne_iff_ne.mpr c2; have HF := Aside0.mk H; clear H
    go_wp2_with (first | (go_at_call 53; (with_reducible refine (impl_PagesOk.calls k _ _ l0_0 _ _ l0_1 _ _ ?side1 ?side2 ?side3 ?side4 H1.out).mono ?_); (case side1 => exact cz (Kd.C_below HR0_0.out HB.out)); (case side2 => exact HC0_0.out); (case side3 => exact cz (Kd.C_below HR0_1.out HB.out)); (case side4 => exact HC0_1.out); rintro e w9 ⟨rfl, hb⟩; replace BK101 := Aside0.mk (blk_below (kz BK101.out) hb); replace HB := Aside0.mk (below_step (bs HB.out GE101.out) hb); (try clear hb); clear hcz0 hcz1 hcz2 hcz3 hcz4 hcz5; obtain ⟨hcz0, hcz1, hcz2, hcz3, hcz4, hcz5⟩ := cz6 BK101.out) | (go_at_call 53; (with_reducible refine (impl_PagesOk.calls k _ _ l0_2 _ _ l0_3 _ _ ?side1 ?side2 ?side3 ?side4 H2.out).mono ?_); (case side1 => exact cz (Kd.C_below HR0_2.out HB.out)); (case side2 => exact HC0_2.out); (case side3 => exact cz (Kd.C_below HR0_3.out HB.out)); (case side4 => exact HC0_3.out); rintro e w9 ⟨rfl, hb⟩; replace BK101 := Aside0.mk (blk_below (kz BK101.out) hb); replace HB := Aside0.mk (below_step (bs HB.out GE101.out) hb); (try clear hb); clear hcz0 hcz1 hcz2 hcz3 hcz4 hcz5; obtain ⟨hcz0, hcz1, hcz2, hcz3, hcz4, hcz5⟩ := cz6 BK101.out))
    go_meet
    case rel => exact ⟨true, zr, HF, ⟨fun h => by cases h⟩, ⟨kz (BK101.out)⟩, ⟨bs HB.out GE101.out⟩⟩
   rw [if_pos c2] at H; have c2b0 : ((l0_3.length : Int) == 12) = true := beq_iff_eq.mpr c2; have c2b1 : ((l0_3.length : Int) != 12) = false := bne_eq_false_iff_eq.mpr c2; have Nc2 := Aside0.mk c2; clear c2
   by_cases c3 : (l0_4.length : Int) = 5
   rotate_left
   ·
    rw [if_neg c3] at H; have c3b0 : ((l0_4.length : Int) == 5) = false := beq_eq_false_iff_ne.mpr c3; have c3b1 : ((l0_4.length : Int) != 5) = true := bne_iff_ne.mpr c3; have HF := Aside0.mk H; clear H
    go_wp2_with (first | (go_at_call 53; (with_reducible refine (impl_PagesOk.calls k _ _ l0_0 _ _ l0_1 _ _ ?side1 ?side2 ?side3 ?side4 H1.out).mono ?_); (case side1 => exact cz (Kd.C_below HR0_0.out HB.out)); (case side2 => exact HC0_0.out); (case side3 => exact cz (Kd.C_below HR0_1.out HB.out)); (case side4 => exact HC0_1.out); rintro e w9 ⟨rfl, hb⟩; replace BK101 := Aside0.mk (blk_below (kz BK101.out) hb); replace HB := Aside0.mk (below_step (bs HB.out GE101.out) hb); (try clear hb); clear hcz0 hcz1 hcz2 hcz3 hcz4 hcz5; obtain ⟨hcz0, hcz1, hcz2, hcz3, hcz4, hcz5⟩ := cz6 BK101.out) | (go_at_call 53; (with_reducible refine (impl_PagesOk.calls k _ _ l0_2 _ _ l0_3 _ _ ?side1 ?side2 ?side3 ?side4 H2.out).mono ?_); (case side1 => exact cz (Kd.C_below HR0_2.out HB.out)); (case side2 => exact HC0_2.out); (case side3 => exact cz (Kd.C_below HR0_3.out HB.out)); (case side4 => exact HC0_3.out); rintro e w9 ⟨rfl, hb⟩; replace BK101 := Aside0.mk (blk_below (kz BK101.out) hb); replace HB := Aside0.mk (below_step (bs HB.out GE101.out) hb); (try clear hb); clear hcz0 hcz1 hcz2 hcz3 hcz4 hcz5; obtain ⟨hcz0, hcz1, hcz2, hcz3, hcz4, hcz5⟩ := cz6 BK101.out))
    go_meet
    case rel => exact ⟨true, zr, HF, ⟨fun h => by cases h⟩, ⟨kz (BK101.out)⟩, ⟨bs HB.out GE101.out⟩⟩
   rw [if_pos c3] at H; have c3b0 : ((l0_4.length : Int) == 5) = true := beq_iff_eq.mpr c3; have c3b1 : ((l0_4.length : Int) != 5) = false := bne_eq_false_iff_eq.mpr c3; have Nc3 := Aside0.mk c3; clear c3; obtain ⟨t3, h3, H⟩ := Option.bind_eq_some_iff.1 H; have H3 := Aside0.mk h3; clear h3
   cases t3 with
   | false =>
    rw [if_neg nf_] at H; have HF := Aside0.mk H; clear H
    go_wp2_with (first | (go_at_call 53; (with_reducible refine (impl_PagesOk.calls k _ _ l0_0 _ _ l0_1 _ _ ?side1 ?side2 ?side3 ?side4 H1.out).mono ?_); (case side1 => exact cz (Kd.C_below HR0_0.out HB.out)); (case side2 => exact HC0_0.out); (case side3 => exact cz (Kd.C_below HR0_1.out HB.out)); (case side4 => exact HC0_1.out); rintro e w9 ⟨rfl, hb⟩; replace BK101 := Aside0.mk (blk_below (kz BK101.out) hb); replace HB := Aside0.mk (below_step (bs HB.out GE101.out) hb); (try clear hb); clear hcz0 hcz1 hcz2 hcz3 hcz4 hcz5; obtain ⟨hcz0, hcz1, hcz2, hcz3, hcz4, hcz5⟩ := cz6 BK101.out) | (go_at_call 53; (with_reducible refine (impl_PagesOk.calls k _ _ l0_2 _ _ l0_3 _ _ ?side1 ?side2 ?side3 ?side4 H2.out).mono ?_); (case side1 => exact cz (Kd.C_below HR0_2.out HB.out)); (case side2 => exact HC0_2.out); (case side3 => exact cz (Kd.C_below HR0_3.out HB.out)); (case side4 => exact HC0_3.out); rintro e w9 ⟨rfl, hb⟩; replace BK101 := Aside0.mk (blk_below (kz BK101.out) hb); replace HB := Aside0.mk (below_step (bs HB.out GE101.out) hb); (try clear hb); clear hcz0 hcz1 hcz2 hcz3 hcz4 hcz5; obtain ⟨hcz0, hcz1, hcz2, hcz3, hcz4, hcz5⟩ := cz6 BK101.out) | (go_at_call 41; (with_reducible refine (impl_in.calls a0_5 0 11 _ _ H3.out).mono ?_); rintro e w9 ⟨rfl, ⟨nd, rfl⟩⟩; replace BK101 := Aside0.mk (blk_drewN BK101.out nd); replace HB := Aside0.mk (pw_below_drewN HB.out nd)))
    go_meet
    case rel => exact ⟨true, zr, HF, ⟨fun h => by cases h⟩, ⟨kz (BK101.out)⟩, ⟨bs HB.out GE101.out⟩⟩
   | true =>
    rw [if_pos rfl] at H; have HF := Aside0.mk H; clear H
    go_wp2_with (first | (go_at_call 53; (with_reducible refine (impl_PagesOk.calls k _ _ l0_0 _ _ l0_1 _ _ ?side1 ?side2 ?side3 ?side4 H1.out).mono ?_); (case side1 => exact cz (Kd.C_below HR0_0.out HB.out)); (case side2 => exact HC0_0.out); (case side3 => exact cz (Kd.C_below HR0_1.out HB.out)); (case side4 => exact HC0_1.out); rintro e w9 ⟨rfl, hb⟩; replace BK101 := Aside0.mk (blk_below (kz BK101.out) hb); replace HB := Aside0.mk (below_step (bs HB.out GE101.out) hb); (try clear hb); clear hcz0 hcz1 hcz2 hcz3 hcz4 hcz5; obtain ⟨hcz0, hcz1, hcz2, hcz3, hcz4, hcz5⟩ := cz6 BK101.out) | (go_at_call 53; (with_reducible refine (impl_PagesOk.calls k _ _ l0_2 _ _ l0_3 _ _ ?side1 ?side2 ?side3 ?side4 H2.out).mono ?_); (case side1 => exact cz (Kd.C_below HR0_2.out HB.out)); (case side2 => exact HC0_2.out); (case side3 => exact cz (Kd.C_below HR0_3.out HB.out)); (case side4 => exact HC0_3.out); rintro e w9 ⟨rfl, hb⟩; replace BK101 := Aside0.mk (blk_below (kz BK101.out) hb); replace HB := Aside0.mk (below_step (bs HB.out GE101.out) hb); (try clear hb); clear hcz0 hcz1 hcz2 hcz3 hcz4 hcz5; obtain ⟨hcz0, hcz1, hcz2, hcz3, hcz4, hcz5⟩ := cz6 BK101.out) | (go_at_call 41; (with_reducible refine (impl_in.calls a0_5 0 11 _ _ H3.out).mono ?_); rintro e w9 ⟨rfl, ⟨nd, rfl⟩⟩; replace BK101 := Aside0.mk (blk_drewN BK101.out nd); replace HB := Aside0.mk (pw_below_drewN HB.out nd)))
    go_meet
    case rel => exact ⟨false, zr, HF, ⟨fun _ => ⟨by have := Nc1.out; omega, by have := Nc2.out; omega, by have := Nc3.out; omega⟩⟩, ⟨kz (BK101.out)⟩, ⟨bs HB.out GE101.out⟩⟩
 case rest =>
 clear HH; obtain ⟨x, rfl, HR, HX, BK101, HB⟩ := hcut; have H := HR.out; clear HR
 unfold impl_MemOk.rest at H
 cases x with
 | true =>
  rw [if_pos rfl] at H; obtain rfl := Option.some.inj H
  go_wp2
  go_ret
  exact ⟨rfl, bs HB.out GE101.out⟩
 | false =>
 rw [if_neg nf_] at H; obtain ⟨hl1, hl3, hl4⟩ := HX.out rfl; have HL1 := Aside0.mk hl1; have HL3 := Aside0.mk hl3; have HL4 := Aside0.mk hl4; clear HX hl1 hl3 hl4; have HT : Aside0 ((impl_MemOk.spaces k l0_0 l0_1 l0_2 l0_3 l0_4 (l0_4.length - 0) ((0 : Nat) : Int) []).bind (fun o => some (impl_MemOk.end l0_1 l0_3 o)) = some r) := ⟨H⟩; clear H; obtain ⟨gm, hgm⟩ : ∃ g, g = wc.heap.size := ⟨_, rfl⟩; obtain ⟨w4, hw4⟩ : ∃ w_, w_ = wc.alloc (.map #[] 0) := ⟨_, rfl⟩
 have hmm : (Instr.makeMap 89 none).run Try.prog wc = .ok (.map (some gm)) w4 := by rw [hgm, hw4]; exact run_makeMap _ _
 have hM : Q.TMap k94 94 w4 w.heap.size gm ([] : List ((Int × Int) × S94)) := by rw [hw4, hgm]; exact Q.TMap.made _ _
 have hB4 : Below w.heap.size w w4 := by rw [hw4]; exact below_alloc HB.out _
 have hBK : w4.heap[gb101]? = some (.cells #[(.slice A0_0 l0_0.length c0_0), (.slice A0_1 l0_1.length c0_1), (.slice A0_2 l0_2.length c0_2), (.slice A0_3 l0_3.length c0_3), (.slice A0_4 l0_4.length c0_4), .int .i64 a0_5] 46 (0, 0)) := by rw [hw4]; exact blk_alloc BK101.out _
 have hGM : w.heap.size ≤ gm := by rw [hgm]; exact below_size HB.out
 clear hw4 hgm BK101 HB; have HM := Aside0.mk hM; have HB := Aside0.mk hB4; have BK101 := Aside0.mk hBK; have GM := Aside0.mk hGM; clear hM hB4 hBK hGM; obtain ⟨ad4, B1_, d1_, B2_, d2_, ead, _, _, _, _, _, _, _⟩ := at_T63 HR0_4.out 0 (by omega) (by have := HL4.out; omega); cases ead; obtain ⟨hcz0, hcz1, hcz2, hcz3, hcz4, hcz5⟩ := cz6 BK101.out
 go_wp2
 clear hmm
 go_loopg [58] (l0_4.length) (fun g v58 w' => ∃ (i : Nat) (T : List ((Int × Int) × S94)), v58 = .int .i64 i ∧ Aside0 (i + g = l0_4.length ∧ T.length ≤ 16 * i) ∧ Aside0 ((impl_MemOk.spaces k l0_0 l0_1 l0_2 l0_3 l0_4 g (i : Int) T).bind (fun o => some (impl_MemOk.end l0_1 l0_3 o)) = some r) ∧ Aside0 (Q.TMap k94 94 w' w.heap.size gm T) ∧ Aside0 (w'.heap[gb101]? = some (.cells #[(.slice A0_0 l0_0.length c0_0), (.slice A0_1 l0_1.length c0_1), (.slice A0_2 l0_2.length c0_2), (.slice A0_3 l0_3.length c0_3), (.slice (some ad4) l0_4.length c0_4), .int .i64 a0_5] 46 (0, 0))) ∧ Aside0 (Below w.heap.size w w'))
 case atStart => exact ⟨0, [], rfl, ⟨⟨by omega, by simp⟩⟩, HT, HM, BK101, HB⟩
 case round =>
  clear HT HM BK101 HB hcz0 hcz1 hcz2 hcz3 hcz4 hcz5; obtain ⟨i, T, rfl, HI, HT, HM, BK101, HB⟩ := hrel
  as_aux_lemma =>
  have H := HT.out; clear HT
  cases gk with
  | zero =>
   have hi := HI.out
   obtain rfl : i = l0_4.length := by omega
   simp only [impl_MemOk.spaces, Option.bind_some] at H; have HE : Aside0 ((impl_MemOk.places T 1 l0_1 l0_1.length 0 && impl_MemOk.places T 2 l0_3 l0_3.length 0) = r) := ⟨Option.some.inj H⟩; have HTL : Aside0 (T.length ≤ 80) := ⟨by have := HI.out; have := HL4.out; omega⟩; clear H hi; have c1b : decide (l0_4.length < l0_4.length) = false := decide_eq_false (by omega); obtain ⟨wa, wb, wd, we, ri, hm1, hm2, hm3, hm4, Ba, Bb, Bd, Be, hri, hTW⟩ := Q.Two.made Try.underlying95 Try.underlying3 wr (.agg #[.slice A0_0 l0_0.length c0_0, .slice A0_1 l0_1.length c0_1]) (.agg #[.slice A0_2 l0_2.length c0_2, .slice A0_3 l0_3.length c0_3]); obtain ⟨gm2, hgm2⟩ : ∃ g_, g_ = wr.heap.size := ⟨_, rfl⟩; rw [← hgm2] at hm1 hm2 hm3 hm4 hTW; clear hgm2; obtain ⟨ha0, ha1, ha2, ha3, ha4, ha5⟩ := cz6 (blk_below BK101.out Ba); obtain ⟨hb0, hb1, hb2, hb3, hb4, hb5⟩ := cz6 (blk_below BK101.out Bb); replace HM := Aside0.mk (HM.out.below rfl Be); have TW := Aside0.mk hTW; have GR : Aside0 (w.heap.size ≤ ri) := ⟨by have := below_size HB.out; omega⟩; replace BK101 := Aside0.mk (blk_below BK101.out Be); replace HB := Aside0.mk (below_step HB.out Be); clear Ba Bb Bd Be hri hTW
   go_wp2
   clear hm1 hm2 hm3 hm4 ha0 ha1 ha2 ha3 ha4 ha5 hb0 hb1 hb2 hb3 hb4 hb5 c1b
   go_loopg [] 2 (fun g w' => ∃ seen : Array Nat, Aside0 ((if seen.contains 0 = true then 0 else 1) + (if seen.contains 1 = true then 0 else 1) = g) ∧ Aside0 (((seen.contains 0 || impl_MemOk.places T 1 l0_1 l0_1.length 0) && (seen.contains 1 || impl_MemOk.places T 2 l0_3 l0_3.length 0)) = r) ∧ Aside0 (Q.TMap k94 94 w' w.heap.size gm T) ∧ Aside0 (w'.heap[gb101]? = some (.cells #[(.slice A0_0 l0_0.length c0_0), (.slice A0_1 l0_1.length c0_1), (.slice A0_2 l0_2.length c0_2), (.slice A0_3 l0_3.length c0_3), (.slice (some ad4) l0_4.length c0_4), .int .i64 a0_5] 46 (0, 0))) ∧ Aside0 (Q.Two w' gm2 ri (.agg #[.slice A0_0 l0_0.length c0_0, .slice A0_1 l0_1.length c0_1]) (.agg #[.slice A0_2 l0_2.length c0_2, .slice A0_3 l0_3.length c0_3]) seen) ∧ Aside0 (Below w.heap.size w w'))
   case atStart => exact ⟨#[], ⟨by simp⟩, ⟨by simpa using HE.out⟩, HM, BK101, TW, HB⟩
   clear HE HM BK101 TW HB; obtain ⟨seen, HCN, HE, HM, BK101, TW, HB⟩ := hrel
   rcases TW.out.next (P := Try.prog) 0 with ⟨s0, s1, hn⟩ | ⟨n, seen', w2, hcase, hn, he, hTW, hg⟩
   ·
    obtain rfl : true = r := by have h2 := HE.out; rw [s0, s1] at h2; exact h2
    go_wp2
    go_ret
    exact ⟨rfl, HB.out⟩
   obtain ⟨refs, Ap, np, cp, Ar, cr, hval, hRr, hCr, hl12, hn12, hE2⟩ : ∃ (refs : List Int) (Ap : Option Addr) (np cp : Nat) (Ar : Option Addr) (cr : Nat), (if n = 1 then (.agg #[.slice A0_0 l0_0.length c0_0, .slice A0_1 l0_1.length c0_1] : Value) else (.agg #[.slice A0_2 l0_2.length c0_2, .slice A0_3 l0_3.length c0_3])) = .agg #[.slice Ap np cp, .slice Ar refs.length cr] ∧ Kd.C (Kd.int .i64) w Ar refs.length refs ∧ refs.length ≤ cr ∧ refs.length = 12 ∧ (n = 1 ∨ n = 2) ∧ (impl_MemOk.places T n refs refs.length 0 && ((seen'.contains 0 || impl_MemOk.places T 1 l0_1 l0_1.length 0) && (seen'.contains 1 || impl_MemOk.places T 2 l0_3 l0_3.length 0))) = r := by
    have h2 := HE.out
    rcases hcase with ⟨rfl, h0, h1, h3⟩ | ⟨rfl, h0, h1, h3⟩
    ·
     refine ⟨l0_1, A0_0, l0_0.length, c0_0, A0_1, c0_1, rfl, HR0_1.out, HC0_1.out, HL1.out, Or.inl rfl, ?_⟩; rw [h0] at h2; rw [h1, h3]
     exact h2
    ·
     refine ⟨l0_3, A0_2, l0_2.length, c0_2, A0_3, c0_3, rfl, HR0_3.out, HC0_3.out, HL3.out, Or.inr rfl, ?_⟩; rw [h0] at h2; rw [h1, h3]; simp only [Bool.false_or, Bool.true_or, Bool.and_true] at h2 ⊢; rw [Bool.and_comm]
     exact h2
   rw [hval] at hn he
   obtain ⟨g, hgk, hcn⟩ : ∃ g, gk = g + 1 ∧ ((if seen'.contains 0 = true then 0 else 1) + (if seen'.contains 1 = true then 0 else 1) = g) := by
    have h2 := HCN.out
    rcases hcase with ⟨rfl, h0, h1, h3⟩ | ⟨rfl, h0, h1, h3⟩
    ·
     rw [h0] at h2; rw [h1, h3]
     exact ⟨_, by rw [← h2]; simp; omega, rfl⟩
    ·
     rw [h0] at h2; rw [h1, h3]
     exact ⟨_, by rw [← h2]; simp, rfl⟩
   have HGK := Aside0.mk hgk; replace HCN := Aside0.mk hcn; have HRr := Aside0.mk hRr; have HCr := Aside0.mk hCr; have HL12 := Aside0.mk hl12; have HN12 := Aside0.mk hn12; have HE2 := Aside0.mk hE2; replace HM := Aside0.mk (Q.Two.iter_ HM.out TW.out.iter rfl hg); replace BK101 := Aside0.mk ((hg.block _ (blk_lt BK101.out) (TW.out.ne BK101.out)).trans BK101.out); replace HB := Aside0.mk (HB.out.grown hg (below_size HB.out) (fun k_ e_ => by injection e_ with e_; subst e_; exact GR.out)); replace TW := Aside0.mk hTW; clear hg hTW HE hcase hval hgk hcn hRr hCr hl12 hn12 hE2
   go_upto_region 31 with (first | ((with_reducible refine gate_dst (N := 10) rfl ?_); (try (refine gate_guard (by rfl) ?_; dsimp only)); refine box_event ?hg (N := 10) ?hd (cs := #[.slice none 0 0, .slice none 0 0]) (t := 43) ?hr ?_; (case hd => rfl); (case hg => rfl); (case hr => first | (go_simp; done) | (go_simp; rfl)); intro gb10 hg w5 hbox hb; have BK10 := Aside0.mk hbox; have HBX := Aside0.mk hb; have GBX := Aside0.mk (Nat.le_of_eq hg.symm); clear hb hbox hg; obtain ⟨hy0, hy1⟩ := cz2 BK10.out; obtain ⟨hf0, hf1⟩ := fz2 BK10.out))
   obtain ⟨f1, f2, f3⟩ := Q.fill2 BK10.out (.slice Ap np cp) (.slice Ar refs.length cr); clear hy0 hy1 hf0 hf1
   generalize ((w5.setCell ⟨gb10, 0, none⟩ (.slice Ap np cp)).setCell ⟨gb10, 1, none⟩ (.slice Ar refs.length cr)) = w6 at f1 f2 f3 ⊢
   have hb6 := f3 _ HBX.out GBX.out; replace HM := Aside0.mk (HM.out.below rfl hb6); replace BK101 := Aside0.mk (blk_below BK101.out hb6); replace TW := Aside0.mk (TW.out.below hb6); replace HB := Aside0.mk (below_step HB.out hb6); replace BK10 := Aside0.mk f1; clear f1 f2 f3 hb6 HBX GBX; clear hn he; obtain ⟨hy0, hy1⟩ := cz2 BK10.out
   go_wp2
   clear hy0 hy1
   go_loopg [178] (refs.length) (fun g1 v178 w' => ∃ a : Nat, v178 = .int .i64 a ∧ Aside0 (a + g1 = refs.length) ∧ Aside0 ((impl_MemOk.places T n refs g1 a && ((seen'.contains 0 || impl_MemOk.places T 1 l0_1 l0_1.length 0) && (seen'.contains 1 || impl_MemOk.places T 2 l0_3 l0_3.length 0))) = r) ∧ Aside0 (Q.TMap k94 94 w' w.heap.size gm T) ∧ Aside0 (w'.heap[gb101]? = some (.cells #[(.slice A0_0 l0_0.length c0_0), (.slice A0_1 l0_1.length c0_1), (.slice A0_2 l0_2.length c0_2), (.slice A0_3 l0_3.length c0_3), (.slice (some ad4) l0_4.length c0_4), .int .i64 a0_5] 46 (0, 0))) ∧ Aside0 (Q.Two w' gm2 ri (.agg #[.slice A0_0 l0_0.length c0_0, .slice A0_1 l0_1.length c0_1]) (.agg #[.slice A0_2 l0_2.length c0_2, .slice A0_3 l0_3.length c0_3]) seen') ∧ Aside0 (Below w.heap.size w w'))
   case atStart => exact ⟨0, rfl, ⟨by omega⟩, HE2, HM, BK101, TW, HB⟩
   case round =>
   clear HE2 HM BK101 TW HB BK10; obtain ⟨a, rfl, HA, HE2, HM, BK101, TW, HB⟩ := hrel
   as_aux_lemma =>
   cases gk with
   | zero =>
    have ha := HA.out
    obtain rfl : a = refs.length := by omega
    have c2b : decide (refs.length < refs.length) = false := decide_eq_false (by omega); clear ha
    go_wp2
    go_roundg g
    case measure => have := HGK.out; omega
    case rel => exact ⟨seen', HCN, ⟨HE2.out⟩, HM, BK101, TW, HB⟩
   | succ g1 =>
   have ha : a < refs.length := by have := HA.out; omega
   have ha12 : a < 12 := by have := HL12.out; omega
   have c2b : decide (a < refs.length) = true := decide_eq_true ha; obtain ⟨ad, ead, hx⟩ := Kd.at_int HRr.out (a : Int) (by omega) (by omega); subst ead; rw [Int.toNat_natCast] at hx; replace hx := pw_cell_below HB.out hx; obtain ⟨v, hlk, hRv⟩ := HM.out.look impl_MemOk.law impl_MemOk.arr Try.underlying3 impl_MemOk.tys Try.underlying89 (impl_MemOk.zero _) (impl_MemOk.okq_2 HN12.out ha12); obtain ⟨A13, d13, rfl⟩ := Kd.R_slice hRv; have HL := Aside0.mk (Kd.R_reads' hRv).2.2; have HLc := Aside0.mk (Kd.R_reads' hRv).2.1; have HLL : Aside0 ((Q.at_ T ((n : Int), (a : Int))).length ≤ 80) := ⟨by have := Q.at_length T ((n : Int), (a : Int)); have := HTL.out; omega⟩; clear hRv
   unfold Q.kv at hlk
   have hE3 := HE2.out; simp only [impl_MemOk.places, impl_MemOk.place, Bool.and_assoc] at hE3; clear HE2
   by_cases c5 : ((Q.at_ T ((n : Int), (a : Int))).length : Int) = rd refs (a : Int)
   rotate_left
   ·
    have c5b : (((Q.at_ T ((n : Int), (a : Int))).length : Int) == rd refs (a : Int)) = false := beq_eq_false_iff_ne.mpr c5; have c5d : (((Q.at_ T ((n : Int), (a : Int))).length : Int) != rd refs (a : Int)) = true := bne_iff_ne.mpr c5; rw [decide_eq_false c5, Bool.false_and] at hE3; clear c5; subst hE3
    go_wp2
    go_ret
    exact ⟨rfl, HB.out⟩
   have c5b : (((Q.at_ T ((n : Int), (a : Int))).length : Int) == rd refs (a : Int)) = true := beq_iff_eq.mpr c5; have c5d : (((Q.at_ T ((n : Int), (a : Int))).length : Int) != rd refs (a : Int)) = false := bne_eq_false_iff_eq.mpr c5; rw [decide_eq_true c5, Bool.true_and] at hE3; have HE3 := Aside0.mk hE3; clear c5 hE3
   go_wp2
   clear hlk hx c5b c5d c2b
   go_loopg [194] ((Q.at_ T ((n : Int), (a : Int))).length) (fun g2 v194 w' => ∃ i1 : Nat, v194 = .int .i64 i1 ∧ Aside0 (i1 + g2 = (Q.at_ T ((n : Int), (a : Int))).length) ∧ Aside0 ((impl_MemOk.pairs (Q.at_ T ((n : Int), (a : Int))) g2 i1 && (impl_MemOk.places T n refs g1 (a + 1) && ((seen'.contains 0 || impl_MemOk.places T 1 l0_1 l0_1.length 0) && (seen'.contains 1 || impl_MemOk.places T 2 l0_3 l0_3.length 0)))) = r) ∧ Aside0 (Kd.C k94 w' A13 (Q.at_ T ((n : Int), (a : Int))).length (Q.at_ T ((n : Int), (a : Int)))) ∧ Aside0 (Q.TMap k94 94 w' w.heap.size gm T) ∧ Aside0 (w'.heap[gb101]? = some (.cells #[(.slice A0_0 l0_0.length c0_0), (.slice A0_1 l0_1.length c0_1), (.slice A0_2 l0_2.length c0_2), (.slice A0_3 l0_3.length c0_3), (.slice (some ad4) l0_4.length c0_4), .int .i64 a0_5] 46 (0, 0))) ∧ Aside0 (Q.Two w' gm2 ri (.agg #[.slice A0_0 l0_0.length c0_0, .slice A0_1 l0_1.length c0_1]) (.agg #[.slice A0_2 l0_2.length c0_2, .slice A0_3 l0_3.length c0_3]) seen') ∧ Aside0 (Below w.heap.size w w'))
   case atStart => exact ⟨0, rfl, ⟨by omega⟩, HE3, HL, HM, BK101, TW, HB⟩
   case round =>
   clear HE3 HL HM BK101 TW HB; obtain ⟨i1, rfl, HI1, HE3, HL, HM, BK101, TW, HB⟩ := hrel
   as_aux_lemma =>
   cases gk with
   | zero =>
    have ha := HI1.out
    obtain rfl : i1 = (Q.at_ T ((n : Int), (a : Int))).length := by omega
    have c2b : decide ((Q.at_ T ((n : Int), (a : Int))).length < (Q.at_ T ((n : Int), (a : Int))).length) = false := decide_eq_false (by omega); clear ha
    go_wp2
    go_roundg g1
    case measure => omega
    case rel => exact ⟨a + 1, by go_num, ⟨by have := HA.out; omega⟩, ⟨HE3.out⟩, HM, BK101, TW, HB⟩
   | succ g2 =>
   have hi1 : i1 < (Q.at_ T ((n : Int), (a : Int))).length := by have := HI1.out; omega
   have hi80 : i1 < 80 := by have := HLL.out; omega
   have c2b : decide (i1 < (Q.at_ T ((n : Int), (a : Int))).length) = true := decide_eq_true hi1; obtain ⟨ad1, ead, hx0, hx1⟩ := at_T94 HL.out (i1 : Int) (by omega) (by omega); subst ead; rw [Int.toNat_natCast] at hx0 hx1; have hE4 := HE3.out; simp only [impl_MemOk.pairs, Bool.and_assoc] at hE4; have HE4 := Aside0.mk hE4; clear HE3 hE4
   go_upto_region 40 with (first | ((with_reducible refine gate_dst (N := 15) rfl ?_); (try (refine gate_guard (by rfl) ?_; dsimp only)); refine box_event ?hg (N := 15) ?hd (cs := #[.bool false, .bool false]) (t := 94) ?hr ?_; (case hd => rfl); (case hg => rfl); (case hr => first | (go_simp; done) | (go_simp; rfl)); intro gb15 hg w5 hbox hb; have BK15 := Aside0.mk hbox; have HBX := Aside0.mk hb; have GBX := Aside0.mk (Nat.le_of_eq hg.symm); clear hb hbox hg; obtain ⟨hy0, hy1⟩ := cz2 BK15.out; obtain ⟨hf0, hf1⟩ := fz2 BK15.out))
   obtain ⟨f1, f2, f3⟩ := Q.fill2 BK15.out (.bool (rd_T94 (Q.at_ T ((n : Int), (a : Int))) (i1 : Int)).f0) (.bool (rd_T94 (Q.at_ T ((n : Int), (a : Int))) (i1 : Int)).f1); clear hy0 hy1 hf0 hf1
   generalize ((w5.setCell ⟨gb15, 0, none⟩ (.bool (rd_T94 (Q.at_ T ((n : Int), (a : Int))) (i1 : Int)).f0)).setCell ⟨gb15, 1, none⟩ (.bool (rd_T94 (Q.at_ T ((n : Int), (a : Int))) (i1 : Int)).f1)) = w7 at f1 f2 f3 ⊢
   have hb6 := f3 _ HBX.out GBX.out; replace HM := Aside0.mk (HM.out.below rfl hb6); replace BK101 := Aside0.mk (blk_below BK101.out hb6); replace TW := Aside0.mk (TW.out.below hb6); replace HB := Aside0.mk (below_step HB.out hb6); replace HL := Aside0.mk (Kd.C_below HL.out hb6); replace BK15 := Aside0.mk f1; clear f1 f2 f3 hb6 HBX GBX; clear hx0 hx1
   go_wp2
   clear c2b
   go_loopg [201] ((Q.at_ T ((n : Int), (a : Int))).length) (fun g3 v201 w' => ∃ j1 : Nat, v201 = .int .i64 j1 ∧ Aside0 (j1 + g3 = (Q.at_ T ((n : Int), (a : Int))).length) ∧ Aside0 ((impl_MemOk.row (Q.at_ T ((n : Int), (a : Int))) i1 g3 j1 && (impl_MemOk.pairs (Q.at_ T ((n : Int), (a : Int))) g2 (i1 + 1) && (impl_MemOk.places T n refs g1 (a + 1) && ((seen'.contains 0 || impl_MemOk.places T 1 l0_1 l0_1.length 0) && (seen'.contains 1 || impl_MemOk.places T 2 l0_3 l0_3.length 0))))) = r) ∧ Aside0 (Kd.C k94 w' (some ad1) (Q.at_ T ((n : Int), (a : Int))).length (Q.at_ T ((n : Int), (a : Int)))) ∧ Aside0 (w'.heap[gb15]? = some (.cells #[.bool (rd_T94 (Q.at_ T ((n : Int), (a : Int))) (i1 : Int)).f0, .bool (rd_T94 (Q.at_ T ((n : Int), (a : Int))) (i1 : Int)).f1] 94 (0, 0))) ∧ Aside0 (Q.TMap k94 94 w' w.heap.size gm T) ∧ Aside0 (w'.heap[gb101]? = some (.cells #[(.slice A0_0 l0_0.length c0_0), (.slice A0_1 l0_1.length c0_1), (.slice A0_2 l0_2.length c0_2), (.slice A0_3 l0_3.length c0_3), (.slice (some ad4) l0_4.length c0_4), .int .i64 a0_5] 46 (0, 0))) ∧ Aside0 (Q.Two w' gm2 ri (.agg #[.slice A0_0 l0_0.length c0_0, .slice A0_1 l0_1.length c0_1]) (.agg #[.slice A0_2 l0_2.length c0_2, .slice A0_3 l0_3.length c0_3]) seen') ∧ Aside0 (Below w.heap.size w w'))
   case atStart => exact ⟨0, rfl, ⟨by omega⟩, HE4, HL, BK15, HM, BK101, TW, HB⟩
   case round =>
   clear HE4 HL BK15 HM BK101 TW HB; obtain ⟨j1, rfl, HJ1, HE4, HL, BK15, HM, BK101, TW, HB⟩ := hrel
   as_aux_lemma =>
   cases gk with
   | zero =>
    have ha := HJ1.out
    obtain rfl : j1 = (Q.at_ T ((n : Int), (a : Int))).length := by omega
    have c2b : decide ((Q.at_ T ((n : Int), (a : Int))).length < (Q.at_ T ((n : Int), (a : Int))).length) = false := decide_eq_false (by omega); clear ha
    go_wp2
    go_roundg g2
    case measure => omega
    case rel => exact ⟨i1 + 1, by go_num, ⟨by have := HI1.out; omega⟩, ⟨HE4.out⟩, HL, HM, BK101, TW, HB⟩
   | succ g3 =>
   have hj1 : j1 < (Q.at_ T ((n : Int), (a : Int))).length := by have := HJ1.out; omega
   have hj80 : j1 < 80 := by have := HLL.out; omega
   have c2b : decide (j1 < (Q.at_ T ((n : Int), (a : Int))).length) = true := decide_eq_true hj1; obtain ⟨ad2, ead, hx0, hx1⟩ := at_T94 HL.out (j1 : Int) (by omega) (by omega)
   obtain rfl : ad1 = ad2 := by injection ead
   clear ead; rw [Int.toNat_natCast] at hx0 hx1; have hE5 := HE4.out; simp only [impl_MemOk.row, Bool.and_assoc] at hE5; have HE5 := Aside0.mk hE5; clear HE4 hE5
   go_upto_region 43 with (first | ((with_reducible refine gate_dst (N := 17) rfl ?_); (try (refine gate_guard (by rfl) ?_; dsimp only)); refine box_event ?hg (N := 17) ?hd (cs := #[.bool false, .bool false]) (t := 94) ?hr ?_; (case hd => rfl); (case hg => rfl); (case hr => first | (go_simp; done) | (go_simp; rfl)); intro gb17 hg w5 hbox hb; have BK17 := Aside0.mk hbox; have HBX := Aside0.mk hb; have GBX := Aside0.mk (Nat.le_of_eq hg.symm); clear hb hbox hg; obtain ⟨hy0, hy1⟩ := cz2 BK17.out; obtain ⟨hf0, hf1⟩ := fz2 BK17.out))
   obtain ⟨f1, f2, f3⟩ := Q.fill2 BK17.out (.bool (rd_T94 (Q.at_ T ((n : Int), (a : Int))) (j1 : Int)).f0) (.bool (rd_T94 (Q.at_ T ((n : Int), (a : Int))) (j1 : Int)).f1); clear hy0 hy1 hf0 hf1
   generalize ((w5.setCell ⟨gb17, 0, none⟩ (.bool (rd_T94 (Q.at_ T ((n : Int), (a : Int))) (j1 : Int)).f0)).setCell ⟨gb17, 1, none⟩ (.bool (rd_T94 (Q.at_ T ((n : Int), (a : Int))) (j1 : Int)).f1)) = w8 at f1 f2 f3 ⊢
   have hb6 := f3 _ HBX.out GBX.out; replace HM := Aside0.mk (HM.out.below rfl hb6); replace BK101 := Aside0.mk (blk_below BK101.out hb6); replace TW := Aside0.mk (TW.out.below hb6); replace HB := Aside0.mk (below_step HB.out hb6); replace HL := Aside0.mk (Kd.C_below HL.out hb6); replace BK15 := Aside0.mk (blk_below BK15.out hb6); replace BK17 := Aside0.mk f1; clear f1 f2 f3 hb6 HBX GBX; clear hx0 hx1 c2b; obtain ⟨hy0, hy1⟩ := cz2 BK15.out; obtain ⟨hz0, hz1⟩ := cz2 BK17.out; have hE5 := HE5.out; clear HE5
   have TST : ∀ (bb : Bool), bb = (i1 != j1 && impl_MemOk.bad (rd_T94 (Q.at_ T ((n : Int), (a : Int))) (i1 : Int)) (rd_T94 (Q.at_ T ((n : Int), (a : Int))) (j1 : Int))) → bb = true → r = false := by
    intro bb h1 h2; rw [← h1, h2] at hE5
    exact hE5.symm
   have TSF : ∀ (bb : Bool), bb = (i1 != j1 && impl_MemOk.bad (rd_T94 (Q.at_ T ((n : Int), (a : Int))) (i1 : Int)) (rd_T94 (Q.at_ T ((n : Int), (a : Int))) (j1 : Int))) → bb = false → (impl_MemOk.row (Q.at_ T ((n : Int), (a : Int))) i1 g3 (j1 + 1) && (impl_MemOk.pairs (Q.at_ T ((n : Int), (a : Int))) g2 (i1 + 1) && (impl_MemOk.places T n refs g1 (a + 1) && ((seen'.contains 0 || impl_MemOk.places T 1 l0_1 l0_1.length 0) && (seen'.contains 1 || impl_MemOk.places T 2 l0_3 l0_3.length 0))))) = r := by
    intro bb h1 h2; rw [← h1, h2] at hE5
    exact hE5
   have HT1 := Aside0.mk TST; have HT2 := Aside0.mk TSF; clear hE5 TST TSF
   by_cases c6 : i1 = j1
   ·
    have c6b : (((i1 : Nat) : Int) == (j1 : Int)) = true := beq_iff_eq.mpr (by omega); have c6d : (((i1 : Nat) : Int) != (j1 : Int)) = false := bne_eq_false_iff_eq.mpr (by omega); have HQ : Aside0 ((impl_MemOk.row (Q.at_ T ((n : Int), (a : Int))) i1 g3 (j1 + 1) && (impl_MemOk.pairs (Q.at_ T ((n : Int), (a : Int))) g2 (i1 + 1) && (impl_MemOk.places T n refs g1 (a + 1) && ((seen'.contains 0 || impl_MemOk.places T 1 l0_1 l0_1.length 0) && (seen'.contains 1 || impl_MemOk.places T 2 l0_3 l0_3.length 0))))) = r) := ⟨HT2.out _ rfl (by rw [c6]; simp)⟩; clear HT1 HT2; have c6c := c6; clear c6; have C6 := Aside0.mk c6c; clear c6c
    go_wp2
    go_roundg g3
    case measure => omega
    case rel => exact ⟨j1 + 1, by go_num, ⟨by have := HJ1.out; omega⟩, HQ, HL, BK15, HM, BK101, TW, HB⟩
   have c6b : (((i1 : Nat) : Int) == (j1 : Int)) = false := beq_eq_false_iff_ne.mpr (by omega); have c6d : (((i1 : Nat) : Int) != (j1 : Int)) = true := bne_iff_ne.mpr (by omega); have c6n : (i1 != j1) = true := bne_iff_ne.mpr c6; clear c6
   rcases Bool.eq_false_or_eq_true ((rd_T94 (Q.at_ T ((n : Int), (a : Int))) (i1 : Int)).f0) with hp0 | hp0
   rotate_left
   ·
    have HQ : Aside0 ((impl_MemOk.row (Q.at_ T ((n : Int), (a : Int))) i1 g3 (j1 + 1) && (impl_MemOk.pairs (Q.at_ T ((n : Int), (a : Int))) g2 (i1 + 1) && (impl_MemOk.places T n refs g1 (a + 1) && ((seen'.contains 0 || impl_MemOk.places T 1 l0_1 l0_1.length 0) && (seen'.contains 1 || impl_MemOk.places T 2 l0_3 l0_3.length 0))))) = r) := ⟨HT2.out _ rfl (by rw [c6n]; simp [impl_MemOk.bad, hp0])⟩; clear HT1 HT2 c6n; rw [hp0] at hy0; clear hp0
    go_wp2
    go_roundg g3
    case measure => omega
    case rel => exact ⟨j1 + 1, by go_num, ⟨by have := HJ1.out; omega⟩, HQ, HL, BK15, HM, BK101, TW, HB⟩
   rcases Bool.eq_false_or_eq_true ((rd_T94 (Q.at_ T ((n : Int), (a : Int))) (i1 : Int)).f1) with hp1 | hp1
   rotate_left
   ·
    have hq : r = false := HT1.out _ rfl (by rw [c6n]; simp [impl_MemOk.bad, hp0, hp1]); clear HT1 HT2 c6n; subst hq; rw [hp0] at hy0; rw [hp1] at hy1; clear hp0 hp1
    go_wp2
    go_ret
    exact ⟨rfl, HB.out⟩
   rcases Bool.eq_false_or_eq_true ((rd_T94 (Q.at_ T ((n : Int), (a : Int))) (j1 : Int)).f1) with hp2 | hp2
   rotate_left
   ·
    have hq : r = false := HT1.out _ rfl (by rw [c6n]; simp [impl_MemOk.bad, hp0, hp1, hp2]); clear HT1 HT2 c6n; subst hq; rw [hp0] at hy0; rw [hp1] at hy1; rw [hp2] at hz1; clear hp0 hp1 hp2
    go_wp2
    go_ret
    exact ⟨rfl, HB.out⟩
   have HQ : Aside0 ((impl_MemOk.row (Q.at_ T ((n : Int), (a : Int))) i1 g3 (j1 + 1) && (impl_MemOk.pairs (Q.at_ T ((n : Int), (a : Int))) g2 (i1 + 1) && (impl_MemOk.places T n refs g1 (a + 1) && ((seen'.contains 0 || impl_MemOk.places T 1 l0_1 l0_1.length 0) && (seen'.contains 1 || impl_MemOk.places T 2 l0_3 l0_3.length 0))))) = r) := ⟨HT2.out _ rfl (by rw [c6n]; simp [impl_MemOk.bad, hp0, hp1, hp2])⟩; clear HT1 HT2 c6n; rw [hp0] at hy0; rw [hp1] at hy1; rw [hp2] at hz1; clear hp0 hp1 hp2
   go_wp2
   go_roundg g3
   case measure => omega
   case rel => exact ⟨j1 + 1, by go_num, ⟨by have := HJ1.out; omega⟩, HQ, HL, BK15, HM, BK101, TW, HB⟩
  | succ g =>
  have hi : i < l0_4.length := by have := HI.out; omega
  have hi5 : i < 5 := by have := HL4.out; omega
  have c1b : decide (i < l0_4.length) = true := decide_eq_true hi; obtain ⟨ad5, A1, c1, A2, c2, ead, hx0, hx1, hx2, hl1, hi1, hl2, hi2⟩ := at_T63 HR0_4.out (i : Int) (by omega) (by omega)
  obtain rfl : ad4 = ad5 := by injection ead
  rw [Int.toNat_natCast] at hx0 hx1 hx2; replace hx0 := pw_cell_below HB.out hx0; replace hx1 := pw_cell_below HB.out hx1; replace hx2 := pw_cell_below HB.out hx2; have HA1 := Aside0.mk hi1; have HA2 := Aside0.mk hi2; have HZ1 := Aside0.mk hl1; have HZ2 := Aside0.mk hl2; clear ead hl1 hi1 hl2 hi2; have HH := Aside0.mk H; clear H
  go_upto_region 7 with (first | ((with_reducible refine gate_dst (N := 5) rfl ?_); (try (refine gate_guard (by rfl) ?_; dsimp only)); refine box_event ?hg (N := 5) ?hd (cs := #[.bool false, .slice none 0 0, .slice none 0 0]) (t := 63) ?hr ?_; (case hd => rfl); (case hg => rfl); (case hr => first | (go_simp; done) | (go_simp; rfl)); intro gb5 hg w5 hbox hb; have NEgb5 := Aside0.mk (by rw [hg]; exact Nat.ne_of_lt HM.out.lt : gm ≠ gb5); have NBK101gb5 := Aside0.mk (by rw [hg]; exact Nat.ne_of_lt (blk_lt BK101.out) : gb101 ≠ gb5); replace HM := Aside0.mk (HM.out.below rfl hb); have GEgb5 := Aside0.mk (by rw [hg]; exact below_size HB.out : w.heap.size ≤ gb5); replace HB := Aside0.mk (below_step HB.out hb); replace BK101 := Aside0.mk (blk_below BK101.out hb); have BK5 := Aside0.mk hbox; clear hb hbox hg; obtain ⟨hy0, hy1, hy2⟩ := cz3 BK5.out; obtain ⟨hf0, hf1, hf2⟩ := fz3 BK5.out))
  obtain ⟨f1, f2, f3⟩ := Q.fill3 BK5.out (.bool (rd_T63 l0_4 (i : Int)).f0) (.slice A1 (rd_T63 l0_4 (i : Int)).f1.length c1) (.slice A2 (rd_T63 l0_4 (i : Int)).f2.length c2); clear hy0 hy1 hy2 hf0 hf1 hf2
  generalize (((w5.setCell ⟨gb5, 0, none⟩ (.bool (rd_T63 l0_4 (i : Int)).f0)).setCell ⟨gb5, 1, none⟩ (.slice A1 (rd_T63 l0_4 (i : Int)).f1.length c1)).setCell ⟨gb5, 2, none⟩ (.slice A2 (rd_T63 l0_4 (i : Int)).f2.length c2)) = w6 at f1 f2 f3 ⊢
  replace HM := Aside0.mk (HM.out.wr rfl BK5.out (by decide) f2); replace HB := Aside0.mk (f3 w HB.out GEgb5.out); replace BK101 := Aside0.mk ((f2 _ NBK101gb5.out).trans BK101.out); replace BK5 := Aside0.mk f1; clear f1 f2 f3; have H := HH.out; clear HH; simp only [impl_MemOk.spaces] at H; obtain ⟨hy0, hy1, hy2⟩ := cz3 BK5.out
  cases hlv : (rd_T63 l0_4 (i : Int)).f0 with
  | false =>
   rw [hlv, if_neg nf_] at H
   by_cases c2 : ((rd_T63 l0_4 (i : Int)).f1.length : Int) > 0
   ·
    rw [if_pos c2] at H; obtain rfl := Option.some.inj H; have c2b : decide (0 < (rd_T63 l0_4 (i : Int)).f1.length) = true := decide_eq_true (by omega)
    go_wp2
    go_ret
    exact ⟨rfl, HB.out⟩
   ·
    rw [if_neg c2] at H; have c2b : decide (0 < (rd_T63 l0_4 (i : Int)).f1.length) = false := decide_eq_false (by omega)
    by_cases c3 : ((rd_T63 l0_4 (i : Int)).f2.length : Int) > 0
    ·
     rw [if_pos c3] at H; obtain rfl := Option.some.inj H; have c3b : decide (0 < (rd_T63 l0_4 (i : Int)).f2.length) = true := decide_eq_true (by omega)
     go_wp2
     go_ret
     exact ⟨rfl, HB.out⟩
    ·
     rw [if_neg c3] at H; have c3b : decide (0 < (rd_T63 l0_4 (i : Int)).f2.length) = false := decide_eq_false (by omega); have HF := Aside0.mk H; clear H
     go_wp2
     go_roundg g
     case measure => have := HI.out; omega
     case rel => exact ⟨i + 1, T, by go_num, ⟨by have := HI.out; omega⟩, HF, HM, BK101, HB⟩
  | true =>
   rw [hlv, if_pos rfl] at H; obtain ⟨t1, h1, H⟩ := Option.bind_eq_some_iff.1 ((Option.bind_assoc ..).symm.trans H); have HA := Aside0.mk h1; clear h1
   cases t1 with
   | false =>
    rw [if_neg nf_] at H; obtain rfl := Option.some.inj H
    go_wp2_with (first | (go_at_call 54; (with_reducible refine (impl_AreasOk.calls k _ _ (rd_T63 l0_4 (i : Int)).f1 false _ ?side1 HZ1.out HA.out).mono ?_); (case side1 => exact Kd.C_below HA1.out HB.out); rintro e w9 ⟨rfl, hb⟩; replace BK101 := Aside0.mk (blk_below BK101.out hb); replace BK5 := Aside0.mk (blk_below BK5.out hb); replace HM := Aside0.mk (HM.out.below rfl hb); replace HB := Aside0.mk (below_step HB.out hb); clear hb hy0 hy1 hy2; obtain ⟨hy0, hy1, hy2⟩ := cz3 BK5.out))
    go_ret
    exact ⟨rfl, HB.out⟩
   | true =>
   rw [if_pos rfl] at H
   by_cases c3 : ((rd_T63 l0_4 (i : Int)).f2.length : Int) = 16
   rotate_left
   ·
    rw [if_neg c3] at H; have c3b : (((rd_T63 l0_4 (i : Int)).f2.length : Int) == 16) = false := beq_eq_false_iff_ne.mpr c3; have c3d : (((rd_T63 l0_4 (i : Int)).f2.length : Int) != 16) = true := bne_iff_ne.mpr c3; obtain rfl := Option.some.inj H
    go_wp2_with (first | (go_at_call 54; (with_reducible refine (impl_AreasOk.calls k _ _ (rd_T63 l0_4 (i : Int)).f1 true _ ?side1 HZ1.out HA.out).mono ?_); (case side1 => exact Kd.C_below HA1.out HB.out); rintro e w9 ⟨rfl, hb⟩; replace BK101 := Aside0.mk (blk_below BK101.out hb); replace BK5 := Aside0.mk (blk_below BK5.out hb); replace HM := Aside0.mk (HM.out.below rfl hb); replace HB := Aside0.mk (below_step HB.out hb); clear hb hy0 hy1 hy2; obtain ⟨hy0, hy1, hy2⟩ := cz3 BK5.out))
    go_ret
    exact ⟨rfl, HB.out⟩
   rw [if_pos c3] at H; have c3b : (((rd_T63 l0_4 (i : Int)).f2.length : Int) == 16) = true := beq_iff_eq.mpr c3; have c3d : (((rd_T63 l0_4 (i : Int)).f2.length : Int) != 16) = false := bne_eq_false_iff_eq.mpr c3; have HS16 := Aside0.mk c3; clear c3; rw [Option.bind_assoc] at H; have HN : Aside0 ((impl_MemOk.slots k l0_0 l0_1 l0_2 l0_3 (rd_T63 l0_4 (i : Int)) (rd_T63 l0_4 (i : Int)).f2.length ((0 : Nat) : Int) T).bind (impl_MemOk.next k l0_0 l0_1 l0_2 l0_3 l0_4 g ((i : Int) + 1)) = some r) := ⟨H⟩; clear H
   go_wp2_with (first | (go_at_call 54; (with_reducible refine (impl_AreasOk.calls k _ _ (rd_T63 l0_4 (i : Int)).f1 true _ ?side1 HZ1.out HA.out).mono ?_); (case side1 => exact Kd.C_below HA1.out HB.out); rintro e w9 ⟨rfl, hb⟩; replace BK101 := Aside0.mk (blk_below BK101.out hb); replace BK5 := Aside0.mk (blk_below BK5.out hb); replace HM := Aside0.mk (HM.out.below rfl hb); replace HB := Aside0.mk (below_step HB.out hb); clear hb hy0 hy1 hy2; obtain ⟨hy0, hy1, hy2⟩ := cz3 BK5.out))
   clear hx0 hx1 hx2 hy0 hy1 hy2 hlv c3b c3d c1b
   go_loopg [88] ((rd_T63 l0_4 (i : Int)).f2.length) (fun g2 v88 w' => ∃ (p : Nat) (T2 : List ((Int × Int) × S94)), v88 = .int .i64 p ∧ Aside0 (p + g2 = (rd_T63 l0_4 (i : Int)).f2.length ∧ T2.length ≤ 16 * i + p) ∧ Aside0 ((impl_MemOk.slots k l0_0 l0_1 l0_2 l0_3 (rd_T63 l0_4 (i : Int)) g2 (p : Int) T2).bind (impl_MemOk.next k l0_0 l0_1 l0_2 l0_3 l0_4 g ((i : Int) + 1)) = some r) ∧ Aside0 (Q.TMap k94 94 w' w.heap.size gm T2) ∧ Aside0 (w'.heap[gb101]? = some (.cells #[(.slice A0_0 l0_0.length c0_0), (.slice A0_1 l0_1.length c0_1), (.slice A0_2 l0_2.length c0_2), (.slice A0_3 l0_3.length c0_3), (.slice (some ad4) l0_4.length c0_4), .int .i64 a0_5] 46 (0, 0))) ∧ Aside0 (w'.heap[gb5]? = some (.cells #[.bool (rd_T63 l0_4 (i : Int)).f0, .slice A1 (rd_T63 l0_4 (i : Int)).f1.length c1, .slice A2 (rd_T63 l0_4 (i : Int)).f2.length c2] 63 (0, 0))) ∧ Aside0 (Below w.heap.size w w'))
   case atStart => exact ⟨0, T, rfl, ⟨by have := HI.out; omega⟩, HN, HM, BK101, BK5, HB⟩
   case round =>
    clear HN HM BK101 BK5 HB; obtain ⟨p, T2, rfl, HP, HN, HM, BK101, BK5, HB⟩ := hrel
    as_aux_lemma =>
    have H := HN.out; clear HN
    cases gk with
    | zero =>
     have hp := HP.out
     obtain rfl : p = (rd_T63 l0_4 (i : Int)).f2.length := by omega
     simp only [impl_MemOk.slots, Option.bind_some] at H; have HF := Aside0.mk H; clear H hp; have c4b : decide ((rd_T63 l0_4 (i : Int)).f2.length < (rd_T63 l0_4 (i : Int)).f2.length) = false := decide_eq_false (by omega)
     go_wp2
     go_roundg g
     case measure => have := HI.out; omega
     case rel => exact ⟨i + 1, T2, by go_num, ⟨by have := HI.out; have := HP.out; have := HS16.out; omega⟩, HF, HM, BK101, HB⟩
    | succ g2 =>
    have hp : p < (rd_T63 l0_4 (i : Int)).f2.length := by have := HP.out; omega
    have hp5 : p < 16 := by have := HS16.out; omega
    have c4b : decide (p < (rd_T63 l0_4 (i : Int)).f2.length) = true := decide_eq_true hp; obtain ⟨ad6, ead, hx0, hx1, hx2, hx3⟩ := at_T65 HA2.out (p : Int) (by omega) (by omega); cases ead; rw [Int.toNat_natCast] at hx0 hx1 hx2 hx3; replace hx0 := pw_cell_below HB.out hx0; replace hx1 := pw_cell_below HB.out hx1; replace hx2 := pw_cell_below HB.out hx2; replace hx3 := pw_cell_below HB.out hx3; have HH := Aside0.mk H; clear H
    go_upto_block 4 with (first | ((with_reducible refine gate_dst (N := 7) rfl ?_); (try (refine gate_guard (by rfl) ?_; dsimp only)); refine box_event ?hg (N := 7) ?hd (cs := #[.int .i64 0, .int .i64 0, .bool false, .bool false]) (t := 65) ?hr ?_; (case hd => rfl); (case hg => rfl); (case hr => first | (go_simp; done) | (go_simp; rfl)); intro gb7 hg w5 hbox hb; have NEgb7 := Aside0.mk (by rw [hg]; exact Nat.ne_of_lt HM.out.lt : gm ≠ gb7); have NBK101gb7 := Aside0.mk (by rw [hg]; exact Nat.ne_of_lt (blk_lt BK101.out) : gb101 ≠ gb7); have NBK5gb7 := Aside0.mk (by rw [hg]; exact Nat.ne_of_lt (blk_lt BK5.out) : gb5 ≠ gb7); replace HM := Aside0.mk (HM.out.below rfl hb); have GEgb7 := Aside0.mk (by rw [hg]; exact below_size HB.out : w.heap.size ≤ gb7); replace HB := Aside0.mk (below_step HB.out hb); replace BK101 := Aside0.mk (blk_below BK101.out hb); replace BK5 := Aside0.mk (blk_below BK5.out hb); have BK7 := Aside0.mk hbox; clear hb hbox hg; obtain ⟨hy0, hy1, hy2, hy3⟩ := cz4 BK7.out; obtain ⟨hf0, hf1, hf2, hf3⟩ := fz4 BK7.out))
    obtain ⟨f1, f2, f3⟩ := Q.fill4 BK7.out (.int .i64 (rd_T65 (rd_T63 l0_4 (i : Int)).f2 (p : Int)).f0) (.int .i64 (rd_T65 (rd_T63 l0_4 (i : Int)).f2 (p : Int)).f1) (.bool (rd_T65 (rd_T63 l0_4 (i : Int)).f2 (p : Int)).f2) (.bool (rd_T65 (rd_T63 l0_4 (i : Int)).f2 (p : Int)).f3); clear hy0 hy1 hy2 hy3 hf0 hf1 hf2 hf3
    generalize ((((w5.setCell ⟨gb7, 0, none⟩ (.int .i64 (rd_T65 (rd_T63 l0_4 (i : Int)).f2 (p : Int)).f0)).setCell ⟨gb7, 1, none⟩ (.int .i64 (rd_T65 (rd_T63 l0_4 (i : Int)).f2 (p : Int)).f1)).setCell ⟨gb7, 2, none⟩ (.bool (rd_T65 (rd_T63 l0_4 (i : Int)).f2 (p : Int)).f2)).setCell ⟨gb7, 3, none⟩ (.bool (rd_T65 (rd_T63 l0_4 (i : Int)).f2 (p : Int)).f3)) = w7 at f1 f2 f3 ⊢
    replace HM := Aside0.mk (HM.out.wr rfl BK7.out (by decide) f2); replace HB := Aside0.mk (f3 w HB.out GEgb7.out); replace BK101 := Aside0.mk ((f2 _ NBK101gb7.out).trans BK101.out); replace BK5 := Aside0.mk ((f2 _ NBK5gb7.out).trans BK5.out); replace BK7 := Aside0.mk f1; clear f1 f2 f3
    go_cut [] (fun wc => ∃ (sh : Bool), Aside0 (impl_Space_shared.f k (rd_T63 l0_4 (i : Int)).f0 (rd_T63 l0_4 (i : Int)).f1 (rd_T63 l0_4 (i : Int)).f2 (p : Int) = some sh) ∧ Aside0 (Q.okq ((rd_T65 (rd_T63 l0_4 (i : Int)).f2 (p : Int)).f0, (rd_T65 (rd_T63 l0_4 (i : Int)).f2 (p : Int)).f1)) ∧ Aside0 ((impl_MemOk.slots k l0_0 l0_1 l0_2 l0_3 (rd_T63 l0_4 (i : Int)) g2 ((p : Int) + 1) (T2 ++ [(((rd_T65 (rd_T63 l0_4 (i : Int)).f2 (p : Int)).f0, (rd_T65 (rd_T63 l0_4 (i : Int)).f2 (p : Int)).f1), ⟨(rd_T65 (rd_T63 l0_4 (i : Int)).f2 (p : Int)).f2, sh⟩)])).bind (impl_MemOk.next k l0_0 l0_1 l0_2 l0_3 l0_4 g ((i : Int) + 1)) = some r) ∧ Aside0 (Q.TMap k94 94 wc w.heap.size gm T2) ∧ Aside0 (wc.heap[gb101]? = some (.cells #[(.slice A0_0 l0_0.length c0_0), (.slice A0_1 l0_1.length c0_1), (.slice A0_2 l0_2.length c0_2), (.slice A0_3 l0_3.length c0_3), (.slice (some ad4) l0_4.length c0_4), .int .i64 a0_5] 46 (0, 0))) ∧ Aside0 (wc.heap[gb5]? = some (.cells #[.bool (rd_T63 l0_4 (i : Int)).f0, .slice A1 (rd_T63 l0_4 (i : Int)).f1.length c1, .slice (some ad6) (rd_T63 l0_4 (i : Int)).f2.length c2] 63 (0, 0))) ∧ Aside0 (wc.heap[gb7]? = some (.cells #[.int .i64 (rd_T65 (rd_T63 l0_4 (i : Int)).f2 (p : Int)).f0, .int .i64 (rd_T65 (rd_T63 l0_4 (i : Int)).f2 (p : Int)).f1, .bool (rd_T65 (rd_T63 l0_4 (i : Int)).f2 (p : Int)).f2, .bool (rd_T65 (rd_T63 l0_4 (i : Int)).f2 (p : Int)).f3] 65 (0, 0))) ∧ Aside0 (Below w.heap.size w wc))
    case first =>
     have H := HH.out; clear HH; simp only [impl_MemOk.slots] at H; rw [Option.bind_assoc] at H; obtain ⟨y, hy, H⟩ := Option.bind_eq_some_iff.1 H; have HY : Aside0 (impl_MemOk.then_ k l0_0 l0_1 l0_2 l0_3 l0_4 (rd_T63 l0_4 (i : Int)) g2 ((p : Int) + 1) T2 g ((i : Int) + 1) y = some r) := ⟨H⟩; clear H
     unfold impl_MemOk.slot at hy
     obtain ⟨z, hz, hy⟩ := Option.bind_eq_some_iff.1 hy; obtain ⟨hy0, hy1, hy2⟩ := cz3 BK5.out; obtain ⟨hz0, hz1, hz2, hz3⟩ := cz4 BK7.out; obtain ⟨hcz0, hcz1, hcz2, hcz3, hcz4, hcz5⟩ := cz6 BK101.out
     by_cases ke0 : (rd_T65 (rd_T63 l0_4 (i : Int)).f2 (p : Int)).f0 = 0
     ·
      rw [if_pos ke0] at hz; obtain rfl := Option.some.inj hz; rw [if_pos rfl] at hy; have k0b : ((rd_T65 (rd_T63 l0_4 (i : Int)).f2 (p : Int)).f0 == 0) = true := beq_iff_eq.mpr ke0; have k0d : ((rd_T65 (rd_T63 l0_4 (i : Int)).f2 (p : Int)).f0 != 0) = false := bne_eq_false_iff_eq.mpr ke0
      cases hne : impl_MemOk.ne (rd_T65 (rd_T63 l0_4 (i : Int)).f2 (p : Int)) with
      | true =>
       rw [hne, if_pos rfl] at hy
       have hnz : (!((rd_T65 (rd_T63 l0_4 (i : Int)).f2 (p : Int)).f1 == 0) || ((rd_T65 (rd_T63 l0_4 (i : Int)).f2 (p : Int)).f2 || (rd_T65 (rd_T63 l0_4 (i : Int)).f2 (p : Int)).f3)) = true := by simpa [impl_MemOk.ne, ke0] using hne
       clear hne ke0 hz; obtain rfl := Option.some.inj hy; obtain rfl := Option.some.inj (show some false = some r from HY.out)
       go_wp2
       go_ret
       exact ⟨rfl, HB.out⟩
      | false =>
       rw [hne, if_neg nf_] at hy
       have hnz : (!((rd_T65 (rd_T63 l0_4 (i : Int)).f2 (p : Int)).f1 == 0) || ((rd_T65 (rd_T63 l0_4 (i : Int)).f2 (p : Int)).f2 || (rd_T65 (rd_T63 l0_4 (i : Int)).f2 (p : Int)).f3)) = false := by simpa [impl_MemOk.ne, ke0] using hne
       clear hne ke0 hz; obtain rfl := Option.some.inj hy; clear hy
       go_wp2
       go_roundg g2
       case measure => have := HP.out; omega
       case rel => exact ⟨p + 1, T2 ++ [], by go_num, ⟨by have := HP.out; simp only [List.length_append, List.length_nil]; omega⟩, ⟨HY.out⟩, ⟨by rw [List.append_nil]; exact HM.out⟩, BK101, BK5, HB⟩
     rw [if_neg ke0] at hz; have k0b : ((rd_T65 (rd_T63 l0_4 (i : Int)).f2 (p : Int)).f0 == 0) = false := beq_eq_false_iff_ne.mpr ke0; have k0d : ((rd_T65 (rd_T63 l0_4 (i : Int)).f2 (p : Int)).f0 != 0) = true := bne_iff_ne.mpr ke0; obtain ⟨a, ha, hz⟩ := Option.bind_eq_some_iff.1 hz; have HAA := Aside0.mk ha; clear ha; obtain rfl := Option.some.inj hz; clear hz
     by_cases ka : a < 0
     ·
      have kab : decide (a < 0) = true := decide_eq_true ka; rw [kab, if_pos rfl, show impl_MemOk.ne (rd_T65 (rd_T63 l0_4 (i : Int)).f2 (p : Int)) = true by simp [impl_MemOk.ne, k0b], if_pos rfl] at hy; clear ke0 ka; obtain rfl := Option.some.inj hy; obtain rfl := Option.some.inj (show some false = some r from HY.out)
      go_wp2_with (first | (go_at_call 55; (with_reducible refine (impl_AreasAt.calls k _ _ (rd_T63 l0_4 (i : Int)).f1 (p : Int) a _ ?side1 HZ1.out HAA.out).mono ?_); (case side1 => exact Kd.C_below HA1.out HB.out); rintro e w9 ⟨rfl, hb⟩; replace BK101 := Aside0.mk (blk_below BK101.out hb); replace BK5 := Aside0.mk (blk_below BK5.out hb); replace BK7 := Aside0.mk (blk_below BK7.out hb); replace HM := Aside0.mk (HM.out.below rfl hb); replace HB := Aside0.mk (below_step HB.out hb); clear hb hy0 hy1 hy2 hz0 hz1 hz2 hz3 hcz0 hcz1 hcz2 hcz3 hcz4 hcz5; obtain ⟨hy0, hy1, hy2⟩ := cz3 BK5.out; obtain ⟨hz0, hz1, hz2, hz3⟩ := cz4 BK7.out; obtain ⟨hcz0, hcz1, hcz2, hcz3, hcz4, hcz5⟩ := cz6 BK101.out))
      go_ret
      exact ⟨rfl, HB.out⟩
     have kab : decide (a < 0) = false := decide_eq_false ka; rw [kab, if_neg nf_] at hy; clear ka; obtain ⟨b1, hb1, hy⟩ := Option.bind_eq_some_iff.1 hy
     by_cases ke1 : (rd_T65 (rd_T63 l0_4 (i : Int)).f2 (p : Int)).f0 = 1
     ·
      have k1b : ((rd_T65 (rd_T63 l0_4 (i : Int)).f2 (p : Int)).f0 == 1) = true := beq_iff_eq.mpr ke1; have k2b : ((rd_T65 (rd_T63 l0_4 (i : Int)).f2 (p : Int)).f0 == 2) = false := beq_eq_false_iff_ne.mpr (by omega)
      have ke2 : ¬ (rd_T65 (rd_T63 l0_4 (i : Int)).f2 (p : Int)).f0 = 2 := by omega
      rw [if_pos ke1] at hb1; obtain ⟨hv, h1, hb1⟩ := Option.bind_eq_some_iff.1 hb1; have H1 := Aside0.mk h1; clear h1; obtain rfl := Option.some.inj hb1; clear hb1 ke1
      cases hv with
      | false =>
       rw [Bool.not_false, if_pos rfl] at hy; obtain rfl := Option.some.inj hy; obtain rfl := Option.some.inj (show some false = some r from HY.out)
       go_wp2_with (first | (go_at_call 55; (with_reducible refine (impl_AreasAt.calls k _ _ (rd_T63 l0_4 (i : Int)).f1 (p : Int) a _ ?side1 HZ1.out HAA.out).mono ?_); (case side1 => exact Kd.C_below HA1.out HB.out); rintro e w9 ⟨rfl, hb⟩; replace BK101 := Aside0.mk (blk_below BK101.out hb); replace BK5 := Aside0.mk (blk_below BK5.out hb); replace BK7 := Aside0.mk (blk_below BK7.out hb); replace HM := Aside0.mk (HM.out.below rfl hb); replace HB := Aside0.mk (below_step HB.out hb); clear hb hy0 hy1 hy2 hz0 hz1 hz2 hz3 hcz0 hcz1 hcz2 hcz3 hcz4 hcz5; obtain ⟨hy0, hy1, hy2⟩ := cz3 BK5.out; obtain ⟨hz0, hz1, hz2, hz3⟩ := cz4 BK7.out; obtain ⟨hcz0, hcz1, hcz2, hcz3, hcz4, hcz5⟩ := cz6 BK101.out) | (go_at_call 56; (with_reducible refine (impl_Pages_has.calls _ _ l0_0 _ _ l0_1 (rd_T65 (rd_T63 l0_4 (i : Int)).f2 (p : Int)).f1 _ _ ?side1 HC0_0.out ?side2 HC0_1.out H1.out).mono ?_); (case side1 => exact Kd.C_below HR0_0.out HB.out); (case side2 => exact Kd.C_below HR0_1.out HB.out); rintro e w9 ⟨rfl, hb⟩; replace BK101 := Aside0.mk (blk_below BK101.out hb); replace BK5 := Aside0.mk (blk_below BK5.out hb); replace BK7 := Aside0.mk (blk_below BK7.out hb); replace HM := Aside0.mk (HM.out.below rfl hb); replace HB := Aside0.mk (below_step HB.out hb); clear hb hy0 hy1 hy2 hz0 hz1 hz2 hz3 hcz0 hcz1 hcz2 hcz3 hcz4 hcz5; obtain ⟨hy0, hy1, hy2⟩ := cz3 BK5.out; obtain ⟨hz0, hz1, hz2, hz3⟩ := cz4 BK7.out; obtain ⟨hcz0, hcz1, hcz2, hcz3, hcz4, hcz5⟩ := cz6 BK101.out))
       go_ret
       exact ⟨rfl, HB.out⟩
      | true =>
      rw [Bool.not_true, if_neg nf_] at hy; have HBD := Aside0.mk (impl_MemOk.bd1 HL1.out H1.out); rw [if_neg ke2, Option.bind_some, if_neg nf_] at hy; clear ke0 ke2; obtain ⟨b3, h3, hy⟩ := Option.bind_eq_some_iff.1 hy; have H3 := Aside0.mk h3; clear h3
      cases b3 with
      | false =>
       rw [if_neg nf_] at hy; obtain rfl := Option.some.inj hy; obtain rfl := Option.some.inj (show some false = some r from HY.out)
       go_wp2_with (first | (go_at_call 55; (with_reducible refine (impl_AreasAt.calls k _ _ (rd_T63 l0_4 (i : Int)).f1 (p : Int) a _ ?side1 HZ1.out HAA.out).mono ?_); (case side1 => exact Kd.C_below HA1.out HB.out); rintro e w9 ⟨rfl, hb⟩; replace BK101 := Aside0.mk (blk_below BK101.out hb); replace BK5 := Aside0.mk (blk_below BK5.out hb); replace BK7 := Aside0.mk (blk_below BK7.out hb); replace HM := Aside0.mk (HM.out.below rfl hb); replace HB := Aside0.mk (below_step HB.out hb); clear hb hy0 hy1 hy2 hz0 hz1 hz2 hz3 hcz0 hcz1 hcz2 hcz3 hcz4 hcz5; obtain ⟨hy0, hy1, hy2⟩ := cz3 BK5.out; obtain ⟨hz0, hz1, hz2, hz3⟩ := cz4 BK7.out; obtain ⟨hcz0, hcz1, hcz2, hcz3, hcz4, hcz5⟩ := cz6 BK101.out) | (go_at_call 56; (with_reducible refine (impl_Pages_has.calls _ _ l0_0 _ _ l0_1 (rd_T65 (rd_T63 l0_4 (i : Int)).f2 (p : Int)).f1 _ _ ?side1 HC0_0.out ?side2 HC0_1.out H1.out).mono ?_); (case side1 => exact Kd.C_below HR0_0.out HB.out); (case side2 => exact Kd.C_below HR0_1.out HB.out); rintro e w9 ⟨rfl, hb⟩; replace BK101 := Aside0.mk (blk_below BK101.out hb); replace BK5 := Aside0.mk (blk_below BK5.out hb); replace BK7 := Aside0.mk (blk_below BK7.out hb); replace HM := Aside0.mk (HM.out.below rfl hb); replace HB := Aside0.mk (below_step HB.out hb); clear hb hy0 hy1 hy2 hz0 hz1 hz2 hz3 hcz0 hcz1 hcz2 hcz3 hcz4 hcz5; obtain ⟨hy0, hy1, hy2⟩ := cz3 BK5.out; obtain ⟨hz0, hz1, hz2, hz3⟩ := cz4 BK7.out; obtain ⟨hcz0, hcz1, hcz2, hcz3, hcz4, hcz5⟩ := cz6 BK101.out) | (go_at_call 41; (with_reducible refine (impl_in.calls (rd_T65 (rd_T63 l0_4 (i : Int)).f2 (p : Int)).f0 1 2 _ _ H3.out).mono ?_); rintro e w9 ⟨rfl, ⟨nd, hd⟩⟩; have hb := Q.drawn_below hd; clear hd; replace BK101 := Aside0.mk (blk_below BK101.out hb); replace BK5 := Aside0.mk (blk_below BK5.out hb); replace BK7 := Aside0.mk (blk_below BK7.out hb); replace HM := Aside0.mk (HM.out.below rfl hb); replace HB := Aside0.mk (below_step HB.out hb); clear hb hy0 hy1 hy2 hz0 hz1 hz2 hz3 hcz0 hcz1 hcz2 hcz3 hcz4 hcz5; obtain ⟨hy0, hy1, hy2⟩ := cz3 BK5.out; obtain ⟨hz0, hz1, hz2, hz3⟩ := cz4 BK7.out; obtain ⟨hcz0, hcz1, hcz2, hcz3, hcz4, hcz5⟩ := cz6 BK101.out))
       go_ret
       exact ⟨rfl, HB.out⟩
      | true =>
      rw [if_pos rfl] at hy; obtain ⟨sh, hs, hy⟩ := Option.bind_eq_some_iff.1 hy; have HS := Aside0.mk hs; clear hs; have HQ : Aside0 (Q.okq ((rd_T65 (rd_T63 l0_4 (i : Int)).f2 (p : Int)).f0, (rd_T65 (rd_T63 l0_4 (i : Int)).f2 (p : Int)).f1)) := impl_MemOk.okq_of H3.out HBD.out
      cases sh with
      | false =>
       rw [if_neg nf_] at hy; obtain rfl := Option.some.inj hy; clear hy
       go_wp2_with (first | (go_at_call 55; (with_reducible refine (impl_AreasAt.calls k _ _ (rd_T63 l0_4 (i : Int)).f1 (p : Int) a _ ?side1 HZ1.out HAA.out).mono ?_); (case side1 => exact Kd.C_below HA1.out HB.out); rintro e w9 ⟨rfl, hb⟩; replace BK101 := Aside0.mk (blk_below BK101.out hb); replace BK5 := Aside0.mk (blk_below BK5.out hb); replace BK7 := Aside0.mk (blk_below BK7.out hb); replace HM := Aside0.mk (HM.out.below rfl hb); replace HB := Aside0.mk (below_step HB.out hb); clear hb hy0 hy1 hy2 hz0 hz1 hz2 hz3 hcz0 hcz1 hcz2 hcz3 hcz4 hcz5; obtain ⟨hy0, hy1, hy2⟩ := cz3 BK5.out; obtain ⟨hz0, hz1, hz2, hz3⟩ := cz4 BK7.out; obtain ⟨hcz0, hcz1, hcz2, hcz3, hcz4, hcz5⟩ := cz6 BK101.out) | (go_at_call 56; (with_reducible refine (impl_Pages_has.calls _ _ l0_0 _ _ l0_1 (rd_T65 (rd_T63 l0_4 (i : Int)).f2 (p : Int)).f1 _ _ ?side1 HC0_0.out ?side2 HC0_1.out H1.out).mono ?_); (case side1 => exact Kd.C_below HR0_0.out HB.out); (case side2 => exact Kd.C_below HR0_1.out HB.out); rintro e w9 ⟨rfl, hb⟩; replace BK101 := Aside0.mk (blk_below BK101.out hb); replace BK5 := Aside0.mk (blk_below BK5.out hb); replace BK7 := Aside0.mk (blk_below BK7.out hb); replace HM := Aside0.mk (HM.out.below rfl hb); replace HB := Aside0.mk (below_step HB.out hb); clear hb hy0 hy1 hy2 hz0 hz1 hz2 hz3 hcz0 hcz1 hcz2 hcz3 hcz4 hcz5; obtain ⟨hy0, hy1, hy2⟩ := cz3 BK5.out; obtain ⟨hz0, hz1, hz2, hz3⟩ := cz4 BK7.out; obtain ⟨hcz0, hcz1, hcz2, hcz3, hcz4, hcz5⟩ := cz6 BK101.out) | (go_at_call 41; (with_reducible refine (impl_in.calls (rd_T65 (rd_T63 l0_4 (i : Int)).f2 (p : Int)).f0 1 2 _ _ H3.out).mono ?_); rintro e w9 ⟨rfl, ⟨nd, hd⟩⟩; have hb := Q.drawn_below hd; clear hd; replace BK101 := Aside0.mk (blk_below BK101.out hb); replace BK5 := Aside0.mk (blk_below BK5.out hb); replace BK7 := Aside0.mk (blk_below BK7.out hb); replace HM := Aside0.mk (HM.out.below rfl hb); replace HB := Aside0.mk (below_step HB.out hb); clear hb hy0 hy1 hy2 hz0 hz1 hz2 hz3 hcz0 hcz1 hcz2 hcz3 hcz4 hcz5; obtain ⟨hy0, hy1, hy2⟩ := cz3 BK5.out; obtain ⟨hz0, hz1, hz2, hz3⟩ := cz4 BK7.out; obtain ⟨hcz0, hcz1, hcz2, hcz3, hcz4, hcz5⟩ := cz6 BK101.out) | (go_at_call 57; (with_reducible refine (impl_Space_shared.calls k (rd_T63 l0_4 (i : Int)).f0 _ _ (rd_T63 l0_4 (i : Int)).f1 _ _ (rd_T63 l0_4 (i : Int)).f2 (p : Int) _ _ ?side1 HZ1.out ?side2 HZ2.out HS.out).mono ?_); (case side1 => exact Kd.C_below HA1.out HB.out); (case side2 => exact Kd.C_below HA2.out HB.out); rintro e w9 ⟨rfl, hb⟩; replace BK101 := Aside0.mk (blk_below BK101.out hb); replace BK5 := Aside0.mk (blk_below BK5.out hb); replace BK7 := Aside0.mk (blk_below BK7.out hb); replace HM := Aside0.mk (HM.out.below rfl hb); replace HB := Aside0.mk (below_step HB.out hb); clear hb hy0 hy1 hy2 hz0 hz1 hz2 hz3 hcz0 hcz1 hcz2 hcz3 hcz4 hcz5; obtain ⟨hy0, hy1, hy2⟩ := cz3 BK5.out; obtain ⟨hz0, hz1, hz2, hz3⟩ := cz4 BK7.out; obtain ⟨hcz0, hcz1, hcz2, hcz3, hcz4, hcz5⟩ := cz6 BK101.out))
       go_meet
       case rel => exact ⟨false, HS, HQ, HY, HM, BK101, BK5, BK7, HB⟩
      | true =>
      rw [if_pos rfl] at hy
      cases ho : (rd_T65 (rd_T63 l0_4 (i : Int)).f2 (p : Int)).f2 with
      | false =>
       rw [ho, if_neg nf_] at hy; obtain rfl := Option.some.inj hy; obtain rfl := Option.some.inj (show some false = some r from HY.out)
       go_wp2_with (first | (go_at_call 55; (with_reducible refine (impl_AreasAt.calls k _ _ (rd_T63 l0_4 (i : Int)).f1 (p : Int) a _ ?side1 HZ1.out HAA.out).mono ?_); (case side1 => exact Kd.C_below HA1.out HB.out); rintro e w9 ⟨rfl, hb⟩; replace BK101 := Aside0.mk (blk_below BK101.out hb); replace BK5 := Aside0.mk (blk_below BK5.out hb); replace BK7 := Aside0.mk (blk_below BK7.out hb); replace HM := Aside0.mk (HM.out.below rfl hb); replace HB := Aside0.mk (below_step HB.out hb); clear hb hy0 hy1 hy2 hz0 hz1 hz2 hz3 hcz0 hcz1 hcz2 hcz3 hcz4 hcz5; obtain ⟨hy0, hy1, hy2⟩ := cz3 BK5.out; obtain ⟨hz0, hz1, hz2, hz3⟩ := cz4 BK7.out; obtain ⟨hcz0, hcz1, hcz2, hcz3, hcz4, hcz5⟩ := cz6 BK101.out) | (go_at_call 56; (with_reducible refine (impl_Pages_has.calls _ _ l0_0 _ _ l0_1 (rd_T65 (rd_T63 l0_4 (i : Int)).f2 (p : Int)).f1 _ _ ?side1 HC0_0.out ?side2 HC0_1.out H1.out).mono ?_); (case side1 => exact Kd.C_below HR0_0.out HB.out); (case side2 => exact Kd.C_below HR0_1.out HB.out); rintro e w9 ⟨rfl, hb⟩; replace BK101 := Aside0.mk (blk_below BK101.out hb); replace BK5 := Aside0.mk (blk_below BK5.out hb); replace BK7 := Aside0.mk (blk_below BK7.out hb); replace HM := Aside0.mk (HM.out.below rfl hb); replace HB := Aside0.mk (below_step HB.out hb); clear hb hy0 hy1 hy2 hz0 hz1 hz2 hz3 hcz0 hcz1 hcz2 hcz3 hcz4 hcz5; obtain ⟨hy0, hy1, hy2⟩ := cz3 BK5.out; obtain ⟨hz0, hz1, hz2, hz3⟩ := cz4 BK7.out; obtain ⟨hcz0, hcz1, hcz2, hcz3, hcz4, hcz5⟩ := cz6 BK101.out) | (go_at_call 41; (with_reducible refine (impl_in.calls (rd_T65 (rd_T63 l0_4 (i : Int)).f2 (p : Int)).f0 1 2 _ _ H3.out).mono ?_); rintro e w9 ⟨rfl, ⟨nd, hd⟩⟩; have hb := Q.drawn_below hd; clear hd; replace BK101 := Aside0.mk (blk_below BK101.out hb); replace BK5 := Aside0.mk (blk_below BK5.out hb); replace BK7 := Aside0.mk (blk_below BK7.out hb); replace HM := Aside0.mk (HM.out.below rfl hb); replace HB := Aside0.mk (below_step HB.out hb); clear hb hy0 hy1 hy2 hz0 hz1 hz2 hz3 hcz0 hcz1 hcz2 hcz3 hcz4 hcz5; obtain ⟨hy0, hy1, hy2⟩ := cz3 BK5.out; obtain ⟨hz0, hz1, hz2, hz3⟩ := cz4 BK7.out; obtain ⟨hcz0, hcz1, hcz2, hcz3, hcz4, hcz5⟩ := cz6 BK101.out) | (go_at_call 57; (with_reducible refine (impl_Space_shared.calls k (rd_T63 l0_4 (i : Int)).f0 _ _ (rd_T63 l0_4 (i : Int)).f1 _ _ (rd_T63 l0_4 (i : Int)).f2 (p : Int) _ _ ?side1 HZ1.out ?side2 HZ2.out HS.out).mono ?_); (case side1 => exact Kd.C_below HA1.out HB.out); (case side2 => exact Kd.C_below HA2.out HB.out); rintro e w9 ⟨rfl, hb⟩; replace BK101 := Aside0.mk (blk_below BK101.out hb); replace BK5 := Aside0.mk (blk_below BK5.out hb); replace BK7 := Aside0.mk (blk_below BK7.out hb); replace HM := Aside0.mk (HM.out.below rfl hb); replace HB := Aside0.mk (below_step HB.out hb); clear hb hy0 hy1 hy2 hz0 hz1 hz2 hz3 hcz0 hcz1 hcz2 hcz3 hcz4 hcz5; obtain ⟨hy0, hy1, hy2⟩ := cz3 BK5.out; obtain ⟨hz0, hz1, hz2, hz3⟩ := cz4 BK7.out; obtain ⟨hcz0, hcz1, hcz2, hcz3, hcz4, hcz5⟩ := cz6 BK101.out))
       go_ret
       exact ⟨rfl, HB.out⟩
      | true =>
       rw [ho, if_pos rfl] at hy; obtain rfl := Option.some.inj hy; clear hy; have HY2 : Aside0 (impl_MemOk.then_ k l0_0 l0_1 l0_2 l0_3 l0_4 (rd_T63 l0_4 (i : Int)) g2 ((p : Int) + 1) T2 g ((i : Int) + 1) (some [(((rd_T65 (rd_T63 l0_4 (i : Int)).f2 (p : Int)).f0, (rd_T65 (rd_T63 l0_4 (i : Int)).f2 (p : Int)).f1), ⟨(rd_T65 (rd_T63 l0_4 (i : Int)).f2 (p : Int)).f2, true⟩)]) = some r) := ⟨by rw [ho]; exact HY.out⟩
       go_wp2_with (first | (go_at_call 55; (with_reducible refine (impl_AreasAt.calls k _ _ (rd_T63 l0_4 (i : Int)).f1 (p : Int) a _ ?side1 HZ1.out HAA.out).mono ?_); (case side1 => exact Kd.C_below HA1.out HB.out); rintro e w9 ⟨rfl, hb⟩; replace BK101 := Aside0.mk (blk_below BK101.out hb); replace BK5 := Aside0.mk (blk_below BK5.out hb); replace BK7 := Aside0.mk (blk_below BK7.out hb); replace HM := Aside0.mk (HM.out.below rfl hb); replace HB := Aside0.mk (below_step HB.out hb); clear hb hy0 hy1 hy2 hz0 hz1 hz2 hz3 hcz0 hcz1 hcz2 hcz3 hcz4 hcz5; obtain ⟨hy0, hy1, hy2⟩ := cz3 BK5.out; obtain ⟨hz0, hz1, hz2, hz3⟩ := cz4 BK7.out; obtain ⟨hcz0, hcz1, hcz2, hcz3, hcz4, hcz5⟩ := cz6 BK101.out) | (go_at_call 56; (with_reducible refine (impl_Pages_has.calls _ _ l0_0 _ _ l0_1 (rd_T65 (rd_T63 l0_4 (i : Int)).f2 (p : Int)).f1 _ _ ?side1 HC0_0.out ?side2 HC0_1.out H1.out).mono ?_); (case side1 => exact Kd.C_below HR0_0.out HB.out); (case side2 => exact Kd.C_below HR0_1.out HB.out); rintro e w9 ⟨rfl, hb⟩; replace BK101 := Aside0.mk (blk_below BK101.out hb); replace BK5 := Aside0.mk (blk_below BK5.out hb); replace BK7 := Aside0.mk (blk_below BK7.out hb); replace HM := Aside0.mk (HM.out.below rfl hb); replace HB := Aside0.mk (below_step HB.out hb); clear hb hy0 hy1 hy2 hz0 hz1 hz2 hz3 hcz0 hcz1 hcz2 hcz3 hcz4 hcz5; obtain ⟨hy0, hy1, hy2⟩ := cz3 BK5.out; obtain ⟨hz0, hz1, hz2, hz3⟩ := cz4 BK7.out; obtain ⟨hcz0, hcz1, hcz2, hcz3, hcz4, hcz5⟩ := cz6 BK101.out) | (go_at_call 41; (with_reducible refine (impl_in.calls (rd_T65 (rd_T63 l0_4 (i : Int)).f2 (p : Int)).f0 1 2 _ _ H3.out).mono ?_); rintro e w9 ⟨rfl, ⟨nd, hd⟩⟩; have hb := Q.drawn_below hd; clear hd; replace BK101 := Aside0.mk (blk_below BK101.out hb); replace BK5 := Aside0.mk (blk_below BK5.out hb); replace BK7 := Aside0.mk (blk_below BK7.out hb); replace HM := Aside0.mk (HM.out.below rfl hb); replace HB := Aside0.mk (below_step HB.out hb); clear hb hy0 hy1 hy2 hz0 hz1 hz2 hz3 hcz0 hcz1 hcz2 hcz3 hcz4 hcz5; obtain ⟨hy0, hy1, hy2⟩ := cz3 BK5.out; obtain ⟨hz0, hz1, hz2, hz3⟩ := cz4 BK7.out; obtain ⟨hcz0, hcz1, hcz2, hcz3, hcz4, hcz5⟩ := cz6 BK101.out) | (go_at_call 57; (with_reducible refine (impl_Space_shared.calls k (rd_T63 l0_4 (i : Int)).f0 _ _ (rd_T63 l0_4 (i : Int)).f1 _ _ (rd_T63 l0_4 (i : Int)).f2 (p : Int) _ _ ?side1 HZ1.out ?side2 HZ2.out HS.out).mono ?_); (case side1 => exact Kd.C_below HA1.out HB.out); (case side2 => exact Kd.C_below HA2.out HB.out); rintro e w9 ⟨rfl, hb⟩; replace BK101 := Aside0.mk (blk_below BK101.out hb); replace BK5 := Aside0.mk (blk_below BK5.out hb); replace BK7 := Aside0.mk (blk_below BK7.out hb); replace HM := Aside0.mk (HM.out.below rfl hb); replace HB := Aside0.mk (below_step HB.out hb); clear hb hy0 hy1 hy2 hz0 hz1 hz2 hz3 hcz0 hcz1 hcz2 hcz3 hcz4 hcz5; obtain ⟨hy0, hy1, hy2⟩ := cz3 BK5.out; obtain ⟨hz0, hz1, hz2, hz3⟩ := cz4 BK7.out; obtain ⟨hcz0, hcz1, hcz2, hcz3, hcz4, hcz5⟩ := cz6 BK101.out))
       go_meet
       case rel => exact ⟨true, HS, HQ, HY2, HM, BK101, BK5, by first | exact BK7 | (rw [ho]; exact BK7), HB⟩
     rw [if_neg ke1] at hb1; obtain rfl := Option.some.inj hb1; clear hb1; rw [if_neg nf_] at hy; have k1b : ((rd_T65 (rd_T63 l0_4 (i : Int)).f2 (p : Int)).f0 == 1) = false := beq_eq_false_iff_ne.mpr ke1; obtain ⟨b2, hb2, hy⟩ := Option.bind_eq_some_iff.1 hy
     by_cases ke2 : (rd_T65 (rd_T63 l0_4 (i : Int)).f2 (p : Int)).f0 = 2
     ·
      have k2b : ((rd_T65 (rd_T63 l0_4 (i : Int)).f2 (p : Int)).f0 == 2) = true := beq_iff_eq.mpr ke2; rw [if_pos ke2] at hb2; obtain ⟨hv, h2, hb2⟩ := Option.bind_eq_some_iff.1 hb2; have H2 := Aside0.mk h2; clear h2; obtain rfl := Option.some.inj hb2; clear hb2 ke2
      cases hv with
      | false =>
       rw [Bool.not_false, if_pos rfl] at hy; obtain rfl := Option.some.inj hy; obtain rfl := Option.some.inj (show some false = some r from HY.out)
       go_wp2_with (first | (go_at_call 55; (with_reducible refine (impl_AreasAt.calls k _ _ (rd_T63 l0_4 (i : Int)).f1 (p : Int) a _ ?side1 HZ1.out HAA.out).mono ?_); (case side1 => exact Kd.C_below HA1.out HB.out); rintro e w9 ⟨rfl, hb⟩; replace BK101 := Aside0.mk (blk_below BK101.out hb); replace BK5 := Aside0.mk (blk_below BK5.out hb); replace BK7 := Aside0.mk (blk_below BK7.out hb); replace HM := Aside0.mk (HM.out.below rfl hb); replace HB := Aside0.mk (below_step HB.out hb); clear hb hy0 hy1 hy2 hz0 hz1 hz2 hz3 hcz0 hcz1 hcz2 hcz3 hcz4 hcz5; obtain ⟨hy0, hy1, hy2⟩ := cz3 BK5.out; obtain ⟨hz0, hz1, hz2, hz3⟩ := cz4 BK7.out; obtain ⟨hcz0, hcz1, hcz2, hcz3, hcz4, hcz5⟩ := cz6 BK101.out) | (go_at_call 56; (with_reducible refine (impl_Pages_has.calls _ _ l0_2 _ _ l0_3 (rd_T65 (rd_T63 l0_4 (i : Int)).f2 (p : Int)).f1 _ _ ?side1 HC0_2.out ?side2 HC0_3.out H2.out).mono ?_); (case side1 => exact Kd.C_below HR0_2.out HB.out); (case side2 => exact Kd.C_below HR0_3.out HB.out); rintro e w9 ⟨rfl, hb⟩; replace BK101 := Aside0.mk (blk_below BK101.out hb); replace BK5 := Aside0.mk (blk_below BK5.out hb); replace BK7 := Aside0.mk (blk_below BK7.out hb); replace HM := Aside0.mk (HM.out.below rfl hb); replace HB := Aside0.mk (below_step HB.out hb); clear hb hy0 hy1 hy2 hz0 hz1 hz2 hz3 hcz0 hcz1 hcz2 hcz3 hcz4 hcz5; obtain ⟨hy0, hy1, hy2⟩ := cz3 BK5.out; obtain ⟨hz0, hz1, hz2, hz3⟩ := cz4 BK7.out; obtain ⟨hcz0, hcz1, hcz2, hcz3, hcz4, hcz5⟩ := cz6 BK101.out))
       go_ret
       exact ⟨rfl, HB.out⟩
      | true =>
      rw [Bool.not_true, if_neg nf_] at hy; have HBD := Aside0.mk (impl_MemOk.bd1 HL3.out H2.out); clear ke0 ke1; obtain ⟨b3, h3, hy⟩ := Option.bind_eq_some_iff.1 hy; have H3 := Aside0.mk h3; clear h3
      cases b3 with
      | false =>
       rw [if_neg nf_] at hy; obtain rfl := Option.some.inj hy; obtain rfl := Option.some.inj (show some false = some r from HY.out)
       go_wp2_with (first | (go_at_call 55; (with_reducible refine (impl_AreasAt.calls k _ _ (rd_T63 l0_4 (i : Int)).f1 (p : Int) a _ ?side1 HZ1.out HAA.out).mono ?_); (case side1 => exact Kd.C_below HA1.out HB.out); rintro e w9 ⟨rfl, hb⟩; replace BK101 := Aside0.mk (blk_below BK101.out hb); replace BK5 := Aside0.mk (blk_below BK5.out hb); replace BK7 := Aside0.mk (blk_below BK7.out hb); replace HM := Aside0.mk (HM.out.below rfl hb); replace HB := Aside0.mk (below_step HB.out hb); clear hb hy0 hy1 hy2 hz0 hz1 hz2 hz3 hcz0 hcz1 hcz2 hcz3 hcz4 hcz5; obtain ⟨hy0, hy1, hy2⟩ := cz3 BK5.out; obtain ⟨hz0, hz1, hz2, hz3⟩ := cz4 BK7.out; obtain ⟨hcz0, hcz1, hcz2, hcz3, hcz4, hcz5⟩ := cz6 BK101.out) | (go_at_call 56; (with_reducible refine (impl_Pages_has.calls _ _ l0_2 _ _ l0_3 (rd_T65 (rd_T63 l0_4 (i : Int)).f2 (p : Int)).f1 _ _ ?side1 HC0_2.out ?side2 HC0_3.out H2.out).mono ?_); (case side1 => exact Kd.C_below HR0_2.out HB.out); (case side2 => exact Kd.C_below HR0_3.out HB.out); rintro e w9 ⟨rfl, hb⟩; replace BK101 := Aside0.mk (blk_below BK101.out hb); replace BK5 := Aside0.mk (blk_below BK5.out hb); replace BK7 := Aside0.mk (blk_below BK7.out hb); replace HM := Aside0.mk (HM.out.below rfl hb); replace HB := Aside0.mk (below_step HB.out hb); clear hb hy0 hy1 hy2 hz0 hz1 hz2 hz3 hcz0 hcz1 hcz2 hcz3 hcz4 hcz5; obtain ⟨hy0, hy1, hy2⟩ := cz3 BK5.out; obtain ⟨hz0, hz1, hz2, hz3⟩ := cz4 BK7.out; obtain ⟨hcz0, hcz1, hcz2, hcz3, hcz4, hcz5⟩ := cz6 BK101.out) | (go_at_call 41; (with_reducible refine (impl_in.calls (rd_T65 (rd_T63 l0_4 (i : Int)).f2 (p : Int)).f0 1 2 _ _ H3.out).mono ?_); rintro e w9 ⟨rfl, ⟨nd, hd⟩⟩; have hb := Q.drawn_below hd; clear hd; replace BK101 := Aside0.mk (blk_below BK101.out hb); replace BK5 := Aside0.mk (blk_below BK5.out hb); replace BK7 := Aside0.mk (blk_below BK7.out hb); replace HM := Aside0.mk (HM.out.below rfl hb); replace HB := Aside0.mk (below_step HB.out hb); clear hb hy0 hy1 hy2 hz0 hz1 hz2 hz3 hcz0 hcz1 hcz2 hcz3 hcz4 hcz5; obtain ⟨hy0, hy1, hy2⟩ := cz3 BK5.out; obtain ⟨hz0, hz1, hz2, hz3⟩ := cz4 BK7.out; obtain ⟨hcz0, hcz1, hcz2, hcz3, hcz4, hcz5⟩ := cz6 BK101.out))
       go_ret
       exact ⟨rfl, HB.out⟩
      | true =>
      rw [if_pos rfl] at hy; obtain ⟨sh, hs, hy⟩ := Option.bind_eq_some_iff.1 hy; have HS := Aside0.mk hs; clear hs; have HQ : Aside0 (Q.okq ((rd_T65 (rd_T63 l0_4 (i : Int)).f2 (p : Int)).f0, (rd_T65 (rd_T63 l0_4 (i : Int)).f2 (p : Int)).f1)) := impl_MemOk.okq_of H3.out HBD.out
      cases sh with
      | false =>
       rw [if_neg nf_] at hy; obtain rfl := Option.some.inj hy; clear hy
       go_wp2_with (first | (go_at_call 55; (with_reducible refine (impl_AreasAt.calls k _ _ (rd_T63 l0_4 (i : Int)).f1 (p : Int) a _ ?side1 HZ1.out HAA.out).mono ?_); (case side1 => exact Kd.C_below HA1.out HB.out); rintro e w9 ⟨rfl, hb⟩; replace BK101 := Aside0.mk (blk_below BK101.out hb); replace BK5 := Aside0.mk (blk_below BK5.out hb); replace BK7 := Aside0.mk (blk_below BK7.out hb); replace HM := Aside0.mk (HM.out.below rfl hb); replace HB := Aside0.mk (below_step HB.out hb); clear hb hy0 hy1 hy2 hz0 hz1 hz2 hz3 hcz0 hcz1 hcz2 hcz3 hcz4 hcz5; obtain ⟨hy0, hy1, hy2⟩ := cz3 BK5.out; obtain ⟨hz0, hz1, hz2, hz3⟩ := cz4 BK7.out; obtain ⟨hcz0, hcz1, hcz2, hcz3, hcz4, hcz5⟩ := cz6 BK101.out) | (go_at_call 56; (with_reducible refine (impl_Pages_has.calls _ _ l0_2 _ _ l0_3 (rd_T65 (rd_T63 l0_4 (i : Int)).f2 (p : Int)).f1 _ _ ?side1 HC0_2.out ?side2 HC0_3.out H2.out).mono ?_); (case side1 => exact Kd.C_below HR0_2.out HB.out); (case side2 => exact Kd.C_below HR0_3.out HB.out); rintro e w9 ⟨rfl, hb⟩; replace BK101 := Aside0.mk (blk_below BK101.out hb); replace BK5 := Aside0.mk (blk_below BK5.out hb); replace BK7 := Aside0.mk (blk_below BK7.out hb); replace HM := Aside0.mk (HM.out.below rfl hb); replace HB := Aside0.mk (below_step HB.out hb); clear hb hy0 hy1 hy2 hz0 hz1 hz2 hz3 hcz0 hcz1 hcz2 hcz3 hcz4 hcz5; obtain ⟨hy0, hy1, hy2⟩ := cz3 BK5.out; obtain ⟨hz0, hz1, hz2, hz3⟩ := cz4 BK7.out; obtain ⟨hcz0, hcz1, hcz2, hcz3, hcz4, hcz5⟩ := cz6 BK101.out) | (go_at_call 41; (with_reducible refine (impl_in.calls (rd_T65 (rd_T63 l0_4 (i : Int)).f2 (p : Int)).f0 1 2 _ _ H3.out).mono ?_); rintro e w9 ⟨rfl, ⟨nd, hd⟩⟩; have hb := Q.drawn_below hd; clear hd; replace BK101 := Aside0.mk (blk_below BK101.out hb); replace BK5 := Aside0.mk (blk_below BK5.out hb); replace BK7 := Aside0.mk (blk_below BK7.out hb); replace HM := Aside0.mk (HM.out.below rfl hb); replace HB := Aside0.mk (below_step HB.out hb); clear hb hy0 hy1 hy2 hz0 hz1 hz2 hz3 hcz0 hcz1 hcz2 hcz3 hcz4 hcz5; obtain ⟨hy0, hy1, hy2⟩ := cz3 BK5.out; obtain ⟨hz0, hz1, hz2, hz3⟩ := cz4 BK7.out; obtain ⟨hcz0, hcz1, hcz2, hcz3, hcz4, hcz5⟩ := cz6 BK101.out) | (go_at_call 57; (with_reducible refine (impl_Space_shared.calls k (rd_T63 l0_4 (i : Int)).f0 _ _ (rd_T63 l0_4 (i : Int)).f1 _ _ (rd_T63 l0_4 (i : Int)).f2 (p : Int) _ _ ?side1 HZ1.out ?side2 HZ2.out HS.out).mono ?_); (case side1 => exact Kd.C_below HA1.out HB.out); (case side2 => exact Kd.C_below HA2.out HB.out); rintro e w9 ⟨rfl, hb⟩; replace BK101 := Aside0.mk (blk_below BK101.out hb); replace BK5 := Aside0.mk (blk_below BK5.out hb); replace BK7 := Aside0.mk (blk_below BK7.out hb); replace HM := Aside0.mk (HM.out.below rfl hb); replace HB := Aside0.mk (below_step HB.out hb); clear hb hy0 hy1 hy2 hz0 hz1 hz2 hz3 hcz0 hcz1 hcz2 hcz3 hcz4 hcz5; obtain ⟨hy0, hy1, hy2⟩ := cz3 BK5.out; obtain ⟨hz0, hz1, hz2, hz3⟩ := cz4 BK7.out; obtain ⟨hcz0, hcz1, hcz2, hcz3, hcz4, hcz5⟩ := cz6 BK101.out))
       go_meet
       case rel => exact ⟨false, HS, HQ, HY, HM, BK101, BK5, BK7, HB⟩
      | true =>
      rw [if_pos rfl] at hy
      cases ho : (rd_T65 (rd_T63 l0_4 (i : Int)).f2 (p : Int)).f2 with
      | false =>
       rw [ho, if_neg nf_] at hy; obtain rfl := Option.some.inj hy; obtain rfl := Option.some.inj (show some false = some r from HY.out)
       go_wp2_with (first | (go_at_call 55; (with_reducible refine (impl_AreasAt.calls k _ _ (rd_T63 l0_4 (i : Int)).f1 (p : Int) a _ ?side1 HZ1.out HAA.out).mono ?_); (case side1 => exact Kd.C_below HA1.out HB.out); rintro e w9 ⟨rfl, hb⟩; replace BK101 := Aside0.mk (blk_below BK101.out hb); replace BK5 := Aside0.mk (blk_below BK5.out hb); replace BK7 := Aside0.mk (blk_below BK7.out hb); replace HM := Aside0.mk (HM.out.below rfl hb); replace HB := Aside0.mk (below_step HB.out hb); clear hb hy0 hy1 hy2 hz0 hz1 hz2 hz3 hcz0 hcz1 hcz2 hcz3 hcz4 hcz5; obtain ⟨hy0, hy1, hy2⟩ := cz3 BK5.out; obtain ⟨hz0, hz1, hz2, hz3⟩ := cz4 BK7.out; obtain ⟨hcz0, hcz1, hcz2, hcz3, hcz4, hcz5⟩ := cz6 BK101.out) | (go_at_call 56; (with_reducible refine (impl_Pages_has.calls _ _ l0_2 _ _ l0_3 (rd_T65 (rd_T63 l0_4 (i : Int)).f2 (p : Int)).f1 _ _ ?side1 HC0_2.out ?side2 HC0_3.out H2.out).mono ?_); (case side1 => exact Kd.C_below HR0_2.out HB.out); (case side2 => exact Kd.C_below HR0_3.out HB.out); rintro e w9 ⟨rfl, hb⟩; replace BK101 := Aside0.mk (blk_below BK101.out hb); replace BK5 := Aside0.mk (blk_below BK5.out hb); replace BK7 := Aside0.mk (blk_below BK7.out hb); replace HM := Aside0.mk (HM.out.below rfl hb); replace HB := Aside0.mk (below_step HB.out hb); clear hb hy0 hy1 hy2 hz0 hz1 hz2 hz3 hcz0 hcz1 hcz2 hcz3 hcz4 hcz5; obtain ⟨hy0, hy1, hy2⟩ := cz3 BK5.out; obtain ⟨hz0, hz1, hz2, hz3⟩ := cz4 BK7.out; obtain ⟨hcz0, hcz1, hcz2, hcz3, hcz4, hcz5⟩ := cz6 BK101.out) | (go_at_call 41; (with_reducible refine (impl_in.calls (rd_T65 (rd_T63 l0_4 (i : Int)).f2 (p : Int)).f0 1 2 _ _ H3.out).mono ?_); rintro e w9 ⟨rfl, ⟨nd, hd⟩⟩; have hb := Q.drawn_below hd; clear hd; replace BK101 := Aside0.mk (blk_below BK101.out hb); replace BK5 := Aside0.mk (blk_below BK5.out hb); replace BK7 := Aside0.mk (blk_below BK7.out hb); replace HM := Aside0.mk (HM.out.below rfl hb); replace HB := Aside0.mk (below_step HB.out hb); clear hb hy0 hy1 hy2 hz0 hz1 hz2 hz3 hcz0 hcz1 hcz2 hcz3 hcz4 hcz5; obtain ⟨hy0, hy1, hy2⟩ := cz3 BK5.out; obtain ⟨hz0, hz1, hz2, hz3⟩ := cz4 BK7.out; obtain ⟨hcz0, hcz1, hcz2, hcz3, hcz4, hcz5⟩ := cz6 BK101.out) | (go_at_call 57; (with_reducible refine (impl_Space_shared.calls k (rd_T63 l0_4 (i : Int)).f0 _ _ (rd_T63 l0_4 (i : Int)).f1 _ _ (rd_T63 l0_4 (i : Int)).f2 (p : Int) _ _ ?side1 HZ1.out ?side2 HZ2.out HS.out).mono ?_); (case side1 => exact Kd.C_below HA1.out HB.out); (case side2 => exact Kd.C_below HA2.out HB.out); rintro e w9 ⟨rfl, hb⟩; replace BK101 := Aside0.mk (blk_below BK101.out hb); replace BK5 := Aside0.mk (blk_below BK5.out hb); replace BK7 := Aside0.mk (blk_below BK7.out hb); replace HM := Aside0.mk (HM.out.below rfl hb); replace HB := Aside0.mk (below_step HB.out hb); clear hb hy0 hy1 hy2 hz0 hz1 hz2 hz3 hcz0 hcz1 hcz2 hcz3 hcz4 hcz5; obtain ⟨hy0, hy1, hy2⟩ := cz3 BK5.out; obtain ⟨hz0, hz1, hz2, hz3⟩ := cz4 BK7.out; obtain ⟨hcz0, hcz1, hcz2, hcz3, hcz4, hcz5⟩ := cz6 BK101.out))
       go_ret
       exact ⟨rfl, HB.out⟩
      | true =>
       rw [ho, if_pos rfl] at hy; obtain rfl := Option.some.inj hy; clear hy; have HY2 : Aside0 (impl_MemOk.then_ k l0_0 l0_1 l0_2 l0_3 l0_4 (rd_T63 l0_4 (i : Int)) g2 ((p : Int) + 1) T2 g ((i : Int) + 1) (some [(((rd_T65 (rd_T63 l0_4 (i : Int)).f2 (p : Int)).f0, (rd_T65 (rd_T63 l0_4 (i : Int)).f2 (p : Int)).f1), ⟨(rd_T65 (rd_T63 l0_4 (i : Int)).f2 (p : Int)).f2, true⟩)]) = some r) := ⟨by rw [ho]; exact HY.out⟩
       go_wp2_with (first | (go_at_call 55; (with_reducible refine (impl_AreasAt.calls k _ _ (rd_T63 l0_4 (i : Int)).f1 (p : Int) a _ ?side1 HZ1.out HAA.out).mono ?_); (case side1 => exact Kd.C_below HA1.out HB.out); rintro e w9 ⟨rfl, hb⟩; replace BK101 := Aside0.mk (blk_below BK101.out hb); replace BK5 := Aside0.mk (blk_below BK5.out hb); replace BK7 := Aside0.mk (blk_below BK7.out hb); replace HM := Aside0.mk (HM.out.below rfl hb); replace HB := Aside0.mk (below_step HB.out hb); clear hb hy0 hy1 hy2 hz0 hz1 hz2 hz3 hcz0 hcz1 hcz2 hcz3 hcz4 hcz5; obtain ⟨hy0, hy1, hy2⟩ := cz3 BK5.out; obtain ⟨hz0, hz1, hz2, hz3⟩ := cz4 BK7.out; obtain ⟨hcz0, hcz1, hcz2, hcz3, hcz4, hcz5⟩ := cz6 BK101.out) | (go_at_call 56; (with_reducible refine (impl_Pages_has.calls _ _ l0_2 _ _ l0_3 (rd_T65 (rd_T63 l0_4 (i : Int)).f2 (p : Int)).f1 _ _ ?side1 HC0_2.out ?side2 HC0_3.out H2.out).mono ?_); (case side1 => exact Kd.C_below HR0_2.out HB.out); (case side2 => exact Kd.C_below HR0_3.out HB.out); rintro e w9 ⟨rfl, hb⟩; replace BK101 := Aside0.mk (blk_below BK101.out hb); replace BK5 := Aside0.mk (blk_below BK5.out hb); replace BK7 := Aside0.mk (blk_below BK7.out hb); replace HM := Aside0.mk (HM.out.below rfl hb); replace HB := Aside0.mk (below_step HB.out hb); clear hb hy0 hy1 hy2 hz0 hz1 hz2 hz3 hcz0 hcz1 hcz2 hcz3 hcz4 hcz5; obtain ⟨hy0, hy1, hy2⟩ := cz3 BK5.out; obtain ⟨hz0, hz1, hz2, hz3⟩ := cz4 BK7.out; obtain ⟨hcz0, hcz1, hcz2, hcz3, hcz4, hcz5⟩ := cz6 BK101.out) | (go_at_call 41; (with_reducible refine (impl_in.calls (rd_T65 (rd_T63 l0_4 (i : Int)).f2 (p : Int)).f0 1 2 _ _ H3.out).mono ?_); rintro e w9 ⟨rfl, ⟨nd, hd⟩⟩; have hb := Q.drawn_below hd; clear hd; replace BK101 := Aside0.mk (blk_below BK101.out hb); replace BK5 := Aside0.mk (blk_below BK5.out hb); replace BK7 := Aside0.mk (blk_below BK7.out hb); replace HM := Aside0.mk (HM.out.below rfl hb); replace HB := Aside0.mk (below_step HB.out hb); clear hb hy0 hy1 hy2 hz0 hz1 hz2 hz3 hcz0 hcz1 hcz2 hcz3 hcz4 hcz5; obtain ⟨hy0, hy1, hy2⟩ := cz3 BK5.out; obtain ⟨hz0, hz1, hz2, hz3⟩ := cz4 BK7.out; obtain ⟨hcz0, hcz1, hcz2, hcz3, hcz4, hcz5⟩ := cz6 BK101.out) | (go_at_call 57; (with_reducible refine (impl_Space_shared.calls k (rd_T63 l0_4 (i : Int)).f0 _ _ (rd_T63 l0_4 (i : Int)).f1 _ _ (rd_T63 l0_4 (i : Int)).f2 (p : Int) _ _ ?side1 HZ1.out ?side2 HZ2.out HS.out).mono ?_); (case side1 => exact Kd.C_below HA1.out HB.out); (case side2 => exact Kd.C_below HA2.out HB.out); rintro e w9 ⟨rfl, hb⟩; replace BK101 := Aside0.mk (blk_below BK101.out hb); replace BK5 := Aside0.mk (blk_below BK5.out hb); replace BK7 := Aside0.mk (blk_below BK7.out hb); replace HM := Aside0.mk (HM.out.below rfl hb); replace HB := Aside0.mk (below_step HB.out hb); clear hb hy0 hy1 hy2 hz0 hz1 hz2 hz3 hcz0 hcz1 hcz2 hcz3 hcz4 hcz5; obtain ⟨hy0, hy1, hy2⟩ := cz3 BK5.out; obtain ⟨hz0, hz1, hz2, hz3⟩ := cz4 BK7.out; obtain ⟨hcz0, hcz1, hcz2, hcz3, hcz4, hcz5⟩ := cz6 BK101.out))
       go_meet
       case rel => exact ⟨true, HS, HQ, HY2, HM, BK101, BK5, by first | exact BK7 | (rw [ho]; exact BK7), HB⟩
     rw [if_neg ke2] at hb2; obtain rfl := Option.some.inj hb2; clear hb2; rw [if_neg nf_] at hy; have k2b : ((rd_T65 (rd_T63 l0_4 (i : Int)).f2 (p : Int)).f0 == 2) = false := beq_eq_false_iff_ne.mpr ke2; obtain ⟨b3, h3, hy⟩ := Option.bind_eq_some_iff.1 hy; have H3 := Aside0.mk h3; clear h3; obtain rfl : b3 = false := impl_MemOk.in_no H3.out ke1 ke2; rw [if_neg nf_] at hy; clear ke0 ke1 ke2; obtain rfl := Option.some.inj hy; obtain rfl := Option.some.inj (show some false = some r from HY.out)
     go_wp2_with (first | (go_at_call 55; (with_reducible refine (impl_AreasAt.calls k _ _ (rd_T63 l0_4 (i : Int)).f1 (p : Int) a _ ?side1 HZ1.out HAA.out).mono ?_); (case side1 => exact Kd.C_below HA1.out HB.out); rintro e w9 ⟨rfl, hb⟩; replace BK101 := Aside0.mk (blk_below BK101.out hb); replace BK5 := Aside0.mk (blk_below BK5.out hb); replace BK7 := Aside0.mk (blk_below BK7.out hb); replace HM := Aside0.mk (HM.out.below rfl hb); replace HB := Aside0.mk (below_step HB.out hb); clear hb hy0 hy1 hy2 hz0 hz1 hz2 hz3 hcz0 hcz1 hcz2 hcz3 hcz4 hcz5; obtain ⟨hy0, hy1, hy2⟩ := cz3 BK5.out; obtain ⟨hz0, hz1, hz2, hz3⟩ := cz4 BK7.out; obtain ⟨hcz0, hcz1, hcz2, hcz3, hcz4, hcz5⟩ := cz6 BK101.out) | (go_at_call 41; (with_reducible refine (impl_in.calls (rd_T65 (rd_T63 l0_4 (i : Int)).f2 (p : Int)).f0 1 2 _ _ H3.out).mono ?_); rintro e w9 ⟨rfl, ⟨nd, hd⟩⟩; have hb := Q.drawn_below hd; clear hd; replace BK101 := Aside0.mk (blk_below BK101.out hb); replace BK5 := Aside0.mk (blk_below BK5.out hb); replace BK7 := Aside0.mk (blk_below BK7.out hb); replace HM := Aside0.mk (HM.out.below rfl hb); replace HB := Aside0.mk (below_step HB.out hb); clear hb hy0 hy1 hy2 hz0 hz1 hz2 hz3 hcz0 hcz1 hcz2 hcz3 hcz4 hcz5; obtain ⟨hy0, hy1, hy2⟩ := cz3 BK5.out; obtain ⟨hz0, hz1, hz2, hz3⟩ := cz4 BK7.out; obtain ⟨hcz0, hcz1, hcz2, hcz3, hcz4, hcz5⟩ := cz6 BK101.out))
     go_ret
     exact ⟨rfl, HB.out⟩
    case rest =>
    clear HH HM BK101 BK5 BK7 HB; obtain ⟨sh, HS, HQ, HN, HM, BK101, BK5, BK7, HB⟩ := hcut
    as_aux_lemma =>
    obtain ⟨hz0, hz1, hz2, hz3⟩ := cz4 BK7.out
    go_upto_region 25 with (first | ((with_reducible refine gate_dst (N := 8) rfl ?_); (try (refine gate_guard (by rfl) ?_; dsimp only)); refine box_event ?hg (N := 8) ?hd (cs := #[.int .i64 0, .int .i64 0]) (t := 91) ?hr ?_; (case hd => rfl); (case hg => rfl); (case hr => first | (go_simp; done) | (go_simp; rfl)); intro gb8 hg w5 hbox hb; have NEgb8 := Aside0.mk (by rw [hg]; exact Nat.ne_of_lt HM.out.lt : gm ≠ gb8); have NBK101gb8 := Aside0.mk (by rw [hg]; exact Nat.ne_of_lt (blk_lt BK101.out) : gb101 ≠ gb8); have NBK5gb8 := Aside0.mk (by rw [hg]; exact Nat.ne_of_lt (blk_lt BK5.out) : gb5 ≠ gb8); have NBK7gb8 := Aside0.mk (by rw [hg]; exact Nat.ne_of_lt (blk_lt BK7.out) : gb7 ≠ gb8); replace HM := Aside0.mk (HM.out.below rfl hb); have GEgb8 := Aside0.mk (by rw [hg]; exact below_size HB.out : w.heap.size ≤ gb8); replace HB := Aside0.mk (below_step HB.out hb); replace BK101 := Aside0.mk (blk_below BK101.out hb); replace BK5 := Aside0.mk (blk_below BK5.out hb); replace BK7 := Aside0.mk (blk_below BK7.out hb); have BK8 := Aside0.mk hbox; clear hb hbox hg; obtain ⟨hy0, hy1⟩ := cz2 BK8.out; obtain ⟨hf0, hf1⟩ := fz2 BK8.out))
    obtain ⟨f1, f2, f3⟩ := Q.fill2 BK8.out (.int .i64 (rd_T65 (rd_T63 l0_4 (i : Int)).f2 (p : Int)).f0) (.int .i64 (rd_T65 (rd_T63 l0_4 (i : Int)).f2 (p : Int)).f1); clear hy0 hy1 hf0 hf1
    generalize ((w5.setCell ⟨gb8, 0, none⟩ (.int .i64 (rd_T65 (rd_T63 l0_4 (i : Int)).f2 (p : Int)).f0)).setCell ⟨gb8, 1, none⟩ (.int .i64 (rd_T65 (rd_T63 l0_4 (i : Int)).f2 (p : Int)).f1)) = w8 at f1 f2 f3 ⊢
    replace HM := Aside0.mk (HM.out.wr rfl BK8.out (by decide) f2); replace HB := Aside0.mk (f3 w HB.out GEgb8.out); replace BK101 := Aside0.mk ((f2 _ NBK101gb8.out).trans BK101.out); replace BK5 := Aside0.mk ((f2 _ NBK5gb8.out).trans BK5.out); replace BK7 := Aside0.mk ((f2 _ NBK7gb8.out).trans BK7.out); replace BK8 := Aside0.mk f1; clear f1 f2 f3; clear hz0 hz1 hz2 hz3; have HBd := below_drew1 HB.out; have HMd := HM.out.drew_ rfl; refine start_ (n := 14) (S := fun w' => w'.cell? ⟨gb8, 0, none⟩ = some (.int .i64 (rd_T65 (rd_T63 l0_4 (i : Int)).f2 (p : Int)).f0) ∧ w'.cell? ⟨gb8, 1, none⟩ = some (.int .i64 (rd_T65 (rd_T63 l0_4 (i : Int)).f2 (p : Int)).f1) ∧ w'.cell? ⟨gb7, 2, none⟩ = some (.bool (rd_T65 (rd_T63 l0_4 (i : Int)).f2 (p : Int)).f2) ∧ w'.cell? ⟨gb5, 0, none⟩ = some (.bool (rd_T63 l0_4 (i : Int)).f0) ∧ w'.cell? ⟨gb5, 1, none⟩ = some (.slice A1 (rd_T63 l0_4 (i : Int)).f1.length c1) ∧ w'.cell? ⟨gb5, 2, none⟩ = some (.slice (some ad6) (rd_T63 l0_4 (i : Int)).f2.length c2)) (ds := [13]) (lb 14 0) zk rfl rfl ⟨(blk_cell (blk_drew BK8.out) 0).trans rfl, (blk_cell (blk_drew BK8.out) 1).trans rfl, (blk_cell (blk_drew BK7.out) 2).trans rfl, (blk_cell (blk_drew BK5.out) 0).trans rfl, (blk_cell (blk_drew BK5.out) 1).trans rfl, (blk_cell (blk_drew BK5.out) 2).trans rfl⟩ (fun hHeld => ?_); refine pure_ (i := 0) (N := some 148) (v := ?_) (a' := ?_) (lb 14 1) rfl rfl zk (fun _ _ _ h => h) (Or.inl ⟨by rfl, ?_⟩) ?_ ?_; rotate_left; (intro w'; go_simp; with_reducible rfl); rotate_left; (simp only [Act.put, List.setIfInBounds_toArray, List.set_cons_zero, List.set_cons_succ, i64_w, i32_w]; rfl); refine pure_ (i := 2) (N := some 151) (v := ?_) (a' := ?_) (lb 14 5) rfl rfl zk (fun _ _ _ h => h) (Or.inl ⟨by rfl, ?_⟩) ?_ ?_; rotate_left; (intro w'; go_simp; with_reducible rfl); rotate_left; (simp only [Act.put, List.setIfInBounds_toArray, List.set_cons_zero, List.set_cons_succ, i64_w, i32_w]; rfl); refine pure_ (i := 5) (N := some 154) (v := ?_) (a' := ?_) (lb 14 37) rfl rfl zk (fun _ _ _ h => h) (Or.inl ⟨by rfl, ?_⟩) ?_ ?_; rotate_left; (intro w'; go_simp; with_reducible rfl); rotate_left; (simp only [Act.put, List.setIfInBounds_toArray, List.set_cons_zero, List.set_cons_succ, i64_w, i32_w]; rfl); refine take_ (i := 1) (N := some 149) (v := ?_) (a' := ?_) (lb 14 39) rfl rfl zk (fun _ _ _ h => h) (Or.inl ⟨by rfl, ?_⟩) hHeld ?_ ?_; rotate_left; (rintro w' ⟨s0, s1, s2, s3, s4, s5⟩; go_simp; with_reducible rfl); rotate_left; (simp only [Act.put, List.setIfInBounds_toArray, List.set_cons_zero, List.set_cons_succ, i64_w, i32_w]; rfl); refine take_ (i := 3) (N := some 152) (v := ?_) (a' := ?_) (lb 14 47) rfl rfl zk (fun _ _ _ h => h) (Or.inl ⟨by rfl, ?_⟩) hHeld ?_ ?_; rotate_left; (rintro w' ⟨s0, s1, s2, s3, s4, s5⟩; go_simp; with_reducible rfl); rotate_left; (simp only [Act.put, List.setIfInBounds_toArray, List.set_cons_zero, List.set_cons_succ, i64_w, i32_w]; rfl); refine take_ (i := 4) (N := some 153) (v := ?_) (a' := ?_) (lb 14 63) rfl rfl zk (fun _ _ _ h => h) (Or.inl ⟨by rfl, ?_⟩) hHeld ?_ ?_; rotate_left; (rintro w' ⟨s0, s1, s2, s3, s4, s5⟩; go_simp; with_reducible rfl); rotate_left; (simp only [Act.put, List.setIfInBounds_toArray, List.set_cons_zero, List.set_cons_succ, i64_w, i32_w]; rfl); refine one_ (i := 6) (N := some 155) (lb 14 127) rfl rfl zk (by decide) (fun K hK => ?_); refine goes_ Try.func57 zk rfl #[.agg #[.bool (rd_T63 l0_4 (i : Int)).f0, .slice A1 (rd_T63 l0_4 (i : Int)).f1.length c1, .slice (some ad6) (rd_T63 l0_4 (i : Int)).f2.length c2], .int .i64 (p : Int)] (by rfl) rfl rfl zm ?_; refine (impl_Space_shared.calls k (rd_T63 l0_4 (i : Int)).f0 _ _ (rd_T63 l0_4 (i : Int)).f1 _ _ (rd_T63 l0_4 (i : Int)).f2 (p : Int) sh _ (Kd.C_below HA1.out HBd) HZ1.out (Kd.C_below HA2.out HBd) HZ2.out HS.out).mono ?_; rintro e w10 ⟨rfl, hb10⟩; refine ⟨_, rfl, ?_⟩; have c101 := blk_drew BK101.out; have c5 := blk_drew BK5.out; have c7 := blk_drew BK7.out; have c8 := blk_drew BK8.out; have c101 := (hb10.block _ (blk_lt c101)).trans c101; have c5 := (hb10.block _ (blk_lt c5)).trans c5; have c7 := (hb10.block _ (blk_lt c7)).trans c7; have c8 := (hb10.block _ (blk_lt c8)).trans c8; have M10 := HMd.below rfl hb10; have B10 := below_step HBd hb10; refine hK.out _ _ ⟨(blk_cell c8 0).trans rfl, (blk_cell c8 1).trans rfl, (blk_cell c7 2).trans rfl, (blk_cell c5 0).trans rfl, (blk_cell c5 1).trans rfl, (blk_cell c5 2).trans rfl⟩ (fun hHeld => ?_); clear hK K; refine nm_ ?_; refine pure_ (i := 7) (N := some 156) (v := ?_) (a' := ?_) (lb 14 255) rfl rfl zk (fun _ _ _ h => h) (Or.inl ⟨by rfl, ?_⟩) ?_ ?_; rotate_left; (intro w'; go_simp; with_reducible rfl); rotate_left; (simp only [Act.put, List.setIfInBounds_toArray, List.set_cons_zero, List.set_cons_succ, i64_w, i32_w]; rfl); refine one_ (i := 8) (N := some 157) (lb 14 511) rfl rfl zk (by decide) (fun K hK => ?_); refine Kd.R_lit_step k94 (w0 := w) w.heap.size 94 ?hg (N := 157) ?hd (xs := [(⟨(rd_T65 (rd_T63 l0_4 (i : Int)).f2 (p : Int)).f2, sh⟩ : S94)]) (inner := [.bool (rd_T65 (rd_T63 l0_4 (i : Int)).f2 (p : Int)).f2, .bool sh]) (ok := fun _ => True) (okp := fun _ => True) ?hr ?hp (fun _ hk => hk) trivial B10 B10.size (by simp) ?_; (case hd => rfl); (case hg => rfl); (case hr => first | (go_simp; done) | (go_simp; rfl)); (case hp => exact Q.reps1 (k94_mkM _ _ _ _) rfl); intro v11 w11 R11 B11 G11 at11; obtain ⟨A11, d11, e11⟩ := Kd.R_slice R11; subst e11; have c101 := (G11.block _ (blk_lt c101) (Q.none_ne c101)).trans c101; have c5 := (G11.block _ (blk_lt c5) (Q.none_ne c5)).trans c5; have c7 := (G11.block _ (blk_lt c7) (Q.none_ne c7)).trans c7; have c8 := (G11.block _ (blk_lt c8) (Q.none_ne c8)).trans c8; have M11 := M10.grown rfl G11; refine hK.out _ _ ⟨(blk_cell c8 0).trans rfl, (blk_cell c8 1).trans rfl, (blk_cell c7 2).trans rfl, (blk_cell c5 0).trans rfl, (blk_cell c5 1).trans rfl, (blk_cell c5 2).trans rfl⟩ (fun hHeld => ?_); clear hK K; refine nm_ ?_; refine one_ (i := 9) (N := some 158) (lb 14 1023) rfl rfl zk (by decide) (fun K hK => ?_); obtain ⟨x0, w12, L, clock, j, hrun, G12, hsz12, I12, hj⟩ := M11.entry impl_MemOk.law impl_MemOk.arr Try.underlying3 impl_MemOk.tys Try.underlying89 impl_MemOk.zero HQ.out; have hrun2 : (Instr.mapEntry 89 (.map (some gm)) (.agg #[.int .i64 (rd_T65 (rd_T63 l0_4 (i : Int)).f2 (p : Int)).f0, .int .i64 (rd_T65 (rd_T63 l0_4 (i : Int)).f2 (p : Int)).f1])).run Try.prog w11 = .ok (.tuple #[x0.val, goInt x0.born]) w12 := hrun; refine value_ (w1 := w12) (v := .tuple #[x0.val, goInt x0.born]) (by rfl) rfl ?_ ?_
    ·
     go_simp
    have c101 := (G12.block _ (blk_lt c101) (M11.ne c101)).trans c101; have c5 := (G12.block _ (blk_lt c5) (M11.ne c5)).trans c5; have c7 := (G12.block _ (blk_lt c7) (M11.ne c7)).trans c7; have c8 := (G12.block _ (blk_lt c8) (M11.ne c8)).trans c8; have R12 := Q.R_other (Kd.R_tight rfl R11) G12 (M11.ne_own R11); have B12 := B11.grown G12 B11.size (fun k_ e_ => by injection e_ with e_; subst e_; exact GM.out); refine hK.out _ _ ⟨(blk_cell c8 0).trans rfl, (blk_cell c8 1).trans rfl, (blk_cell c7 2).trans rfl, (blk_cell c5 0).trans rfl, (blk_cell c5 1).trans rfl, (blk_cell c5 2).trans rfl⟩ (fun hHeld => ?_); clear hK K; refine nm_ ?_; refine pure_ (i := 10) (N := some 150) (v := ?_) (a' := ?_) (lb 14 2047) rfl rfl zk (fun _ _ _ h => h) (Or.inl ⟨by rfl, ?_⟩) ?_ ?_; rotate_left; (intro w'; go_simp; with_reducible rfl); rotate_left; (simp only [Act.put, List.setIfInBounds_toArray, List.set_cons_zero, List.set_cons_succ, i64_w, i32_w]; rfl); refine pure_ (i := 12) (N := some 160) (v := ?_) (a' := ?_) (lb 14 6143) rfl rfl zk (fun _ _ _ h => h) (Or.inl ⟨by rfl, ?_⟩) ?_ ?_; rotate_left; (intro w'; go_simp; with_reducible rfl); rotate_left; (simp only [Act.put, List.setIfInBounds_toArray, List.set_cons_zero, List.set_cons_succ, i64_w, i32_w]; rfl); refine one_ (i := 11) (N := some 159) (lb 14 8191) rfl rfl zk (by decide) (fun K hK => ?_); refine Kd.R_append_rows_step k94 (w0 := w) w.heap.size (by rfl) (.tmp 150) (.tmp 157) 92 94 (.agg #[.bool false, .bool false]) 2 rfl Try.underlying92 info94 rfl (by decide) (by omega) x0.val (Q.at_ T2 ((rd_T65 (rd_T63 l0_4 (i : Int)).f2 (p : Int)).f0, (rd_T65 (rd_T63 l0_4 (i : Int)).f2 (p : Int)).f1)) [(⟨(rd_T65 (rd_T63 l0_4 (i : Int)).f2 (p : Int)).f2, sh⟩ : S94)] _ _ _ (fun _ => True) (fun _ => False) rfl rfl ?aO ?aR (fun _ _ h => h) (fun _ h => h.elim) (fun _ _ => trivial) ?aB ?aS ?aL ?_; (case aR => exact (Kd.R_reads' R12).2.2); (case aB => exact B12); (case aO => exact Kd.R_mono (I12.row hj) (fun _ _ => trivial)); (case aS => exact B12.size); (case aL => have := Q.at_length T2 ((rd_T65 (rd_T63 l0_4 (i : Int)).f2 (p : Int)).f0, (rd_T65 (rd_T63 l0_4 (i : Int)).f2 (p : Int)).f1); have := HP.out; simp only [List.length_cons, List.length_nil]; omega); intro v13 w13 R13 B13 G13 at13; have c101 := (G13.block _ (blk_lt c101) (Kd.R_ne (I12.row hj) c101 (by decide))).trans c101; have c5 := (G13.block _ (blk_lt c5) (Kd.R_ne (I12.row hj) c5 (by decide))).trans c5; have c7 := (G13.block _ (blk_lt c7) (Kd.R_ne (I12.row hj) c7 (by decide))).trans c7; have c8 := (G13.block _ (blk_lt c8) (Kd.R_ne (I12.row hj) c8 (by decide))).trans c8; obtain ⟨w14, hrun3, G14, hsz14, M14⟩ := I12.store (P := Try.prog) (t := 89) hj rfl (x := (⟨(rd_T65 (rd_T63 l0_4 (i : Int)).f2 (p : Int)).f2, sh⟩ : S94)) G13 (Kd.R_tight rfl R13) at13; have hrun4 : (Instr.entryStore 89 (.map (some gm)) (.int .i64 (x0.born : Int)) v13).run Try.prog w13 = .ok () w14 := hrun3; have d101 := (G14.block _ (blk_lt c101) (HM.out.ne BK101.out)).trans c101; have d5 := (G14.block _ (blk_lt c5) (HM.out.ne BK5.out)).trans c5; have B14 := B13.grown G14 B13.size (fun k_ e_ => by injection e_ with e_; subst e_; exact GM.out); refine hK.out _ _ ⟨(blk_cell c8 0).trans rfl, (blk_cell c8 1).trans rfl, (blk_cell c7 2).trans rfl, (blk_cell c5 0).trans rfl, (blk_cell c5 1).trans rfl, (blk_cell c5 2).trans rfl⟩ (fun hHeld => ?_); clear hK K; refine nm_ ?_; refine last_ (i := 13) (N := none) (lb 14 16383) rfl rfl zk (by decide) (fun K hK => ?_); refine skip_ (w1 := w14) (by rfl) rfl ?_ ?_
    ·
     go_simp
    refine hK.out _ _ ?_; clear hK K; refine done_ zk ?_

    have HM2 := Aside0.mk M14; have HD1 := Aside0.mk d101; have HD5 := Aside0.mk d5; have HB2 := Aside0.mk B14; clear HM HB BK101 BK5 BK7 BK8 hrun hrun2 hrun3 hrun4 M10 M11 I12 G11 G12 G13 G14 hsz12 hsz14 R11 R12 R13 M14 d101 d5 B14 B10 B11 B12 B13 at11 at13 hj c101 c5 c7 c8 HBd HMd
    go_wp2
    go_roundg g2
    case measure => have := HP.out; omega
    case rel => exact ⟨p + 1, T2 ++ [(((rd_T65 (rd_T63 l0_4 (i : Int)).f2 (p : Int)).f0, (rd_T65 (rd_T63 l0_4 (i : Int)).f2 (p : Int)).f1), (⟨(rd_T65 (rd_T63 l0_4 (i : Int)).f2 (p : Int)).f2, sh⟩ : S94))], by go_num, ⟨by have := HP.out; simp only [List.length_append, List.length_cons, List.length_nil]; omega⟩, ⟨HN.out⟩, HM2, HD1, HD5, HB2⟩


end Go.Proofs.Ythoapmfpokohnaa.P
