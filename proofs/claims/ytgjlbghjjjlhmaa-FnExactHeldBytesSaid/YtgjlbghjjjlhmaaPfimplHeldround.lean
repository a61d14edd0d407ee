-- printed by wip/qd.py
import Derived.Test.YtgjlbghjjjlhmaaPf0
import Derived.Test.YtgjlbghjjjlhmaaPfimplHeldclashes
import Derived.Test.YtgjlbghjjjlhmaaQMap
import Derived.Test.YtgjlbghjjjlhmaaQBase
import Derived.Test.YtgjlbghjjjlhmaaQQueue
namespace Go.Proofs.Ytgjlbghjjjlhmaa.P
open Go.RowKit Go.Proofs.YtgjlbghjjjlhmaaW.PrintWords Go.Proofs.YtgjlbghjjjlhmaaW.PrintLast Go.Proofs.YtgjlbghjjjlhmaaW.PrintMore
attribute [local go_sem] max2_int min2_int max_two min_two max_three min_three max_four min_four Q.cell_set_map
set_option linter.unusedVariables false
set_option linter.unusedSimpArgs false

/-! ### impl_Held_round: function 41 -/
-- IMPORT Derived.Test.YtgjlbghjjjlhmaaQMap
-- IMPORT Derived.Test.YtgjlbghjjjlhmaaQBase
-- IMPORT Derived.Test.YtgjlbghjjjlhmaaQQueue
/-- What the waits of an owner lay behind the list. -/
def impl_Held_round.add (k : Nat) (hs ws : List S40) (o : Int) : List S40 → List Int → Option (List Int)
  | [], acc => some acc
  | y :: l, acc => if y.f0 = o then (if acc.length < 1000000000 then (impl_Held_clashes.f k hs ws y.f0 y.f1 y.f2 y.f3).bind fun c => (if acc.length + c.length < 1000000000 then impl_Held_round.add k hs ws o l (acc ++ c) else none) else none) else impl_Held_round.add k hs ws o l acc
def impl_Held_round.bfs (hs ws : List S40) (own : Int) : Nat → List Int → List Int → Option Bool
  | 0, _, _ => none
  | k + 1, todo, seen => match todo with
    | [] => some false
    | o :: l => if 0 ≤ o ∧ o ≤ 1000 then if o = own then some true else if seen.contains o = true then impl_Held_round.bfs hs ws own k l seen else if seen.length < 1000000000 then (impl_Held_round.add k hs ws o ws l).bind fun l' => impl_Held_round.bfs hs ws own k l' (o :: seen) else none else none
def impl_Held_round.all (k : Nat) (hs ws : List S40) : List S40 → Option Bool
  | [] => some false
  | y :: l => (impl_Held_clashes.f k hs ws y.f0 y.f1 y.f2 y.f3).bind fun c => (impl_Held_round.bfs hs ws y.f0 k c []).bind fun b => if b = true then some true else impl_Held_round.all k hs ws l
def impl_Held_round.f (k : Nat) (l0_0 l0_1 : List S40) : Option Bool := impl_Held_round.all k l0_0 l0_1 l0_1
theorem impl_Held_round.add_mono (hs ws : List S40) (o : Int) (k : Nat) : ∀ l acc, LeO (impl_Held_round.add k hs ws o l acc) (impl_Held_round.add (k + 1) hs ws o l acc)
  | [], acc => LeO.refl _
  | y :: l, acc => by
    unfold impl_Held_round.add
    exact LeO.ite (LeO.ite (LeO.bind (impl_Held_clashes.mono _ _ _ _ _ _ _) (fun c => LeO.ite (impl_Held_round.add_mono hs ws o k l _) (LeO.none _))) (LeO.none _)) (impl_Held_round.add_mono hs ws o k l _)
theorem impl_Held_round.bfs_mono (hs ws : List S40) (own : Int) : ∀ k todo seen, LeO (impl_Held_round.bfs hs ws own k todo seen) (impl_Held_round.bfs hs ws own (k + 1) todo seen)
  | 0, todo, seen => fun r h => by simp [impl_Held_round.bfs] at h
  | k + 1, todo, seen => by
    cases todo with
    | nil => exact LeO.refl _
    | cons o l =>
      unfold impl_Held_round.bfs
      exact LeO.ite (LeO.ite (LeO.refl _) (LeO.ite (impl_Held_round.bfs_mono hs ws own k _ _) (LeO.ite (LeO.bind (impl_Held_round.add_mono hs ws o k ws l) (fun c => impl_Held_round.bfs_mono hs ws own k _ _)) (LeO.none _)))) (LeO.none _)
theorem impl_Held_round.all_mono (hs ws : List S40) (k : Nat) : ∀ l, LeO (impl_Held_round.all k hs ws l) (impl_Held_round.all (k + 1) hs ws l)
  | [] => LeO.refl _
  | y :: l => by
    unfold impl_Held_round.all
    exact LeO.bind (impl_Held_clashes.mono _ _ _ _ _ _ _) (fun c => LeO.bind (impl_Held_round.bfs_mono hs ws y.f0 k c []) (fun b => LeO.ite (LeO.refl _) (impl_Held_round.all_mono hs ws k l)))
theorem impl_Held_round.mono : ∀ a0 a1 k, LeO (impl_Held_round.f k a0 a1) (impl_Held_round.f (k + 1) a0 a1) := fun a0 a1 k => impl_Held_round.all_mono a0 a1 k a1
theorem impl_Held_round.law : Maps.Keyed Try.prog 3 := Maps.int_keyed Try.underlying3
theorem impl_Held_round.zero (w : World) : (zeroValue 4).run Try.prog w = .ok (.bool false) w := by kernel_rfl
theorem impl_Held_round.heap {b : Nat} {W1 W2 : World} (hb : Below W1.heap.size W1 W2) (hl : b < W1.heap.size) : W2.heap[b]? = W1.heap[b]? := hb.block b hl
theorem impl_Held_round.drop {l : List S40} {k : Nat} (h : k < l.length) : l.drop k = l.getD k z40 :: l.drop (k + 1) := by
  rw [List.drop_eq_getElem_cons h]
  simp [List.getD_eq_getElem?_getD, h]
def impl_Held_round.upd (s : Lit → Bool) (x : Int) (j : Lit) : Bool := (match j with | .int .i64 y => y == x | _ => false) || s j
theorem impl_Held_round.upd_same (s : Lit → Bool) (x : Int) : impl_Held_round.upd s x (.int .i64 x) = true := by simp [impl_Held_round.upd]
theorem impl_Held_round.upd_other (s : Lit → Bool) (x : Int) (j : Lit) (h : j ≠ .int .i64 x) : impl_Held_round.upd s x j = s j := by
  unfold impl_Held_round.upd
  split
  · rename_i y
    have : y ≠ x := fun e => h (by rw [e])
    simp [this]
  · simp
theorem impl_Held_round.upd_con {s : Lit → Bool} {seen : List Int} {x : Int} (h : ∀ i : Int, s (.int .i64 i) = seen.contains i) (i : Int) : impl_Held_round.upd s x (.int .i64 i) = (x :: seen).contains i := by
  simp only [impl_Held_round.upd, h, List.contains_cons]
set_option maxHeartbeats 8000000 in
set_option maxRecDepth 100000 in
theorem impl_Held_round.calls (k : Nat) (A0_0 : Option Addr) (c0_0 : Nat) (l0_0 : List S40) (A0_1 : Option Addr) (c0_1 : Nat) (l0_1 : List S40) (r : Bool) (w : World) (hr0_0 : Kd.C k40 w A0_0 l0_0.length l0_0) (hc0_0 : l0_0.length ≤ c0_0) (hr0_1 : Kd.C k40 w A0_1 l0_1.length l0_1) (hc0_1 : l0_1.length ≤ c0_1) (h : impl_Held_round.f k l0_0 l0_1 = some r) :
    Calls Try.prog 41 #[.agg #[.slice A0_0 l0_0.length c0_0, .slice A0_1 l0_1.length c0_1]] w fun e w' => e = .returned (.bool r) ∧ Below w.heap.size w w' := by
  have hbig : l0_1.length ≤ 9223372036854775807 := hr0_1.2.1
  have HR0 := Aside0.mk hr0_0
  have HC0 := Aside0.mk hc0_0
  have HR1 := Aside0.mk hr0_1
  have HC1 := Aside0.mk hc0_1
  clear hr0_0 hc0_0 hr0_1 hc0_1
  have HA0 := Aside0.mk (show impl_Held_round.all k l0_0 l0_1 l0_1 = some r from h)
  clear h
  have hmm := @run_makeMap Try.prog
  have hub := Try.underlying4
  go_enter Try.func41, Try.ntmps41
  go_wp2
  go_loopg [13] l0_1.length (fun gg s13 wr => ∃ kk : Nat, kk ≤ l0_1.length ∧ l0_1.length - kk ≤ gg ∧ s13 = .int .i64 kk ∧ Aside0 (Below w.heap.size w wr) ∧ Aside0 (wr.heap[w.heap.size]? = some (.cells #[.slice A0_0 l0_0.length c0_0, .slice A0_1 l0_1.length c0_1] 29 (0, 0))) ∧ Aside0 (impl_Held_round.all k l0_0 l0_1 (l0_1.drop kk) = some r))
  case atStart => exact ⟨0, Nat.zero_le _, by omega, rfl, ⟨below_alloc (Below.refl _ _) _⟩, ⟨blk_new _ _⟩, ⟨HA0.out⟩⟩
  case round =>
    clear HA0
    obtain ⟨kk, hkk, hgk, rfl, BW, BC, HA⟩ := hrel
    have HGK := Aside0.mk hgk
    clear hgk
    have hbc0 : wr.cell? ⟨w.heap.size, 0, none⟩ = some (.slice A0_0 l0_0.length c0_0) := (blk_cell BC.out 0).trans rfl
    have hbc1 : wr.cell? ⟨w.heap.size, 1, none⟩ = some (.slice A0_1 l0_1.length c0_1) := (blk_cell BC.out 1).trans rfl
    by_cases hlt : kk < l0_1.length
    · have hltz : (kk : Int) < (l0_1.length : Int) := by omega
      obtain ⟨ad, rfl, q0, q1, q2, q3⟩ := at_T40 (Kd.C_below HR1.out BW.out) (kk : Int) (by omega) (by omega)
      rw [Int.toNat_natCast] at q0 q1 q2 q3
      have erd : rd_T40 l0_1 (kk : Int) = l0_1.getD kk z40 := by simp [rd_T40]
      rw [erd] at q0 q1 q2 q3
      clear erd
      have e0 := impl_Held_round.drop hlt
      generalize l0_1.getD kk z40 = y at q0 q1 q2 q3 e0
      have H := HA.out
      rw [e0] at H
      simp only [impl_Held_round.all] at H
      obtain ⟨c, hcl, H⟩ := Option.bind_eq_some_iff.1 H
      obtain ⟨b, hbf, H⟩ := Option.bind_eq_some_iff.1 H
      have HCL := Aside0.mk hcl
      have HBF := Aside0.mk hbf
      have HN := Aside0.mk H
      clear hcl hbf H HA e0
      obtain ⟨wo, rfl⟩ : ∃ wo : World, wo = wr := ⟨_, rfl⟩
      have HLW := Aside0.mk (blk_lt BC.out)
      have HB2 : Below w.heap.size w ((wo.alloc (.cells #[.int .i64 y.f0, .int .i64 y.f1, .int .i64 y.f2, .bool y.f3] 40)).alloc (.map #[] 0)) := below_alloc (below_alloc BW.out _) _
      have hWo : Below wo.heap.size wo ((wo.alloc (.cells #[.int .i64 y.f0, .int .i64 y.f1, .int .i64 y.f2, .bool y.f3] 40)).alloc (.map #[] 0)) := below_alloc (below_alloc (Below.refl _ _) _) _
      have hx0 := pw_cell_below hWo hbc0
      have hx1 := pw_cell_below hWo hbc1
      have hnw : ((wo.alloc (.cells #[.int .i64 y.f0, .int .i64 y.f1, .int .i64 y.f2, .bool y.f3] 40)).alloc (.map #[] 0)).heap[wo.heap.size]? = some (.cells #[.int .i64 y.f0, .int .i64 y.f1, .int .i64 y.f2, .bool y.f3] 40 (0, 0)) := blk_alloc (blk_new _ _) _
      have hx2 : ((wo.alloc (.cells #[.int .i64 y.f0, .int .i64 y.f1, .int .i64 y.f2, .bool y.f3] 40)).alloc (.map #[] 0)).cell? ⟨wo.heap.size, 0, none⟩ = some (.int .i64 y.f0) := (blk_cell hnw 0).trans rfl
      have hx3 : ((wo.alloc (.cells #[.int .i64 y.f0, .int .i64 y.f1, .int .i64 y.f2, .bool y.f3] 40)).alloc (.map #[] 0)).cell? ⟨wo.heap.size, 1, none⟩ = some (.int .i64 y.f1) := (blk_cell hnw 1).trans rfl
      have hx4 : ((wo.alloc (.cells #[.int .i64 y.f0, .int .i64 y.f1, .int .i64 y.f2, .bool y.f3] 40)).alloc (.map #[] 0)).cell? ⟨wo.heap.size, 2, none⟩ = some (.int .i64 y.f2) := (blk_cell hnw 2).trans rfl
      have hx5 : ((wo.alloc (.cells #[.int .i64 y.f0, .int .i64 y.f1, .int .i64 y.f2, .bool y.f3] 40)).alloc (.map #[] 0)).cell? ⟨wo.heap.size, 3, none⟩ = some (.bool y.f3) := (blk_cell hnw 3).trans rfl
      clear hnw
      go_wp2_with (first
        | (go_at_call 40; refine (impl_Held_clashes.calls k A0_0 c0_0 l0_0 (some ad) c0_1 l0_1 y.f0 y.f1 y.f2 y.f3 c _ (Kd.C_below HR0.out HB2) HC0.out (Kd.C_below HR1.out HB2) HC1.out HCL.out).mono ?_; rintro e w2 ⟨v6, rfl, R6, hb6⟩))
      have BC2 : w2.heap[w.heap.size]? = some (.cells #[.slice A0_0 l0_0.length c0_0, .slice (some ad) l0_1.length c0_1] 29 (0, 0)) := (hb6.block _ (by have := blk_lt BC.out; simp; omega)).trans (blk_alloc (blk_alloc BC.out _) _)
      have BY2 : w2.heap[wo.heap.size]? = some (.cells #[.int .i64 y.f0, .int .i64 y.f1, .int .i64 y.f2, .bool y.f3] 40 (0, 0)) := (hb6.block _ (by simp; omega)).trans (blk_alloc (blk_new wo _) _)
      have SM2 : Q.SetMap Try.prog 3 4 w2 (wo.heap.size + 1) ([] : List Int).length (fun _ => false) := by
        have h1 := Q.SetMap.made (P := Try.prog) (k := 3) (e := 4) (wo.alloc (.cells #[.int .i64 y.f0, .int .i64 y.f1, .int .i64 y.f2, .bool y.f3] 40))
        have h2 := h1.keep (impl_Held_round.heap hb6 h1.lt)
        simpa using h2
      have HB3 := below_then HB2 HB2.size hb6
      have Q6 : Kd.Q (Kd.int .i64) 3 w2 w.heap.size (fun _ => True) v6 c := Kd.Q_of_R (Kd.R_lower R6 HB2.size)
      clear R6 hb6 HB2 hWo hx0 hx1 hx2 hx3 hx4 hx5 q0 q1 q2 q3 hbc0 hbc1 HCL
      go_loopg [6] k (fun gq v6 wq => ∃ (todo seen : List Int) (s : Lit → Bool), Aside0 (impl_Held_round.bfs l0_0 l0_1 y.f0 gq todo seen = some b) ∧ Aside0 (gq ≤ k) ∧ Aside0 (Kd.Q (Kd.int .i64) 3 wq w.heap.size (fun _ => True) v6 todo) ∧ Aside0 (Q.SetMap Try.prog 3 4 wq (wo.heap.size + 1) seen.length s) ∧ Aside0 (∀ i : Int, s (.int .i64 i) = seen.contains i) ∧ Aside0 (wq.heap[w.heap.size]? = some (.cells #[.slice A0_0 l0_0.length c0_0, .slice (some ad) l0_1.length c0_1] 29 (0, 0))) ∧ Aside0 (wq.heap[wo.heap.size]? = some (.cells #[.int .i64 y.f0, .int .i64 y.f1, .int .i64 y.f2, .bool y.f3] 40 (0, 0))) ∧ Aside0 (Below w.heap.size w wq))
      case atStart => exact ⟨c, [], fun _ => false, HBF, ⟨Nat.le_refl _⟩, ⟨Q6⟩, ⟨SM2⟩, ⟨fun i => rfl⟩, ⟨BC2⟩, ⟨BY2⟩, ⟨HB3⟩⟩
      case round =>
        clear HBF Q6 SM2 BC2 BY2 HB3
        obtain ⟨todo, seen, s, HA, HK, HQ, SM, HS, BC, BY, HB⟩ := hrel
        have HZ := HA.out
        clear HA
        cases gk with
        | zero => exact absurd HZ (by simp [impl_Held_round.bfs])
        | succ kr =>
        have y0 : wr.cell? ⟨wo.heap.size, 0, none⟩ = some (.int .i64 y.f0) := (blk_cell BY.out 0).trans rfl
        cases todo with
        | nil =>
          simp only [impl_Held_round.bfs, Option.some.injEq] at HZ
          subst HZ
          have hn := HN.out
          rw [if_neg (by decide)] at hn
          obtain ⟨A6, c6, rfl, _⟩ := Kd.Q_slice HQ.out
          simp only [List.length_nil]
          have HN' := Aside0.mk hn
          clear hn HN
          go_wp2
          go_roundg (l0_1.length - (kk + 1))
          case measure => have := HGK.out; omega
          case rel => exact ⟨kk + 1, by omega, by omega, by go_num, ⟨HB.out⟩, ⟨BC.out⟩, ⟨HN'.out⟩⟩
        | cons o l =>
          obtain ⟨_, inner, hq, hr⟩ := HQ.out
          rcases hq.2 with ⟨h0, _⟩ | ⟨g, off, cap, cur, e, hbg, hg, hnc, hcm, hsz, hcur⟩
          · simp at h0
          rw [show (Kd.int .i64).sz = 1 from rfl, Nat.mul_one] at e
          subst e
          have hc0 : wr.cell? ⟨g, off, none⟩ = some (.int .i64 o) := by
            obtain ⟨ad', e', h'⟩ := Kd.at_int (Kd.Q_reads' HQ.out).2.2 0 (by omega) (by simp)
            injection e' with e'
            subst e'
            rw [show (0 : Int).toNat = 0 from rfl, add_at] at h'
            exact h'
          have hdr := Kd.Q_drop (k := 1) HQ.out (by simp)
          simp only [List.length_cons] at hc0 hdr HQ hnc ⊢
          clear hq hr hcur hsz inner
          go_upto_region 9 with fail
          rw [show (Kd.int .i64).sz = 1 from rfl, Nat.one_mul, Option.map_some, add_at, Nat.add_sub_cancel, List.drop_succ_cons, List.drop_zero] at hdr
          generalize (if cap = 1 then some (⟨g, off, none⟩ : Addr) else some (⟨g, off + 1, none⟩ : Addr)) = A1 at hdr ⊢
          have HD := Aside0.mk hdr
          clear hdr hc0 HQ hcm hg
          simp only [impl_Held_round.bfs] at HZ
          have hin : 0 ≤ o ∧ o ≤ 1000 := by
            by_cases hin : 0 ≤ o ∧ o ≤ 1000
            · exact hin
            · rw [if_neg hin] at HZ
              cases HZ
          rw [if_pos hin] at HZ
          have how : (Lit.int .i64 o).wf = true := WalkArith.wf_i64 (by omega)
          clear hin
          by_cases ho : o = y.f0
          · rw [if_pos ho] at HZ
            obtain rfl := Option.some.inj HZ
            have hn := HN.out
            rw [if_pos rfl] at hn
            obtain rfl := Option.some.inj hn
            have hob : (o == y.f0) = true := beq_iff_eq.mpr ho
            clear HZ hn HN ho
            go_wp2
            go_ret
            exact ⟨rfl, HB.out⟩
          · rw [if_neg ho] at HZ
            have hob : (o == y.f0) = false := beq_eq_false_iff_ne.mpr ho
            have hkey : ∀ z : Int, (Lit.int .i64 z).wf = true → keyOf Try.prog 3 (.int .i64 z) = some (.int .i64 z) := fun z hz => Maps.keyOf_int_mk Try.underlying3 hz
            have hlook := SM.out.look (t := 77) impl_Held_round.law Try.underlying77 Try.underlying4 (impl_Held_round.zero wr) (hkey o how)
            rw [HS.out] at hlook
            clear ho hkey
            by_cases hsn : seen.contains o = true
            · rw [if_pos hsn] at HZ
              rw [hsn] at hlook
              have HZ' := Aside0.mk HZ
              clear HZ hsn
              go_wp2
              go_roundg kr
              case measure => have := HK.out; omega
              case rel => exact ⟨l, seen, s, HZ', ⟨by have := HK.out; omega⟩, ⟨HD.out⟩, ⟨SM.out⟩, ⟨HS.out⟩, ⟨BC.out⟩, ⟨BY.out⟩, ⟨HB.out⟩⟩
            · rw [if_neg hsn] at HZ
              have hsn' : seen.contains o = false := by simpa using hsn
              rw [hsn'] at hlook
              by_cases hsl : seen.length < 1000000000
              · rw [if_pos hsl] at HZ
                obtain ⟨l', hadd, HZ⟩ := Option.bind_eq_some_iff.1 HZ
                have HADD := Aside0.mk hadd
                have HZ' := Aside0.mk HZ
                have HSL := Aside0.mk hsl
                clear hadd HZ hsl hsn hsn'
                have x1 : wr.cell? ⟨w.heap.size, 1, none⟩ = some (.slice (some ad) l0_1.length c0_1) := (blk_cell BC.out 1).trans rfl
                have hkey : keyOf Try.prog 3 (.int .i64 o) = some (.int .i64 o) := Maps.keyOf_int_mk Try.underlying3 how
                go_wp2_with (first | (at_mapUpdate; refine SM.out.at_store rfl _ _ _ 77 rfl impl_Held_round.law Try.underlying77 Try.underlying4 rfl (by have := HSL.out; unfold maxLen; omega) _ true (.int .i64 o) rfl rfl hkey trivial (impl_Held_round.upd s o) (impl_Held_round.upd_same s o) (impl_Held_round.upd_other s o) ?_; intro w3 hSM3 hg3; have x3 : w3.cell? ⟨w.heap.size, 1, none⟩ = some (.slice (some ad) l0_1.length c0_1) := (blk_cell (blk_grown BC.out hg3 (by intro e; injection e with e; have := HLW.out; omega)) 1).trans rfl) | go_in)
                have BC3 := blk_grown BC.out hg3 (by intro e; injection e with e; have := HLW.out; omega)
                have BY3 := blk_grown BY.out hg3 (by intro e; injection e with e; omega)
                have Q3 : Kd.Q (Kd.int .i64) 3 w3 w.heap.size (fun _ => True) (.slice A1 l.length (cap - 1)) l := Kd.Q_mono (Kd.Q_step (Kd.Q_bound HD.out) (fun q hq hlt => hg3.block q hlt (fun e => by
                  injection e with e
                  obtain ⟨_, _, _, t, _, cells, hc⟩ := hq
                  rw [e] at hc
                  exact SM.out.notCells _ _ _ hc))) (fun _ _ => trivial)
                have HB3 : Below w.heap.size w w3 := HB.out.grown hg3 HB.out.size (fun j hj => by cases hj; have := HLW.out; omega)
                clear hg3 x1 x3 hlook hkey y0 hob SM BC BY HB HD
                go_loopg [6, 41] l0_1.length (fun g2 v6 s41 wq => ∃ (jj : Nat) (acc : List Int), jj ≤ l0_1.length ∧ s41 = .int .i64 jj ∧ Aside0 (l0_1.length - jj ≤ g2) ∧ Aside0 (impl_Held_round.add kr l0_0 l0_1 o (l0_1.drop jj) acc = some l') ∧ Aside0 (Kd.Q (Kd.int .i64) 3 wq w.heap.size (fun _ => True) v6 acc) ∧ Aside0 (Q.SetMap Try.prog 3 4 wq (wo.heap.size + 1) (o :: seen).length (impl_Held_round.upd s o)) ∧ Aside0 (wq.heap[w.heap.size]? = some (.cells #[.slice A0_0 l0_0.length c0_0, .slice (some ad) l0_1.length c0_1] 29 (0, 0))) ∧ Aside0 (wq.heap[wo.heap.size]? = some (.cells #[.int .i64 y.f0, .int .i64 y.f1, .int .i64 y.f2, .bool y.f3] 40 (0, 0))) ∧ Aside0 (Below w.heap.size w wq))
                case atStart => exact ⟨0, l, Nat.zero_le _, rfl, ⟨by omega⟩, ⟨HADD.out⟩, ⟨Q3⟩, ⟨hSM3⟩, ⟨BC3⟩, ⟨BY3⟩, ⟨HB3⟩⟩
                case round =>
                  clear HADD Q3 hSM3 BC3 BY3 HB3
                  obtain ⟨jj, acc, hjj, rfl, HG2, HA, HQ, SM, BC, BY, HB⟩ := hrel
                  by_cases hlj : jj < l0_1.length
                  · have hljz : (jj : Int) < (l0_1.length : Int) := by omega
                    obtain ⟨ad2, ead2, p0, p1, p2, p3⟩ := at_T40 (Kd.C_below HR1.out HB.out) (jj : Int) (by omega) (by omega)
                    cases ead2
                    rw [Int.toNat_natCast] at p0 p1 p2 p3
                    have erd : rd_T40 l0_1 (jj : Int) = l0_1.getD jj z40 := by simp [rd_T40]
                    rw [erd] at p0 p1 p2 p3
                    clear erd
                    have e0 := impl_Held_round.drop hlj
                    generalize l0_1.getD jj z40 = z at p0 p1 p2 p3 e0
                    have H := HA.out
                    rw [e0] at H
                    simp only [impl_Held_round.add] at H
                    clear e0 HA
                    have hW1 : Below wr.heap.size wr (wr.alloc (.cells #[.int .i64 z.f0, .int .i64 z.f1, .int .i64 z.f2, .bool z.f3] 40)) := below_alloc (Below.refl _ _) _
                    have hbc0 : wr.cell? ⟨w.heap.size, 0, none⟩ = some (.slice A0_0 l0_0.length c0_0) := (blk_cell BC.out 0).trans rfl
                    have hbc1 : wr.cell? ⟨w.heap.size, 1, none⟩ = some (.slice (some ad) l0_1.length c0_1) := (blk_cell BC.out 1).trans rfl
                    have hx0 := pw_cell_below hW1 hbc0
                    have hx1 := pw_cell_below hW1 hbc1
                    have hnw := blk_new wr (.cells #[.int .i64 z.f0, .int .i64 z.f1, .int .i64 z.f2, .bool z.f3] 40)
                    have hx2 : (wr.alloc (.cells #[.int .i64 z.f0, .int .i64 z.f1, .int .i64 z.f2, .bool z.f3] 40)).cell? ⟨wr.heap.size, 0, none⟩ = some (.int .i64 z.f0) := (blk_cell hnw 0).trans rfl
                    have hx3 : (wr.alloc (.cells #[.int .i64 z.f0, .int .i64 z.f1, .int .i64 z.f2, .bool z.f3] 40)).cell? ⟨wr.heap.size, 1, none⟩ = some (.int .i64 z.f1) := (blk_cell hnw 1).trans rfl
                    have hx4 : (wr.alloc (.cells #[.int .i64 z.f0, .int .i64 z.f1, .int .i64 z.f2, .bool z.f3] 40)).cell? ⟨wr.heap.size, 2, none⟩ = some (.int .i64 z.f2) := (blk_cell hnw 2).trans rfl
                    have hx5 : (wr.alloc (.cells #[.int .i64 z.f0, .int .i64 z.f1, .int .i64 z.f2, .bool z.f3] 40)).cell? ⟨wr.heap.size, 3, none⟩ = some (.bool z.f3) := (blk_cell hnw 3).trans rfl
                    clear hnw hbc0 hbc1
                    have HB1 := below_then HB.out HB.out.size hW1
                    by_cases hzo : z.f0 = o
                    · rw [if_pos hzo] at H
                      have hzob : (z.f0 == o) = true := beq_iff_eq.mpr hzo
                      by_cases hal : acc.length < 1000000000
                      · rw [if_pos hal] at H
                        obtain ⟨c', hcl, H⟩ := Option.bind_eq_some_iff.1 H
                        by_cases hal2 : acc.length + c'.length < 1000000000
                        · rw [if_pos hal2] at H
                          have HN2 := Aside0.mk H
                          have HAL := Aside0.mk hal2
                          have HCL := Aside0.mk hcl
                          clear H hal hal2 hcl hzo
                          go_wp2_with (first
                            | (go_at_call 40; refine (impl_Held_clashes.calls kr A0_0 c0_0 l0_0 (some ad) c0_1 l0_1 z.f0 z.f1 z.f2 z.f3 c' _ (Kd.C_below HR0.out HB1) HC0.out (Kd.C_below HR1.out HB1) HC1.out HCL.out).mono ?_; rintro e w4 ⟨v52, rfl, R4, hb4⟩; obtain ⟨A5, c5, e5⟩ := Kd.R_slice R4; subst e5; have HB4 := below_then HB1 HB1.size hb4; have hW4 := below_then hW1 hW1.size hb4)
                            | ((with_reducible refine gate_builtin (b := .append) (xs := #[.tmp 49, .tmp 52]) rfl ?_); at_builtin; refine Q.append_queue (w0 := w) w.heap.size rfl (.tmp 49) (.tmp 52) 37 3 (.int .i64 0) 8 rfl Try.underlying37 info3 rfl (by decide) _ acc c' A5 c'.length c5 rfl rfl ?aO ?aR ?aB ?aS ?aL ?_; (case aO => exact Kd.Q_below HQ.out hW4); (case aR => exact (Kd.R_reads' R4).2.2); (case aB => exact HB4); (case aS => exact HB4.size); (case aL => have := HAL.out; omega); intro v7 w5 Q5 hb5 hg5))
                          have Q4 := Kd.Q_below HQ.out hW4
                          have SM4 := SM.out.keep (hW4.block _ SM.out.lt)
                          have BC4 := (hW4.block _ (blk_lt BC.out)).trans BC.out
                          have BY4 := (hW4.block _ (blk_lt BY.out)).trans BY.out
                          have SM5 := SM4.keep (hg5.block _ SM4.lt (fun e => by
                            obtain ⟨_, _, _, t, _, cells, hc⟩ := (Kd.Q_bound Q4).1 _ e.symm
                            exact SM4.notCells _ _ _ hc))
                          have BC5 := blk_grown BC4 hg5 (Kd.Q_ne Q4 BC4 (by decide))
                          have BY5 := blk_grown BY4 hg5 (Kd.Q_ne Q4 BY4 (by decide))
                          go_roundg (l0_1.length - (jj + 1))
                          case measure => have := HG2.out; omega
                          case rel => exact ⟨jj + 1, acc ++ c', by omega, by go_num, ⟨by omega⟩, ⟨HN2.out⟩, ⟨Q5⟩, ⟨SM5⟩, ⟨BC5⟩, ⟨BY5⟩, ⟨hb5⟩⟩
                        · rw [if_neg hal2] at H
                          cases H
                      · rw [if_neg hal] at H
                        cases H
                    · rw [if_neg hzo] at H
                      have hzob : (z.f0 == o) = false := beq_eq_false_iff_ne.mpr hzo
                      have HN2 := Aside0.mk H
                      clear H hzo
                      go_wp2
                      go_roundg (l0_1.length - (jj + 1))
                      case measure => have := HG2.out; omega
                      case rel => exact ⟨jj + 1, acc, by omega, by go_num, ⟨by omega⟩, ⟨HN2.out⟩, ⟨Kd.Q_below HQ.out hW1⟩, ⟨SM.out.keep (hW1.block _ SM.out.lt)⟩, ⟨(hW1.block _ (blk_lt BC.out)).trans BC.out⟩, ⟨(hW1.block _ (blk_lt BY.out)).trans BY.out⟩, ⟨HB1⟩⟩
                  · have hljz : ¬ (jj : Int) < (l0_1.length : Int) := by omega
                    have hd : l0_1.drop jj = [] := List.drop_eq_nil_of_le (by omega)
                    have H := HA.out
                    rw [hd] at H
                    simp only [impl_Held_round.add, Option.some.injEq] at H
                    subst H
                    clear hd HA
                    go_wp2
                    go_roundg kr
                    case measure => have := HK.out; omega
                    case rel => exact ⟨acc, o :: seen, impl_Held_round.upd s o, HZ', ⟨by have := HK.out; omega⟩, ⟨HQ.out⟩, ⟨SM.out⟩, ⟨impl_Held_round.upd_con HS.out⟩, ⟨BC.out⟩, ⟨BY.out⟩, ⟨HB.out⟩⟩
              · rw [if_neg hsl] at HZ
                cases HZ
    · have hltz : ¬ (kk : Int) < (l0_1.length : Int) := by omega
      have hd : l0_1.drop kk = [] := List.drop_eq_nil_of_le (by omega)
      have H := HA.out
      rw [hd] at H
      simp only [impl_Held_round.all, Option.some.injEq] at H
      subst H
      clear hd HA
      go_wp2
      go_ret
      exact ⟨rfl, BW.out⟩


end Go.Proofs.Ytgjlbghjjjlhmaa.P
