-- printed by wip/qd.py
import Derived.Test.YtgjlbghjjjlhmaaPf0
import Derived.Test.YtgjlbghjjjlhmaaPflawsmarkIntS
import Derived.Test.YtgjlbghjjjlhmaaQMarkS
namespace Go.Proofs.Ytgjlbghjjjlhmaa.P
open Go.RowKit Go.Proofs.YtgjlbghjjjlhmaaW.PrintWords Go.Proofs.YtgjlbghjjjlhmaaW.PrintLast Go.Proofs.YtgjlbghjjjlhmaaW.PrintMore
attribute [local go_sem] max2_int min2_int max_two min_two max_three min_three max_four min_four Q.cell_set_map
set_option linter.unusedVariables false
set_option linter.unusedSimpArgs false

/-! ### laws_markIntSS: function 29 -/
-- IMPORT Derived.Test.YtgjlbghjjjlhmaaQMarkS
def laws_markIntSS.l0 : Nat → List (List Int) → Int → Int → Option (Int × List (List Int))
  | 0, _, _, _ => none
  | k + 1, x0, x1, x5 => if x5 < (x0.length : Int) then (if 0 ≤ x5 then ((laws_markIntS.f k (rd_L11 x0 x5) x1).bind fun t => laws_markIntSS.l0 k (x0.set x5.toNat t.2) t.1 (x5 + 1)) else none) else some (x1, x0)
def laws_markIntSS.f (k : Nat) (l0 : List (List Int)) (a1 : Int) : Option (Int × List (List Int)) := laws_markIntSS.l0 k l0 a1 0
theorem laws_markIntSS.mono_l : ∀ k y0 y1 y2, LeO (laws_markIntSS.l0 k y0 y1 y2) (laws_markIntSS.l0 (k + 1) y0 y1 y2)
  | 0, _, _, _ => fun r h => by simp [laws_markIntSS.l0] at h
  | k + 1, y0, y1, y2 => by
    unfold laws_markIntSS.l0
    exact LeO.ite (LeO.ite (LeO.bind (laws_markIntS.mono _ _ _) (fun t => laws_markIntSS.mono_l k _ _ _)) (LeO.none _)) (LeO.refl _)
theorem laws_markIntSS.mono : ∀ a0 a1 k, LeO (laws_markIntSS.f k a0 a1) (laws_markIntSS.f (k + 1) a0 a1) := fun a0 a1 k => laws_markIntSS.mono_l k _ _ _
set_option maxHeartbeats 8000000 in
set_option maxRecDepth 100000 in
theorem laws_markIntSS.calls (k : Nat) (P0_ : Nat → Prop) (u9000_ : Value) (l0 : List (List Int)) (a1 : Int) (r1 : Int) (r2 : List (List Int)) (w0 w : World) (hB : Below w0.heap.size w0 w) (ho0 : Kd.S (Kd.slice 3 (Kd.int .i64)) 37 w w0.heap.size P0_ u9000_ l0) (h : laws_markIntSS.f k l0 a1 = some (r1, r2)) :
    Calls Try.prog 29 #[u9000_, .int .i64 a1] w fun e w' => e = .returned (.int .i64 r1) ∧ Kd.S (Kd.slice 3 (Kd.int .i64)) 37 w' w0.heap.size P0_ u9000_ r2 ∧ Below w0.heap.size w0 w' ∧ Kept w w' P0_ := by
  obtain ⟨f_, hS⟩ := ho0
  obtain ⟨A, c, e0⟩ := Kd.R_slice hS
  rw [List.length_zipIdx] at e0
  subst e0
  have hmax : l0.length ≤ 9223372036854775807 := (Kd.R_reads' (Kd.S_R ⟨f_, hS⟩)).2.2.2.1
  have HS := Aside0.mk hS
  have HB := Aside0.mk hB
  have H' : Aside0 (laws_markIntSS.l0 k l0 a1 ((0 : Nat) : Int) = some (r1, r2)) := ⟨h⟩
  clear hS hB h
  go_enter Try.func29, Try.ntmps29
  go_wp2
  go_loopg [1, 5] k (fun kq v1 v5 w' => ∃ (xs : List (List Int)) (x1 : Int) (i : Nat), v1 = .int .i64 x1 ∧ v5 = .int .i64 i ∧ xs.length = l0.length ∧ Aside0 (laws_markIntSS.l0 kq xs x1 (i : Int) = some (r1, r2)) ∧ Aside0 (kq ≤ k) ∧ Aside0 ((Kd.tag f_ (Kd.slice 3 (Kd.int .i64))).R 37 w' w0.heap.size P0_ (.slice A l0.length c) xs.zipIdx) ∧ Aside0 (Kept w w' P0_) ∧ Aside0 (Below w0.heap.size w0 w'))
  case atStart => exact ⟨l0, a1, 0, rfl, rfl, rfl, H', ⟨Nat.le_refl _⟩, HS, ⟨Kept.refl _ _⟩, HB⟩
  case round =>
    clear H' HS HB
    obtain ⟨xs, x1, i, rfl, rfl, hlen, HA, HK1, HS1, HK, HB1⟩ := hrel
    cases gk with
    | zero => exact absurd HA.out (by simp [laws_markIntSS.l0])
    | succ kr =>
    have H := HA.out
    clear HA
    simp only [laws_markIntSS.l0] at H
    by_cases hlt : i < l0.length
    · have hltz : (i : Int) < (l0.length : Int) := by omega
      rw [if_pos (by omega), if_pos (by omega)] at H
      obtain ⟨⟨t1, t2⟩, hm, H⟩ := Option.bind_eq_some_iff.1 H
      have HM := Aside0.mk hm
      have HN := Aside0.mk H
      clear hm H
      have hC := (Kd.R_reads' (Kd.S_R ⟨f_, HS1.out⟩)).2.2
      obtain ⟨ad, A1, c1, rfl, hx, hl1, hC1⟩ := at_L11 hC (i : Int) (by omega) (by omega)
      rw [Int.toNat_natCast] at hx
      have hget : xs[i]? = some (rd_L11 xs (i : Int)) := by
        unfold rd_L11
        rw [Int.toNat_natCast, List.getD_eq_getElem?_getD, List.getElem?_eq_getElem (by omega)]
        rfl
      obtain ⟨u, hu, hR, hset⟩ := Q.S_at HS1.out hget
      have hux := hu ad _ _ rfl
      rw [hx] at hux
      injection hux with hux
      subst hux
      have HR := Aside0.mk hR
      have HRt := Aside0.mk (Kd.R_tight rfl hR)
      have HSet := Aside0.mk hset
      clear hR hset hu hC hC1 hl1 hget
      go_wp2_with (go_at_call 22; refine (laws_markIntS.calls kr _ _ _ x1 t1 t2 w0 _ HB1.out HRt.out HM.out).mono ?_; rintro e w2 ⟨rfl, R2, hb2, hk2⟩)
      go_roundg kr
      case measure => have := HK1.out; omega
      case rel =>
        refine ⟨xs.set i t2, t1, i + 1, rfl, by go_num, by simp [hlen], ⟨?_⟩, ⟨by have := HK1.out; omega⟩, ⟨HSet.out w2 t2 (fun k_ hk he => hk2.2 k_ hk he) (Kd.R_tight rfl R2)⟩, ⟨HK.out.then_ hk2 (fun k_ hk => .inl (HR.out.1 k_ hk.symm).1.1)⟩, ⟨hb2⟩⟩
        have h := HN.out
        rw [Int.toNat_natCast] at h
        exact h
    · have hltz : ¬ (i : Int) < (l0.length : Int) := by omega
      rw [if_neg (by omega)] at H
      simp only [Option.some.injEq, Prod.mk.injEq] at H
      obtain ⟨rfl, rfl⟩ := H
      go_wp2
      go_ret
      exact ⟨rfl, ⟨f_, HS1.out⟩, HB1.out, HK.out⟩


end Go.Proofs.Ytgjlbghjjjlhmaa.P
