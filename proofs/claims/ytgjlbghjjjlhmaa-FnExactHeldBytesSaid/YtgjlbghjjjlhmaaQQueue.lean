/- A queue of the call's own, behind which another row's elements are laid. -/
import Derived.Test.YtgjlbghjjjlhmaaV
namespace Go.Proofs.Ytgjlbghjjjlhmaa.Q
open Go Go.RowKit Go.Proofs.YtgjlbghjjjlhmaaW.PrintWords Go.Proofs.YtgjlbghjjjlhmaaW.PrintLast Go.Proofs.YtgjlbghjjjlhmaaW.PrintMore
set_option linter.unusedVariables false
set_option linter.unusedSimpArgs false
variable {P : Program} {ops : Array Oper} {rest : List Oper} {o : Oper} {a : Act} {Q : Exit → Act → World → Prop}
/-- append(v, ys...), v a queue of ints. -/
theorem append_queue {w0 W : World} (base : Nat) (hgd : o.guard = none) (s x : Operand) (t e : TypeId) (z : Value) (bytes : Nat)
    (ho : o.op = .call { callee := .builtin .append, args := #[s, x], argTypes := #[t, t] })
    (ht : P.underlying t = some (.slice e)) (hinfo : (P.info? e).map (fun i => (i.zero, i.size, i.bytes)) = some (some z, 1, bytes)) (hz : z.cells.size = 1) (hb0 : 0 < bytes)
    (v : Value) (xs ys : List Int) (A : Option Addr) (m c : Nat) (hs : a.eval s = v) (hx : a.eval x = .slice A m c)
    (HO : Kd.Q (Kd.int .i64) e W base (fun _ => True) v xs) (HR : Kd.C (Kd.int .i64) W A m ys)
    (HB : Below base w0 W) (hbase : base ≤ W.heap.size) (hl : (xs.length + m) * bytes ≤ 140737488355328)
    (h : ∀ v1 w1, Kd.Q (Kd.int .i64) e w1 base (fun _ => True) v1 (xs ++ ys) → Below base w0 w1 → W.grownBy w1 v.ownBlock → wpList P ops Q rest (a.put o.dst v1) w1) :
    wpList P ops Q (o :: rest) a W := by
  obtain ⟨i0, hi, hzz⟩ := Option.map_eq_some_iff.1 hinfo
  simp only [Prod.mk.injEq] at hzz
  obtain ⟨hz0, hz1, hz2⟩ := hzz
  have hm : ys.length = m := HR.1
  have hlen : xs.length + m ≤ 140737488355328 := Nat.le_trans (Nat.le_mul_of_pos_right _ hb0) hl
  obtain ⟨hok, inner, hown, hr⟩ := HO
  have hrun : ∃ v1 w1, (Builtin.append_ #[t, t] o.type #[v, .slice A m c]).run P W = .ok v1 w1 ∧ Kd.Q (Kd.int .i64) e w1 base (fun _ => True) v1 (xs ++ ys) ∧ W.grownBy w1 v.ownBlock := by
    by_cases h0 : m = 0
    · subst h0
      obtain rfl : ys = [] := List.eq_nil_of_length_eq_zero hm
      refine ⟨v, W, ?_, by rw [List.append_nil]; exact ⟨hok, inner, hown, hr⟩, World.grownBy.refl W _⟩
      obtain ⟨A', c', rfl, hc'⟩ := q_slice hown
      cases A with
      | none => cases A' <;> simp [Builtin.append_, run_underlying ht, sizeOf, typeInfo, hi, Builtin.lenOf, Builtin.firstCells, hc', storeCells]
      | some ad => cases A' <;> simp [Builtin.append_, run_underlying ht, sizeOf, typeInfo, hi, Builtin.lenOf, Builtin.firstCells, hc', storeCells, loadCells, loadCellsFrom, Result.andThen]
    · obtain ⟨ad, rfl, hcell⟩ := HR.2.2 (by omega)
      have hnews : ∀ j u, (ys.map (Value.int .i64))[j]? = some u → W.cell? (ad.add j) = some u := by
        intro j u hu
        rw [List.getElem?_map] at hu
        obtain ⟨p, hp, rfl⟩ := Option.map_eq_some_iff.1 hu
        obtain ⟨cs, hcs, hK, hcc⟩ := hcell j p hp
        have hK' : cs = [.int .i64 p] := hK
        subst hK'
        have := hcc 0 (.int .i64 p) rfl
        rw [show (Kd.int .i64).sz = 1 from rfl, Nat.mul_one, Nat.add_zero] at this
        exact this
      have hone : ∀ u ∈ ys.map (Value.int .i64), u.oneCell' = true := by
        intro u hu
        obtain ⟨p, _, rfl⟩ := List.mem_map.1 hu
        rfl
      obtain ⟨v1, w1, hrun, h2, hg, hat⟩ := q_append (P := P) W base t o.type e i0 z 1 bytes ht hi hz0 hz1 hz2 hz (by decide) v xs.length inner hown ad m c (ys.map (Value.int .i64)) (by simp [hm]) hnews hone (by omega) (by simp only [maxLen]; omega) hl hbase
      refine ⟨v1, w1, hrun, ⟨fun _ _ => trivial, inner ++ ys.map (Value.int .i64), by rw [List.length_append, hm]; exact h2, Kd.reps_append (hr.imp_ (fun _ _ hq => hq)) ⟨by simp [show (Kd.int .i64).sz = 1 from rfl], fun j p hp => ?_⟩⟩, hg⟩
      rw [show (Kd.int .i64).sz = 1 from rfl, Nat.mul_one]
      have hjl := (List.getElem?_eq_some_iff.1 hp).1
      show ((ys.map (Value.int .i64)).drop j).take 1 = [.int .i64 p]
      rw [List.drop_eq_getElem_cons (by simpa using hjl)]
      simp only [List.getElem_map, List.take_succ_cons, List.take_zero]
      rw [(List.getElem?_eq_some_iff.1 hp).2]
  obtain ⟨v1, w1, hr1, h1, hg⟩ := hrun
  refine wpList_plain hgd fun K hK => ?_
  unfold Oper.wp execOp
  simp only [ho, resolve, invoke, builtin, Sem.run_bind, Sem.run_pure, Result.andThen_ok, List.map_toArray, List.map_cons, List.map_nil, hs, hx, hr1]
  refine hK _ _ (h v1 w1 h1 (HB.grown hg hbase ?_) hg)
  intro k hk
  exact (q_typed hown k hk).1
end Go.Proofs.Ytgjlbghjjjlhmaa.Q
