/- The law of walks: it returns true. -/
import Derived.Test.YtlnlhpgghkkhaaaGreatDoorFsW2
open Go Go.Mach Go.Mach.Fv Go.Proofs
set_option maxRecDepth 100000
set_option maxHeartbeats 16000000
set_option linter.unusedVariables false
set_option linter.unusedSimpArgs false
namespace Go.Mach.Fv
theorem small_top : small 1048576 := by unfold small; omega
theorem fn3 (v : Vfs) (hv : OkV BG v) (c : Cred) (hc : c.groups.length ≤ BG) (p : Place) (s : ByteArray) (hs : s.size ≤ 140737488351232) :
    Fn Z 3 [.agg [.ro () 96 (row (encF 144 178 false) v.fss), .int .i64 v.mount], .agg [.int .i64 c.user, .int .i64 c.real, .ro () 3 (row encI c.groups)], .agg [.int .i64 p.fs, .int .i64 p.id], .one (.str s)] = some ⟨[(false, [.bool true])], []⟩ := by
  have h10 := fn10 v hv 1048576 small_top
  have hd := szV_dn v 1048576
  refine Fn_ans Z rfl Tryz.func3 rfl K3 ?_
  rw [ZP, M3, nt3]
  have hb : bodyOf Tryz.f3 = bodyOf Tryz.f3 := rfl
  conv at hb => rhs; simp only [bodyOf, Tryz.f3]
  rw [hb]
  clear hb 
  by_cases q1 : (1048576 : Int) < s.size
  · simp [q1]
  by_cases q2 : szV v 1048576 < 0
  · simp [q1, h10, q2]
  have hsm : small (szV v 1048576) := by unfold small; omega
  have h11 := fn11 c hc (szV v 1048576) hsm
  by_cases q3 : neg1 (szI c.groups.length (szV v 1048576)) < 0
  · simp [q1, h10, q2, h11, q3]
  have hO : OkV 1048576 v := szV_ok (Int.le_refl _) (by omega)
  have hg : c.groups.length ≤ 1048576 := by
    unfold szI neg1 at q3
    by_cases hx : szV v 1048576 - c.groups.length < 0
    · rw [if_pos hx] at q3; simp at q3
    · omega
  obtain ⟨l, rfl⟩ : ∃ l, s = Bs l := ⟨s.data.toList, (Bs_eta s).symm⟩
  rw [Bs_size] at q1
  have hl : l.length ≤ 1048576 := by omega
  have h13 := fn13 v hO
  have h14 := fn14 c hg
  have h15 := fn15 p
  have h12 := fn12 v hO c hg p l hl
  have h16 := fn16 v hO c hg p l hl
  have h17 := fn17 (walkR v c p l).1
  have h18 := fn18 v hO
  have h19 := fn19 c hg
  unfold rp at h12 h16
  generalize walkR v c p l = w at *
  simp [Bs_size, q1, h10, q2, h11, q3, h13, h14, h15, h12, h16, h17, h18, h19]
end Go.Mach.Fv
