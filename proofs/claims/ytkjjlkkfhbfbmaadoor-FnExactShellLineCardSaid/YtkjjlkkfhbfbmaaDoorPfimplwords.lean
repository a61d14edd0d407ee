-- printed by wip/qd.py
import Derived.Test.YtkjjlkkfhbfbmaaDoorPf0
import Derived.Test.YtkjjlkkfhbfbmaaDoorPfimplwords1
import Derived.Test.YtkjjlkkfhbfbmaaDoorQWords
import Derived.Carry
namespace Go.Proofs.YtkjjlkkfhbfbmaaDoor.P
open Go.RowKit Go.Proofs.YtkjjlkkfhbfbmaaDoorW.PrintWords Go.Proofs.YtkjjlkkfhbfbmaaDoorW.PrintLast Go.Proofs.YtkjjlkkfhbfbmaaDoorW.PrintMore
attribute [local go_sem] max2_int min2_int max_two min_two max_three min_three max_four min_four Q.cell_set_map Q.str_gtr Q.str_geq Q.str_leq
set_option linter.unusedVariables false
set_option linter.unusedSimpArgs false

/-! ### impl_words: function 16 -/
-- IMPORT Derived.Test.YtkjjlkkfhbfbmaaDoorQWords
-- IMPORT Derived.Carry
def impl_words.F0 : List ByteArray := [(⟨#[102, 111, 114, 107]⟩ : ByteArray), (⟨#[119, 97, 105, 116]⟩ : ByteArray), (⟨#[115, 105, 103, 115]⟩ : ByteArray), (⟨#[112, 105, 112, 101]⟩ : ByteArray), (⟨#[117, 110, 109, 111, 117, 110, 116]⟩ : ByteArray), (⟨#[105, 100]⟩ : ByteArray)]
def impl_words.K0 : List Int := [1, 3, 7, 17, 27, 31]
def impl_words.L0 : List Q.WEntry := []
def impl_words.F1 : List ByteArray := [(⟨#[101, 120, 105, 116]⟩ : ByteArray), (⟨#[98, 108, 111, 99, 107]⟩ : ByteArray), (⟨#[108, 111, 97, 100]⟩ : ByteArray), (⟨#[99, 108, 111, 115, 101]⟩ : ByteArray), (⟨#[100, 117, 112]⟩ : ByteArray), (⟨#[117, 115, 101, 114]⟩ : ByteArray), (⟨#[119, 101, 105, 103, 104, 116]⟩ : ByteArray)]
def impl_words.K1 : List Int := [2, 6, 10, 13, 16, 25, 30]
def impl_words.L1 : List Q.WEntry := impl_words.L0 ++ Q.wgot (⟨#[]⟩ : ByteArray) impl_words.F0 impl_words.K0
def impl_words.F2 : List ByteArray := [(⟨#[107, 105, 108, 108]⟩ : ByteArray), (⟨#[115, 105, 103]⟩ : ByteArray), (⟨#[117, 110, 109, 97, 112]⟩ : ByteArray), (⟨#[115, 116, 111, 114, 101]⟩ : ByteArray), (⟨#[114, 101, 97, 100]⟩ : ByteArray), (⟨#[115, 101, 101, 107]⟩ : ByteArray)]
def impl_words.K2 : List Int := [4, 5, 9, 11, 14, 29]
def impl_words.L2 : List Q.WEntry := impl_words.L1 ++ Q.wgot (⟨#[97]⟩ : ByteArray) impl_words.F1 impl_words.K1
def impl_words.F3 : List ByteArray := [(⟨#[109, 97, 112]⟩ : ByteArray)]
def impl_words.K3 : List Int := [8]
def impl_words.L3 : List Q.WEntry := impl_words.L2 ++ Q.wgot (⟨#[97, 98]⟩ : ByteArray) impl_words.F2 impl_words.K2
def impl_words.F4 : List ByteArray := [(⟨#[100, 105, 114]⟩ : ByteArray), (⟨#[100, 114, 111, 112]⟩ : ByteArray), (⟨#[109, 111, 117, 110, 116]⟩ : ByteArray), (⟨#[114, 117, 110]⟩ : ByteArray)]
def impl_words.K4 : List Int := [18, 20, 26, 28]
def impl_words.L4 : List Q.WEntry := impl_words.L3 ++ Q.wgot (⟨#[97, 98, 116]⟩ : ByteArray) impl_words.F3 impl_words.K3
def impl_words.F5 : List ByteArray := [(⟨#[108, 105, 110, 107]⟩ : ByteArray), (⟨#[109, 111, 118, 101]⟩ : ByteArray)]
def impl_words.K5 : List Int := [21, 22]
def impl_words.L5 : List Q.WEntry := impl_words.L4 ++ Q.wgot (⟨#[112]⟩ : ByteArray) impl_words.F4 impl_words.K4
def impl_words.F6 : List ByteArray := [(⟨#[102, 111, 108, 100, 101, 114]⟩ : ByteArray), (⟨#[109, 111, 100, 101]⟩ : ByteArray), (⟨#[111, 119, 110]⟩ : ByteArray)]
def impl_words.K6 : List Int := [19, 23, 24]
def impl_words.L6 : List Q.WEntry := impl_words.L5 ++ Q.wgot (⟨#[112, 113]⟩ : ByteArray) impl_words.F5 impl_words.K5
def impl_words.F7 : List ByteArray := [(⟨#[111, 112, 101, 110]⟩ : ByteArray)]
def impl_words.K7 : List Int := [12]
def impl_words.L7 : List Q.WEntry := impl_words.L6 ++ Q.wgot (⟨#[112, 97]⟩ : ByteArray) impl_words.F6 impl_words.K6
def impl_words.F8 : List ByteArray := [(⟨#[119, 114, 105, 116, 101]⟩ : ByteArray)]
def impl_words.K8 : List Int := [15]
def impl_words.L8 : List Q.WEntry := impl_words.L7 ++ Q.wgot (⟨#[112, 97, 98]⟩ : ByteArray) impl_words.F7 impl_words.K7
def impl_words.f : List Q.WEntry := impl_words.L8 ++ Q.wgot (⟨#[97, 116]⟩ : ByteArray) impl_words.F8 impl_words.K8
set_option maxHeartbeats 8000000 in
set_option maxRecDepth 100000 in
/-- All words, with their kinds and what they need. -/
theorem impl_words.calls (w : World) (hT : Q.Tabs w) :
    Calls Tryd.prog 16 #[] w fun e w' => ∃ mb, e = .returned (.map (some mb)) ∧ Q.WMap w' mb impl_words.f ∧ Below w.heap.size w w' := by
  have HT := Aside0.mk hT
  have HB := Aside0.mk (Below.refl w.heap.size w)
  clear hT
  have hmm := @run_makeMap Tryd.prog 42
  go_enter Tryd.func16, Tryd.ntmps16
  go_upto_region 2 with fail
  have HS : Q.WSt w ((w.alloc (.map #[] 0)).alloc (.cells #[.map (some w.heap.size)] 42)) (w.heap.size + 1) w.heap.size impl_words.L0 := by
    exact Q.WSt.made HT.out 42
  obtain ⟨mb, hmb⟩ : ∃ mb, mb = w.heap.size := ⟨_, rfl⟩
  obtain ⟨pb, hpb⟩ : ∃ pb, pb = w.heap.size + 1 := ⟨_, rfl⟩
  rw [← hpb, ← hmb] at HS ⊢
  generalize (w.alloc (.map #[] 0)).alloc (.cells #[.map (some mb)] 42) = W0 at HS ⊢
  clear HT HB hmm hmb hpb
  have S0 := Aside0.mk (HS.step (.cells (impl_words.K0.map fun l => Value.int .i64 l).toArray 3))
  have C0 := Aside0.mk (Q.kinds_cell W0 impl_words.K0 3)
  clear HS
  go_upto_region 4 with (go_at_call 27; refine (impl_words_1.calls (⟨#[]⟩ : ByteArray) (⟨#[102, 111, 114, 107, 32, 119, 97, 105, 116, 32, 115, 105, 103, 115, 32, 112, 105, 112, 101, 32, 117, 110, 109, 111, 117, 110, 116, 32, 105, 100]⟩ : ByteArray) W0.heap.size 6 impl_words.K0 pb mb impl_words.L0 impl_words.F0 _ S0.out.tabs S0.out.cell S0.out.map C0.out (by decide) (Q.ascii_of (by decide +kernel)) (by kernel_rfl) (by decide) (by decide +kernel) (by decide) (by decide +kernel)).mono ?_; rintro e W1 ⟨rfl, M, G⟩; have HS : Q.WSt w W1 pb mb impl_words.L1 := S0.out.next M G; clear M G)
  clear S0 C0
  have S1 := Aside0.mk (HS.step (.cells (impl_words.K1.map fun l => Value.int .i64 l).toArray 3))
  have C1 := Aside0.mk (Q.kinds_cell W1 impl_words.K1 3)
  clear HS
  go_upto_region 5 with (go_at_call 27; refine (impl_words_1.calls (⟨#[97]⟩ : ByteArray) (⟨#[101, 120, 105, 116, 32, 98, 108, 111, 99, 107, 32, 108, 111, 97, 100, 32, 99, 108, 111, 115, 101, 32, 100, 117, 112, 32, 117, 115, 101, 114, 32, 119, 101, 105, 103, 104, 116]⟩ : ByteArray) W1.heap.size 7 impl_words.K1 pb mb impl_words.L1 impl_words.F1 _ S1.out.tabs S1.out.cell S1.out.map C1.out (by decide) (Q.ascii_of (by decide +kernel)) (by kernel_rfl) (by decide) (by decide +kernel) (by decide) (by decide +kernel)).mono ?_; rintro e W2 ⟨rfl, M, G⟩; have HS : Q.WSt w W2 pb mb impl_words.L2 := S1.out.next M G; clear M G)
  clear S1 C1
  have S2 := Aside0.mk (HS.step (.cells (impl_words.K2.map fun l => Value.int .i64 l).toArray 3))
  have C2 := Aside0.mk (Q.kinds_cell W2 impl_words.K2 3)
  clear HS
  go_upto_region 6 with (go_at_call 27; refine (impl_words_1.calls (⟨#[97, 98]⟩ : ByteArray) (⟨#[107, 105, 108, 108, 32, 115, 105, 103, 32, 117, 110, 109, 97, 112, 32, 115, 116, 111, 114, 101, 32, 114, 101, 97, 100, 32, 115, 101, 101, 107]⟩ : ByteArray) W2.heap.size 6 impl_words.K2 pb mb impl_words.L2 impl_words.F2 _ S2.out.tabs S2.out.cell S2.out.map C2.out (by decide) (Q.ascii_of (by decide +kernel)) (by kernel_rfl) (by decide) (by decide +kernel) (by decide) (by decide +kernel)).mono ?_; rintro e W3 ⟨rfl, M, G⟩; have HS : Q.WSt w W3 pb mb impl_words.L3 := S2.out.next M G; clear M G)
  clear S2 C2
  have S3 := Aside0.mk (HS.step (.cells (impl_words.K3.map fun l => Value.int .i64 l).toArray 3))
  have C3 := Aside0.mk (Q.kinds_cell W3 impl_words.K3 3)
  clear HS
  go_upto_region 7 with (go_at_call 27; refine (impl_words_1.calls (⟨#[97, 98, 116]⟩ : ByteArray) (⟨#[109, 97, 112]⟩ : ByteArray) W3.heap.size 1 impl_words.K3 pb mb impl_words.L3 impl_words.F3 _ S3.out.tabs S3.out.cell S3.out.map C3.out (by decide) (Q.ascii_of (by decide +kernel)) (by kernel_rfl) (by decide) (by decide +kernel) (by decide) (by decide +kernel)).mono ?_; rintro e W4 ⟨rfl, M, G⟩; have HS : Q.WSt w W4 pb mb impl_words.L4 := S3.out.next M G; clear M G)
  clear S3 C3
  have S4 := Aside0.mk (HS.step (.cells (impl_words.K4.map fun l => Value.int .i64 l).toArray 3))
  have C4 := Aside0.mk (Q.kinds_cell W4 impl_words.K4 3)
  clear HS
  go_upto_region 8 with (go_at_call 27; refine (impl_words_1.calls (⟨#[112]⟩ : ByteArray) (⟨#[100, 105, 114, 32, 100, 114, 111, 112, 32, 109, 111, 117, 110, 116, 32, 114, 117, 110]⟩ : ByteArray) W4.heap.size 4 impl_words.K4 pb mb impl_words.L4 impl_words.F4 _ S4.out.tabs S4.out.cell S4.out.map C4.out (by decide) (Q.ascii_of (by decide +kernel)) (by kernel_rfl) (by decide) (by decide +kernel) (by decide) (by decide +kernel)).mono ?_; rintro e W5 ⟨rfl, M, G⟩; have HS : Q.WSt w W5 pb mb impl_words.L5 := S4.out.next M G; clear M G)
  clear S4 C4
  have S5 := Aside0.mk (HS.step (.cells (impl_words.K5.map fun l => Value.int .i64 l).toArray 3))
  have C5 := Aside0.mk (Q.kinds_cell W5 impl_words.K5 3)
  clear HS
  go_upto_region 9 with (go_at_call 27; refine (impl_words_1.calls (⟨#[112, 113]⟩ : ByteArray) (⟨#[108, 105, 110, 107, 32, 109, 111, 118, 101]⟩ : ByteArray) W5.heap.size 2 impl_words.K5 pb mb impl_words.L5 impl_words.F5 _ S5.out.tabs S5.out.cell S5.out.map C5.out (by decide) (Q.ascii_of (by decide +kernel)) (by kernel_rfl) (by decide) (by decide +kernel) (by decide) (by decide +kernel)).mono ?_; rintro e W6 ⟨rfl, M, G⟩; have HS : Q.WSt w W6 pb mb impl_words.L6 := S5.out.next M G; clear M G)
  clear S5 C5
  have S6 := Aside0.mk (HS.step (.cells (impl_words.K6.map fun l => Value.int .i64 l).toArray 3))
  have C6 := Aside0.mk (Q.kinds_cell W6 impl_words.K6 3)
  clear HS
  go_upto_region 10 with (go_at_call 27; refine (impl_words_1.calls (⟨#[112, 97]⟩ : ByteArray) (⟨#[102, 111, 108, 100, 101, 114, 32, 109, 111, 100, 101, 32, 111, 119, 110]⟩ : ByteArray) W6.heap.size 3 impl_words.K6 pb mb impl_words.L6 impl_words.F6 _ S6.out.tabs S6.out.cell S6.out.map C6.out (by decide) (Q.ascii_of (by decide +kernel)) (by kernel_rfl) (by decide) (by decide +kernel) (by decide) (by decide +kernel)).mono ?_; rintro e W7 ⟨rfl, M, G⟩; have HS : Q.WSt w W7 pb mb impl_words.L7 := S6.out.next M G; clear M G)
  clear S6 C6
  have S7 := Aside0.mk (HS.step (.cells (impl_words.K7.map fun l => Value.int .i64 l).toArray 3))
  have C7 := Aside0.mk (Q.kinds_cell W7 impl_words.K7 3)
  clear HS
  go_upto_region 11 with (go_at_call 27; refine (impl_words_1.calls (⟨#[112, 97, 98]⟩ : ByteArray) (⟨#[111, 112, 101, 110]⟩ : ByteArray) W7.heap.size 1 impl_words.K7 pb mb impl_words.L7 impl_words.F7 _ S7.out.tabs S7.out.cell S7.out.map C7.out (by decide) (Q.ascii_of (by decide +kernel)) (by kernel_rfl) (by decide) (by decide +kernel) (by decide) (by decide +kernel)).mono ?_; rintro e W8 ⟨rfl, M, G⟩; have HS : Q.WSt w W8 pb mb impl_words.L8 := S7.out.next M G; clear M G)
  clear S7 C7
  have S8 := Aside0.mk (HS.step (.cells (impl_words.K8.map fun l => Value.int .i64 l).toArray 3))
  have C8 := Aside0.mk (Q.kinds_cell W8 impl_words.K8 3)
  clear HS
  go_upto_region 12 with (go_at_call 27; refine (impl_words_1.calls (⟨#[97, 116]⟩ : ByteArray) (⟨#[119, 114, 105, 116, 101]⟩ : ByteArray) W8.heap.size 1 impl_words.K8 pb mb impl_words.L8 impl_words.F8 _ S8.out.tabs S8.out.cell S8.out.map C8.out (by decide) (Q.ascii_of (by decide +kernel)) (by kernel_rfl) (by decide) (by decide +kernel) (by decide) (by decide +kernel)).mono ?_; rintro e W9 ⟨rfl, M, G⟩; have HS : Q.WSt w W9 pb mb impl_words.f := S8.out.next M G; clear M G)
  clear S8 C8
  have hc := HS.cell
  have HS := Aside0.mk HS
  go_wp2
  go_ret
  exact ⟨mb, rfl, HS.out.map, HS.out.below⟩


end Go.Proofs.YtkjjlkkfhbfbmaaDoor.P
