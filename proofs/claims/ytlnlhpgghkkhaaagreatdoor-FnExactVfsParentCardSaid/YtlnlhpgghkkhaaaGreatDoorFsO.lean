/- The library's leaves at this program: what the machine is told of them. -/
import Derived.Test.YtlnlhpgghkkhaaaGreatDoorFsC
import Derived.Test.YtlnlhpgghkkhaaaGreatDoorQShelf
import Derived.Tactics2
import Derived.OwnWalk
import Derived.Deep.Draws
import Derived.WalkKit
import Derived.KernelRfl
import Derived.RowKit
open Go Go.Mach Go.Mach.Fv Go.Proofs
set_option maxRecDepth 100000
set_option linter.unusedSimpArgs false
set_option linter.unusedVariables false
namespace Go.Mach.Fv
/-- a function that is handed scalars and answers a number -/
theorem leaf {P : Program} {M : FuncId → List Mode} {f : FuncId} {g : List (V Unit) → Option Ret} (hok : okCall P f = true)
    (h : ∀ az r, g az = some r → ∃ z, r = ⟨[(false, [.int .i64 z])], []⟩ ∧ ∀ (args : List (V Value)) w, args.map V.er = az → Calls P f (args.map concV).toArray w fun e w' => e = .returned (.int .i64 z) ∧ RowKit.Below w.heap.size w w') :
    Sound P M fun f' az => if f' = f then g az else none := by
  intro f' az r hr
  simp only at hr
  split at hr
  · rename_i e
    subst e
    obtain ⟨z, rfl, hc⟩ := h az r hr
    refine ⟨hok, fun hd w O N args ha I => ?_⟩
    refine (hc args w ha).mono fun e w' hp => ?_
    obtain ⟨rfl, hb⟩ := hp
    have hG : ∀ p x, G ((0, [(false, [C.int .i64 z])].flatMap (·.2)) :: ([] : Rt)) p = some x → x = .oth (.int .i64 z) := by
      intro p x hx
      obtain ⟨n, k, s⟩ := p
      simp only [G, getP, find, List.flatMap_cons, List.flatMap_nil, List.append_nil] at hx
      by_cases hn : n = 0
      · simp only [hn, if_true] at hx
        cases s with
        | nil =>
          match k with
          | 0 => simpa [getL, sh] using hx.symm
          | k + 1 => simp [getL] at hx
        | cons a s =>
          obtain ⟨i, j⟩ := a
          match k with
          | 0 => simp [getL] at hx
          | k + 1 => simp [getL] at hx
      · simp [hn] at hx
    refine ⟨[(false, [.int .i64 z])], [], by simp [erL, er_int], rfl, rfl, ⟨⟨?_, ?_, ?_, ?_, ?_, ?_⟩, ⟨hb.os, hb.tape, hb.output, hb.size, fun b h1 _ => hb.block b h1⟩, ?_, ?_⟩⟩
    · intro p h k e vs hp; cases hG _ _ hp
    · intro p c hp
      have := hG _ _ hp
      cases this
      exact ⟨trivial, by simp⟩
    · intro p i j h e vs c hp; cases hG _ _ hp
    · intro p h e vs hp; cases hG _ _ hp
    · intro p q h k e vs h' k' e' vs' g hp; cases hG _ _ hp
    · intro n k h K e vs _ hp; cases hG _ _ hp
    · intro p h k e vs g hp; cases hG _ _ hp
    · intro p c hp _
      have := hG _ _ hp
      cases this
      rfl
  · cases hr
def p82 (x : Nat) : Bool := if (x : Int) < 97 then true else decide ((x : Int) > 122)
theorem calls82 (a0 : Int) (w : World) : Calls Tryz.prog 82 #[.int .i32 a0] w fun e w' => e = .returned (.bool (if a0 < 97 then true else decide (a0 > 122))) ∧ ∃ q, w' = w.drewN q := by
  by_cases c2 : a0 < 97
  · have c2b0 : decide (a0 < 97) = true := decide_eq_true c2
    rw [if_pos c2]
    clear c2
    go_enter Tryz.func82, Tryz.ntmps82
    go_wp2
    go_ret
    exact ⟨by first | rfl | (simp; done) | (simp [*]; done), ⟨0, rfl⟩⟩
  · have c2b0 : decide (a0 < 97) = false := decide_eq_false c2
    rw [if_neg c2]
    clear c2
    go_enter Tryz.func82, Tryz.ntmps82
    go_wp2
    go_ret
    exact ⟨by first | rfl | (simp; done) | (simp [*]; done), ⟨0, rfl⟩⟩
def num (z : Int) : Ret := ⟨[(false, [.int .i64 z])], []⟩
def o102 : List (V Unit) → Option Ret
  | [.one (.str s), .one (.str t)] => if t.size = 1 then some (num (Lib.countByte s.data.toList (t.data.getD 0 0))) else none
  | _ => none
def o103 : List (V Unit) → Option Ret
  | [.one (.str s), .one (.str t)] => if t.size = 1 then some (num (Lib.indexByte s.data.toList (t.data.getD 0 0))) else none
  | _ => none
def o81 : List (V Unit) → Option Ret
  | [.one (.str s), .one (.fn f)] => if f = 82 then some (num (Lib.idxFunc p82 true s)) else none
  | _ => none
def o131 : List (V Unit) → Option Ret
  | [.one (.str s), .one (.str t)] => some (num (Lib.compareBytes s.data.toList t.data.toList))
  | _ => none
def orac : FuncId → Option (List (V Unit) → Option Ret)
  | 102 => some o102
  | 103 => some o103
  | 81 => some o81
  | 131 => some o131
  | _ => none
theorem er_one_str {v : V Value} {s : ByteArray} (h : v.er = .one (.str s)) : v = .one (.str s) := by
  cases v with
  | one c => simp only [V.er, V.one.injEq] at h; rw [inv_str h]
  | agg _ => cases h
  | tup _ => cases h
theorem er_one_fn {v : V Value} {f : FuncId} (h : v.er = .one (.fn f)) : v = .one (.fn f) := by
  cases v with
  | one c => simp only [V.er, V.one.injEq] at h; rw [inv_fn h]
  | agg _ => cases h
  | tup _ => cases h
theorem two_str {args : List (V Value)} {s t : ByteArray} (h : args.map V.er = [.one (.str s), .one (.str t)]) : (args.map concV).toArray = #[.string s, .string t] := by
  match args with
  | [] => simp at h
  | [_] => simp at h
  | _ :: _ :: _ :: _ => simp at h
  | [a, b] =>
    simp only [List.map_cons, List.map_nil, List.cons.injEq, and_true] at h
    rw [er_one_str h.1, er_one_str h.2]
    rfl
theorem one_byte {t : ByteArray} (h : t.size = 1) : t = ⟨#[t.data.getD 0 0]⟩ := by
  cases t with
  | mk d =>
    cases d with
    | mk l =>
      match l, h with
      | [a], _ => rfl
theorem orac_ok (M : FuncId → List Mode) : Orac Tryz.prog M orac := by
  intro f g hg
  unfold orac at hg
  split at hg
  · obtain rfl := Option.some.inj hg
    refine leaf (by kernel_rfl) fun az r h => ?_
    unfold o102 at h
    split at h
    · split at h
      · rename_i s t h1
        obtain rfl := Option.some.inj h
        refine ⟨_, rfl, fun args w ha => ?_⟩
        rw [two_str ha, one_byte h1]
        exact (Tryz.strings_Count_one s _ w).mono fun e w' hp => ⟨hp.1, by rw [hp.2]; exact RowKit.Below.refl _ _⟩
      · cases h
    · cases h
  · obtain rfl := Option.some.inj hg
    refine leaf (by kernel_rfl) fun az r h => ?_
    unfold o103 at h
    split at h
    · split at h
      · rename_i s t h1
        obtain rfl := Option.some.inj h
        refine ⟨_, rfl, fun args w ha => ?_⟩
        rw [two_str ha, one_byte h1]
        exact (Tryz.strings_Index_one s _ w).mono fun e w' hp => ⟨hp.1, by rw [hp.2]; exact RowKit.Below.refl _ _⟩
      · cases h
    · cases h
  · obtain rfl := Option.some.inj hg
    refine leaf (by kernel_rfl) fun az r h => ?_
    unfold o81 at h
    split at h
    · split at h
      · rename_i s f h1
        subst h1
        obtain rfl := Option.some.inj h
        refine ⟨_, rfl, fun args w ha => ?_⟩
        have : (args.map concV).toArray = #[.string s, .func (.func 82) #[] #[]] := by
          match args with
          | [] => simp at ha
          | [_] => simp at ha
          | _ :: _ :: _ :: _ => simp at ha
          | [a, b] =>
            simp only [List.map_cons, List.map_nil, List.cons.injEq, and_true] at ha
            rw [er_one_str ha.1, er_one_fn ha.2]
            rfl
        rw [this]
        refine Tryz.strings_IndexFunc_runes 82 #[] (enters_of Tryz.func82 (by kernel_rfl) rfl) p82 s w fun W x hx hb => ?_
        unfold FnGives
        rw [show #[encR x] ++ (#[] : Array Value) = #[Value.int .i32 (x : Int)] from rfl]
        exact calls82 (x : Int) W
      · cases h
    · cases h
  · obtain rfl := Option.some.inj hg
    refine leaf (by kernel_rfl) fun az r h => ?_
    unfold o131 at h
    split at h
    · obtain rfl := Option.some.inj h
      refine ⟨_, rfl, fun args w ha => ?_⟩
      rw [two_str ha]
      exact (Tryz.strings_Compare _ _ w).mono fun e w' hp => ⟨hp.1, by rw [hp.2]; exact RowKit.Below.refl _ _⟩
    · cases h
  · cases hg
end Go.Mach.Fv
