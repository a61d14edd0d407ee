/- slices.Sort at []int, as the shelf tells it. -/
import Derived.Test.YtgjlbghjjjlhmaaQShelf
import Derived.Sort.OwnSortedInts
namespace Go.Proofs.Ytgjlbghjjjlhmaa.Q
open Go Go.RowKit Go.Sort Go.Proofs
theorem sortInt (blk off cap : Nat) (zs : List Int) (w : World) (hH : Holds (Value.int .i64) w blk off zs.toArray) (hblk : blk < w.heap.size) (hsz : zs.length < 4611686018427387904) :
    Calls Try.prog 56 #[.slice (some ⟨blk, off, none⟩) zs.length cap] w fun e w' =>
      e = .returned (.tuple #[]) ∧ ∃ n os, w' = grow (putRow (Value.int .i64) (Sort.ahead w n) blk off (zs.mergeSort fun x y => decide (x ≤ y)).toArray) os := Try.slices_Sort_int blk off cap zs w hH hblk hsz
theorem sortInt_none (p : Option Addr) (cap : Nat) (w : World) :
    Calls Try.prog 56 #[.slice p 0 cap] w fun e w' => e = .returned (.tuple #[]) ∧ w' = w := Try.slices_Sort_int_none p cap w
end Go.Proofs.Ytgjlbghjjjlhmaa.Q
