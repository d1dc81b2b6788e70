/- A column of a table, as far as row k. -/
import Derived.Test.YtkdpfbodmfjkkaaBase
namespace Go.Proofs.Ytkdpfbodmfjkkaa
open Go.RowKit

def colI (ks : List (List Int)) (j k : Nat) : List Int := (List.range k).map fun i => fld ks i j
theorem colI_succ (ks : List (List Int)) (j k : Nat) : colI ks j (k + 1) = colI ks j k ++ [fld ks k j] := by simp [colI, List.range_succ]
theorem colI_length (ks : List (List Int)) (j k : Nat) : (colI ks j k).length = k := by simp [colI]
theorem heap_new_at (w : World) (o : Obj) {g : Nat} (hg : w.heap.size = g) : (w.alloc o).heap[g]? = some o := by subst hg; show (w.heap.push o)[w.heap.size]? = some o; simp
end Go.Proofs.Ytkdpfbodmfjkkaa
