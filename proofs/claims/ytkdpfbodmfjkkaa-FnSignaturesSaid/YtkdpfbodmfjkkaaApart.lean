/- From block hi on the world stands: what a marking of an own array leaves. -/
import Derived.Test.YtkdpfbodmfjkkaaRows
import Derived.Test.YtkdpfbodmfjkkaaBase
namespace Go.Proofs.Ytkdpfbodmfjkkaa
open Go.RowKit

def Apart (hi : Nat) (w w' : World) : Prop := ∀ g, hi ≤ g → w'.heap[g]? = w.heap[g]?
theorem Apart.refl (hi : Nat) (w : World) : Apart hi w w := fun _ _ => rfl
theorem Apart.setCell {hi : Nat} {a w : World} (h : Apart hi a w) {p : Addr} (hp : p.block < hi) (u : Value) : Apart hi a (w.setCell p u) :=
  fun g hg => (Below.heap_setCell _ _ _ _ (by omega)).trans (h g hg)
theorem Own.apart {w w' : World} {E s lo hi hi0 n : Nat} {v : Value} {xs : List Value} (h : Own w E s v lo hi n xs) (ha : Apart hi0 w w') (hl : hi0 ≤ lo) : Own w' E s v lo hi n xs := by
  obtain ⟨⟨hn, h1⟩, h2⟩ := h
  refine ⟨⟨hn, ?_⟩, h2⟩
  rcases h1 with h1 | ⟨g, cap, cur, rfl, r0, r1, r2⟩
  · exact .inl h1
  · exact .inr ⟨g, cap, cur, rfl, r0, (ha g (by omega)).trans r1, r2⟩
/-- The blocks from hi on that were there stand. -/
def Kept (hi : Nat) (w w' : World) : Prop := (∀ g, hi ≤ g → g < w.heap.size → w'.heap[g]? = w.heap[g]?)
theorem Kept.alloc (hi : Nat) (w : World) (o : Obj) : Kept hi w (w.alloc o) := fun _ _ h => Below.heap_alloc w o _ h
theorem Apart.kept {hi : Nat} {w w' : World} (h : Apart hi w w') : Kept hi w w' := fun g h1 _ => h g h1
theorem Kept.apart {hi : Nat} {w a b : World} (h : Kept hi w a) (h2 : Apart hi a b) : Kept hi w b := fun g h3 h4 => (h2 g h3).trans (h g h3 h4)
theorem Own.kept {w w' : World} {E s lo hi hi0 n : Nat} {v : Value} {xs : List Value} (h : Own w E s v lo hi n xs) (ha : Kept hi0 w w') (hl : hi0 ≤ lo) (hh : hi ≤ w.heap.size) : Own w' E s v lo hi n xs := by
  obtain ⟨⟨hn, h1⟩, h2⟩ := h
  refine ⟨⟨hn, ?_⟩, h2⟩
  rcases h1 with h1 | ⟨g, cap, cur, rfl, r0, r1, r2⟩
  · exact .inl h1
  · exact .inr ⟨g, cap, cur, rfl, r0, (ha g (by omega) (by have := h2 g rfl; omega)).trans r1, r2⟩
theorem heap_new (w : World) (o : Obj) : (w.alloc o).heap[w.heap.size]? = some o := by show (w.heap.push o)[w.heap.size]? = some o; simp
theorem cell_in {w : World} {g : Nat} {cs : Array Value} {t : TypeId} (h : w.heap[g]? = some (.cells cs t)) (j : Nat) {u : Value} (hu : cs[j]? = some u) : w.cell? ⟨g, j, none⟩ = some u := (cell_of_row w g j cs t (0, 0) h).trans hu
end Go.Proofs.Ytkdpfbodmfjkkaa
