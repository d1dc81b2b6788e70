/- A block that a drawn statement makes ahead of calls: its cells and its frozen marks behind them. -/
import Derived.Test.YtkdpfbodmfjkkaaRows
import Derived.Test.YtkdpfbodmfjkkaaBase
import Derived.Test.YtkdpfbodmfjkkaaOpen
namespace Go.Proofs.Ytkdpfbodmfjkkaa
open Go.ChangeShapes Go.WideShapes Go.ChangeAt Go.RowKit Go.Deep

def BoxAt (b : Nat) (W w : World) : Prop := b < w.heap.size ∧ (∀ k, w.cell? ⟨b, k, none⟩ = W.cell? ⟨b, k, none⟩) ∧ (∀ k, w.frozen? ⟨b, k, none⟩ = W.frozen? ⟨b, k, none⟩)
theorem box_step {w w1 : World} {o : Obj} (hb : Below (w.alloc o).heap.size (w.alloc o) w1) : BoxAt w.heap.size (w.alloc o) w1 :=
  ⟨below_size hb, fun k => hb.cell (p := ⟨_, k, none⟩) (by simp), fun k => hb.frozen (p := ⟨_, k, none⟩) (by simp)⟩
theorem box_step_drew {w w1 : World} {o : Obj} {b : Nat} (he : w.heap.size = b) (hb : Below (w.alloc o).drew.heap.size (w.alloc o).drew w1) : BoxAt b (w.alloc o) w1 := by
  subst he
  exact ⟨Nat.lt_of_lt_of_le (by simp [World.drew]) hb.size, fun k => (hb.cell (p := ⟨_, k, none⟩) (by simp [World.drew])).trans rfl, fun k => (hb.frozen (p := ⟨_, k, none⟩) (by simp [World.drew])).trans rfl⟩
theorem box_next {b : Nat} {W w w1 : World} (h : BoxAt b W w) (hb : Below w.heap.size w w1) : BoxAt b W w1 :=
  ⟨Nat.lt_of_lt_of_le h.1 hb.size, fun k => (hb.cell (p := ⟨_, k, none⟩) h.1).trans (h.2.1 k), fun k => (hb.frozen (p := ⟨_, k, none⟩) h.1).trans (h.2.2 k)⟩
end Go.Proofs.Ytkdpfbodmfjkkaa
