/- A block of memory that holds known cells: what steps leave it. No condition. -/
import Derived.Test.YtkdpfbodmfjkkaaRows
import Derived.Test.YtkdpfbodmfjkkaaBase
import Derived.Test.YtkdpfbodmfjkkaaSlices
import Derived.Test.YtkdpfbodmfjkkaaApart
import Derived.Test.YtkdpfbodmfjkkaaDraw
import Derived.Test.YtkdpfbodmfjkkaaDrawSpan
namespace Go.Proofs.Ytkdpfbodmfjkkaa
open Go.RowKit

/-- Block g holds the cells cs, none of them frozen. -/
def Blk (g : Nat) (w : World) (cs : List Value) : Prop := g < w.heap.size ∧ (∀ j u, cs[j]? = some u → w.cell? ⟨g, j, none⟩ = some u) ∧ ∀ j, j < cs.length → w.frozen? ⟨g, j, none⟩ = false
theorem Blk.new (w : World) (cs : Array Value) (T : TypeId) : Blk w.heap.size (w.alloc (.cells cs T)) cs.toList := by
  have h : (w.alloc (.cells cs T)).heap[w.heap.size]? = some (.cells cs T) := heap_new w _
  refine ⟨by simp, fun j u hu => cell_in h j (by simpa using hu), fun j _ => ?_⟩
  unfold World.frozen?
  rw [h]
  simp
theorem Blk.lt {g : Nat} {w : World} {cs : List Value} (h : Blk g w cs) : g < w.heap.size := h.1
theorem Blk.below {g : Nat} {w w1 : World} {cs : List Value} (h : Blk g w cs) (hb : Below w.heap.size w w1) : Blk g w1 cs := by
  obtain ⟨hc, hf⟩ := bcell hb
  exact ⟨Nat.lt_of_lt_of_le h.1 hb.size, fun j u hu => (hc _ _ h.1).trans (h.2.1 j u hu), fun j hj => (hf _ _ h.1).trans (h.2.2 j hj)⟩
theorem Blk.drew {g : Nat} {w : World} {cs : List Value} (h : Blk g w cs) : Blk g w.drew cs := h.below (Below.refl _ _).drew
theorem Blk.alloc {g : Nat} {w : World} {cs : List Value} (h : Blk g w cs) (o : Obj) : Blk g (w.alloc o) cs := h.below (below_alloc w o)
theorem Blk.grown {g : Nat} {w w1 : World} {cs : List Value} {row : Option Nat} (h : Blk g w cs) (hg : w.grownBy w1 row) (hne : some g ≠ row) : Blk g w1 cs :=
  ⟨Nat.lt_of_lt_of_le h.1 hg.size, fun j u hu => (hg.cell_far ⟨g, j, none⟩ h.1 hne).trans (h.2.1 j u hu), fun j hj => (hg.frozen_far ⟨g, j, none⟩ h.1 hne).trans (h.2.2 j hj)⟩
theorem Blk.cur {q g : Nat} {w w1 : World} {cs : List Value} (h : Blk q w cs) (hg : w.grownBy w1 (some g)) (hne : q ≠ g) : Blk q w1 cs := h.grown hg (by intro e; injection e with e; exact hne e)
theorem Blk.far {q g k : Nat} {w : World} {cs : List Value} (h : Blk q w cs) (hne : q ≠ g) (u : Value) : Blk q (w.setCell ⟨g, k, none⟩ u) cs := h.cur (g := g) ⟨rfl, rfl, rfl, by simp, fun i hi hn => Below.heap_setCell _ _ _ _ (fun e => hn (congrArg some e))⟩ hne
theorem Blk.cell {g : Nat} {w : World} {cs : List Value} (h : Blk g w cs) (j : Nat) {u : Value} (hu : cs[j]? = some u) : w.cell? ⟨g, j, none⟩ = some u := h.2.1 j u hu
theorem Blk.frozen {g : Nat} {w : World} {cs : List Value} (h : Blk g w cs) (j : Nat) (hj : j < cs.length) : w.frozen? ⟨g, j, none⟩ = false := h.2.2 j hj
theorem Blk.set {g k : Nat} {w : World} {cs : List Value} (h : Blk g w cs) (hk : k < cs.length) (u : Value) : Blk g (w.setCell ⟨g, k, none⟩ u) (cs.set k u) := by
  obtain ⟨h0, h1, h2⟩ := h
  have h1k := h1 k cs[k] (List.getElem?_eq_getElem hk)
  have h2k := h2 k hk
  refine ⟨by simpa using h0, fun j x hx => ?_, fun j hj => ?_⟩
  · rw [List.getElem?_set] at hx
    by_cases hjk : k = j
    · subst hjk
      simp [hk] at hx
      subst hx
      simp [go_sem, h1k]
    · rw [if_neg hjk] at hx
      have h1j := h1 j x hx
      simp [go_sem, h1j]
  · have h2j := h2 j (by simpa using hj)
    simp [go_sem, h2j]
end Go.Proofs.Ytkdpfbodmfjkkaa
