/- What the reference draws of spans: a span, a number, a list of spans. Condition: the cursor stands over no more than 2^20 bytes. -/
import Derived.Test.YtcfealjfanoegaaRows
import Derived.Test.YtcfealjfanoegaaBase
import Derived.Test.YtcfealjfanoegaaAppend
import Derived.Test.YtcfealjfanoegaaSlices
import Derived.Test.YtcfealjfanoegaaApart
import Derived.Test.YtcfealjfanoegaaCol
import Derived.Test.YtcfealjfanoegaaDraw
namespace Go.Proofs.Ytcfealjfanoegaa
open Go.RowKit

theorem Try.infoSpan0 : (Try.prog.info? 55).map (fun i => (i.zero, i.size, i.bytes)) = some (some (.agg #[iv 0, iv 0]), 2, 16) := by kernel_rfl
/-- The cursor g stands, and of the old blocks only g was written. -/
def Kb (g : Nat) (w w' : World) : Prop := Cur g w' ∧ w.grownBy w' (some g)
theorem Cur.far {g : Nat} {w w' : World} (h : Cur g w) (hb : Below (g + 1) w w') : Cur g w' := by
  obtain ⟨v, n, i, x, h0, h1, h2, h3, h4, h5, h6, h7, h8⟩ := h
  obtain ⟨hc, hf⟩ := bcell hb
  have hg : g < g + 1 := by omega
  exact ⟨v, n, i, x, Nat.lt_of_lt_of_le h0 hb.size, h1.below hb (by omega), h2, h3, (hc _ _ hg).trans h4, (hc _ _ hg).trans h5, (hc _ _ hg).trans h6, (hf _ _ hg).trans h7, (hf _ _ hg).trans h8⟩
theorem Cur.lt {g : Nat} {w : World} (h : Cur g w) : g < w.heap.size := h.choose_spec.choose_spec.choose_spec.choose_spec.1
theorem Kb.refl {g : Nat} {w : World} (h : Cur g w) : Kb g w w := ⟨h, World.grownBy.refl _ _⟩
/-- A step that leaves all that was there when the call began, but the cursor. -/
theorem Kb.via {g : Nat} {w a b : World} (h : Kb g w a) (hg : g < w.heap.size) (hb : Below w.heap.size a b) : Kb g w b :=
  ⟨h.1.far (hb.mono (by omega)), ⟨hb.os.trans h.2.os, hb.tape.trans h.2.tape, hb.output.trans h.2.output, Nat.le_trans h.2.size hb.size, fun i hi hne => (hb.block i hi).trans (h.2.block i hi hne)⟩⟩
theorem Kb.alloc {g : Nat} {w a : World} (h : Kb g w a) (hg : g < w.heap.size) (o : Obj) : Kb g w (a.alloc o) := h.via hg ((Below.refl _ _).alloc h.2.size o)
theorem Kb.set {g : Nat} {w a : World} (h : Kb g w a) (hg : g < w.heap.size) {p : Addr} (hp : w.heap.size ≤ p.block) (u : Value) : Kb g w (a.setCell p u) := h.via hg ((Below.refl _ _).setCell hp u)
theorem Kb.next {g : Nat} {w a b : World} (h : Kb g w a) (h2 : Kb g a b) : Kb g w b := ⟨h2.1, h.2.trans h2.2⟩
theorem Kb.grown {g : Nat} {w a b : World} {row : Option Nat} (h : Kb g w a) (hg : g < w.heap.size) (h2 : a.grownBy b row) (hr : ∀ k, row = some k → w.heap.size ≤ k) : Kb g w b := h.via hg ((Below.refl w.heap.size a).grown h2 h.2.size hr)
theorem Box2.cur {q g : Nat} {w w1 : World} {x y : Int} (h : Box2 q w x y) (hg : w.grownBy w1 (some g)) (hne : q ≠ g) : Box2 q w1 x y := h.grown hg (by intro e; injection e with e; exact hne e)
def CurSpan (g : Nat) (w : World) (e : Ending) (w' : World) : Prop := ∃ x y, e = .returned (.agg #[iv x, iv y]) ∧ Kb g w w'

end Go.Proofs.Ytcfealjfanoegaa
