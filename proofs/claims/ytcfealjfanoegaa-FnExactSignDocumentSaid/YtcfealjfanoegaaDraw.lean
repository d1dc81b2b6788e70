/- The reference's cursor over the bytes of a draw, and what is drawn with it: numbers within bounds. Condition: no more than 2^20 bytes. -/
import Derived.Test.YtcfealjfanoegaaRows
import Derived.Test.YtcfealjfanoegaaBase
import Derived.Test.YtcfealjfanoegaaApart
import Derived.Test.YtcfealjfanoegaaSlices
import Derived.Laws.Bits128
namespace Go.Proofs.Ytcfealjfanoegaa
open Go.RowKit

theorem and255 (n : Int) : bits .and .i64 n 255 = n % 256 := by
  have h255 : (BitVec.ofInt 64 255).toNat = 2 ^ 8 - 1 := by decide
  have key : (BitVec.ofInt 64 n &&& BitVec.ofInt 64 255).toNat = (n % ((2 ^ 64 : Nat) : Int)).toNat % 2 ^ 8 := by
    rw [BitVec.toNat_and, BitVec.toNat_ofInt, h255, Nat.and_two_pow_sub_one_eq_mod]
  show IntKind.i64.wrap ((BitVec.ofInt 64 n &&& BitVec.ofInt 64 255).toNat : Nat) = n % 256
  rw [key, IntKind.wrap_i64]
  omega
/-- The slice v holds n bytes, in blocks below B. -/
def Bytes (B : Nat) (w : World) (v : Value) (n : Nat) : Prop :=
  ∃ A c, v = .slice A n c ∧ n ≤ c ∧ c ≤ 9223372036854775807 ∧ (0 < n → ∃ b off, A = some ⟨b, off, none⟩ ∧ b < B ∧ ∀ k, k < n → ∃ u : Int, 0 ≤ u ∧ u ≤ 255 ∧ w.cell? ⟨b, off + k, none⟩ = some (.int .u8 u))
theorem Bytes.below {B B' : Nat} {w w' : World} {v : Value} {n : Nat} (h : Bytes B w v n) (hb : Below B' w w') (hB : B ≤ B') : Bytes B w' v n := by
  obtain ⟨A, c, hv, h1, h2, h3⟩ := h
  refine ⟨A, c, hv, h1, h2, fun hn => ?_⟩
  obtain ⟨b, off, hA, hlt, hc⟩ := h3 hn
  refine ⟨b, off, hA, hlt, fun k hk => ?_⟩
  obtain ⟨u, h4, h5, h6⟩ := hc k hk
  exact ⟨u, h4, h5, (hb.cell (p := ⟨b, off + k, none⟩) (by show b < _; omega)).trans h6⟩
theorem Bytes.mono {B B' : Nat} {w : World} {v : Value} {n : Nat} (h : Bytes B w v n) (hB : B ≤ B') : Bytes B' w v n := by
  obtain ⟨A, c, hv, h1, h2, h3⟩ := h
  refine ⟨A, c, hv, h1, h2, fun hn => ?_⟩
  obtain ⟨b, off, hA, hlt, hc⟩ := h3 hn
  exact ⟨b, off, hA, by omega, hc⟩
/-- Block g is a cursor: bytes, a place, a number. -/
def Cur (g : Nat) (w : World) : Prop := ∃ (v : Value) (n i : Nat) (h : Int), g < w.heap.size ∧ Bytes g w v n ∧ n ≤ 1048576 ∧ i ≤ 4611686018427387904 ∧ w.cell? ⟨g, 0, none⟩ = some v ∧ w.cell? ⟨g, 1, none⟩ = some (iv i) ∧ w.cell? ⟨g, 2, none⟩ = some (iv h) ∧ w.frozen? ⟨g, 1, none⟩ = false ∧ w.frozen? ⟨g, 2, none⟩ = false
theorem Bytes.set {g : Nat} {w : World} {v : Value} {n : Nat} (h : Bytes g w v n) (k : Nat) (u : Value) : Bytes g (w.setCell ⟨g, k, none⟩ u) v n :=
  h.below ((Below.refl g w).setCell (p := ⟨g, k, none⟩) (Nat.le_refl _) u) (Nat.le_refl _)
theorem Cur.set1 {g : Nat} {w : World} (h : Cur g w) {j : Nat} (hj : j ≤ 4611686018427387904) : Cur g (w.setCell ⟨g, 1, none⟩ (iv j)) := by
  obtain ⟨v, n, i, x, h0, h1, h2, h3, h4, h5, h6, h7, h8⟩ := h
  refine ⟨v, n, j, x, by simpa using h0, h1.set 1 _, h2, hj, ?_, ?_, ?_, ?_, ?_⟩ <;> simp [go_sem, h4, h5, h6, h7, h8]
theorem Cur.set2 {g : Nat} {w : World} (h : Cur g w) (y : Int) : Cur g (w.setCell ⟨g, 2, none⟩ (iv y)) := by
  obtain ⟨v, n, i, x, h0, h1, h2, h3, h4, h5, h6, h7, h8⟩ := h
  refine ⟨v, n, i, y, by simpa using h0, h1.set 2 _, h2, h3, ?_, ?_, ?_, ?_, ?_⟩ <;> simp [go_sem, h4, h5, h6, h7, h8]
theorem Cur.below {g : Nat} {w w' : World} (h : Cur g w) (hb : Below w.heap.size w w') : Cur g w' := by
  obtain ⟨v, n, i, x, h0, h1, h2, h3, h4, h5, h6, h7, h8⟩ := h
  obtain ⟨hc, hf⟩ := bcell hb
  exact ⟨v, n, i, x, Nat.lt_of_lt_of_le h0 hb.size, h1.below hb (Nat.le_of_lt h0), h2, h3, (hc _ _ h0).trans h4, (hc _ _ h0).trans h5, (hc _ _ h0).trans h6, (hf _ _ h0).trans h7, (hf _ _ h0).trans h8⟩
theorem Cur.drewN {g : Nat} {w : World} (h : Cur g w) (n : Nat) : Cur g (w.drewN n) := h.below (below_drewN (Below.refl _ _) n)
theorem Cur.drew {g : Nat} {w : World} (h : Cur g w) : Cur g w.drew := h.below (Below.refl _ _).drew
/-- The call returned a number with P; block g is a cursor still, and no other old block was written. -/
def CurInt (g : Nat) (P : Int → Prop) (w : World) (e : Ending) (w' : World) : Prop := ∃ r, e = .returned (iv r) ∧ P r ∧ Cur g w' ∧ w.grownBy w' (some g)
theorem grown_drewN {w w' : World} {row : Option Nat} (h : w.grownBy w' row) (n : Nat) : w.grownBy (w'.drewN n) row := ⟨h.os, h.tape, h.output, h.size, h.block⟩
theorem grown_set {w w' : World} {g : Nat} (h : w.grownBy w' (some g)) (k : Nat) (u : Value) : w.grownBy (w'.setCell ⟨g, k, none⟩ u) (some g) :=
  ⟨h.os, h.tape, h.output, by simpa using h.size, fun i hi hne => (Below.heap_setCell _ _ _ _ (fun e => hne (congrArg some e))).trans (h.block i hi hne)⟩
theorem grown_below {w a b : World} {g : Nat} (h : w.grownBy a (some g)) (h2 : Below a.heap.size a b) : w.grownBy b (some g) :=
  ⟨h2.os.trans h.os, h2.tape.trans h.tape, h2.output.trans h.output, Nat.le_trans h.size h2.size, fun i hi hne => (h2.block i (Nat.lt_of_lt_of_le hi h.size)).trans (h.block i hi hne)⟩
/-- What lies below the cursor stands. -/
theorem cur_stay {B : Nat} {a w w' : World} {g : Nat} (h : Below B a w) (hg : w.grownBy w' (some g)) (hB : B ≤ g) (hw : g < w.heap.size) : Below B a w' := h.grown hg (by omega) (fun k hk => by injection hk with hk; omega)
/-- An array above the cursor stands. -/
theorem Own.cur {w w' : World} {E s lo hi n g : Nat} {v : Value} {xs : List Value} (h : Own w E s v lo hi n xs) (hg : w.grownBy w' (some g)) (hl : g < lo) (hh : hi ≤ w.heap.size) : Own w' E s v lo hi n xs := by
  obtain ⟨⟨hn, h1⟩, h2⟩ := h
  refine ⟨⟨hn, ?_⟩, h2⟩
  rcases h1 with h1 | ⟨q, cap, cur, rfl, r0, r1, r2⟩
  · exact .inl h1
  · exact .inr ⟨q, cap, cur, rfl, r0, (hg.block q (by have := h2 q rfl; omega) (by intro e; injection e with e; omega)).trans r1, r2⟩

end Go.Proofs.Ytcfealjfanoegaa
