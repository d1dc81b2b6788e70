/- Parts of slices, boxes of two cells and rows as a source of append: words for the walks that put spans together. No condition. -/
import Derived.Test.YtkdpfbodmfjkkaaRows
import Derived.Test.YtkdpfbodmfjkkaaBase
import Derived.Test.YtkdpfbodmfjkkaaOpen
import Derived.Test.YtkdpfbodmfjkkaaAppend
namespace Go.Proofs.Ytkdpfbodmfjkkaa
open Go.RowKit

theorem Sl.src {B s : Nat} {w : World} {x : Value} {ks : List (List Int)} (h : Sl B w s x ks) (hs : ∀ r ∈ ks, r.length = s) (h0s : 0 < s) : Src w x ks.length s (flat ks) := by
  obtain ⟨A, c, rfl, h1, h2, h0, h3⟩ := h
  cases A with
  | none =>
    rcases Nat.eq_zero_or_pos ks.length with hz | hz
    · obtain rfl := List.eq_nil_of_length_eq_zero hz
      exact .inl ⟨by rw [h0 rfl]; rfl, rfl, rfl⟩
    · obtain ⟨b, off, hA, _⟩ := h3 hz
      cases hA
  | some ad =>
    refine .inr ⟨ad, c, rfl, flat_length hs, fun u hu => ?_, fun j u hu => ?_⟩
    · unfold flat at hu
      obtain ⟨z, _, rfl⟩ := List.mem_map.1 hu; rfl
    · have hj : j < ks.length * s := by have := (List.getElem?_eq_some_iff.1 hu).1; rwa [flat_length hs] at this
      have hpos : 0 < ks.length := by
        rcases Nat.eq_zero_or_pos ks.length with hz | hz
        · rw [hz] at hj; omega
        · exact hz
      obtain ⟨b, off, hA, _, hc⟩ := h3 hpos
      injection hA with hA; subst hA
      have hk : j / s < ks.length := (Nat.div_lt_iff_lt_mul h0s).2 hj
      have hm : j % s < s := Nat.mod_lt _ h0s
      have he : j = j / s * s + j % s := by rw [Nat.mul_comm]; exact (Nat.div_add_mod j s).symm
      rw [addr_add, he, ← Nat.add_assoc, hc _ _ hk hm]
      rw [he, flat_get hs _ _ hk hm] at hu
      exact hu
/-- The first k rows. -/
theorem slice_head {P : Program} {t : TypeId} {s : Nat} (ht : P.underlying t = some (.slice (P.elem t))) (hsz : ∀ W : World, (sizeOf (P.elem t)).run P W = .ok s W) {B : Nat} {w : World} {u : Value} {ns : List (List Int)} (h : Sl B w s u ns) {k : Nat} (hk : k ≤ ns.length) :
    ∃ X, (∀ W : World, (Instr.slice t u none (some (.int .i64 (k : Int))) none).run P W = .ok X W) ∧ Sl B w s X (ns.take k) := by
  obtain ⟨A, c, rfl, h1, h2, h0, h3⟩ := h
  have hl : (ns.take k).length = k := by rw [List.length_take]; omega
  refine ⟨sliced A 0 k c s, fun W => ?_, ?_⟩
  · rw [run_slice_h W t A ns.length c ht .i64 (k : Int) (by omega) (by omega)]
    simp [hsz, Result.andThen]
  · refine ⟨if c = 0 then A else A.map (·.add (0 * s)), c, by simp [sliced, hl], by omega, h2, fun hA => ?_, fun hn => ?_⟩
    · cases A with
      | none => exact h0 rfl
      | some a => split at hA <;> simp_all
    · obtain ⟨b, off, rfl, hlt, hc⟩ := h3 (by omega)
      have hc0 : c ≠ 0 := by omega
      refine ⟨b, off, by simp [hc0, addr_add], hlt, fun i j hi hj => ?_⟩
      rw [hc i j (by omega) hj]
      simp [fld, List.getD, show i < k by omega]
/-- The rows from k on. -/
theorem slice_tail {P : Program} {t : TypeId} {s : Nat} (ht : P.underlying t = some (.slice (P.elem t))) (hsz : ∀ W : World, (sizeOf (P.elem t)).run P W = .ok s W) {B : Nat} {w : World} {u : Value} {ns : List (List Int)} (h : Sl B w s u ns) {k : Nat} (hk : k ≤ ns.length) :
    ∃ X, (∀ W : World, (Instr.slice t u (some (.int .i64 (k : Int))) none none).run P W = .ok X W) ∧ Sl B w s X (ns.drop k) := by
  obtain ⟨A, c, rfl, h1, h2, h0, h3⟩ := h
  have hl : (ns.drop k).length = ns.length - k := by rw [List.length_drop]
  refine ⟨sliced A k ns.length c s, fun W => ?_, ?_⟩
  · rw [run_slice_l W t A ns.length c ht .i64 (k : Int) (by omega) (by omega)]
    simp [hsz, Result.andThen]
  · refine ⟨if c = k then A else A.map (·.add (k * s)), c - k, by simp [sliced, hl], by omega, by omega, fun hA => ?_, fun hn => ?_⟩
    · cases A with
      | none => rw [h0 rfl]; omega
      | some a => split at hA <;> simp_all
    · obtain ⟨b, off, rfl, hlt, hc⟩ := h3 (by omega)
      have hck : c ≠ k := by omega
      refine ⟨b, off + k * s, by simp [hck, addr_add], hlt, fun i j hi hj => ?_⟩
      have := hc (k + i) j (by omega) hj
      rw [Nat.add_mul] at this
      rw [show off + k * s + i * s + j = off + (k * s + i * s) + j by omega, this]
      simp [fld, List.getD]
theorem ownsRow_set {w : World} {base e size n : Nat} {v : Value} {xs : List Value} (h : w.ownsRow base e size v n xs) {p : Addr} (hp : p.block < base) (u : Value) : (w.setCell p u).ownsRow base e size v n xs := by
  obtain ⟨hn, h1⟩ := h
  refine ⟨hn, ?_⟩
  rcases h1 with h1 | ⟨g, cap, cur, rfl, r0, r1, r2⟩
  · exact .inl h1
  · exact .inr ⟨g, cap, cur, rfl, r0, (Below.heap_setCell _ _ _ _ (by omega)).trans r1, r2⟩
/-- Block g is a box of two numbers. -/
def Box2 (g : Nat) (w : World) (x y : Int) : Prop := g < w.heap.size ∧ w.cell? ⟨g, 0, none⟩ = some (iv x) ∧ w.cell? ⟨g, 1, none⟩ = some (iv y) ∧ w.frozen? ⟨g, 0, none⟩ = false ∧ w.frozen? ⟨g, 1, none⟩ = false
theorem Box2.new (w : World) (x y : Int) (T : TypeId) : Box2 w.heap.size (w.alloc (.cells #[iv x, iv y] T)) x y := by
  refine ⟨by simp, ?_, ?_, ?_, ?_⟩ <;> simp [go_sem]
theorem Box2.below {g : Nat} {w w1 : World} {x y : Int} (h : Box2 g w x y) (hb : Below w.heap.size w w1) : Box2 g w1 x y := by
  obtain ⟨h0, h1, h2, h3, h4⟩ := h
  obtain ⟨hc, hf⟩ := bcell hb
  exact ⟨Nat.lt_of_lt_of_le h0 hb.size, (hc _ _ h0).trans h1, (hc _ _ h0).trans h2, (hf _ _ h0).trans h3, (hf _ _ h0).trans h4⟩
theorem Box2.grown {g : Nat} {w w1 : World} {x y : Int} {row : Option Nat} (h : Box2 g w x y) (hg : w.grownBy w1 row) (hne : some g ≠ row) : Box2 g w1 x y := by
  obtain ⟨h0, h1, h2, h3, h4⟩ := h
  exact ⟨Nat.lt_of_lt_of_le h0 hg.size, (hg.cell_far ⟨g, 0, none⟩ h0 hne).trans h1, (hg.cell_far ⟨g, 1, none⟩ h0 hne).trans h2, (hg.frozen_far ⟨g, 0, none⟩ h0 hne).trans h3, (hg.frozen_far ⟨g, 1, none⟩ h0 hne).trans h4⟩
theorem Box2.set {g : Nat} {w : World} {x y : Int} (h : Box2 g w x y) (x' y' : Int) : Box2 g ((w.setCell ⟨g, 0, none⟩ (iv x')).setCell ⟨g, 1, none⟩ (iv y')) x' y' := by
  obtain ⟨h0, h1, h2, h3, h4⟩ := h
  refine ⟨by simpa using h0, ?_, ?_, ?_, ?_⟩ <;> simp [go_sem, h1, h2, h3, h4]
theorem row_ne {w : World} {base e size n g : Nat} {v : Value} {xs : List Value} (h : w.ownsRow base e size v n xs) (hg : g < base) : some g ≠ v.ownBlock := fun he => by
  have := (h.lt g he.symm).1
  omega
theorem flat_append (a b : List (List Int)) : flat (a ++ b) = flat a ++ flat b := by simp [flat]
/-- A block that an append to another array leaves. -/
theorem grown_block {w w1 : World} {row : Option Nat} {g : Nat} {o : Obj} (hg : w.grownBy w1 row) (h : w.heap[g]? = some o) (hne : some g ≠ row) : w1.heap[g]? = some o := by
  have hlt : g < w.heap.size := (Array.getElem?_eq_some_iff.1 h).1
  exact (hg.block g hlt hne).trans h
end Go.Proofs.Ytkdpfbodmfjkkaa
