/- Slices of strings and of bytes, and what 'append' may take from them. No condition: nothing here speaks of the program. -/
import Derived.Test.YtkdpfbodmfjkkaaRows
import Derived.Test.YtkdpfbodmfjkkaaBase
import Derived.Test.YtkdpfbodmfjkkaaAppend
import Derived.Laws.IdiomStrings
import Derived.Laws.Strings
namespace Go.Proofs.Ytkdpfbodmfjkkaa
open Go.RowKit

/-- The bytes of a string as numbers. -/
def strI (s : ByteArray) : List Int := s.data.toList.map fun b => (b.toNat : Int)
theorem strI_length (s : ByteArray) : (strI s).length = s.size := by unfold strI; rw [List.length_map, Array.length_toList]; rfl
theorem strI_take (s : ByteArray) {k : Nat} (h : k < s.size) : (strI s).take (k + 1) = (strI s).take k ++ [(s[k].toNat : Int)] := by
  have hl : k < (strI s).length := by rw [strI_length]; exact h
  rw [List.take_add_one, List.getElem?_eq_getElem hl]
  simp [strI]
  rfl
theorem strI_all (s : ByteArray) : (strI s).take s.size = strI s := List.take_of_length_le (by rw [strI_length]; omega)
theorem strI_at (s : ByteArray) {k : Nat} (h : k < s.size) : nth (strI s) k = (s[k].toNat : Int) := by
  have hl : k < (strI s).length := by rw [strI_length]; exact h
  rw [nth, List.getD, List.getElem?_eq_getElem hl]
  simp [strI]
  rfl
theorem strI_byte (s : ByteArray) {k : Nat} (h : k < s.size) : (0 : Int) ≤ (s[k].toNat : Int) ∧ (s[k].toNat : Int) ≤ 255 := by
  have := s[k].toNat_lt
  omega
theorem strI_wrap (s : ByteArray) {k : Nat} (h : k < s.size) : wrap64 (s[k].toNat : Int) = (s[k].toNat : Int) := by
  have := s[k].toNat_lt
  unfold wrap64
  omega
/-- The string at place k. -/
def nthS (ps : List ByteArray) (k : Nat) : ByteArray := ps.getD k ByteArray.empty
theorem nthS_get {ps : List ByteArray} {k : Nat} (h : k < ps.length) : ps[k]? = some (nthS ps k) := by simp [nthS, List.getD, List.getElem?_eq_getElem h]
/-- The slice v reads as the strings ps, in blocks below B. -/
def Ss (B : Nat) (w : World) (v : Value) (ps : List ByteArray) : Prop :=
  ∃ A c, v = .slice A ps.length c ∧ ps.length ≤ c ∧ c ≤ 9223372036854775807 ∧ (A = none → c = 0) ∧ (0 < ps.length → ∃ b off, A = some ⟨b, off, none⟩ ∧ b < B ∧ ∀ k, k < ps.length → w.cell? ⟨b, off + k, none⟩ = some (.string (nthS ps k)))
/-- The slice v reads as the bytes us, in blocks below B. -/
def Su (B : Nat) (w : World) (v : Value) (us : List Int) : Prop :=
  ∃ A c, v = .slice A us.length c ∧ (0 < us.length → ∃ b off, A = some ⟨b, off, none⟩ ∧ b < B ∧ ∀ k, k < us.length → (0 ≤ nth us k ∧ nth us k ≤ 255) ∧ w.cell? ⟨b, off + k, none⟩ = some (.int .u8 (nth us k)))
theorem Ss.below {B B' : Nat} {w w' : World} {v : Value} {ps : List ByteArray} (h : Ss B w v ps) (hb : Below B' w w') (hB : B ≤ B') : Ss B w' v ps := by
  obtain ⟨A, c, hv, h1, h2, h0, h3⟩ := h
  refine ⟨A, c, hv, h1, h2, h0, fun hn => ?_⟩
  obtain ⟨b, off, hA, hlt, hc⟩ := h3 hn
  exact ⟨b, off, hA, hlt, fun k hk => (hb.cell (p := ⟨b, off + k, none⟩) (by show b < _; omega)).trans (hc k hk)⟩
theorem Ss.mono {B B' : Nat} {w : World} {v : Value} {ps : List ByteArray} (h : Ss B w v ps) (hB : B ≤ B') : Ss B' w v ps := by
  obtain ⟨A, c, hv, h1, h2, h0, h3⟩ := h
  refine ⟨A, c, hv, h1, h2, h0, fun hn => ?_⟩
  obtain ⟨b, off, hA, hlt, hc⟩ := h3 hn
  exact ⟨b, off, hA, by omega, hc⟩
theorem Ss.step {a b : World} {v : Value} {ps : List ByteArray} (h : Ss a.heap.size a v ps) (hb : Below a.heap.size a b) : Ss b.heap.size b v ps := (h.below hb (Nat.le_refl _)).mono hb.size
theorem Own.ss {w : World} {E lo hi : Nat} {v : Value} {ps : List ByteArray} (h : Own w E 1 v lo hi ps.length (ps.map Value.string)) : Ss hi w v ps := by
  obtain ⟨⟨hl, h1⟩, h2⟩ := h
  rcases h1 with ⟨rfl, h0⟩ | ⟨g, cap, cur, rfl, r0, r1, r2, r3, r4, r5⟩
  · exact ⟨none, 0, by rw [h0], by omega, by omega, fun _ => rfl, fun hn => by omega⟩
  · refine ⟨some ⟨g, 0, none⟩, cap, rfl, r2, by unfold maxLen at r3; omega, (fun h => by cases h), fun _ => ⟨g, 0, rfl, h2 g rfl, fun k hk => ?_⟩⟩
    have h6 : (cur.toList.take (ps.length * 1))[k]? = some (Value.string (nthS ps k)) := by
      rw [r5, List.getElem?_map, nthS_get hk]; rfl
    rw [cell_of_row w g _ cur E (0, 0) r1, Nat.zero_add, ← h6, List.getElem?_take, if_pos (by omega)]
    simp
theorem Ss.src {B : Nat} {w : World} {x : Value} {ps : List ByteArray} (h : Ss B w x ps) : Src w x ps.length 1 (ps.map Value.string) := by
  obtain ⟨A, c, rfl, h1, h2, h0, h3⟩ := h
  cases A with
  | none =>
    rcases Nat.eq_zero_or_pos ps.length with hz | hz
    · obtain rfl := List.eq_nil_of_length_eq_zero hz
      exact .inl ⟨by rw [h0 rfl]; rfl, rfl, rfl⟩
    · obtain ⟨b, off, hA, _⟩ := h3 hz
      cases hA
  | some ad =>
    refine .inr ⟨ad, c, rfl, by simp, fun u hu => ?_, fun j u hu => ?_⟩
    · obtain ⟨z, _, rfl⟩ := List.mem_map.1 hu; rfl
    · have hj : j < ps.length := by have := (List.getElem?_eq_some_iff.1 hu).1; simpa using this
      obtain ⟨b, off, hA, _, hc⟩ := h3 (by omega)
      injection hA with hA; subst hA
      rw [addr_add, hc j hj]
      rw [List.getElem?_map, nthS_get hj] at hu
      exact hu
/-- What '[]byte(s)' leaves reads as the string's bytes. -/
theorem Su.made {P : Program} (src dst e : TypeId) (s : ByteArray) (hs : P.underlying src = some .string) (hd : P.underlying dst = some (.slice e)) (he : P.underlying e = some (.int .u8)) (w : World) :
    ∃ (v : Value) (w' : World), (convert src dst (.string s)).run P w = .ok v w' ∧ Su w'.heap.size w' v (strI s) ∧ Below w.heap.size w w' := by
  refine ⟨_, _, run_bytes_of_string w src dst e s hs hd he, ⟨_, grownCap w s.size 0 e, by rw [strI_length], fun hn => ⟨w.heap.size, 0, rfl, by simp, fun k hk => ?_⟩⟩, ?_⟩
  · rw [strI_length] at hk
    rw [strI_at s hk, Nat.zero_add]
    refine ⟨strI_byte s hk, ?_⟩
    exact (World.cell?_alloc_mark w.drew _ _ _ k).trans (bytesRow_at s _ k hk)
  · exact (Below.refl _ _).drew.alloc (Nat.le_refl _) _
end Go.Proofs.Ytkdpfbodmfjkkaa
