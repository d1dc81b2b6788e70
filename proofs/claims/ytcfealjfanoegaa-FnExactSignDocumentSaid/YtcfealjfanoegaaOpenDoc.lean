/- How an argument that is a struct of a number, a slice of strings and a slice of ints is opened. No condition. -/
import Derived.Test.YtcfealjfanoegaaRows
import Derived.Test.YtcfealjfanoegaaBase
import Derived.Test.YtcfealjfanoegaaOpen
import Derived.Test.YtcfealjfanoegaaOpenRule
import Derived.Test.YtcfealjfanoegaaStr
import Derived.Lib.SmallJoins
import Derived.SliceStrings
namespace Go.Proofs.Ytcfealjfanoegaa
open Go.Joins Go.ChangeShapes Go.WideShapes Go.ChangeAt Go.RowKit Go.Deep
section
variable {H : Type} {enc : TypeId × Value → H} {P : Program} {w : World} {base : Nat} {spare : Nat → Bool} {held : Bool}
theorem ss_of_trod {t e : TypeId} {fuel : Nat} {v : Value} {x : DataW H × List MemPlace} (ht : P.underlying t = some (.slice e)) (he : P.underlying e = some .string) (hC : P.cellsOf e = 1)
    (hf : DataW.trod enc P w base spare held fuel t [v] = some x) : ∃ ps : List ByteArray, Ss w.heap.size w v ps ∧ ∀ k, k < ps.length → (nthS ps k).size ≤ 9223372036854775807 := by
  rcases open_strings ht he hC hf with ⟨hcs, _⟩ | ⟨a, len, cap, ss, hcs, _, hl, hm, hzl, _, hcell, hwf⟩
  · simp at hcs
    subst hcs
    exact ⟨[], ⟨none, 0, rfl, by simp, by omega, fun _ => rfl, fun h => by simp at h⟩, fun k hk => by simp at hk⟩
  · simp at hcs
    subst hcs
    have hlm : len ≤ ss.length := by rw [hzl]; split <;> omega
    have hlt : (ss.take len).length = len := by rw [List.length_take]; omega
    have hat : ∀ k, k < len → nthS (ss.take len) k = ss.getD k ByteArray.empty := fun k hk => by simp [nthS, List.getD, hk]
    refine ⟨ss.take len, ⟨some a, cap, by rw [hlt], by rw [hlt]; exact hl, by unfold maxLen at hm; omega, (fun h => by cases h), fun hpos => ?_⟩, fun k hk => ?_⟩
    · rw [hlt] at hpos
      have h0 := hcell 0 (by omega)
      obtain ⟨b, off, hab, hblt⟩ := spot_none h0
      have ha : a = ⟨b, off, none⟩ := by
        obtain ⟨b', off', spot⟩ := a
        simp [Addr.add] at hab
        obtain ⟨rfl, rfl, rfl⟩ := hab
        rfl
      subst ha
      refine ⟨b, off, rfl, hblt, fun k hk => ?_⟩
      rw [hlt] at hk
      rw [hat k hk, ← hcell k (by omega), addr_add0]
    · rw [hlt] at hk
      rw [hat k hk, List.getD, List.getElem?_eq_getElem (show k < ss.length by omega)]
      exact hwf _ (List.getElem_mem _)
theorem open_doc {r : Reach} {b0 : Nat} {t e : TypeId} {f0 f1 f2 : Field} {v : Value} {d : DataW H} {p : List MemPlace} (hs : P.underlying t = some (.struct #[f0, f1, f2])) (hone : oneCellFields P #[f0, f1, f2] = true) (hC : P.cellsOf t = 3)
    (ht0 : P.underlying f0.type = some (.int .i64)) (ht1 : P.underlying f1.type = some (.slice e)) (he : P.underlying e = some .string) (hCe : P.cellsOf e = 1) (ht2 : P.underlying f2.type = some (.slice 3)) (h3 : P.underlying 3 = some (.int .i64)) (hC3 : P.cellsOf 3 = 1)
    (hv : Value.okWide P w r b0 t v) (h : DataW.Trod enc P w base spare held t v d p) :
    ∃ (n : Int) (ps : List ByteArray) (zs : List Int) (u1 u2 : Value), v = .agg #[iv n, u1, u2] ∧ Ss w.heap.size w u1 ps ∧ (∀ k, k < ps.length → (nthS ps k).size ≤ 9223372036854775807) ∧ Si w.heap.size w u2 zs := by
  obtain ⟨v0, v1, v2, y0, y1, y2, n, rfl, _, _, h0, h1, h2⟩ := open_agg3 hs hone hC hv h
  obtain ⟨z, hz, _⟩ := DataW.trod_int ht0 h0
  simp at hz
  subst hz
  obtain ⟨ps, hps, hsz⟩ := ss_of_trod ht1 he hCe h1
  obtain ⟨zs, hzs⟩ := si_of_trod ht2 h3 hC3 h2
  exact ⟨z, ps, zs, v1, v2, rfl, hps, hsz, hzs⟩
end
end Go.Proofs.Ytcfealjfanoegaa
