/- How an argument that is a struct of a slice of ints and a bool is opened. No condition. -/
import Derived.Test.YtcfealjfanoegaaRows
import Derived.Test.YtcfealjfanoegaaBase
import Derived.Test.YtcfealjfanoegaaOpen
import Derived.Lib.SmallJoins
namespace Go.Proofs.Ytcfealjfanoegaa
open Go.Joins Go.ChangeShapes Go.WideShapes Go.ChangeAt Go.RowKit Go.Deep
section
variable {H : Type} {enc : TypeId × Value → H} {P : Program} {w : World} {base : Nat} {spare : Nat → Bool} {held : Bool}
theorem si_of_trod {t : TypeId} {fuel : Nat} {v : Value} {x : DataW H × List MemPlace} (ht : P.underlying t = some (.slice 3)) (h3 : P.underlying 3 = some (.int .i64)) (hC : P.cellsOf 3 = 1)
    (hf : DataW.trod enc P w base spare held fuel t [v] = some x) : ∃ zs : List Int, Si w.heap.size w v zs := by
  rcases open_ints ht h3 hC hf with ⟨hcs, _⟩ | ⟨a, len, cap, zs, hcs, _, hl, hm, hzl, _, hcell, hwf⟩
  · simp at hcs
    subst hcs
    exact ⟨[], ⟨none, 0, rfl, by simp, by omega, fun _ => rfl, fun h => by simp at h⟩⟩
  · simp at hcs
    subst hcs
    have hlm : len ≤ zs.length := by rw [hzl]; split <;> omega
    have hlt : (zs.take len).length = len := by rw [List.length_take]; omega
    refine ⟨zs.take len, ⟨some a, cap, by rw [hlt], by rw [hlt]; exact hl, by unfold maxLen at hm; omega, (fun h => by cases h), fun hpos => ?_⟩⟩
    rw [hlt] at hpos
    obtain ⟨b, off, rfl, hc⟩ := ints_at hcell (by omega)
    refine ⟨b, off, rfl, (World.block_lt_of_cell? w _ (hc 0 (by omega))), fun k hk => ?_⟩
    rw [hlt] at hk
    rw [hc k (by omega)]
    simp [nth, List.getD, hk]
theorem open_rule {r : Reach} {b0 : Nat} {t : TypeId} {f0 f1 : Field} {v : Value} {d : DataW H} {p : List MemPlace} (hs : P.underlying t = some (.struct #[f0, f1])) (hone : oneCellFields P #[f0, f1] = true) (hC : P.cellsOf t = 2)
    (hts : P.underlying f0.type = some (.slice 3)) (h3 : P.underlying 3 = some (.int .i64)) (hC3 : P.cellsOf 3 = 1) (htb : P.underlying f1.type = some .bool) (hv : Value.okWide P w r b0 t v) (h : DataW.Trod enc P w base spare held t v d p) :
    ∃ (zs : List Int) (u : Value) (b : Bool), v = .agg #[u, .bool b] ∧ Si w.heap.size w u zs := by
  obtain ⟨v0, v1, y0, y1, n, rfl, _, _, h0, h1⟩ := open_agg2 hs hone hC hv h
  obtain ⟨zs, hz⟩ := si_of_trod hts h3 hC3 h0
  obtain ⟨b, hb, _⟩ := DataW.trod_bool htb h1
  simp at hb
  subst hb
  exact ⟨zs, v0, b, rfl, hz⟩
end
end Go.Proofs.Ytcfealjfanoegaa
