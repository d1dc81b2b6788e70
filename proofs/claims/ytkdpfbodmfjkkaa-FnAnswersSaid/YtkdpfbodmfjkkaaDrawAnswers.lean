/- What the law FnAnswers has drawn: answers with a serial number, keys with an answer. Condition: no more than 2^20 bytes. -/
import Derived.Test.YtkdpfbodmfjkkaaRows
import Derived.Test.YtkdpfbodmfjkkaaBase
import Derived.Test.YtkdpfbodmfjkkaaSlices
import Derived.Test.YtkdpfbodmfjkkaaDraw
import Derived.Test.YtkdpfbodmfjkkaaDrawSpan
import Derived.Test.YtkdpfbodmfjkkaaDrawAgreed
import Derived.Test.YtkdpfbodmfjkkaaDrawKey
import Derived.Test.YtkdpfbodmfjkkaaDrawStatus
namespace Go.Proofs.Ytkdpfbodmfjkkaa
open Go.ChangeShapes Go.WideShapes Go.ChangeAt Go.RowKit Go.Deep

def DrewAnswers (w : World) (e : Ending) (w' : World) : Prop :=
  ∃ (u : Value) (ks : List (List Int)) (l : Int), e = .returned (.tuple #[u, iv l]) ∧ (∀ r ∈ ks, StRow r) ∧ ks.length ≤ 4 ∧ Own w' 89 5 u w.heap.size w'.heap.size ks.length (flat ks) ∧ Below w.heap.size w w'
def DrewKeysFive (w : World) (e : Ending) (w' : World) : Prop :=
  ∃ (u : Value) (ks : List (List Int)) (a0 a1 a2 a3 a4 : Int), e = .returned (.tuple #[u, .agg #[iv a0, iv a1, iv a2, iv a3, iv a4]]) ∧ (∀ r ∈ ks, r.length = 5) ∧ ks.length = 10 ∧ Own w' 64 5 u w.heap.size w'.heap.size ks.length (flat ks) ∧ Below w.heap.size w w'
set_option maxHeartbeats 4000000 in
theorem DrawGoodUntil_any {n : Nat} {v : Value} (w : World) (hv : Bytes w.heap.size w v n) (hn : n ≤ 1048576) :
    Calls Try.prog 123 #[v] w (DrewAnswers w) := by
  go_enter Try.func123, Try.ntmps123
  go_wp2_with fail
  refine (l1New_any _ hv hn).mono ?_
  rintro e w1 ⟨rfl, hc1, hb1⟩
  have HB1 := hid hb1
  have hg := hc1.lt
  have HK1 := hid (Kb.refl hc1)
  clear hb1 hc1
  go_wp2_with fail
  refine (l10List_any _ HK1.out.1).mono ?_
  rintro e w2 ⟨u, ks, rfl, h2, hl, ho2, hk2⟩
  have HK2 := hid (HK1.out.next hk2)
  have HO2 := hid ho2.1
  have H2 := hid h2
  clear ho2 hk2 h2
  go_wp2_with fail
  refine (l1Below_any _ _ HK2.out.1).mono ?_
  rintro e w3 ⟨x, rfl, ⟨x0, x1, -⟩, hc3, hg3⟩
  have HK3 := hid (HK2.out.next ⟨hc3, hg3⟩)
  have HO3 := hid ((Own.cur (Own.of HO2.out) hg3 hg (Nat.le_refl _)).1)
  replace x1 := x1 (by omega)
  clear hc3 hg3
  go_wp2
  go_ret2
  exact ⟨_, ks, _, rfl, H2.out, hl, (Own.of HO3.out).mono (by omega) (Nat.le_refl _), kb_below HB1.out (Nat.le_refl _) hg HK3.out⟩
set_option maxHeartbeats 4000000 in
theorem DrawIsAgreed_any {n : Nat} {v : Value} (w : World) (hv : Bytes w.heap.size w v n) (hn : n ≤ 1048576) :
    Calls Try.prog 54 #[v] w (DrewAnswers w) := by
  go_enter Try.func54, Try.ntmps54
  go_wp2_with fail
  refine (DrawGoodUntil_any _ hv hn).mono ?_
  rintro e w2 ⟨u, ks, l, rfl, h2, hl, ho2, hb2⟩
  have HB2 := hid hb2
  have HO2 := hid ho2
  have H2 := hid h2
  clear ho2 hb2 h2
  go_wp2
  go_ret2
  exact ⟨_, ks, _, rfl, H2.out, hl, HO2.out, HB2.out⟩
set_option maxHeartbeats 4000000 in
theorem DrawMakeStatus_any {n : Nat} {v : Value} (w : World) (hv : Bytes w.heap.size w v n) (hn : n ≤ 1048576) :
    Calls Try.prog 57 #[v] w (DrewKeysFive w) := by
  have HV := hid ((hv.below (below_alloc w (.cells #[iv 0, iv 0, iv 0, iv 0, iv 0] 89)) (Nat.le_refl _)).mono (B' := (w.alloc (.cells #[iv 0, iv 0, iv 0, iv 0, iv 0] 89)).heap.size) (by simp))
  have HX0 := hid (Box5.new w 0 0 0 0 0 89)
  clear hv
  go_enter Try.func57, Try.ntmps57
  go_wp2_with fail
  refine (l1New_any _ HV.out hn).mono ?_
  rintro e w1 ⟨rfl, hc1, hb1⟩
  have HX1 := hid (HX0.out.below hb1)
  have HB1 := hid (below_step (below_alloc w (.cells #[iv 0, iv 0, iv 0, iv 0, iv 0] 89)) hb1)
  have hg := hc1.lt
  have HK1 := hid (Kb.refl hc1)
  obtain ⟨g, hgg⟩ : ∃ g, g = (w.alloc (.cells #[iv 0, iv 0, iv 0, iv 0, iv 0] 89)).heap.size := ⟨_, rfl⟩
  rw [← hgg] at hg HK1 ⊢
  have hgw : w.heap.size < g := by rw [hgg]; simp
  clear hb1 hc1 hgg
  go_wp2_with fail
  refine (l8Any_any _ HK1.out.1).mono ?_
  rintro e w2 ⟨u, ks, rfl, h2, hl, ho2, hk2⟩
  have HK2 := hid (HK1.out.next hk2)
  have HX2 := hid (HX1.out.cur hk2.2 (by omega))
  have HO2 := hid ho2.1
  have H2 := hid h2
  clear ho2 hk2 h2
  go_wp2_with fail
  refine (l10Any_any _ HK2.out.1).mono ?_
  rintro e w3 ⟨a0, a1, a2, a3, a4, rfl, hk3⟩
  have HK3 := hid (HK2.out.next hk3)
  have HO3 := hid ((Own.cur (Own.of HO2.out) hk3.2 hg (Nat.le_refl _)).1)
  obtain ⟨-, r0, r1, r2, r3, r4, r5, r6, r7, r8, r9⟩ := HX2.out.cur hk3.2 (by omega)
  clear hk3 HX2 HX1 HX0
  go_wp2
  refine bodyPost_ret (v := .tuple #[u, .agg #[iv a0, iv a1, iv a2, iv a3, iv a4]]) (by simp [results, Try.results57, go_sem, r0, r1, r2, r3, r4]) rfl ⟨_, ks, _, _, _, _, _, rfl, H2.out, hl, ?_, ?_⟩
  · have h9 := (Own.of HO3.out).mono (lo' := w.heap.size + 1) (hi' := w3.heap.size) (by omega) (Nat.le_refl _)
    refine (h9.apart (hi0 := w.heap.size + 1) ?_ (Nat.le_refl _)).mono (by omega) (by simp)
    repeat (first | exact Apart.refl _ _ | refine Apart.setCell ?_ (by simp) _)
  · have h9 := kb_below HB1.out (Nat.le_of_lt hgw) hg HK3.out
    repeat (first | exact h9 | refine Below.setCell ?_ (by simp) _)
end Go.Proofs.Ytkdpfbodmfjkkaa
