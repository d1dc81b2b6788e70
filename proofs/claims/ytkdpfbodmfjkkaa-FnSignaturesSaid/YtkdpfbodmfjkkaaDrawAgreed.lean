/- What the reference draws for agreed spans and for disagreement. Condition: no more than 2^20 bytes. -/
import Derived.Test.YtkdpfbodmfjkkaaRows
import Derived.Test.YtkdpfbodmfjkkaaBase
import Derived.Test.YtkdpfbodmfjkkaaAppend
import Derived.Test.YtkdpfbodmfjkkaaSlices
import Derived.Test.YtkdpfbodmfjkkaaCol
import Derived.Test.YtkdpfbodmfjkkaaDraw
import Derived.Test.YtkdpfbodmfjkkaaDrawSpan
import Derived.Test.YtkdpfbodmfjkkaaApart
namespace Go.Proofs.Ytkdpfbodmfjkkaa
open Go.RowKit

/-- The call returned a list of rows of its own and a number; what was there stands. -/
def DrewListInt (E s m : Nat) (w : World) (e : Ending) (w' : World) : Prop :=
  ∃ (u : Value) (ks : List (List Int)) (l : Int), e = .returned (.tuple #[u, iv l]) ∧ (∀ r ∈ ks, r.length = s) ∧ ks.length ≤ m ∧ Own w' E s u w.heap.size w'.heap.size ks.length (flat ks) ∧ Below w.heap.size w w'
/-- The call returned a list of rows of its own and a span; what was there stands. -/
def DrewListSpan (E s m : Nat) (w : World) (e : Ending) (w' : World) : Prop :=
  ∃ (u : Value) (ks : List (List Int)) (x y : Int), e = .returned (.tuple #[u, .agg #[iv x, iv y]]) ∧ (∀ r ∈ ks, r.length = s) ∧ ks.length ≤ m ∧ Own w' E s u w.heap.size w'.heap.size ks.length (flat ks) ∧ Below w.heap.size w w'
theorem kb_below {g : Nat} {w w1 w2 : World} (hb : Below w.heap.size w w1) (hg : w.heap.size ≤ g) (hl : g < w1.heap.size) (h : Kb g w1 w2) : Below w.heap.size w w2 := cur_stay hb h.2 hg hl

set_option maxHeartbeats 4000000 in
theorem DrawAgreedSpan_any {n : Nat} {v : Value} (w : World) (hv : Bytes w.heap.size w v n) (hn : n ≤ 1048576) :
    Calls Try.prog 27 #[v] w (DrewListInt 47 2 6 w) := by
  go_enter Try.func27, Try.ntmps27
  go_wp2_with fail
  refine (l1New_any _ hv hn).mono ?_
  rintro e w1 ⟨rfl, hc1, hb1⟩
  have HB1 := hid hb1
  have hg := hc1.lt
  have HK1 := hid (Kb.refl hc1)
  obtain ⟨g, hgg⟩ : ∃ g, g = w.heap.size := ⟨_, rfl⟩
  rw [← hgg] at hg HK1 ⊢
  have hgw : w.heap.size ≤ g := by rw [hgg]; simp
  clear hb1 hc1 hgg
  go_wp2_with fail
  refine (l4List_any _ HK1.out.1).mono ?_
  rintro e w2 ⟨u, ks, rfl, h2, hl, ho2, hk2⟩
  have HK2 := hid (HK1.out.next hk2)
  have HO2 := hid ho2.1
  have H2 := hid h2
  clear ho2 hk2 h2
  go_wp2_with fail
  refine (l1Once_any _ _ HK2.out.1).mono ?_
  rintro e w3 ⟨b, rfl, hc3, hg3⟩
  have HK3 := hid (HK2.out.next ⟨hc3, hg3⟩)
  have HO3 := hid ((Own.cur (Own.of HO2.out) hg3 hg (Nat.le_refl _)).1)
  clear hc3 hg3 HO2
  cases b
  · skip
    go_wp2_with fail
    refine (l1Below_any _ _ HK3.out.1).mono ?_
    rintro e w4 ⟨x, rfl, ⟨x0, x1, -⟩, hc4, hg4⟩
    have HK4 := hid (HK3.out.next ⟨hc4, hg4⟩)
    have HO4 := hid ((Own.cur (Own.of HO3.out) hg4 hg (Nat.le_refl _)).1)
    replace x1 := x1 (by omega)
    clear hc4 hg4
    go_wp2_with fail
    refine (l1Below_any _ _ HK4.out.1).mono ?_
    rintro e w5 ⟨y, rfl, ⟨y0, y1, -⟩, hc5, hg5⟩
    have HK5 := hid (HK4.out.next ⟨hc5, hg5⟩)
    have HO5 := hid ((Own.cur (Own.of HO4.out) hg5 hg (Nat.le_refl _)).1)
    replace y1 := y1 (by omega)
    clear hc5 hg5
    go_wp2_with fail
    refine (l1Below_any _ _ HK5.out.1).mono ?_
    rintro e w6 ⟨z, rfl, ⟨z0, z1, -⟩, hc6, hg6⟩
    have HK6 := hid (HK5.out.next ⟨hc6, hg6⟩)
    have HO6 := hid ((Own.cur (Own.of HO5.out) hg6 hg (Nat.le_refl _)).1)
    replace z1 := z1 (by omega)
    clear hc6 hg6
    go_wp2
    go_ret2
    exact ⟨_, ks, _, rfl, H2.out, by omega, (Own.of HO6.out).mono (by omega) (Nat.le_refl _), kb_below HB1.out hgw hg HK6.out⟩
  · skip
    go_wp2_with fail
    refine (l1Below_any _ _ HK3.out.1).mono ?_
    rintro e w4 ⟨t, rfl, ⟨t0, t1, -⟩, hc4, hg4⟩
    have HK4 := hid (HK3.out.next ⟨hc4, hg4⟩)
    have HO4 := hid ((Own.cur (Own.of HO3.out) hg4 hg (Nat.le_refl _)).1)
    replace t1 := t1 (by omega)
    clear hc4 hg4
    go_wp2_with fail
    refine (l1Below_any _ _ HK4.out.1).mono ?_
    rintro e w5 ⟨a, rfl, ⟨a0, a1, -⟩, hc5, hg5⟩
    have HK5 := hid (HK4.out.next ⟨hc5, hg5⟩)
    have HO5 := hid ((Own.cur (Own.of HO4.out) hg5 hg (Nat.le_refl _)).1)
    replace a1 := a1 (by omega)
    clear hc5 hg5
    go_wp2_with fail
    refine (l1Below_any _ _ HK5.out.1).mono ?_
    rintro e w6 ⟨b, rfl, ⟨b0, b1, -⟩, hc6, hg6⟩
    have HK6 := hid (HK5.out.next ⟨hc6, hg6⟩)
    have HO6 := hid ((Own.cur (Own.of HO5.out) hg6 hg (Nat.le_refl _)).1)
    replace b1 := b1 (by omega)
    clear hc6 hg6
    go_wp2_with fail
    refine (l1Below_any _ _ HK6.out.1).mono ?_
    rintro e w7 ⟨c, rfl, ⟨c0, c1, -⟩, hc7, hg7⟩
    have HK7 := hid (HK6.out.next ⟨hc7, hg7⟩)
    have HO7 := hid ((Own.cur (Own.of HO6.out) hg7 hg (Nat.le_refl _)).1)
    replace c1 := c1 (by omega)
    clear hc7 hg7
    go_wp2_with fail
    refine (l1Below_any _ _ HK7.out.1).mono ?_
    rintro e w8 ⟨d, rfl, ⟨d0, d1, -⟩, hc8, hg8⟩
    have HK8 := hid (HK7.out.next ⟨hc8, hg8⟩)
    have HO8 := hid ((Own.cur (Own.of HO7.out) hg8 hg (Nat.le_refl _)).1)
    replace d1 := d1 (by omega)
    clear hc8 hg8
    go_wp2_with (first | (at_builtin; refine wpList_append_src _ rfl _ _ 43 rfl w1.heap.size 47 Try.underlying43 Try.infoSpan0 rfl (by decide) _ _ ks.length 2 _ [iv (10 + t - a), iv (10 + t + b), iv (10 + t - c), iv (10 + t + d)] rfl rfl (HO8.out.alloc _) (Src.lit (cs := #[iv (10 + t - a), iv (10 + t + b), iv (10 + t - c), iv (10 + t + d)]) (m := 2) (size := 2) (heap_new_at w8 _ (by simp)) rfl (by simp [Value.oneCell']) 2) (by unfold maxLen; omega) (by omega) ((HK8.out.alloc hg _).2.size) ?_; intro v1 w9 hown1 hg1; have HO9 := hid hown1; have HK9 := hid ((HK8.out.alloc hg _).grown hg hg1 (fun k hk => (HO8.out.lt k hk).1)); clear hown1 hg1) | fail)
    replace HO9 : Hid (w9.ownsRow w1.heap.size 47 2 v1 (ks ++ [[10 + t - a, 10 + t + b], [10 + t - c, 10 + t + d]]).length (flat (ks ++ [[10 + t - a, 10 + t + b], [10 + t - c, 10 + t + d]]))) := hid (by rw [List.length_append, flat_append]; exact HO9.out)
    go_wp2_with fail
    refine (l1Below_any _ _ HK9.out.1).mono ?_
    rintro e w10 ⟨x, rfl, ⟨x0, x1, -⟩, hc10, hg10⟩
    have HK10 := hid (HK9.out.next ⟨hc10, hg10⟩)
    have HO10 := hid ((Own.cur (Own.of HO9.out) hg10 hg (Nat.le_refl _)).1)
    replace x1 := x1 (by omega)
    clear hc10 hg10
    go_wp2_with fail
    refine (l1Below_any _ _ HK10.out.1).mono ?_
    rintro e w11 ⟨y, rfl, ⟨y0, y1, -⟩, hc11, hg11⟩
    have HK11 := hid (HK10.out.next ⟨hc11, hg11⟩)
    have HO11 := hid ((Own.cur (Own.of HO10.out) hg11 hg (Nat.le_refl _)).1)
    replace y1 := y1 (by omega)
    clear hc11 hg11
    go_wp2_with fail
    refine (l1Below_any _ _ HK11.out.1).mono ?_
    rintro e w12 ⟨z, rfl, ⟨z0, z1, -⟩, hc12, hg12⟩
    have HK12 := hid (HK11.out.next ⟨hc12, hg12⟩)
    have HO12 := hid ((Own.cur (Own.of HO11.out) hg12 hg (Nat.le_refl _)).1)
    replace z1 := z1 (by omega)
    clear hc12 hg12
    go_wp2
    go_ret2
    exact ⟨_, (ks ++ [[10 + t - a, 10 + t + b], [10 + t - c, 10 + t + d]]), _, rfl, (by intro r hr; rcases List.mem_append.1 hr with h | h; exact H2.out r h; simp at h; rcases h with rfl | rfl <;> rfl), by simp; omega, (Own.of HO12.out).mono (by omega) (Nat.le_refl _), kb_below HB1.out hgw hg HK12.out⟩

set_option maxHeartbeats 4000000 in
theorem DrawDisagreeingWith_any {n : Nat} {v : Value} (w : World) (hv : Bytes w.heap.size w v n) (hn : n ≤ 1048576) :
    Calls Try.prog 32 #[v] w (DrewListSpan 47 2 4 w) := by
  have HV := hid ((hv.below (below_alloc w (.cells #[iv 0, iv 0] 47)) (Nat.le_refl _)).mono (B' := (w.alloc (.cells #[iv 0, iv 0] 47)).heap.size) (by simp))
  have HX0 := hid (Box2.new w 0 0 47)
  clear hv
  go_enter Try.func32, Try.ntmps32
  go_wp2_with fail
  refine (l1New_any _ HV.out hn).mono ?_
  rintro e w1 ⟨rfl, hc1, hb1⟩
  have HX1 := hid (HX0.out.below hb1)
  have HB1 := hid (below_step (below_alloc w (.cells #[iv 0, iv 0] 47)) hb1)
  have hg := hc1.lt
  have HK1 := hid (Kb.refl hc1)
  obtain ⟨g, hgg⟩ : ∃ g, g = (w.alloc (.cells #[iv 0, iv 0] 47)).heap.size := ⟨_, rfl⟩
  rw [← hgg] at hg HK1 ⊢
  have hgw : w.heap.size < g := by rw [hgg]; simp
  clear hb1 hc1 hgg
  go_wp2_with fail
  refine (l4List_any _ HK1.out.1).mono ?_
  rintro e w2 ⟨u, ks, rfl, h2, hl, ho2, hk2⟩
  have HK2 := hid (HK1.out.next hk2)
  have HX2 := hid (HX1.out.cur hk2.2 (by omega))
  have HO2 := hid ho2.1
  have H2 := hid h2
  clear ho2 hk2 h2
  go_wp2_with fail
  refine (l4Any_any _ HK2.out.1).mono ?_
  rintro e w3 ⟨x, y, rfl, hk3⟩
  have HK3 := hid (HK2.out.next hk3)
  have HO3 := hid ((Own.cur (Own.of HO2.out) hk3.2 hg (Nat.le_refl _)).1)
  obtain ⟨a0, a1, a2, a3, a4⟩ := HX2.out.cur hk3.2 (by omega)
  clear hk3
  go_wp2
  refine bodyPost_ret (v := .tuple #[u, .agg #[iv x, iv y]]) (by simp [results, Try.results32, go_sem, a1, a2]) rfl ⟨_, ks, _, _, rfl, H2.out, by omega, ?_, ?_⟩
  · have h9 := (Own.of HO3.out).mono (lo' := w.heap.size + 1) (hi' := w3.heap.size) (by omega) (Nat.le_refl _)
    refine (h9.apart (hi0 := w.heap.size + 1) ?_ (Nat.le_refl _)).mono (by omega) (by simp)
    repeat (first | exact Apart.refl _ _ | refine Apart.setCell ?_ (by simp) _)
  · have h9 := kb_below HB1.out (Nat.le_of_lt hgw) hg HK3.out
    repeat (first | exact h9 | refine Below.setCell ?_ (by simp) _)

end Go.Proofs.Ytkdpfbodmfjkkaa
