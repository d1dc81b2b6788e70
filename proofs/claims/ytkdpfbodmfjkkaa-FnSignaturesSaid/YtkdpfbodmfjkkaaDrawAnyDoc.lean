/- What the reference draws for the law FnSignatures: a document with one thing changed, what is signed, stamps. Condition: no more than 2^20 bytes. -/
import Derived.Test.YtkdpfbodmfjkkaaRows
import Derived.Test.YtkdpfbodmfjkkaaBase
import Derived.Test.YtkdpfbodmfjkkaaPlain
import Derived.Test.YtkdpfbodmfjkkaaAppend
import Derived.Test.YtkdpfbodmfjkkaaSlices
import Derived.Test.YtkdpfbodmfjkkaaApart
import Derived.Test.YtkdpfbodmfjkkaaDraw
import Derived.Test.YtkdpfbodmfjkkaaDrawSpan
import Derived.Test.YtkdpfbodmfjkkaaDrawAgreed
import Derived.Test.YtkdpfbodmfjkkaaDrawKey
import Derived.Test.YtkdpfbodmfjkkaaStr
import Derived.Test.YtkdpfbodmfjkkaaBlk
import Derived.Test.YtkdpfbodmfjkkaaDoc
import Derived.Test.YtkdpfbodmfjkkaaMakeDoc
import Derived.Test.YtkdpfbodmfjkkaaDrawDoc
import Derived.Test.YtkdpfbodmfjkkaaDrawStamp
namespace Go.Proofs.Ytkdpfbodmfjkkaa
open Go.ChangeShapes Go.WideShapes Go.ChangeAt Go.RowKit Go.Deep

/-- The call returned a document of its own, whatever its parts and salts; block g is a cursor still. -/
def CurAnyDoc (g : Nat) (w : World) (e : Ending) (w' : World) : Prop :=
  ∃ (t : Int) (ps : List ByteArray) (zs : List Int) (P S : Value), e = .returned (.agg #[iv t, P, S]) ∧ Own w' 9 1 P w.heap.size w'.heap.size ps.length (ps.map Value.string) ∧ Own w' 3 1 S w.heap.size w'.heap.size zs.length (zs.map (Value.int .i64)) ∧ Kb g w w'
theorem Apart.drew {hi : Nat} {a b : World} (h : Apart hi a b) : Apart hi a b.drew := h
theorem kb_drew {g : Nat} {w a : World} (hg : g < w.heap.size) (h : Kb g w a) : Kb g w a.drew := h.via hg (Below.refl _ _).drew
theorem own_some {w : World} {E lo hi n c : Nat} {A : Option Addr} {xs : List Value} (h : Own w E 1 (.slice A n c) lo hi n xs) (hn : 0 < n) : ∃ b, A = some ⟨b, 0, none⟩ ∧ lo ≤ b ∧ b < hi := by
  obtain ⟨b, rfl⟩ := ownsRow_some h.1 hn
  exact ⟨b, rfl, (h.1.lt b rfl).1, h.2 b rfl⟩
theorem own_grown {w w1 : World} {E s lo hi n : Nat} {v : Value} {xs : List Value} {row : Option Nat} (h : Own w E s v lo hi n xs) (hg : w.grownBy w1 row) (hne : ∀ b, v.ownBlock = some b → some b ≠ row) : Own w1 E s v lo hi n xs := by
  obtain ⟨⟨hn, h1⟩, h2⟩ := h
  refine ⟨⟨hn, ?_⟩, h2⟩
  rcases h1 with h1 | ⟨q, cap, cur, rfl, r0, r1, r2⟩
  · exact .inl h1
  · exact .inr ⟨q, cap, cur, rfl, r0, (hg.block q (Array.getElem?_eq_some_iff.1 r1).1 (hne q rfl)).trans r1, r2⟩
theorem map_set_str {ps : List ByteArray} (s : ByteArray) (k : Nat) : (ps.map Value.string).set k (.string s) = (ps.set k s).map Value.string := by rw [List.map_set]
theorem map_set_int {zs : List Int} (z : Int) (k : Nat) : (zs.map (Value.int .i64)).set k (.int .i64 z) = (zs.set k z).map (Value.int .i64) := by rw [List.map_set]
set_option maxRecDepth 16000 in
set_option maxHeartbeats 16000000 in
theorem l6Any_any {g : Nat} (w : World) (hc : Cur g w) : Calls Try.prog 137 #[.pointer (some ⟨g, 0, none⟩)] w (CurAnyDoc g w) := by
  have hg := hc.lt
  have HK0 := hid ((Kb.refl hc).alloc hg (.cells #[iv 0, .slice none 0 0, .slice none 0 0] 113))
  have HR0 := hid (Blk.new w #[iv 0, .slice none 0 0, .slice none 0 0] 113)
  have hz0 : (w.alloc (.cells #[iv 0, .slice none 0 0, .slice none 0 0] 113)).heap.size = w.heap.size + 1 := by simp
  clear hc
  go_enter Try.func137, Try.ntmps137
  go_wp2_with fail
  generalize w.alloc (.cells #[iv 0, .slice none 0 0, .slice none 0 0] 113) = W0 at HK0 HR0 hz0 ⊢
  refine (l6Draw_any _ HK0.out.1).mono ?_
  rintro e w1 ⟨t, ps, zs, P, S, mid, rfl, -, ⟨hp1, hp2⟩, -, hzl, -, ⟨hm0, hm1⟩, hp, hsz, hk1⟩
  obtain ⟨GP, qp, rfl⟩ := ownsRow_form hp.1
  obtain ⟨GS, qs, rfl⟩ := ownsRow_form hsz.1
  obtain ⟨bP, rfl, hbP0, hbP1⟩ := own_some hp (by omega)
  obtain ⟨bS, rfl, hbS0, hbS1⟩ := own_some hsz (by omega)
  have hl0 : 0 < zs.length := by omega
  have hl1 : (0 : Int) < (zs.length : Int) := by omega
  have hl2 : (0 : Int) < (ps.length : Int) := by omega
  have hz1 := hk1.2.size
  have HK1 := hid ((HK0.out.next hk1).alloc hg (.cells #[iv t, .slice (some ⟨bP, 0, none⟩) ps.length qp, .slice (some ⟨bS, 0, none⟩) zs.length qs] 113))
  have HR1 := hid ((HR0.out.cur hk1.2 (by omega)).alloc (.cells #[iv t, .slice (some ⟨bP, 0, none⟩) ps.length qp, .slice (some ⟨bS, 0, none⟩) zs.length qs] 113))
  have HP1 := hid (hp.below (below_alloc w1 (.cells #[iv t, .slice (some ⟨bP, 0, none⟩) ps.length qp, .slice (some ⟨bS, 0, none⟩) zs.length qs] 113)) hm1)
  have HS1 := hid (hsz.below (below_alloc w1 (.cells #[iv t, .slice (some ⟨bP, 0, none⟩) ps.length qp, .slice (some ⟨bS, 0, none⟩) zs.length qs] 113)) (Nat.le_refl _))
  have HX1 := hid (Blk.new w1 #[iv t, .slice (some ⟨bP, 0, none⟩) ps.length qp, .slice (some ⟨bS, 0, none⟩) zs.length qs] 113)
  have hz2 : (w1.alloc (.cells #[iv t, .slice (some ⟨bP, 0, none⟩) ps.length qp, .slice (some ⟨bS, 0, none⟩) zs.length qs] 113)).heap.size = w1.heap.size + 1 := by simp
  clear hp hsz hk1 HK0 HR0 hzl
  go_wp2_with fail
  generalize w1.alloc (.cells #[iv t, .slice (some ⟨bP, 0, none⟩) ps.length qp, .slice (some ⟨bS, 0, none⟩) zs.length qs] 113) = W1 at HK1 HR1 HP1 HS1 HX1 hz2 ⊢
  refine (l1Below_any _ _ HK1.out.1).mono ?_
  rintro e w2 ⟨s, rfl, -, hc2, hg2⟩
  have HK2 := hid (HK1.out.next ⟨hc2, hg2⟩)
  have HR2 := hid (HR1.out.cur hg2 (by omega))
  have HX2 := hid (HX1.out.cur hg2 (by omega))
  have HP2 := hid (Own.cur HP1.out hg2 (by omega) (by omega))
  have HS2 := hid (Own.cur HS1.out hg2 (by omega) (by omega))
  have hz3 := hg2.size
  clear hc2 hg2 HK1 HR1 HX1 HP1 HS1
  have hne : w.heap.size ≠ w1.heap.size := by omega
  have hn1 : bP ≠ w1.heap.size := by omega
  have hn2 : bS ≠ w1.heap.size := by omega
  have hn3 : w.heap.size ≠ bP := by omega
  have hn4 : w.heap.size ≠ bS := by omega
  have hle0 : w.heap.size ≤ w.heap.size := Nat.le_refl _
  have hle1 : w.heap.size ≤ w1.heap.size := by omega
  have hle2 : w.heap.size ≤ bP := by omega
  have hle3 : w.heap.size ≤ bS := by omega
  by_cases h0 : s = 0
  · have e0 : (s == 0) = true := by rw [beq_iff_eq]; exact h0
    clear h0
    have HL := hid ((Own.of (World.ownsRow_lit (base := w2.heap.size) (e := 3) (size := 1) w2 #[iv (-1), iv 999, iv 1000] 3 (Nat.le_refl _) (by decide) rfl)).si (zs := [-1, 999, 1000]))
    have HKA := hid (HK2.out.alloc hg (.cells #[iv (-1), iv 999, iv 1000] 3))
    have HRA := hid (HR2.out.alloc (.cells #[iv (-1), iv 999, iv 1000] 3))
    have HXA := hid (HX2.out.alloc (.cells #[iv (-1), iv 999, iv 1000] 3))
    have HPA := hid (HP2.out.below (below_alloc w2 (.cells #[iv (-1), iv 999, iv 1000] 3)) (by omega))
    have HSA := hid (HS2.out.below (below_alloc w2 (.cells #[iv (-1), iv 999, iv 1000] 3)) (by omega))
    have hz4 : (w2.alloc (.cells #[iv (-1), iv 999, iv 1000] 3)).heap.size = w2.heap.size + 1 := by simp
    clear HK2 HR2 HX2 HP2 HS2
    go_wp2_with fail
    generalize w2.alloc (.cells #[iv (-1), iv 999, iv 1000] 3) = WA at HL HKA HRA HXA HPA HSA hz4 ⊢
    refine (l1Int_any _ HKA.out.1 HL.out (Nat.le_refl _) (by intro b off n c h; simp only [Value.slice.injEq, Option.some.injEq, Addr.mk.injEq] at h; omega) (by decide)).mono ?_
    rintro e w4 ⟨z, rfl, -, hc4, hg4⟩
    have HK4 := hid (HKA.out.next ⟨hc4, hg4⟩)
    have HR4 := hid (HRA.out.cur hg4 (by omega))
    have HX4 := hid (HXA.out.cur hg4 (by omega))
    have HP4 := hid (Own.cur HPA.out hg4 (by omega) (by omega))
    have HS4 := hid (Own.cur HSA.out hg4 (by omega) (by omega))
    have hz5 := hg4.size
    clear hc4 hg4 HL HKA HRA HXA HPA HSA
    have x0 := HX4.out.cell 0 rfl
    have x1 := HX4.out.cell 1 rfl
    have x2 := HX4.out.cell 2 rfl
    have fx0 := HX4.out.frozen 0 (by simp)
    have fx1 := HX4.out.frozen 1 (by simp)
    have fx2 := HX4.out.frozen 2 (by simp)
    have r0 := HR4.out.cell 0 rfl
    have r1 := HR4.out.cell 1 rfl
    have r2 := HR4.out.cell 2 rfl
    have fr0 := HR4.out.frozen 0 (by simp)
    have fr1 := HR4.out.frozen 1 (by simp)
    have fr2 := HR4.out.frozen 2 (by simp)
    have hxl := HX4.out.lt
    have hrl := HR4.out.lt
    clear HX4 HR4
    go_wp2
    refine bodyPost_ret (v := .agg #[iv z, .slice (some ⟨bP, 0, none⟩) ps.length qp, .slice (some ⟨bS, 0, none⟩) zs.length qs]) (by simp [results, Try.results137, go_sem, r0, r1, r2]) rfl ⟨_, ps, zs, _, _, rfl, ?_, ?_, ?_⟩
    · refine ((HP4.out.below ((Below.refl w1.heap.size w4).setCell (p := ⟨w1.heap.size, 0, none⟩) (Nat.le_refl _) (iv z)) (by omega)).apart (hi0 := w.heap.size + 1) ?_ (by omega)).mono (by omega) (by simp; omega)
      repeat (first | with_reducible exact Apart.refl _ _ | refine Apart.setCell ?_ (by simp; try omega) _ | with_reducible refine Apart.drew ?_)
    · refine ((HS4.out.below ((Below.refl w1.heap.size w4).setCell (p := ⟨w1.heap.size, 0, none⟩) (Nat.le_refl _) (iv z)) (by omega)).apart (hi0 := w.heap.size + 1) ?_ (by omega)).mono (by omega) (by simp; omega)
      repeat (first | with_reducible exact Apart.refl _ _ | refine Apart.setCell ?_ (by simp; try omega) _ | with_reducible refine Apart.drew ?_)
    · have h9 := HK4.out
      repeat (first | with_reducible exact h9 | refine Kb.set ?_ hg (by first | exact hle0 | exact hle1 | exact hle2 | exact hle3) _ | with_reducible refine kb_drew hg ?_ | with_reducible refine Kb.alloc ?_ hg _)
  have e0 : (s == 0) = false := by rw [beq_eq_false_iff_ne]; exact h0
  clear h0
  by_cases h1 : s = 1
  · have e1 : (s == 1) = true := by rw [beq_iff_eq]; exact h1
    clear h1
    have y1 := HX2.out.cell 1 rfl
    have hyl := HX2.out.lt
    go_wp2_with (first | (at_builtin; refine wpList_append_src _ rfl _ _ 111 rfl W0.heap.size 9 Try.underlying111 Try.infoStr1 rfl (by decide) _ _ ps.length 1 _ [.string { data := #[120] }] rfl rfl (HP2.out.1.alloc _) (Src.lit (cs := #[.string { data := #[120] }]) (m := 1) (size := 1) (heap_new_at w2 _ (by simp)) rfl (by simp [Value.oneCell']) 1) (by unfold maxLen; omega) (by omega) (by simp; omega) ?_; intro v1 w3 hown1 hg1; obtain ⟨G1, q1, rfl⟩ := ownsRow_form hown1; have HP3 := hid (Own.of hown1); have HX3 := hid ((HX2.out.alloc _).grown hg1 (by intro e; injection (show some _ = some bP from e) with e; omega)); have HR3 := hid ((HR2.out.alloc _).grown hg1 (by intro e; injection (show some _ = some bP from e) with e; omega)); have HS3 := hid (own_grown (HS2.out.below (below_alloc w2 _) (by omega)) hg1 (by intro b e1 e; injection (show some bS = some b from e1) with e1; injection (show some b = some bP from e) with e; omega)); have HK3 := hid ((HK2.out.alloc hg _).grown hg hg1 (by intro k e; injection (show some bP = some k from e) with e; omega)); have hz4 := hg1.size; clear hown1 hg1; have x0 := HX3.out.cell 0 rfl; have x1 := HX3.out.cell 1 rfl; have x2 := HX3.out.cell 2 rfl; have fx0 := HX3.out.frozen 0 (by simp); have fx1 := HX3.out.frozen 1 (by simp); have fx2 := HX3.out.frozen 2 (by simp); have r0 := HR3.out.cell 0 rfl; have r1 := HR3.out.cell 1 rfl; have r2 := HR3.out.cell 2 rfl; have fr0 := HR3.out.frozen 0 (by simp); have fr1 := HR3.out.frozen 1 (by simp); have fr2 := HR3.out.frozen 2 (by simp); have hxl := HX3.out.lt; have hrl := HR3.out.lt) | fail)
    obtain ⟨b1, rfl, -, -⟩ := own_some HP3.out (by omega)
    have hb1 : b1 ≠ w1.heap.size := by
      intro he
      subst he
      have h8 := HP3.out.1.cellAt 0 (by omega)
      rw [x0, List.getElem?_append_left (by simp; omega), List.getElem?_map] at h8
      cases h7 : ps[0]? <;> simp [h7] at h8
    clear HX2 HR2 HK2 HP2 HS2 HX3 HR3
    refine bodyPost_ret (v := .agg #[iv t, .slice (some ⟨b1, 0, none⟩) (ps.length + 1) q1, .slice (some ⟨bS, 0, none⟩) zs.length qs]) (by simp [results, Try.results137, go_sem, r0, r1, r2]) rfl ⟨_, (ps ++ [{ data := #[120] }]), zs, _, _, rfl, ?_, ?_, ?_⟩
    · rw [List.length_append, List.map_append]
      refine ((own_grown HP3.out (grown_set (g := w1.heap.size) (World.grownBy.refl w3 _) 1 (.slice (some ⟨b1, 0, none⟩) (ps.length + 1) q1)) (by intro b e1 e; injection (show some b1 = some b from e1) with e1; injection e with e; omega)).apart (hi0 := w.heap.size + 1) ?_ (by omega)).mono (by omega) (by simp)
      repeat (first | with_reducible exact Apart.refl _ _ | refine Apart.setCell ?_ (by simp; try omega) _ | with_reducible refine Apart.drew ?_)
    · refine ((HS3.out.below ((Below.refl w1.heap.size w3).setCell (p := ⟨w1.heap.size, 1, none⟩) (Nat.le_refl _) (.slice (some ⟨b1, 0, none⟩) (ps.length + 1) q1)) (by omega)).apart (hi0 := w.heap.size + 1) ?_ (by omega)).mono (by omega) (by simp at hz4; simp; omega)
      repeat (first | with_reducible exact Apart.refl _ _ | refine Apart.setCell ?_ (by simp; try omega) _ | with_reducible refine Apart.drew ?_)
    · have h9 := HK3.out
      repeat (first | with_reducible exact h9 | refine Kb.set ?_ hg (by first | exact hle0 | exact hle1 | exact hle2 | exact hle3) _ | with_reducible refine kb_drew hg ?_ | with_reducible refine Kb.alloc ?_ hg _)
  have e1 : (s == 1) = false := by rw [beq_eq_false_iff_ne]; exact h1
  clear h1
  by_cases h2 : s = 2
  · have e2 : (s == 2) = true := by rw [beq_iff_eq]; exact h2
    clear h2
    have HL := hid ((Own.of (World.ownsRow_lit (base := w2.heap.size) (e := 3) (size := 1) w2 #[iv 0, iv (-1), iv 1] 3 (Nat.le_refl _) (by decide) rfl)).si (zs := [0, -1, 1]))
    have hzW : (w2.alloc (.cells #[iv 0, iv (-1), iv 1] 3)).heap.size = w2.heap.size + 1 := by simp
    have hzd : (w2.alloc (.cells #[iv 0, iv (-1), iv 1] 3)).drew.heap.size = (w2.alloc (.cells #[iv 0, iv (-1), iv 1] 3)).heap.size := rfl
    have HKA := hid (kb_drew hg (HK2.out.alloc hg (.cells #[iv 0, iv (-1), iv 1] 3)))
    have HRA := hid ((HR2.out.alloc (.cells #[iv 0, iv (-1), iv 1] 3)).drew)
    have HXA := hid ((HX2.out.alloc (.cells #[iv 0, iv (-1), iv 1] 3)).drew)
    have HPA := hid ((HP2.out.below (below_alloc w2 (.cells #[iv 0, iv (-1), iv 1] 3)) (by omega)).below (Below.refl (w2.alloc (.cells #[iv 0, iv (-1), iv 1] 3)).heap.size (w2.alloc (.cells #[iv 0, iv (-1), iv 1] 3))).drew (by omega))
    have HSA := hid ((HS2.out.below (below_alloc w2 (.cells #[iv 0, iv (-1), iv 1] 3)) (by omega)).below (Below.refl (w2.alloc (.cells #[iv 0, iv (-1), iv 1] 3)).heap.size (w2.alloc (.cells #[iv 0, iv (-1), iv 1] 3))).drew (by omega))
    have y1 := HX2.out.cell 1 rfl
    have y2 := HX2.out.cell 2 rfl
    have hyl := HX2.out.lt
    go_wp2_with fail
    go_region_with (go_at_call 118; refine (l1Int_any _ HKA.out.1 (HL.out.below (Below.refl _ _).drew (Nat.le_refl _)) (Nat.le_refl _) (by intro b off n c h; simp only [Value.slice.injEq, Option.some.injEq, Addr.mk.injEq] at h; omega) (by decide)).mono ?_; rintro e w4 ⟨z, rfl, -, hc4, hg4⟩; have HK4 := hid (HKA.out.next ⟨hc4, hg4⟩); have HR4 := hid (HRA.out.cur hg4 (by omega)); have HX4 := hid (HXA.out.cur hg4 (by omega)); have HP4 := hid (Own.cur HPA.out hg4 (by omega) (by omega)); have HS4 := hid (Own.cur HSA.out hg4 (by omega) (by omega)); have hz5 := hg4.size; clear hc4 hg4; have x0 := HX4.out.cell 0 rfl; have x1 := HX4.out.cell 1 rfl; have x2 := HX4.out.cell 2 rfl; have fx0 := HX4.out.frozen 0 (by simp); have fx1 := HX4.out.frozen 1 (by simp); have fx2 := HX4.out.frozen 2 (by simp); have r0 := HR4.out.cell 0 rfl; have r1 := HR4.out.cell 1 rfl; have r2 := HR4.out.cell 2 rfl; have fr0 := HR4.out.frozen 0 (by simp); have fr1 := HR4.out.frozen 1 (by simp); have fr2 := HR4.out.frozen 2 (by simp); have hxl := HX4.out.lt; have hrl := HR4.out.lt; obtain ⟨u0, hu0⟩ := ownsRow_cell HS4.out.1 (j := 0) (by omega); have fz0 := HS4.out.1.frozenAt 0; have HSS := hid (HS4.out.1.stored 0 (iv z)).1; have hbl := Nat.lt_of_lt_of_le hbS1 (show w1.heap.size ≤ w4.heap.size by omega))
    all_goals
      clear HX4 HR4 HKA HRA HXA HPA HSA HX2 HR2 HK2 HP2 HS2 HL
      go_wp2
      refine bodyPost_ret (v := .agg #[iv t, .slice (some ⟨bP, 0, none⟩) ps.length qp, .slice (some ⟨bS, 0, none⟩) zs.length qs]) (by simp [results, Try.results137, go_sem, r0, r1, r2]) rfl ⟨_, ps, (zs.set 0 z), _, _, rfl, ?_, ?_, ?_⟩
      · refine ((HP4.out.below ((Below.refl mid w4).setCell (p := ⟨bS, 0, none⟩) hbS0 (iv z)) (Nat.le_refl _)).apart (hi0 := w.heap.size + 1) ?_ (by omega)).mono (by omega) (by simp; omega)
        repeat (first | with_reducible exact Apart.refl _ _ | refine Apart.setCell ?_ (by simp; try omega) _ | with_reducible refine Apart.drew ?_)
      · rw [List.length_set, ← map_set_int]
        refine ((Own.of HSS.out).apart (hi0 := w.heap.size + 1) ?_ (by omega)).mono (by omega) (by simp)
        repeat (first | with_reducible exact Apart.refl _ _ | refine Apart.setCell ?_ (by simp; try omega) _ | with_reducible refine Apart.drew ?_)
      · have h9 := HK4.out
        repeat (first | with_reducible exact h9 | refine Kb.set ?_ hg (by first | exact hle0 | exact hle1 | exact hle2 | exact hle3) _ | with_reducible refine kb_drew hg ?_ | with_reducible refine Kb.alloc ?_ hg _)
  have e2 : (s == 2) = false := by rw [beq_eq_false_iff_ne]; exact h2
  clear h2
  by_cases h3 : s = 3
  · have e3 : (s == 3) = true := by rw [beq_iff_eq]; exact h3
    clear h3
    have hzW : w2.heap.size = w2.heap.size := by simp
    have hzd : w2.drew.heap.size = w2.heap.size := rfl
    have HKA := hid (kb_drew hg HK2.out)
    have HRA := hid (HR2.out.drew)
    have HXA := hid (HX2.out.drew)
    have HPA := hid (HP2.out.below (Below.refl w2.heap.size w2).drew (by omega))
    have HSA := hid (HS2.out.below (Below.refl w2.heap.size w2).drew (by omega))
    have y1 := HX2.out.cell 1 rfl
    have y2 := HX2.out.cell 2 rfl
    have hyl := HX2.out.lt
    go_wp2_with fail
    go_region_with (go_at_call 105; refine (l1Below_any _ _ HKA.out.1).mono ?_; rintro e w4 ⟨r, rfl, ⟨hr0, hr1, -⟩, hc4, hg4⟩; replace hr1 := hr1 (by omega); have hwr : IntKind.i64.wrap (40 + r) = 40 + r := (by rw [IntKind.wrap_i64]; omega); have h40 : 0 ≤ 40 + r := (by omega); have h41 : 40 + r ≤ 41 := (by omega); have HK4 := hid (HKA.out.next ⟨hc4, hg4⟩); have HR4 := hid (HRA.out.cur hg4 (by omega)); have HX4 := hid (HXA.out.cur hg4 (by omega)); have HP4 := hid (Own.cur HPA.out hg4 (by omega) (by omega)); have HS4 := hid (Own.cur HSA.out hg4 (by omega) (by omega)); have hz5 := hg4.size; clear hc4 hg4; have x0 := HX4.out.cell 0 rfl; have x1 := HX4.out.cell 1 rfl; have x2 := HX4.out.cell 2 rfl; have fx0 := HX4.out.frozen 0 (by simp); have fx1 := HX4.out.frozen 1 (by simp); have fx2 := HX4.out.frozen 2 (by simp); have r0 := HR4.out.cell 0 rfl; have r1 := HR4.out.cell 1 rfl; have r2 := HR4.out.cell 2 rfl; have fr0 := HR4.out.frozen 0 (by simp); have fr1 := HR4.out.frozen 1 (by simp); have fr2 := HR4.out.frozen 2 (by simp); have hxl := HX4.out.lt; have hrl := HR4.out.lt; obtain ⟨u0, hu0⟩ := ownsRow_cell HP4.out.1 (j := 0) (by omega); have fz0 := HP4.out.1.frozenAt 0; have HPP := hid (HP4.out.1.stored 0 (.string (ByteArray.extract { data := #[48, 49, 50, 51, 52, 53, 54, 55, 56, 57, 48, 49, 50, 51, 52, 53, 54, 55, 56, 57, 48, 49, 50, 51, 52, 53, 54, 55, 56, 57, 48, 49, 50, 51, 52, 53, 54, 55, 56, 57, 48] } 0 (40 + r).toNat))).1; have hbl := Nat.lt_of_lt_of_le hbP1 (show mid ≤ w4.heap.size by omega))
    all_goals
      clear HX4 HR4 HKA HRA HXA HPA HSA HX2 HR2 HK2 HP2 HS2
      go_wp2
      refine bodyPost_ret (v := .agg #[iv t, .slice (some ⟨bP, 0, none⟩) ps.length qp, .slice (some ⟨bS, 0, none⟩) zs.length qs]) (by simp [results, Try.results137, go_sem, r0, r1, r2]) rfl ⟨_, (ps.set 0 (ByteArray.extract { data := #[48, 49, 50, 51, 52, 53, 54, 55, 56, 57, 48, 49, 50, 51, 52, 53, 54, 55, 56, 57, 48, 49, 50, 51, 52, 53, 54, 55, 56, 57, 48, 49, 50, 51, 52, 53, 54, 55, 56, 57, 48] } 0 (40 + r).toNat)), zs, _, _, rfl, ?_, ?_, ?_⟩
      · rw [List.length_set, ← map_set_str]
        refine ((Own.of HPP.out).apart (hi0 := w.heap.size + 1) ?_ (by omega)).mono (by omega) (by simp)
        repeat (first | with_reducible exact Apart.refl _ _ | refine Apart.setCell ?_ (by simp; try omega) _ | with_reducible refine Apart.drew ?_)
      · refine ((HS4.out.apart (hi0 := mid) ((Apart.refl mid w4).setCell (p := ⟨bP, 0, none⟩) hbP1 (.string (ByteArray.extract { data := #[48, 49, 50, 51, 52, 53, 54, 55, 56, 57, 48, 49, 50, 51, 52, 53, 54, 55, 56, 57, 48, 49, 50, 51, 52, 53, 54, 55, 56, 57, 48, 49, 50, 51, 52, 53, 54, 55, 56, 57, 48] } 0 (40 + r).toNat))) (Nat.le_refl _)).apart (hi0 := w.heap.size + 1) ?_ (by omega)).mono (by omega) (by simp; omega)
        repeat (first | with_reducible exact Apart.refl _ _ | refine Apart.setCell ?_ (by simp; try omega) _ | with_reducible refine Apart.drew ?_)
      · have h9 := HK4.out
        repeat (first | with_reducible exact h9 | refine Kb.set ?_ hg (by first | exact hle0 | exact hle1 | exact hle2 | exact hle3) _ | with_reducible refine kb_drew hg ?_ | with_reducible refine Kb.alloc ?_ hg _)
  have e3 : (s == 3) = false := by rw [beq_eq_false_iff_ne]; exact h3
  clear h3
  have x0 := HX2.out.cell 0 rfl
  have x1 := HX2.out.cell 1 rfl
  have x2 := HX2.out.cell 2 rfl
  have fx0 := HX2.out.frozen 0 (by simp)
  have fx1 := HX2.out.frozen 1 (by simp)
  have fx2 := HX2.out.frozen 2 (by simp)
  have r0 := HR2.out.cell 0 rfl
  have r1 := HR2.out.cell 1 rfl
  have r2 := HR2.out.cell 2 rfl
  have fr0 := HR2.out.frozen 0 (by simp)
  have fr1 := HR2.out.frozen 1 (by simp)
  have fr2 := HR2.out.frozen 2 (by simp)
  have hxl := HX2.out.lt
  have hrl := HR2.out.lt
  clear HX2 HR2
  go_wp2
  refine bodyPost_ret (v := .agg #[iv t, .slice (some ⟨bP, 0, none⟩) ps.length qp, .slice (some ⟨bS, 0, none⟩) zs.length qs]) (by simp [results, Try.results137, go_sem, r0, r1, r2]) rfl ⟨_, ps, zs, _, _, rfl, ?_, ?_, ?_⟩
  · refine (HP2.out.apart (hi0 := w.heap.size + 1) ?_ (by omega)).mono (by omega) (by simp; omega)
    repeat (first | with_reducible exact Apart.refl _ _ | refine Apart.setCell ?_ (by simp; try omega) _ | with_reducible refine Apart.drew ?_)
  · refine (HS2.out.apart (hi0 := w.heap.size + 1) ?_ (by omega)).mono (by omega) (by simp; omega)
    repeat (first | with_reducible exact Apart.refl _ _ | refine Apart.setCell ?_ (by simp; try omega) _ | with_reducible refine Apart.drew ?_)
  · have h9 := HK2.out
    repeat (first | with_reducible exact h9 | refine Kb.set ?_ hg (by first | exact hle0 | exact hle1 | exact hle2 | exact hle3) _ | with_reducible refine kb_drew hg ?_ | with_reducible refine Kb.alloc ?_ hg _)
end Go.Proofs.Ytkdpfbodmfjkkaa
