/- What the law FnSignatures has drawn: what is signed, stamps. Condition: no more than 2^20 bytes. -/
import Derived.Test.YtkdpfbodmfjkkaaRows
import Derived.Test.YtkdpfbodmfjkkaaBase
import Derived.Test.YtkdpfbodmfjkkaaPlain
import Derived.Test.YtkdpfbodmfjkkaaAppend
import Derived.Test.YtkdpfbodmfjkkaaSlices
import Derived.Test.YtkdpfbodmfjkkaaApart
import Derived.Test.YtkdpfbodmfjkkaaDraw
import Derived.Test.YtkdpfbodmfjkkaaDrawSpan
import Derived.Test.YtkdpfbodmfjkkaaDrawAgreed
import Derived.Test.YtkdpfbodmfjkkaaDrawKey
import Derived.Test.YtkdpfbodmfjkkaaStr
import Derived.Test.YtkdpfbodmfjkkaaBlk
import Derived.Test.YtkdpfbodmfjkkaaDoc
import Derived.Test.YtkdpfbodmfjkkaaMakeDoc
import Derived.Test.YtkdpfbodmfjkkaaDrawDoc
import Derived.Test.YtkdpfbodmfjkkaaDrawStamp
import Derived.Test.YtkdpfbodmfjkkaaDrawAnyDoc
namespace Go.Proofs.Ytkdpfbodmfjkkaa
open Go.ChangeShapes Go.WideShapes Go.ChangeAt Go.RowKit Go.Deep

theorem Try.infoStamp0 : (Try.prog.info? 101).map (fun i => (i.zero, i.size, i.bytes)) = some (some (.agg #[iv 0, iv 0, iv 0, iv 0, iv 0]), 5, 40) := by kernel_rfl
def DrewSign (w : World) (e : Ending) (w' : World) : Prop :=
  ∃ (u : Value) (ks : List (List Int)) (k s m t cm : Int) (ps : List ByteArray) (zs : List Int) (P S : Value), e = .returned (.tuple #[u, iv k, iv s, iv m, .agg #[iv t, P, S], iv cm]) ∧ (∀ r ∈ ks, r.length = 5) ∧ ks.length = 10 ∧ Own w' 64 5 u w.heap.size w'.heap.size ks.length (flat ks) ∧ Own w' 9 1 P w.heap.size w'.heap.size ps.length (ps.map Value.string) ∧ Own w' 3 1 S w.heap.size w'.heap.size zs.length (zs.map (Value.int .i64)) ∧ Below w.heap.size w w'
def DrewStamps (w : World) (e : Ending) (w' : World) : Prop :=
  ∃ (u : Value) (ls : List (List Int)) (m : Int), e = .returned (.tuple #[iv m, u]) ∧ (∀ r ∈ ls, r.length = 5) ∧ ls.length ≤ 3 ∧ Own w' 101 5 u w.heap.size w'.heap.size ls.length (flat ls) ∧ Below w.heap.size w w'
set_option maxHeartbeats 4000000 in
theorem DrawStampsDigest_any {n : Nat} {v : Value} (w : World) (hv : Bytes w.heap.size w v n) (hn : n ≤ 1048576) :
    Calls Try.prog 76 #[v] w (DrewStamps w) := by
  go_enter Try.func76, Try.ntmps76
  go_wp2_with fail
  refine (l1New_any _ hv hn).mono ?_
  rintro e w1 ⟨rfl, hc1, hb1⟩
  have HB1 := hid hb1
  have hg := hc1.lt
  have HK1 := hid (Kb.refl hc1)
  obtain ⟨g, hgg⟩ : ∃ g, g = w.heap.size := ⟨_, rfl⟩
  rw [← hgg] at hg HK1 ⊢
  have hgw : w.heap.size ≤ g := by omega
  clear hb1 hc1 hgg
  go_wp2_with fail
  refine (l1Below_any _ _ HK1.out.1).mono ?_
  rintro e w2 ⟨m, rfl, -, hc2, hg2⟩
  have HK2 := hid ((HK1.out.next ⟨hc2, hg2⟩).alloc hg (.cells #[] 101))
  have hz2 := hg2.size
  have HO2 := hid (World.ownsRow_lit (base := w2.heap.size) (e := 101) (size := 5) w2 #[] 0 (Nat.le_refl _) (by decide) rfl)
  have hz3 : (w2.alloc (.cells #[] 101)).heap.size = w2.heap.size + 1 := by simp
  clear hc2 hg2 HK1
  go_wp2_with fail
  generalize w2.alloc (.cells #[] 101) = W2 at HK2 HO2 hz3 ⊢
  refine (l1Below_any _ _ HK2.out.1).mono ?_
  rintro e w3 ⟨r, rfl, ⟨hr0, hr1, -⟩, hc3, hg3⟩
  have HK3 := hid (HK2.out.next ⟨hc3, hg3⟩)
  have hz6 := hg3.size
  have HO3 := hid ((Own.cur (Own.of HO2.out) hg3 (by omega) (Nat.le_refl _)).1)
  replace hr1 := hr1 (by omega)
  obtain ⟨m0, rfl⟩ : ∃ m : Nat, r = m := ⟨r.toNat, by omega⟩
  clear hc3 hg3 HO2 HK2
  go_wp2
  go_loopw [6, 7] (fun l i wr => ∃ (k : Nat) (ls : List (List Int)), i = .int .i64 k ∧ ls.length + k ≤ 3 ∧ (∀ r ∈ ls, r.length = 5) ∧ w2.heap.size ≤ wr.heap.size ∧ wr.ownsRow w2.heap.size 101 5 l ls.length (flat ls) ∧ Kb g w1 wr) (fun _ i _ => (intOf i).toNat)
  case atStart => exact ⟨m0, [], rfl, by simp; omega, fun r hr => (by cases hr), by omega, HO3.out, HK3.out⟩
  case round =>
    obtain ⟨k, ls, rfl, hk9, h2, hzr, how, hk⟩ := hrel
    have HOW := hid how
    have HK := hid hk
    have H2 := hid h2
    clear how hk h2 HO3 HK3
    by_cases hlt : 0 < k
    · have hm1 : (0 : Int) < (k : Int) := by omega
      go_wp2_with fail
      refine (l11Bent_any _ HK.out.1).mono ?_
      rintro e w4 ⟨a0, a1, a2, a3, a4, rfl, -, hk2⟩
      have HO4 := hid ((Own.cur (Own.of HOW.out) hk2.2 (by omega) (Nat.le_refl _)).1)
      have HK4 := hid (HK.out.next hk2)
      have hz4 := hk2.2.size
      clear hk2
      go_wp2_with (first | (at_builtin; refine wpList_append_src _ rfl _ _ 123 rfl w2.heap.size 101 Try.underlying123 Try.infoStamp0 rfl (by decide) _ _ ls.length 1 _ [iv a0, iv a1, iv a2, iv a3, iv a4] rfl rfl (HO4.out.alloc _) (Src.lit (cs := #[iv a0, iv a1, iv a2, iv a3, iv a4]) (m := 1) (size := 5) (heap_new_at w4 _ (by simp)) rfl (by simp [Value.oneCell']) 1) (by unfold maxLen; omega) (by omega) (by simp; omega) ?_; intro v1 w5 hown1 hg1; have HO5 := hid hown1; have hz5 := hg1.size; have HK5 := hid ((HK4.out.alloc hg _).grown hg hg1 (fun k hk => by have := (HO4.out.lt k hk).1; omega)); clear hown1 hg1) | fail)
      go_roundw
      case rel => exact ⟨k - 1, ls ++ [[a0, a1, a2, a3, a4]], by rw [show ((k - 1 : Nat) : Int) = (k : Int) - 1 by omega], by simp; omega, (by intro r hr; rcases List.mem_append.1 hr with h | h; exact H2.out r h; rw [List.mem_singleton.1 h]; rfl), by simp at hz5; omega, by rw [List.length_append, flat_append]; exact HO5.out, HK5.out⟩
      case measure => simp [intOf]; omega
    · obtain rfl : k = 0 := by omega
      go_wp2
      go_ret2
      exact ⟨_, ls, m, rfl, H2.out, by omega, (Own.of HOW.out).mono (by omega) (Nat.le_refl _), kb_below HB1.out hgw hg HK.out⟩
set_option maxRecDepth 16000 in
set_option maxHeartbeats 8000000 in
theorem DrawSignDocument_any {n : Nat} {v : Value} (w : World) (hv : Bytes w.heap.size w v n) (hn : n ≤ 1048576) :
    Calls Try.prog 71 #[v] w (DrewSign w) := by
  have HV := hid ((hv.below (below_alloc w (.cells #[iv 0, .slice none 0 0, .slice none 0 0] 113)) (Nat.le_refl _)).mono (B' := (w.alloc (.cells #[iv 0, .slice none 0 0, .slice none 0 0] 113)).heap.size) (by simp))
  have HX0 := hid (Blk.new w #[iv 0, .slice none 0 0, .slice none 0 0] 113)
  clear hv
  go_enter Try.func71, Try.ntmps71
  go_wp2_with fail
  refine (l1New_any _ HV.out hn).mono ?_
  rintro e w1 ⟨rfl, hc1, hb1⟩
  have HX1 := hid (HX0.out.below hb1)
  have HB1 := hid (below_step (below_alloc w (.cells #[iv 0, .slice none 0 0, .slice none 0 0] 113)) hb1)
  have hg := hc1.lt
  have HK1 := hid (Kb.refl hc1)
  obtain ⟨g, hgg⟩ : ∃ g, g = (w.alloc (.cells #[iv 0, .slice none 0 0, .slice none 0 0] 113)).heap.size := ⟨_, rfl⟩
  rw [← hgg] at hg HK1 ⊢
  have hgw : w.heap.size < g := by rw [hgg]; simp
  clear hb1 hc1 hgg HX0 HV
  go_wp2_with fail
  refine (l8Any_any _ HK1.out.1).mono ?_
  rintro e w2 ⟨u, ks, rfl, h2, hl, ho2, hk2⟩
  have HK2 := hid (HK1.out.next hk2)
  have HX2 := hid (HX1.out.cur hk2.2 (by omega))
  have HO2 := hid ho2
  have H2 := hid h2
  have hz2 := hk2.2.size
  clear ho2 hk2 h2 HX1 HK1
  go_wp2_with fail
  refine (l8Number_any _ HK2.out.1).mono ?_
  rintro e w3 ⟨k, rfl, -, hc3, hg3⟩
  have HK3 := hid ((HK2.out.next ⟨hc3, hg3⟩).alloc hg (.cells #[iv 1, iv 2, iv 0] 3))
  have HX3 := hid ((HX2.out.cur hg3 (by omega)).alloc (.cells #[iv 1, iv 2, iv 0] 3))
  have HO3 := hid ((Own.cur HO2.out hg3 (by omega) (Nat.le_refl _)).below (below_alloc w3 (.cells #[iv 1, iv 2, iv 0] 3)) hg3.size)
  have HL := hid ((Own.of (World.ownsRow_lit (base := w3.heap.size) (e := 3) (size := 1) w3 #[iv 1, iv 2, iv 0] 3 (Nat.le_refl _) (by decide) rfl)).si (zs := [1, 2, 0]))
  have hz3 := hg3.size
  have hz4 : (w3.alloc (.cells #[iv 1, iv 2, iv 0] 3)).heap.size = w3.heap.size + 1 := by simp
  clear hc3 hg3 HX2 HK2 HO2
  go_wp2_with fail
  generalize w3.alloc (.cells #[iv 1, iv 2, iv 0] 3) = W3 at HK3 HX3 HO3 HL hz4 ⊢
  refine (l1Int_any _ HK3.out.1 HL.out (Nat.le_refl _) (by intro b off n c h; simp only [Value.slice.injEq, Option.some.injEq, Addr.mk.injEq] at h; omega) (by decide)).mono ?_
  rintro e w4 ⟨s, rfl, -, hc4, hg4⟩
  have HK4 := hid (HK3.out.next ⟨hc4, hg4⟩)
  have HX4 := hid (HX3.out.cur hg4 (by omega))
  have HO4 := hid (Own.cur HO3.out hg4 (by omega) (by omega))
  have hz5 := hg4.size
  clear hc4 hg4 HX3 HK3 HO3 HL
  go_wp2_with fail
  refine (l1Below_any _ _ HK4.out.1).mono ?_
  rintro e w5 ⟨m, rfl, -, hc5, hg5⟩
  have HK5 := hid (HK4.out.next ⟨hc5, hg5⟩)
  have HX5 := hid (HX4.out.cur hg5 (by omega))
  have HO5 := hid (Own.cur HO4.out hg5 (by omega) (by omega))
  have hz6 := hg5.size
  clear hc5 hg5 HX4 HK4 HO4
  go_wp2_with fail
  refine (l6Any_any _ HK5.out.1).mono ?_
  rintro e w6 ⟨t, ps, zs, P, S, rfl, hp, hs, hk6⟩
  obtain ⟨GP, qp, rfl⟩ := ownsRow_form hp.1
  obtain ⟨GS, qs, rfl⟩ := ownsRow_form hs.1
  have hz7 := hk6.2.size
  have HK6 := hid ((HK5.out.next hk6).alloc hg (.cells #[iv t, .slice GP ps.length qp, .slice GS zs.length qs] 113))
  have HX6 := hid ((HX5.out.cur hk6.2 (by omega)).alloc (.cells #[iv t, .slice GP ps.length qp, .slice GS zs.length qs] 113))
  have HO6 := hid ((Own.cur HO5.out hk6.2 (by omega) (by omega)).below (below_alloc w6 (.cells #[iv t, .slice GP ps.length qp, .slice GS zs.length qs] 113)) (by omega))
  have HP6 := hid (hp.below (below_alloc w6 (.cells #[iv t, .slice GP ps.length qp, .slice GS zs.length qs] 113)) (Nat.le_refl _))
  have HS6 := hid (hs.below (below_alloc w6 (.cells #[iv t, .slice GP ps.length qp, .slice GS zs.length qs] 113)) (Nat.le_refl _))
  have HY6 := hid (Blk.new w6 #[iv t, .slice GP ps.length qp, .slice GS zs.length qs] 113)
  have hz8 : (w6.alloc (.cells #[iv t, .slice GP ps.length qp, .slice GS zs.length qs] 113)).heap.size = w6.heap.size + 1 := by simp
  clear hp hs hk6 HX5 HK5 HO5
  go_wp2_with fail
  generalize w6.alloc (.cells #[iv t, .slice GP ps.length qp, .slice GS zs.length qs] 113) = W6 at HK6 HX6 HO6 HP6 HS6 HY6 hz8 ⊢
  have y0 := HY6.out.cell 0 rfl
  have y1 := HY6.out.cell 1 rfl
  have y2 := HY6.out.cell 2 rfl
  have hyl := HY6.out.lt
  have HKd := hid (HK6.out.via (b := W6.drew) hg (Below.refl _ _).drew)
  go_region_with (go_at_call 105; refine (l1Below_any _ _ HKd.out.1).mono ?_; rintro e w7 ⟨cm, rfl, -, hc7, hg7⟩; have HK7 := hid (HKd.out.next ⟨hc7, hg7⟩); have HX7 := hid (HX6.out.drew.cur hg7 (by omega)); have HY7 := hid (HY6.out.drew.cur hg7 (by omega)); have HO7 := hid (Own.cur (HO6.out.below (Below.refl W6.heap.size W6).drew (by omega)) hg7 (by omega) (show _ ≤ W6.heap.size by omega)); have HP7 := hid (Own.cur (HP6.out.below (Below.refl W6.heap.size W6).drew (by omega)) hg7 (by omega) (show _ ≤ W6.heap.size by omega)); have HS7 := hid (Own.cur (HS6.out.below (Below.refl W6.heap.size W6).drew (by omega)) hg7 (by omega) (show _ ≤ W6.heap.size by omega)); have hz9 : W6.heap.size ≤ w7.heap.size := hg7.size; clear hc7 hg7; have x0 := HX7.out.cell 0 rfl; have x1 := HX7.out.cell 1 rfl; have x2 := HX7.out.cell 2 rfl; have fx0 := HX7.out.frozen 0 (by simp); have fx1 := HX7.out.frozen 1 (by simp); have fx2 := HX7.out.frozen 2 (by simp); have v0 := HY7.out.cell 0 rfl; have v1 := HY7.out.cell 1 rfl; have v2 := HY7.out.cell 2 rfl; have hxl := HX7.out.lt; have hvl := HY7.out.lt)
  all_goals
    clear HX7 HY7 HKd HK6 HX6 HY6 HO6 HP6 HS6 y0 y1 y2
    go_wp2
    refine bodyPost_ret (v := .tuple #[u, iv k, iv s, iv m, .agg #[iv t, .slice GP ps.length qp, .slice GS zs.length qs], iv cm]) (by simp [results, Try.results71, go_sem, x0, x1, x2]) rfl ⟨_, ks, _, _, _, _, _, ps, zs, _, _, rfl, H2.out, hl, ?_, ?_, ?_, ?_⟩
    · refine (HO7.out.apart (hi0 := w.heap.size + 1) ?_ (by omega)).mono (by omega) (by simp; omega)
      repeat (first | with_reducible exact Apart.refl _ _ | refine Apart.setCell ?_ (by simp) _)
    · refine (HP7.out.apart (hi0 := w.heap.size + 1) ?_ (by omega)).mono (by omega) (by simp; omega)
      repeat (first | with_reducible exact Apart.refl _ _ | refine Apart.setCell ?_ (by simp) _)
    · refine (HS7.out.apart (hi0 := w.heap.size + 1) ?_ (by omega)).mono (by omega) (by simp; omega)
      repeat (first | with_reducible exact Apart.refl _ _ | refine Apart.setCell ?_ (by simp) _)
    · have h9 := kb_below HB1.out (Nat.le_of_lt hgw) hg HK7.out
      repeat (first | with_reducible exact h9 | refine Below.setCell ?_ (by simp) _)
end Go.Proofs.Ytkdpfbodmfjkkaa
