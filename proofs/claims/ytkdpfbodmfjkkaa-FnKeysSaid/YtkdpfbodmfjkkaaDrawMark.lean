/- What the reference draws for marks: numbers to digest, keys with a number, a key. Condition: no more than 2^20 bytes. -/
import Derived.Test.YtkdpfbodmfjkkaaRows
import Derived.Test.YtkdpfbodmfjkkaaBase
import Derived.Test.YtkdpfbodmfjkkaaPlain
import Derived.Test.YtkdpfbodmfjkkaaAppend
import Derived.Test.YtkdpfbodmfjkkaaSlices
import Derived.Test.YtkdpfbodmfjkkaaApart
import Derived.Test.YtkdpfbodmfjkkaaCol
import Derived.Test.YtkdpfbodmfjkkaaDraw
import Derived.Test.YtkdpfbodmfjkkaaDrawSpan
import Derived.Test.YtkdpfbodmfjkkaaDrawAgreed
import Derived.Test.YtkdpfbodmfjkkaaDrawKey
import Derived.Test.YtkdpfbodmfjkkaaBlk
import Derived.Test.YtkdpfbodmfjkkaaFindKey
import Derived.Test.YtkdpfbodmfjkkaaCrypto
namespace Go.Proofs.Ytkdpfbodmfjkkaa
open Go.ChangeShapes Go.WideShapes Go.ChangeAt Go.RowKit Go.Deep

/-- Some small numbers. -/
def Small (zs : List Int) : Prop := zs.length ≤ 3 ∧ ∀ z ∈ zs, 0 ≤ z ∧ z ≤ 8
def DrewInts (w : World) (e : Ending) (w' : World) : Prop :=
  ∃ (m : Int) (u : Value) (zs : List Int), e = .returned (.tuple #[iv m, u]) ∧ Small zs ∧ Own w' 3 1 u w.heap.size w'.heap.size zs.length (zs.map (Value.int .i64)) ∧ Below w.heap.size w w'
def DrewMarked (w : World) (e : Ending) (w' : World) : Prop :=
  ∃ (u : Value) (ks : List (List Int)) (m : Int) (x : Value) (zs : List Int) (mark : Int), e = .returned (.tuple #[u, iv m, x, iv mark]) ∧ (∀ r ∈ ks, r.length = 5) ∧ ks.length = 10 ∧ Small zs ∧ Own w' 64 5 u w.heap.size w'.heap.size ks.length (flat ks) ∧ Own w' 3 1 x w.heap.size w'.heap.size zs.length (zs.map (Value.int .i64)) ∧ Below w.heap.size w w'
def DrewKeyInts (w : World) (e : Ending) (w' : World) : Prop :=
  ∃ (a0 a1 a2 a3 a4 : Int) (u : Value) (zs : List Int), e = .returned (.tuple #[.agg #[iv a0, iv a1, iv a2, iv a3, iv a4], u]) ∧ Small zs ∧ Own w' 3 1 u w.heap.size w'.heap.size zs.length (zs.map (Value.int .i64)) ∧ Below w.heap.size w w'
set_option maxRecDepth 8000 in
set_option maxHeartbeats 4000000 in
theorem DrawDigestOf_any {n : Nat} {v : Value} (w : World) (hv : Bytes w.heap.size w v n) (hn : n ≤ 1048576) :
    Calls Try.prog 111 #[v] w (DrewInts w) := by
  go_enter Try.func111, Try.ntmps111
  go_wp2_with fail
  refine (l1New_any _ hv hn).mono ?_
  rintro e w1 ⟨rfl, hc1, hb1⟩
  have HB1 := hid hb1
  have hg := hc1.lt
  have HK1 := hid (Kb.refl hc1)
  obtain ⟨g, hgg⟩ : ∃ g, g = w.heap.size := ⟨_, rfl⟩
  rw [← hgg] at hg HK1 ⊢
  have hgw : w.heap.size ≤ g := by rw [hgg]; simp
  clear hb1 hc1 hgg
  go_wp2_with fail
  refine (l1Below_any _ _ HK1.out.1).mono ?_
  rintro e w2 ⟨m, rfl, -, hc2, hg2⟩
  have HK2 := hid ((HK1.out.next ⟨hc2, hg2⟩).alloc hg (.cells #[] 3))
  have HO2 := hid (World.ownsRow_lit (base := w2.heap.size) (e := 3) (size := 1) w2 #[] 0 (Nat.le_refl _) (by decide) rfl)
  have hz2 : w1.heap.size ≤ w2.heap.size := hg2.size
  clear hc2 hg2
  go_wp2_with fail
  refine (l1Below_any _ _ HK2.out.1).mono ?_
  rintro e w3 ⟨r, rfl, ⟨hr0, hr1, -⟩, hc3, hg3⟩
  have HK3 := hid (HK2.out.next ⟨hc3, hg3⟩)
  have HO3 := hid ((Own.cur (Own.of HO2.out) hg3 (by omega) (Nat.le_refl _)).1)
  replace hr1 := hr1 (by omega)
  obtain ⟨m0, rfl⟩ : ∃ m : Nat, r = m := ⟨r.toNat, by omega⟩
  have hz3 : w2.heap.size ≤ w3.heap.size := by have := hg3.size; simp at this; omega
  clear hc3 hg3 HO2 HK2
  go_wp2
  go_loopw [6, 7] (fun l i wr => ∃ (k : Nat) (zs : List Int), i = .int .i64 k ∧ zs.length + k ≤ 3 ∧ (∀ z ∈ zs, 0 ≤ z ∧ z ≤ 8) ∧ wr.ownsRow w2.heap.size 3 1 l zs.length (zs.map (Value.int .i64)) ∧ w2.heap.size ≤ wr.heap.size ∧ Kb g w1 wr) (fun _ i _ => (intOf i).toNat)
  case atStart => exact ⟨m0, [], rfl, by simp; omega, fun r hr => (by cases hr), HO3.out, hz3, HK3.out⟩
  case round =>
    obtain ⟨k, zs, rfl, hm, h2, how, hzr, hk⟩ := hrel
    have HOW := hid how
    have HK := hid hk
    have H2 := hid h2
    clear how hk h2
    by_cases hlt : 0 < k
    · have hm1 : (0 : Int) < (k : Int) := by omega
      go_wp2_with fail
      refine (l1Below_any _ _ HK.out.1).mono ?_
      rintro e w4 ⟨z, rfl, ⟨hz0, hz1, -⟩, hc4, hg4⟩
      replace hz1 := hz1 (by omega)
      have HO4 := hid ((Own.cur (Own.of HOW.out) hg4 (by omega) (Nat.le_refl _)).1)
      have HK4 := hid (HK.out.next ⟨hc4, hg4⟩)
      have hz4 : w2.heap.size ≤ w4.heap.size := Nat.le_trans hzr hg4.size
      have hz4A : w2.heap.size ≤ (w4.alloc (.cells #[iv z] 3)).heap.size := by simp; omega
      clear hc4 hg4
      go_wp2_with (first | (at_builtin; refine wpList_append_src _ rfl _ _ 23 rfl w2.heap.size 3 Try.underlying23 Try.infoI rfl (by decide) _ _ zs.length 1 _ [iv z] rfl rfl (HO4.out.alloc _) (Src.lit (cs := #[iv z]) (m := 1) (size := 1) (heap_new_at w4 _ (by simp)) rfl (by simp [Value.oneCell']) 1) (by unfold maxLen; omega) (by omega) hz4A ?_; intro v1 w5 hown1 hg1; have HO5 := hid hown1; have hz5 := Nat.le_trans hz4A hg1.size; have HK5 := hid ((HK4.out.alloc hg _).grown hg hg1 (fun k hk => Nat.le_trans hz2 (HO4.out.lt k hk).1)); clear hown1 hg1) | fail)
      go_roundw
      case rel => exact ⟨k - 1, zs ++ [z], by rw [show ((k - 1 : Nat) : Int) = (k : Int) - 1 by omega], by simp; omega, (by intro r hr; rcases List.mem_append.1 hr with h | h; exact H2.out r h; simp at h; subst h; omega), by rw [List.length_append, List.map_append]; exact HO5.out, hz5, HK5.out⟩
      case measure => simp [intOf]; omega
    · obtain rfl : k = 0 := by omega
      go_wp2
      go_ret2
      exact ⟨_, _, zs, rfl, ⟨by omega, H2.out⟩, (Own.of HOW.out).mono (by omega) (Nat.le_refl _), kb_below HB1.out hgw hg HK.out⟩
set_option maxHeartbeats 8000000 in
theorem DrawCheckMark_any {n : Nat} {v : Value} (w : World) (hv : Bytes w.heap.size w v n) (hn : n ≤ 1048576) :
    Calls Try.prog 36 #[v] w (DrewMarked w) := by
  have HV := hid hv
  go_enter Try.func36, Try.ntmps36
  go_wp2_with fail
  refine (l1New_any _ hv hn).mono ?_
  rintro e w1 ⟨rfl, hc1, hb1⟩
  have HB1 := hid hb1
  have hg := hc1.lt
  have HK1 := hid (Kb.refl hc1)
  obtain ⟨g, hgg⟩ : ∃ g, g = w.heap.size := ⟨_, rfl⟩
  rw [← hgg] at hg HK1 ⊢
  have hgw : w.heap.size ≤ g := by rw [hgg]; simp
  clear hb1 hc1 hgg hv
  go_wp2_with fail
  refine (l8Any_any _ HK1.out.1).mono ?_
  rintro e w2 ⟨u, ks, rfl, h2, hl, ho2, hk2⟩
  have HK2 := hid (HK1.out.next hk2)
  have HO2 := hid ho2.1
  have H2 := hid h2
  clear ho2 hk2 h2
  go_wp2_with fail
  refine (l8Number_any _ HK2.out.1).mono ?_
  rintro e w3 ⟨m, rfl, -, hc3, hg3⟩
  have HK3 := hid (HK2.out.next ⟨hc3, hg3⟩)
  have HO3 := hid (Own.cur (Own.of HO2.out) hg3 hg (Nat.le_refl _))
  have hz3 := hg3.size
  have hz13 := HK3.out.2.size
  clear hc3 hg3 HO2 HK2
  have HB3 := hid (kb_below HB1.out hgw hg HK3.out)
  go_wp2_with fail
  refine (DrawDigestOf_any _ ((HV.out.below HB3.out (Nat.le_refl _)).mono HB3.out.size) hn).mono ?_
  rintro e w4 ⟨m4, x, zs, rfl, hs4, hx4, hb4⟩
  have HS := hid hs4
  have hs4' : zs.length ≤ 3 := hs4.1
  have HX4 := hid hx4
  have HO4 := hid (HO3.out.below hb4 hz3)
  have HK4 := hid (HK3.out.via hg (hb4.mono (HK3.out.2.size)))
  have HB4 := hid (below_step HB3.out hb4)
  have hz4 := hb4.size
  have HS4 := hid ((HO4.out).sl H2.out)
  have HZ4 := hid (hx4.si)
  clear hs4 hx4 hb4
  go_wp2_with fail
  refine (specFindKey_any _ _ HS4.out (by omega)).mono ?_
  rintro e w5 ⟨rfl, hb5⟩
  have HX5 := hid (HX4.out.below hb5 (Nat.le_refl _))
  have HO5 := hid (HO4.out.below hb5 (by omega))
  have HK5 := hid (HK4.out.via hg (hb5.mono HK4.out.2.size))
  have hz5 := hb5.size
  have HS5 := hid (HS4.out.below hb5 (by omega))
  have HZ5 := hid (HZ4.out.below hb5 (Nat.le_refl _))
  have HB5 := hid (below_step HB4.out hb5)
  clear hb5 HX4 HO4 HO3 HK4 HK3
  rcases findI_range 0 m ks with hf | ⟨k, hk, hf, -⟩
  · rw [hf]
    go_wp2_with fail
    refine (l1Below_any _ _ HK5.out.1).mono ?_
    rintro e w6 ⟨r, rfl, -, hc6, hg6⟩
    have HX6 := hid (Own.cur HX5.out hg6 (by omega) (by omega))
    have HO6 := hid (Own.cur HO5.out hg6 hg (by omega))
    have HK6 := hid (HK5.out.next ⟨hc6, hg6⟩)
    have hz6 := hg6.size
    clear hc6 hg6
    go_wp2
    refine bodyPost_ret (v := .tuple #[u, iv m, x, iv r]) (by simp [results, Try.results36, go_sem]) rfl ?_
    exact ⟨_, ks, _, _, zs, _, rfl, H2.out, hl, HS.out, HO6.out.mono (by omega) (by omega), HX6.out.mono (by omega) (by omega), kb_below HB1.out hgw hg HK6.out⟩
  rw [hf]
  have hi0 : (0 : Int) ≤ (k : Int) := Int.natCast_nonneg _
  have hin : decide ((k : Int) < 0) = false := by simp
  go_wp2_with fail
  refine (l1Once_any _ _ HK5.out.1).mono ?_
  rintro e w6 ⟨b, rfl, hc6, hg6⟩
  have HX6 := hid (Own.cur HX5.out hg6 (by omega) (by omega))
  have HO6 := hid (Own.cur HO5.out hg6 hg (by omega))
  have HK6 := hid (HK5.out.next ⟨hc6, hg6⟩)
  have hz6 := hg6.size
  clear hc6 hg6
  cases b
  · skip
    have HS6 := hid (HO6.out.sl H2.out)
    have HZ6 := hid (HX6.out.si)
    obtain ⟨A, c, rfl, hd1, hd2, -, hcell⟩ := id HS6.out
    obtain ⟨b, off, rfl, hbB, hcc⟩ := hcell (by omega)
    have c0 := hcc k 0 hk (by omega)
    have c1 := hcc k 1 hk (by omega)
    have c2 := hcc k 2 hk (by omega)
    have c3 := hcc k 3 hk (by omega)
    have c4 := hcc k 4 hk (by omega)
    rw [Nat.add_zero] at c0
    have hi1 : (k : Int) < (ks.length : Int) := by omega
    clear hcc hcell
    go_wp2_with fail
    refine (specMarkWith_any _ _ _ _ _ _ HZ6.out (by omega) (by omega)).mono ?_
    rintro e w7 ⟨rfl, hb7⟩
    have HX7 := hid (HX6.out.below hb7 (by omega))
    have HO7 := hid (HO6.out.below hb7 (by omega))
    have HB7 := hid (below_step (kb_below HB1.out hgw hg HK6.out) hb7)
    have hz7 := hb7.size
    clear hb7
    go_wp2
    refine bodyPost_ret (v := .tuple #[.slice (some ⟨b, off, none⟩) ks.length c, iv m, x, iv (markW (fld ks k 2) (fld ks k 4) zs)]) (by simp [results, Try.results36, go_sem, hl]) rfl ?_
    exact ⟨_, ks, _, _, zs, _, rfl, H2.out, hl, HS.out, HO7.out.mono (by omega) (by omega), HX7.out.mono (by omega) (by omega), HB7.out⟩
  · skip
    go_wp2_with fail
    refine (l1Below_any _ _ HK6.out.1).mono ?_
    rintro e w7 ⟨r, rfl, -, hc7, hg7⟩
    have HX7 := hid (Own.cur HX6.out hg7 (by omega) (by omega))
    have HO7 := hid (Own.cur HO6.out hg7 hg (by omega))
    have HK7 := hid (HK6.out.next ⟨hc7, hg7⟩)
    have hz7 := hg7.size
    clear hc7 hg7
    go_wp2
    refine bodyPost_ret (v := .tuple #[u, iv m, x, iv r]) (by simp [results, Try.results36, go_sem]) rfl ?_
    exact ⟨_, ks, _, _, zs, _, rfl, H2.out, hl, HS.out, HO7.out.mono (by omega) (by omega), HX7.out.mono (by omega) (by omega), kb_below HB1.out hgw hg HK7.out⟩
def DrewFive (w : World) (e : Ending) (w' : World) : Prop := ∃ (a0 a1 a2 a3 a4 : Int), e = .returned (.agg #[iv a0, iv a1, iv a2, iv a3, iv a4]) ∧ Below w.heap.size w w'
set_option maxHeartbeats 4000000 in
theorem DrawIsKey_any {n : Nat} {v : Value} (w : World) (hv : Bytes w.heap.size w v n) (hn : n ≤ 1048576) :
    Calls Try.prog 116 #[v] w (DrewFive w) := by
  have HV := hid ((hv.below (below_alloc w (.cells #[iv 0, iv 0, iv 0, iv 0, iv 0] 64)) (Nat.le_refl _)).mono (B' := (w.alloc (.cells #[iv 0, iv 0, iv 0, iv 0, iv 0] 64)).heap.size) (by simp))
  have HX0 := hid (Blk.new w #[iv 0, iv 0, iv 0, iv 0, iv 0] 64)
  clear hv
  go_enter Try.func116, Try.ntmps116
  go_wp2_with fail
  refine (l1New_any _ HV.out hn).mono ?_
  rintro e w1 ⟨rfl, hc1, hb1⟩
  have HX1 := hid (HX0.out.below hb1)
  have HB1 := hid (below_step (below_alloc w (.cells #[iv 0, iv 0, iv 0, iv 0, iv 0] 64)) hb1)
  have hg := hc1.lt
  have HK1 := hid (Kb.refl hc1)
  obtain ⟨g, hgg⟩ : ∃ g, g = (w.alloc (.cells #[iv 0, iv 0, iv 0, iv 0, iv 0] 64)).heap.size := ⟨_, rfl⟩
  rw [← hgg] at hg HK1 ⊢
  have hgw : w.heap.size < g := by rw [hgg]; simp
  clear hb1 hc1 hgg
  go_wp2_with fail
  refine (l8Any_any _ HK1.out.1).mono ?_
  rintro e w2 ⟨u, ks, rfl, h2, hl, ho2, hk2⟩
  have HK2 := hid (HK1.out.next hk2)
  have HX2 := hid (HX1.out.cur hk2.2 (by omega))
  have HO2 := hid ho2.1
  have H2 := hid h2
  clear ho2 hk2 h2
  obtain ⟨A, c, rfl⟩ := ownsRow_form HO2.out
  go_wp2_with fail
  refine (l1Below_any _ _ HK2.out.1).mono ?_
  rintro e w3 ⟨r, rfl, ⟨hr0, hr1, -⟩, hc3, hg3⟩
  replace hr1 := hr1 (by omega)
  obtain ⟨k, rfl⟩ : ∃ k : Nat, r = k := ⟨r.toNat, by omega⟩
  have HK3 := hid (HK2.out.next ⟨hc3, hg3⟩)
  have HS3 := hid ((Own.cur (Own.of HO2.out) hg3 hg (Nat.le_refl _)).sl H2.out)
  have HX3 := hid (HX2.out.cur hg3 (by omega))
  have hz3 := hg3.size
  clear hc3 hg3
  obtain ⟨A', c', hv', hd1, hd2, -, hcell⟩ := id HS3.out
  obtain ⟨b, off, hA', hbB, hcc⟩ := hcell (by omega)
  simp only [Value.slice.injEq] at hv'
  obtain ⟨rfl, -, rfl⟩ := hv'
  subst hA'
  have hk : k < ks.length := by omega
  have hi1 : (k : Int) < (ks.length : Int) := by omega
  have c0 := hcc k 0 hk (by omega)
  have c1 := hcc k 1 hk (by omega)
  have c2 := hcc k 2 hk (by omega)
  have c3 := hcc k 3 hk (by omega)
  have c4 := hcc k 4 hk (by omega)
  rw [Nat.add_zero] at c0
  have r0 := HX3.out.cell 0 rfl
  have r1 := HX3.out.cell 1 rfl
  have r2 := HX3.out.cell 2 rfl
  have r3 := HX3.out.cell 3 rfl
  have r4 := HX3.out.cell 4 rfl
  have q0 := HX3.out.frozen 0 (by simp)
  have q1 := HX3.out.frozen 1 (by simp)
  have q2 := HX3.out.frozen 2 (by simp)
  have q3 := HX3.out.frozen 3 (by simp)
  have q4 := HX3.out.frozen 4 (by simp)
  clear hcc hcell
  go_wp2
  refine bodyPost_ret (v := .agg #[iv (fld ks k 0), iv (fld ks k 1), iv (fld ks k 2), iv (fld ks k 3), iv (fld ks k 4)]) (by simp [results, Try.results116, go_sem, r0, r1, r2, r3, r4]) rfl ⟨_, _, _, _, _, rfl, ?_⟩
  have h9 := kb_below HB1.out (Nat.le_of_lt hgw) hg HK3.out
  repeat (first | with_reducible exact h9 | refine Below.setCell ?_ (by simp) _)
set_option maxHeartbeats 4000000 in
theorem DrawMarkWith_any {n : Nat} {v : Value} (w : World) (hv : Bytes w.heap.size w v n) (hn : n ≤ 1048576) :
    Calls Try.prog 41 #[v] w (DrewKeyInts w) := by
  have HV := hid ((hv.below (below_alloc w (.cells #[iv 0, iv 0, iv 0, iv 0, iv 0] 64)) (Nat.le_refl _)).mono (B' := (w.alloc (.cells #[iv 0, iv 0, iv 0, iv 0, iv 0] 64)).heap.size) (by simp))
  have HX0 := hid (Blk.new w #[iv 0, iv 0, iv 0, iv 0, iv 0] 64)
  clear hv
  go_enter Try.func41, Try.ntmps41
  go_wp2_with fail
  refine (DrawDigestOf_any _ HV.out hn).mono ?_
  rintro e w1 ⟨m, u, zs, rfl, hs, hu, hb1⟩
  have HX1 := hid (HX0.out.below hb1)
  have HB1 := hid (below_step (below_alloc w (.cells #[iv 0, iv 0, iv 0, iv 0, iv 0] 64)) hb1)
  have HV1 := hid ((HV.out.below hb1 (Nat.le_refl _)).mono hb1.size)
  have HU := hid hu
  have HS := hid hs
  clear hb1 hu hs
  go_wp2_with fail
  refine (DrawIsKey_any _ HV1.out hn).mono ?_
  rintro e w2 ⟨a0, a1, a2, a3, a4, rfl, hb2⟩
  have HX2 := hid (HX1.out.below hb2)
  have HB2 := hid (below_step HB1.out hb2)
  have HU2 := hid (HU.out.below hb2 (Nat.le_refl _))
  have hz2 := hb2.size
  clear hb2
  have r0 := HX2.out.cell 0 rfl
  have r1 := HX2.out.cell 1 rfl
  have r2 := HX2.out.cell 2 rfl
  have r3 := HX2.out.cell 3 rfl
  have r4 := HX2.out.cell 4 rfl
  have q0 := HX2.out.frozen 0 (by simp)
  have q1 := HX2.out.frozen 1 (by simp)
  have q2 := HX2.out.frozen 2 (by simp)
  have q3 := HX2.out.frozen 3 (by simp)
  have q4 := HX2.out.frozen 4 (by simp)
  go_wp2
  refine bodyPost_ret (v := .tuple #[.agg #[iv a0, iv a1, iv a2, iv a3, iv a4], u]) (by simp [results, Try.results41, go_sem, r0, r1, r2, r3, r4]) rfl ⟨_, _, _, _, _, u, zs, rfl, HS.out, ?_, ?_⟩
  · refine (HU2.out.apart (hi0 := w.heap.size + 1) ?_ (by simp)).mono (by simp) (by simpa using hz2)
    repeat (first | with_reducible exact Apart.refl _ _ | refine Apart.setCell ?_ (by simp) _)
  · have h9 := HB2.out
    repeat (first | with_reducible exact h9 | refine Below.setCell ?_ (by simp) _)
def DrewKeysInt (w : World) (e : Ending) (w' : World) : Prop :=
  ∃ (u : Value) (ks : List (List Int)) (m : Int), e = .returned (.tuple #[u, iv m]) ∧ (∀ r ∈ ks, r.length = 5) ∧ ks.length = 10 ∧ Own w' 64 5 u w.heap.size w'.heap.size ks.length (flat ks) ∧ Below w.heap.size w w'
set_option maxHeartbeats 4000000 in
theorem DrawKeysOf_any {n : Nat} {v : Value} (w : World) (hv : Bytes w.heap.size w v n) (hn : n ≤ 1048576) :
    Calls Try.prog 43 #[v] w (DrewKeysInt w) := by
  go_enter Try.func43, Try.ntmps43
  go_wp2_with fail
  refine (l1New_any _ hv hn).mono ?_
  rintro e w1 ⟨rfl, hc1, hb1⟩
  have HB1 := hid hb1
  have hg := hc1.lt
  have HK1 := hid (Kb.refl hc1)
  obtain ⟨g, hgg⟩ : ∃ g, g = w.heap.size := ⟨_, rfl⟩
  rw [← hgg] at hg HK1 ⊢
  have hgw : w.heap.size ≤ g := by rw [hgg]; simp
  clear hb1 hc1 hgg hv
  go_wp2_with fail
  refine (l8Any_any _ HK1.out.1).mono ?_
  rintro e w2 ⟨u, ks, rfl, h2, hl, ho2, hk2⟩
  have HK2 := hid ((HK1.out.next hk2).alloc hg (.cells #[iv 1, iv 2, iv 90, iv 50, iv 81, iv 7] 3))
  have HO2 := hid (ho2.below (below_alloc w2 (.cells #[iv 1, iv 2, iv 90, iv 50, iv 81, iv 7] 3)) (Nat.le_refl _))
  have HL := hid ((Own.of (World.ownsRow_lit (base := w2.heap.size) (e := 3) (size := 1) w2 #[iv 1, iv 2, iv 90, iv 50, iv 81, iv 7] 6 (Nat.le_refl _) (by decide) rfl)).si (zs := [1, 2, 90, 50, 81, 7]))
  have H2 := hid h2
  have hz2 := hk2.2.size
  clear ho2 hk2 h2
  go_wp2_with fail
  refine (l1Int_any _ HK2.out.1 HL.out (Nat.le_refl _) (by intro b off n c h; simp only [Value.slice.injEq, Option.some.injEq, Addr.mk.injEq] at h; omega) (by decide)).mono ?_
  rintro e w3 ⟨m, rfl, -, hc3, hg3⟩
  have HK3 := hid (HK2.out.next ⟨hc3, hg3⟩)
  have HO3 := hid (Own.cur HO2.out hg3 hg (by simp))
  have hz3 := hg3.size
  simp at hz3
  clear hc3 hg3
  go_wp2
  go_ret2
  exact ⟨_, ks, _, rfl, H2.out, hl, HO3.out.mono (by omega) (by omega), kb_below HB1.out hgw hg HK3.out⟩
end Go.Proofs.Ytkdpfbodmfjkkaa
