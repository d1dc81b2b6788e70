/- What the reference draws for a rule: keys, a rule, signatures and a digest. Condition: no more than 2^20 bytes. -/
import Derived.Test.YtkdpfbodmfjkkaaRows
import Derived.Test.YtkdpfbodmfjkkaaBase
import Derived.Test.YtkdpfbodmfjkkaaPlain
import Derived.Test.YtkdpfbodmfjkkaaAppend
import Derived.Test.YtkdpfbodmfjkkaaSlices
import Derived.Test.YtkdpfbodmfjkkaaApart
import Derived.Test.YtkdpfbodmfjkkaaDraw
import Derived.Test.YtkdpfbodmfjkkaaDrawSpan
import Derived.Test.YtkdpfbodmfjkkaaDrawAgreed
import Derived.Test.YtkdpfbodmfjkkaaDrawKey
import Derived.Test.YtkdpfbodmfjkkaaStr
import Derived.Test.YtkdpfbodmfjkkaaBlk
import Derived.Test.YtkdpfbodmfjkkaaDoc
import Derived.Test.YtkdpfbodmfjkkaaMakeDoc
import Derived.Test.YtkdpfbodmfjkkaaDrawDoc
import Derived.Test.YtkdpfbodmfjkkaaMakeSignature
import Derived.Test.YtkdpfbodmfjkkaaSignDoc
import Derived.Test.YtkdpfbodmfjkkaaBeforeFor
namespace Go.Proofs.Ytkdpfbodmfjkkaa
open Go.ChangeShapes Go.WideShapes Go.ChangeAt Go.RowKit Go.Deep

theorem Try.infoSig0 : (Try.prog.info? 117).map (fun i => (i.zero, i.size, i.bytes)) = some (some (.agg #[iv 0, iv 0, iv 0, iv 0, iv 0, iv 0, iv 0, iv 0, iv 0]), 9, 72) := by kernel_rfl
/-- What stands from the end of the choice on: the cursor, the result's box, the rule's box and its owners, the keys. -/
def St14 (g : Nat) (w : World) (bR : Nat) (KV : Value) (A : Option Addr) (qo : Nat) (os : List Int) (q : Bool) (lim : Nat) (W : World) : Prop :=
  Kb g w W ∧ Blk w.heap.size W [.slice none 0 0, .bool false] ∧ Blk bR W [.slice A os.length qo, .bool q] ∧ Own W 3 1 (.slice A os.length qo) (w.heap.size + 1) lim os.length (os.map (Value.int .i64)) ∧ Own W 64 5 KV (w.heap.size + 1) lim 10 (flat keys10) ∧ w.heap.size < bR ∧ bR < lim ∧ lim ≤ W.heap.size
section
variable {g : Nat} {w : World} {bR : Nat} {KV : Value} {A : Option Addr} {qo : Nat} {os : List Int} {q : Bool} {lim : Nat} {W W' : World}
theorem blk_below {b l : Nat} {a a' : World} {cs : List Value} (h : Blk b a cs) (hb : Below l a a') (hl : b < l) : Blk b a' cs := by
  obtain ⟨hc, hf⟩ := bcell hb
  exact ⟨Nat.lt_of_lt_of_le h.1 hb.size, fun j u hu => (hc _ _ hl).trans (h.2.1 j u hu), fun j hj => (hf _ _ hl).trans (h.2.2 j hj)⟩
theorem St14.below (h : St14 g w bR KV A qo os q lim W) (hg : g < w.heap.size) (hb : Below lim W W') : St14 g w bR KV A qo os q lim W' := by
  obtain ⟨h1, h2, h3, h4, h5, h6, h7, h8⟩ := h
  exact ⟨h1.via hg (hb.mono (by omega)), blk_below h2 hb (by omega), blk_below h3 hb h7, h4.below hb (Nat.le_refl _), h5.below hb (Nat.le_refl _), h6, h7, Nat.le_trans h8 hb.size⟩
theorem St14.cur (h : St14 g w bR KV A qo os q lim W) (hg : g < w.heap.size) (hk : Kb g W W') : St14 g w bR KV A qo os q lim W' := by
  obtain ⟨h1, h2, h3, h4, h5, h6, h7, h8⟩ := h
  exact ⟨h1.next hk, h2.cur hk.2 (by omega), h3.cur hk.2 (by omega), Own.cur h4 hk.2 (by omega) h8, Own.cur h5 hk.2 (by omega) h8, h6, h7, Nat.le_trans h8 hk.2.size⟩
theorem St14.keys (h : St14 g w bR KV A qo os q lim W) : Sl W.heap.size W 5 KV keys10 := (Own.sl (ks := keys10) h.2.2.2.2.1 keys10_len).mono h.2.2.2.2.2.2.2
theorem St14.owners (h : St14 g w bR KV A qo os q lim W) : Si W.heap.size W (.slice A os.length qo) os := (Own.si h.2.2.2.1).mono h.2.2.2.2.2.2.2
theorem St14.fit (h : St14 g w bR KV A qo os q lim W) : w.heap.size < bR ∧ bR < lim ∧ lim ≤ W.heap.size := h.2.2.2.2.2
end
theorem Apart.drew {hi : Nat} {a b : World} (h : Apart hi a b) : Apart hi a b.drew := h
theorem kb_drew {g : Nat} {w a : World} (hg : g < w.heap.size) (h : Kb g w a) : Kb g w a.drew := h.via hg (Below.refl _ _).drew
def Cur14 (g : Nat) (w : World) (e : Ending) (w' : World) : Prop :=
  ∃ (KV LV : Value) (A : Option Addr) (qo : Nat) (os : List Int) (q : Bool) (ls : List (List Int)) (d : Int), e = .returned (.tuple #[KV, .agg #[.slice A os.length qo, .bool q], LV, iv d]) ∧ (∀ o ∈ os, 0 ≤ o) ∧ os.length ≤ 3 ∧ ls.length ≤ 3 ∧ (∀ r ∈ ls, r.length = 9) ∧
    Own w' 64 5 KV w.heap.size w'.heap.size 10 (flat keys10) ∧ Own w' 3 1 (.slice A os.length qo) w.heap.size w'.heap.size os.length (os.map (Value.int .i64)) ∧ Own w' 117 9 LV w.heap.size w'.heap.size ls.length (flat ls) ∧ Kb g w w'
set_option maxRecDepth 16000 in
set_option maxHeartbeats 32000000 in
theorem l14Case_any {g : Nat} (w : World) (hc : Cur g w) : Calls Try.prog 155 #[.pointer (some ⟨g, 0, none⟩)] w (Cur14 g w) := by
  have hg := hc.lt
  have HK0 := hid ((Kb.refl hc).alloc hg (.cells #[.slice none 0 0, .bool false] 33))
  have HR0 := hid (Blk.new w #[.slice none 0 0, .bool false] 33)
  have hz0 : (w.alloc (.cells #[.slice none 0 0, .bool false] 33)).heap.size = w.heap.size + 1 := by simp
  clear hc
  go_enter Try.func155, Try.ntmps155
  go_wp2_with fail
  generalize w.alloc (.cells #[.slice none 0 0, .bool false] 33) = W0 at HK0 HR0 hz0 ⊢
  refine (l8Keys_any _).mono ?_
  rintro e w1 ⟨rfl, ho1, hb1, -⟩
  have hz1 := hb1.size
  have HK1 := hid ((HK0.out.via hg (hb1.mono (by omega))).alloc hg (.cells #[iv 1, iv 2] 3))
  have HR1 := hid ((HR0.out.below hb1).alloc (.cells #[iv 1, iv 2] 3))
  have HE1 := hid ((Own.of ho1).below (below_alloc w1 (.cells #[iv 1, iv 2] 3)) (Nat.le_refl _))
  have HO1 := hid (Own.of (World.ownsRow_lit (base := w1.heap.size) (e := 3) (size := 1) w1 #[iv 1, iv 2] 2 (Nat.le_refl _) (by decide) rfl))
  have hz2 : (w1.alloc (.cells #[iv 1, iv 2] 3)).heap.size = w1.heap.size + 1 := by simp
  rw [hz0] at HE1
  have hob : W0.heap.size < w1.heap.size := by
    rcases ho1.2 with ⟨h8, -⟩ | ⟨gg, cap, cur, h8, -, h9, -⟩
    · cases h8
    · simp only [Value.slice.injEq, Option.some.injEq, Addr.mk.injEq] at h8
      rw [h8.1.1]; exact (Array.getElem?_eq_some_iff.1 h9).1
  clear ho1 hb1 HK0 HR0
  go_wp2_with fail
  generalize w1.alloc (.cells #[iv 1, iv 2] 3) = W1 at HK1 HR1 HE1 HO1 hz2 ⊢
  refine (l1Once_any _ _ HK1.out.1).mono ?_
  rintro e w3 ⟨q, rfl, hc3, hg3⟩
  have HK3 := hid ((HK1.out.next ⟨hc3, hg3⟩).alloc hg (.cells #[.slice (some ⟨w1.heap.size, 0, none⟩) 2 2, .bool q] 33))
  have HR3 := hid ((HR1.out.cur hg3 (by omega)).alloc (.cells #[.slice (some ⟨w1.heap.size, 0, none⟩) 2 2, .bool q] 33))
  have hz3 := hg3.size
  have HE3 := hid ((Own.cur HE1.out hg3 (by omega) (by omega)).below (below_alloc w3 (.cells #[.slice (some ⟨w1.heap.size, 0, none⟩) 2 2, .bool q] 33)) (by omega))
  have HO3 := hid ((Own.cur HO1.out hg3 (by omega) (Nat.le_refl _)).below (below_alloc w3 (.cells #[.slice (some ⟨w1.heap.size, 0, none⟩) 2 2, .bool q] 33)) (by omega))
  have HX3 := hid (Blk.new w3 #[.slice (some ⟨w1.heap.size, 0, none⟩) 2 2, .bool q] 33)
  have hz4 : (w3.alloc (.cells #[.slice (some ⟨w1.heap.size, 0, none⟩) 2 2, .bool q] 33)).heap.size = w3.heap.size + 1 := by simp
  clear hc3 hg3 HK1 HR1 HE1 HO1
  go_wp2_with fail
  generalize w3.alloc (.cells #[.slice (some ⟨w1.heap.size, 0, none⟩) 2 2, .bool q] 33) = W3 at HK3 HR3 HE3 HO3 HX3 hz4 ⊢
  refine (l1Below_any _ _ HK3.out.1).mono ?_
  rintro e w5 ⟨s, rfl, -, hc5, hg5⟩
  have HK5 := hid (HK3.out.next ⟨hc5, hg5⟩)
  have HR5 := hid (HR3.out.cur hg5 (by omega))
  have HE5 := hid (Own.cur HE3.out hg5 (by omega) (by omega))
  have HO5 := hid (Own.cur HO3.out hg5 (by omega) (by omega))
  have HX5 := hid (HX3.out.cur hg5 (by omega))
  have hz5 := hg5.size
  have x0 := HX5.out.cell 0 rfl
  have fx0 := HX5.out.frozen 0 (by simp)
  have hx5 := HX5.out.lt
  have hne5 : w3.heap.size ≠ w5.heap.size := by omega
  clear hc5 hg5 HK3 HR3 HE3 HO3 HX3
  by_cases h0 : s = 0
  · have e0 : (s == 0) = true := by rw [beq_iff_eq]; exact h0
    clear h0
    have hzx : (w5.setCell ⟨w3.heap.size, 0, none⟩ (.slice (some ⟨w5.heap.size, 0, none⟩) 3 3)).heap.size = w5.heap.size := by simp
    have hzy : ((w5.setCell ⟨w3.heap.size, 0, none⟩ (.slice (some ⟨w5.heap.size, 0, none⟩) 3 3)).alloc (.cells #[iv 2, iv 50, iv 1] 3)).heap.size = w5.heap.size + 1 := by simp
    have HS : Hid (∃ (A : Option Addr) (qo : Nat) (os : List Int) (lim : Nat), St14 g w w3.heap.size (.slice (some ⟨w.heap.size + 1, 0, none⟩) 10 10) A qo os q lim ((w5.setCell ⟨w3.heap.size, 0, none⟩ (.slice (some ⟨w5.heap.size, 0, none⟩) 3 3)).alloc (.cells #[iv 2, iv 50, iv 1] 3)) ∧ (∀ o ∈ os, 0 ≤ o) ∧ os.length ≤ 3) := hid ⟨some ⟨w5.heap.size, 0, none⟩, 3, [2, 50, 1], w5.heap.size + 1, ⟨(HK5.out.set hg (p := ⟨w3.heap.size, 0, none⟩) (by show w.heap.size ≤ w3.heap.size; omega) (.slice (some ⟨w5.heap.size, 0, none⟩) 3 3)).alloc hg _, (HR5.out.far (g := w3.heap.size) (k := 0) (by omega) (.slice (some ⟨w5.heap.size, 0, none⟩) 3 3)).alloc _, (HX5.out.set (k := 0) (by simp) (.slice (some ⟨w5.heap.size, 0, none⟩) 3 3)).alloc _, ?_, ((HE5.out.below ((Below.refl w1.heap.size w5).setCell (p := ⟨w3.heap.size, 0, none⟩) (by show w1.heap.size ≤ w3.heap.size; omega) (.slice (some ⟨w5.heap.size, 0, none⟩) 3 3)) (Nat.le_refl _)).below (below_alloc _ _) (by omega)).mono (Nat.le_refl _) (by omega), by omega, by omega, by omega⟩, by decide, by decide⟩
    rotate_left
    · have h9 := Own.of (World.ownsRow_lit (base := w5.heap.size) (e := 3) (size := 1) (w5.setCell ⟨w3.heap.size, 0, none⟩ (.slice (some ⟨w5.heap.size, 0, none⟩) 3 3)) #[iv 2, iv 50, iv 1] 3 (by omega) (by decide) rfl)
      rw [hzx] at h9
      exact h9.mono (by omega) (by omega)
    clear HK5 HR5 HE5 HO5 HX5
    go_wp2_with fail
    generalize (w5.setCell ⟨w3.heap.size, 0, none⟩ (.slice (some ⟨w5.heap.size, 0, none⟩) 3 3)).alloc (.cells #[iv 2, iv 50, iv 1] 3) = W at HS hzy ⊢
    clear hzx hzy
    obtain ⟨A, qo, os, lim, hs, hos, hol⟩ := HS.out
    have HT := hid hs
    have HOS := hid hos
    obtain ⟨hl0, hl1, hl2⟩ := hs.fit
    generalize w3.heap.size = bR at HT hl0 hl1 ⊢
    clear HS hos hs x0 fx0 hx5 hne5
    refine (l6Draw_any _ HT.out.1.1).mono ?_
    rintro e w6 ⟨t, ps, zs, P, S, mid, rfl, -, ⟨hp1, hp2⟩, -, hzl, -, ⟨hm0, hm1⟩, hp, hsz, hk6⟩
    obtain ⟨GP, qp, rfl⟩ := ownsRow_form hp.1
    obtain ⟨GS, qs, rfl⟩ := ownsRow_form hsz.1
    have hz6 := hk6.2.size
    have HT6 := hid ((HT.out.cur hg hk6).below hg ((Below.refl lim w6).alloc (by omega) (.cells #[iv t, .slice GP ps.length qp, .slice GS zs.length qs] 113)))
    have HP6 := hid ((Own.ss hp).below (below_alloc w6 (.cells #[iv t, .slice GP ps.length qp, .slice GS zs.length qs] 113)) hm1)
    have HZ6 := hid ((Own.si hsz).below (below_alloc w6 (.cells #[iv t, .slice GP ps.length qp, .slice GS zs.length qs] 113)) (Nat.le_refl _))
    have hz7 : (w6.alloc (.cells #[iv t, .slice GP ps.length qp, .slice GS zs.length qs] 113)).heap.size = w6.heap.size + 1 := by simp
    clear hp hsz hk6 hzl HT
    go_wp2_with fail
    generalize w6.alloc (.cells #[iv t, .slice GP ps.length qp, .slice GS zs.length qs] 113) = W6 at HT6 HP6 HZ6 hz7 ⊢
    refine (specDocDigest_any (B := W6.heap.size) 3 t W6 (HP6.out.mono (by omega)) (HZ6.out.mono (by omega)) (Nat.le_refl _)).mono ?_
    rintro e w7 ⟨rfl, hb7⟩
    generalize docI 3 t ps zs = d
    have hz8 := hb7.size
    have HT7 := hid ((HT6.out.below hg (hb7.mono (by omega))).below hg ((Below.refl lim w7).alloc (by omega) (.cells #[] 117)))
    have HL7 := hid (World.ownsRow_lit (base := w7.heap.size) (e := 117) (size := 9) w7 #[] 0 (Nat.le_refl _) (by decide) rfl)
    have hlw : lim ≤ w7.heap.size := by omega
    have hgl : g < lim := by omega
    clear hb7 HT6 HP6 HZ6 hm0 hm1 hz6 hz7 hz8 hp1 hp2
    go_wp2
    go_loopw [10, 11] (fun l i wr => ∃ (k : Nat) (ls : List (List Int)), i = .int .i64 k ∧ k ≤ 3 ∧ ls.length ≤ k ∧ (∀ r ∈ ls, r.length = 9) ∧ w7.heap.size ≤ wr.heap.size ∧ wr.ownsRow w7.heap.size 117 9 l ls.length (flat ls) ∧ St14 g w bR (.slice (some ⟨w.heap.size + 1, 0, none⟩) 10 10) A qo os q lim wr) (fun _ i _ => 3 - (intOf i).toNat)
    case atStart => exact ⟨0, [], rfl, by omega, by simp, (fun r hr => by cases hr), by simp, HL7.out, HT7.out⟩
    case round =>
      obtain ⟨k, ls, rfl, hk3, hll, hrl, hwr, how, hst⟩ := hrel
      obtain ⟨GL, ql, rfl⟩ := ownsRow_form how
      have HRL := hid hrl
      have HO := hid (Own.of how)
      have HT := hid hst
      clear hrl how hst HT7 HL7
      by_cases hlt : k < 3
      · have hk9 : (k : Int) < 3 := by omega
        have HLI := hid ((Own.of (World.ownsRow_lit (base := wr.heap.size) (e := 3) (size := 1) wr #[iv 11, iv 12, iv 13, iv 21] 4 (Nat.le_refl _) (by decide) rfl)).si (zs := [11, 12, 13, 21]))
        have HTA := hid (HT.out.below hg ((Below.refl lim wr).alloc (by omega) (.cells #[iv 11, iv 12, iv 13, iv 21] 3)))
        have HOA := hid (HO.out.below (below_alloc wr (.cells #[iv 11, iv 12, iv 13, iv 21] 3)) (Nat.le_refl _))
        have hzA : (wr.alloc (.cells #[iv 11, iv 12, iv 13, iv 21] 3)).heap.size = wr.heap.size + 1 := by simp
        clear HT HO
        go_wp2_with fail
        generalize wr.alloc (.cells #[iv 11, iv 12, iv 13, iv 21] 3) = WA at HLI HTA HOA hzA ⊢
        refine (l1Int_any _ HTA.out.1.1 HLI.out (Nat.le_refl _) (by intro b off n c h; simp only [Value.slice.injEq, Option.some.injEq, Addr.mk.injEq] at h; omega) (by decide)).mono ?_
        rintro e wa ⟨z, rfl, -, hca, hga⟩
        have hza := hga.size
        have HTa := hid ((HTA.out.cur hg ⟨hca, hga⟩).below hg ((Below.refl lim wa).alloc (by omega) (.cells #[iv z, iv 1, iv 3, iv d, iv 2, iv 0, iv 0, iv 0, iv 0] 117)))
        have HOa := hid ((Own.cur HOA.out hga (by omega) (by omega)).below (below_alloc wa (.cells #[iv z, iv 1, iv 3, iv d, iv 2, iv 0, iv 0, iv 0, iv 0] 117)) (by omega))
        have HXa := hid (Blk.new wa #[iv z, iv 1, iv 3, iv d, iv 2, iv 0, iv 0, iv 0, iv 0] 117)
        have hzb : (wa.alloc (.cells #[iv z, iv 1, iv 3, iv d, iv 2, iv 0, iv 0, iv 0, iv 0] 117)).heap.size = wa.heap.size + 1 := by simp
        clear hca hga HLI HTA HOA
        go_wp2_with fail
        generalize wa.alloc (.cells #[iv z, iv 1, iv 3, iv d, iv 2, iv 0, iv 0, iv 0, iv 0] 117) = Wa at HTa HOa HXa hzb ⊢
        refine (l1Once_any _ _ HTa.out.1.1).mono ?_
        rintro e wb ⟨b, rfl, hcb, hgb⟩
        have hzc := hgb.size
        have HTb := hid (HTa.out.cur hg ⟨hcb, hgb⟩)
        have HOb := hid (Own.cur HOa.out hgb (by omega) (by omega))
        have HXb := hid (HXa.out.cur hgb (by omega))
        clear hcb hgb HTa HOa HXa
        cases b
        · have q0 := HTb.out.2.2.1.cell 0 rfl
          have q1 := HTb.out.2.2.1.cell 1 rfl
          have hqb := HTb.out.2.2.1.lt
          go_wp2_with fail
          refine (specBeforeFor_any (B := wb.heap.size) (ks := keys10) (ls := ls) (os := os) q d 3 wb HTb.out.keys HTb.out.owners ((Own.sl HOb.out HRL.out).mono (by omega)) (Nat.le_refl _) (by omega)).mono ?_
          rintro e wc ⟨rfl, hbc⟩
          generalize beforeI keys10 ls os q d 3 = bf
          have hzc2 := hbc.size
          have hx6 := (HXb.out.below hbc).cell 6 rfl
          have fx6 := (HXb.out.below hbc).frozen 6 (by simp)
          have c0 := (HXb.out.below hbc).cell 0 rfl
          have c1 := (HXb.out.below hbc).cell 1 rfl
          have c2 := (HXb.out.below hbc).cell 2 rfl
          have c3 := (HXb.out.below hbc).cell 3 rfl
          have c4 := (HXb.out.below hbc).cell 4 rfl
          have c5 := (HXb.out.below hbc).cell 5 rfl
          have c7 := (HXb.out.below hbc).cell 7 rfl
          have c8 := (HXb.out.below hbc).cell 8 rfl
          have hxc := (HXb.out.below hbc).lt
          have HXc : Hid (Blk wa.heap.size (wc.setCell ⟨wa.heap.size, 6, none⟩ (iv bf)) [iv z, iv 1, iv 3, iv d, iv 2, iv 0, iv bf, iv 0, iv 0]) := hid ((HXb.out.below hbc).set (k := 6) (by simp) (iv bf))
          have HTc := hid ((HTb.out.below hg (hbc.mono HTb.out.fit.2.2)).below hg ((Below.refl lim wc).setCell (p := ⟨wa.heap.size, 6, none⟩) (by show lim ≤ wa.heap.size; omega) (iv bf)))
          have HOc := hid ((HOb.out.below hbc (by omega)).below ((Below.refl wr.heap.size wc).setCell (p := ⟨wa.heap.size, 6, none⟩) (by show wr.heap.size ≤ wa.heap.size; omega) (iv bf)) (Nat.le_refl _))
          have hzw : (wc.setCell ⟨wa.heap.size, 6, none⟩ (iv bf)).heap.size = wc.heap.size := by simp
          clear hbc q0 q1 HTb HOb HXb
          go_wp2_with fail
          clear hx6 fx6 c0 c1 c2 c3 c4 c5 c7 c8
          generalize wc.setCell ⟨wa.heap.size, 6, none⟩ (iv bf) = Wc at HXc HTc HOc hzw ⊢
          obtain ⟨r0, r1, r2, r3, r4, r5, r6, r7, r8, bb, -, hP⟩ := both_sign keys10 z 1 3 d 2 0 bf 0 0
          have HP := hid hP
          clear hP
          refine (HP.out _ Wc HTc.out.keys).mono ?_
          rintro e wd ⟨rfl, hbd⟩
          have hzd := hbd.size
          have HXd := hid (HXc.out.below hbd)
          have HTd := hid (HTc.out.below hg (hbd.mono HTc.out.fit.2.2))
          have HOd := hid (HOc.out.below hbd (by omega))
          clear hbd HP HXc HTc HOc
          have x0 := HXd.out.cell 0 rfl
          have x1 := HXd.out.cell 1 rfl
          have x2 := HXd.out.cell 2 rfl
          have x3 := HXd.out.cell 3 rfl
          have x4 := HXd.out.cell 4 rfl
          have x5 := HXd.out.cell 5 rfl
          have x6 := HXd.out.cell 6 rfl
          have x7 := HXd.out.cell 7 rfl
          have x8 := HXd.out.cell 8 rfl
          have fx0 := HXd.out.frozen 0 (by simp)
          have fx1 := HXd.out.frozen 1 (by simp)
          have fx2 := HXd.out.frozen 2 (by simp)
          have fx3 := HXd.out.frozen 3 (by simp)
          have fx4 := HXd.out.frozen 4 (by simp)
          have fx5 := HXd.out.frozen 5 (by simp)
          have fx6 := HXd.out.frozen 6 (by simp)
          have fx7 := HXd.out.frozen 7 (by simp)
          have fx8 := HXd.out.frozen 8 (by simp)
          have hxd := HXd.out.lt
          have hla : lim ≤ wa.heap.size := by omega
          have hra : wr.heap.size ≤ wa.heap.size := by omega
          have HXe : Hid (Blk wa.heap.size (((((((((wd.setCell ⟨wa.heap.size, 0, none⟩ (iv r0)).setCell ⟨wa.heap.size, 1, none⟩ (iv r1)).setCell ⟨wa.heap.size, 2, none⟩ (iv r2)).setCell ⟨wa.heap.size, 3, none⟩ (iv r3)).setCell ⟨wa.heap.size, 4, none⟩ (iv r4)).setCell ⟨wa.heap.size, 5, none⟩ (iv r5)).setCell ⟨wa.heap.size, 6, none⟩ (iv r6)).setCell ⟨wa.heap.size, 7, none⟩ (iv r7)).setCell ⟨wa.heap.size, 8, none⟩ (iv r8)) [iv r0, iv r1, iv r2, iv r3, iv r4, iv r5, iv r6, iv r7, iv r8]) := hid (((((((((HXd.out.set (k := 0) (by simp) (iv r0)).set (k := 1) (by simp) (iv r1)).set (k := 2) (by simp) (iv r2)).set (k := 3) (by simp) (iv r3)).set (k := 4) (by simp) (iv r4)).set (k := 5) (by simp) (iv r5)).set (k := 6) (by simp) (iv r6)).set (k := 7) (by simp) (iv r7)).set (k := 8) (by simp) (iv r8))
          have HTe := hid (HTd.out.below hg ((((((((((Below.refl lim wd).setCell (p := ⟨wa.heap.size, 0, none⟩) hla (iv r0)).setCell (p := ⟨wa.heap.size, 1, none⟩) hla (iv r1)).setCell (p := ⟨wa.heap.size, 2, none⟩) hla (iv r2)).setCell (p := ⟨wa.heap.size, 3, none⟩) hla (iv r3)).setCell (p := ⟨wa.heap.size, 4, none⟩) hla (iv r4)).setCell (p := ⟨wa.heap.size, 5, none⟩) hla (iv r5)).setCell (p := ⟨wa.heap.size, 6, none⟩) hla (iv r6)).setCell (p := ⟨wa.heap.size, 7, none⟩) hla (iv r7)).setCell (p := ⟨wa.heap.size, 8, none⟩) hla (iv r8)))
          have HOe := hid (HOd.out.below ((((((((((Below.refl wr.heap.size wd).setCell (p := ⟨wa.heap.size, 0, none⟩) hra (iv r0)).setCell (p := ⟨wa.heap.size, 1, none⟩) hra (iv r1)).setCell (p := ⟨wa.heap.size, 2, none⟩) hra (iv r2)).setCell (p := ⟨wa.heap.size, 3, none⟩) hra (iv r3)).setCell (p := ⟨wa.heap.size, 4, none⟩) hra (iv r4)).setCell (p := ⟨wa.heap.size, 5, none⟩) hra (iv r5)).setCell (p := ⟨wa.heap.size, 6, none⟩) hra (iv r6)).setCell (p := ⟨wa.heap.size, 7, none⟩) hra (iv r7)).setCell (p := ⟨wa.heap.size, 8, none⟩) hra (iv r8)) (Nat.le_refl _))
          have hze : (((((((((wd.setCell ⟨wa.heap.size, 0, none⟩ (iv r0)).setCell ⟨wa.heap.size, 1, none⟩ (iv r1)).setCell ⟨wa.heap.size, 2, none⟩ (iv r2)).setCell ⟨wa.heap.size, 3, none⟩ (iv r3)).setCell ⟨wa.heap.size, 4, none⟩ (iv r4)).setCell ⟨wa.heap.size, 5, none⟩ (iv r5)).setCell ⟨wa.heap.size, 6, none⟩ (iv r6)).setCell ⟨wa.heap.size, 7, none⟩ (iv r7)).setCell ⟨wa.heap.size, 8, none⟩ (iv r8)).heap.size = wd.heap.size := by simp
          clear HXd HTd HOd
          go_wp2_with fail
          clear x0 fx0 x1 fx1 x2 fx2 x3 fx3 x4 fx4 x5 fx5 x6 fx6 x7 fx7 x8 fx8
          generalize (((((((((wd.setCell ⟨wa.heap.size, 0, none⟩ (iv r0)).setCell ⟨wa.heap.size, 1, none⟩ (iv r1)).setCell ⟨wa.heap.size, 2, none⟩ (iv r2)).setCell ⟨wa.heap.size, 3, none⟩ (iv r3)).setCell ⟨wa.heap.size, 4, none⟩ (iv r4)).setCell ⟨wa.heap.size, 5, none⟩ (iv r5)).setCell ⟨wa.heap.size, 6, none⟩ (iv r6)).setCell ⟨wa.heap.size, 7, none⟩ (iv r7)).setCell ⟨wa.heap.size, 8, none⟩ (iv r8)) = We at HXe HTe HOe hze ⊢
          refine (l1Once_any _ _ HTe.out.1.1).mono ?_
          rintro e wf ⟨b2, rfl, hcf, hgf⟩
          have hzf := hgf.size
          have HTf := hid (HTe.out.cur hg ⟨hcf, hgf⟩)
          have HOf := hid (Own.cur HOe.out hgf (by omega) (by omega))
          have HXf := hid (HXe.out.cur hgf (by omega))
          clear hcf hgf HTe HOe HXe
          cases b2
          · have y0 := HXf.out.cell 0 rfl
            have y1 := HXf.out.cell 1 rfl
            have y2 := HXf.out.cell 2 rfl
            have y3 := HXf.out.cell 3 rfl
            have y4 := HXf.out.cell 4 rfl
            have y5 := HXf.out.cell 5 rfl
            have y6 := HXf.out.cell 6 rfl
            have y7 := HXf.out.cell 7 rfl
            have y8 := HXf.out.cell 8 rfl
            have hxf := HXf.out.lt
            go_wp2_with (first | (at_builtin; refine wpList_append_src _ rfl _ _ 35 rfl w7.heap.size 117 Try.underlying35 Try.infoSig0 rfl (by decide) _ _ ls.length 1 _ [iv r0, iv r1, iv r2, iv r3, iv r4, iv r5, iv r6, iv r7, iv r8] rfl rfl (HOf.out.1.alloc _) (Src.lit (cs := #[iv r0, iv r1, iv r2, iv r3, iv r4, iv r5, iv r6, iv r7, iv r8]) (m := 1) (size := 9) (heap_new_at wf _ (by simp)) rfl (by simp [Value.oneCell']) 1) (by unfold maxLen; omega) (by omega) (by simp; omega) ?_; intro v1 w9 hown1 hg1; have HO9 := hid hown1; have HT9 := hid ((HTf.out.below hg ((Below.refl lim wf).alloc (by omega) _)).below hg ((Below.refl lim _).grown hg1 (by simp; omega) (fun k hk => by have := (HOf.out.1.lt k hk).1; omega))); have hz9 := hg1.size; clear hown1 hg1) | fail)
            go_roundw
            case rel => exact ⟨k + 1, ls ++ [[r0, r1, r2, r3, r4, r5, r6, r7, r8]], by go_num, by omega, by simp; omega, (by intro r hr; rcases List.mem_append.1 hr with h8 | h8; exact HRL.out r h8; rw [List.mem_singleton.1 h8]; rfl), by simp at hz9; omega, by rw [List.length_append, flat_append]; exact HO9.out, HT9.out⟩
            case measure => simp [intOf]; omega
          · go_wp2
            go_roundw
            case rel => exact ⟨k + 1, ls, by go_num, by omega, by omega, HRL.out, by omega, HOf.out.1, HTf.out⟩
            case measure => simp [intOf]; omega
        · have HTc := HTb
          have HOc := HOb
          have HXc := HXb
          have c0 := HXb.out.cell 0 rfl
          have c1 := HXb.out.cell 1 rfl
          have c2 := HXb.out.cell 2 rfl
          have c3 := HXb.out.cell 3 rfl
          have c4 := HXb.out.cell 4 rfl
          have c5 := HXb.out.cell 5 rfl
          have c6 := HXb.out.cell 6 rfl
          have c7 := HXb.out.cell 7 rfl
          have c8 := HXb.out.cell 8 rfl
          have hxc := HXb.out.lt
          clear HTb HOb HXb
          go_wp2_with fail
          clear c0 c1 c2 c3 c4 c5 c6 c7 c8
          obtain ⟨r0, r1, r2, r3, r4, r5, r6, r7, r8, bb, -, hP⟩ := both_sign keys10 z 1 3 d 2 0 0 0 0
          have HP := hid hP
          clear hP
          refine (HP.out _ wb HTc.out.keys).mono ?_
          rintro e wd ⟨rfl, hbd⟩
          have hzd := hbd.size
          have HXd := hid (HXc.out.below hbd)
          have HTd := hid (HTc.out.below hg (hbd.mono HTc.out.fit.2.2))
          have HOd := hid (HOc.out.below hbd (by omega))
          clear hbd HP HXc HTc HOc
          have x0 := HXd.out.cell 0 rfl
          have x1 := HXd.out.cell 1 rfl
          have x2 := HXd.out.cell 2 rfl
          have x3 := HXd.out.cell 3 rfl
          have x4 := HXd.out.cell 4 rfl
          have x5 := HXd.out.cell 5 rfl
          have x6 := HXd.out.cell 6 rfl
          have x7 := HXd.out.cell 7 rfl
          have x8 := HXd.out.cell 8 rfl
          have fx0 := HXd.out.frozen 0 (by simp)
          have fx1 := HXd.out.frozen 1 (by simp)
          have fx2 := HXd.out.frozen 2 (by simp)
          have fx3 := HXd.out.frozen 3 (by simp)
          have fx4 := HXd.out.frozen 4 (by simp)
          have fx5 := HXd.out.frozen 5 (by simp)
          have fx6 := HXd.out.frozen 6 (by simp)
          have fx7 := HXd.out.frozen 7 (by simp)
          have fx8 := HXd.out.frozen 8 (by simp)
          have hxd := HXd.out.lt
          have hla : lim ≤ wa.heap.size := by omega
          have hra : wr.heap.size ≤ wa.heap.size := by omega
          have HXe : Hid (Blk wa.heap.size (((((((((wd.setCell ⟨wa.heap.size, 0, none⟩ (iv r0)).setCell ⟨wa.heap.size, 1, none⟩ (iv r1)).setCell ⟨wa.heap.size, 2, none⟩ (iv r2)).setCell ⟨wa.heap.size, 3, none⟩ (iv r3)).setCell ⟨wa.heap.size, 4, none⟩ (iv r4)).setCell ⟨wa.heap.size, 5, none⟩ (iv r5)).setCell ⟨wa.heap.size, 6, none⟩ (iv r6)).setCell ⟨wa.heap.size, 7, none⟩ (iv r7)).setCell ⟨wa.heap.size, 8, none⟩ (iv r8)) [iv r0, iv r1, iv r2, iv r3, iv r4, iv r5, iv r6, iv r7, iv r8]) := hid (((((((((HXd.out.set (k := 0) (by simp) (iv r0)).set (k := 1) (by simp) (iv r1)).set (k := 2) (by simp) (iv r2)).set (k := 3) (by simp) (iv r3)).set (k := 4) (by simp) (iv r4)).set (k := 5) (by simp) (iv r5)).set (k := 6) (by simp) (iv r6)).set (k := 7) (by simp) (iv r7)).set (k := 8) (by simp) (iv r8))
          have HTe := hid (HTd.out.below hg ((((((((((Below.refl lim wd).setCell (p := ⟨wa.heap.size, 0, none⟩) hla (iv r0)).setCell (p := ⟨wa.heap.size, 1, none⟩) hla (iv r1)).setCell (p := ⟨wa.heap.size, 2, none⟩) hla (iv r2)).setCell (p := ⟨wa.heap.size, 3, none⟩) hla (iv r3)).setCell (p := ⟨wa.heap.size, 4, none⟩) hla (iv r4)).setCell (p := ⟨wa.heap.size, 5, none⟩) hla (iv r5)).setCell (p := ⟨wa.heap.size, 6, none⟩) hla (iv r6)).setCell (p := ⟨wa.heap.size, 7, none⟩) hla (iv r7)).setCell (p := ⟨wa.heap.size, 8, none⟩) hla (iv r8)))
          have HOe := hid (HOd.out.below ((((((((((Below.refl wr.heap.size wd).setCell (p := ⟨wa.heap.size, 0, none⟩) hra (iv r0)).setCell (p := ⟨wa.heap.size, 1, none⟩) hra (iv r1)).setCell (p := ⟨wa.heap.size, 2, none⟩) hra (iv r2)).setCell (p := ⟨wa.heap.size, 3, none⟩) hra (iv r3)).setCell (p := ⟨wa.heap.size, 4, none⟩) hra (iv r4)).setCell (p := ⟨wa.heap.size, 5, none⟩) hra (iv r5)).setCell (p := ⟨wa.heap.size, 6, none⟩) hra (iv r6)).setCell (p := ⟨wa.heap.size, 7, none⟩) hra (iv r7)).setCell (p := ⟨wa.heap.size, 8, none⟩) hra (iv r8)) (Nat.le_refl _))
          have hze : (((((((((wd.setCell ⟨wa.heap.size, 0, none⟩ (iv r0)).setCell ⟨wa.heap.size, 1, none⟩ (iv r1)).setCell ⟨wa.heap.size, 2, none⟩ (iv r2)).setCell ⟨wa.heap.size, 3, none⟩ (iv r3)).setCell ⟨wa.heap.size, 4, none⟩ (iv r4)).setCell ⟨wa.heap.size, 5, none⟩ (iv r5)).setCell ⟨wa.heap.size, 6, none⟩ (iv r6)).setCell ⟨wa.heap.size, 7, none⟩ (iv r7)).setCell ⟨wa.heap.size, 8, none⟩ (iv r8)).heap.size = wd.heap.size := by simp
          clear HXd HTd HOd
          go_wp2_with fail
          clear x0 fx0 x1 fx1 x2 fx2 x3 fx3 x4 fx4 x5 fx5 x6 fx6 x7 fx7 x8 fx8
          generalize (((((((((wd.setCell ⟨wa.heap.size, 0, none⟩ (iv r0)).setCell ⟨wa.heap.size, 1, none⟩ (iv r1)).setCell ⟨wa.heap.size, 2, none⟩ (iv r2)).setCell ⟨wa.heap.size, 3, none⟩ (iv r3)).setCell ⟨wa.heap.size, 4, none⟩ (iv r4)).setCell ⟨wa.heap.size, 5, none⟩ (iv r5)).setCell ⟨wa.heap.size, 6, none⟩ (iv r6)).setCell ⟨wa.heap.size, 7, none⟩ (iv r7)).setCell ⟨wa.heap.size, 8, none⟩ (iv r8)) = We at HXe HTe HOe hze ⊢
          refine (l1Once_any _ _ HTe.out.1.1).mono ?_
          rintro e wf ⟨b2, rfl, hcf, hgf⟩
          have hzf := hgf.size
          have HTf := hid (HTe.out.cur hg ⟨hcf, hgf⟩)
          have HOf := hid (Own.cur HOe.out hgf (by omega) (by omega))
          have HXf := hid (HXe.out.cur hgf (by omega))
          clear hcf hgf HTe HOe HXe
          cases b2
          · have y0 := HXf.out.cell 0 rfl
            have y1 := HXf.out.cell 1 rfl
            have y2 := HXf.out.cell 2 rfl
            have y3 := HXf.out.cell 3 rfl
            have y4 := HXf.out.cell 4 rfl
            have y5 := HXf.out.cell 5 rfl
            have y6 := HXf.out.cell 6 rfl
            have y7 := HXf.out.cell 7 rfl
            have y8 := HXf.out.cell 8 rfl
            have hxf := HXf.out.lt
            go_wp2_with (first | (at_builtin; refine wpList_append_src _ rfl _ _ 35 rfl w7.heap.size 117 Try.underlying35 Try.infoSig0 rfl (by decide) _ _ ls.length 1 _ [iv r0, iv r1, iv r2, iv r3, iv r4, iv r5, iv r6, iv r7, iv r8] rfl rfl (HOf.out.1.alloc _) (Src.lit (cs := #[iv r0, iv r1, iv r2, iv r3, iv r4, iv r5, iv r6, iv r7, iv r8]) (m := 1) (size := 9) (heap_new_at wf _ (by simp)) rfl (by simp [Value.oneCell']) 1) (by unfold maxLen; omega) (by omega) (by simp; omega) ?_; intro v1 w9 hown1 hg1; have HO9 := hid hown1; have HT9 := hid ((HTf.out.below hg ((Below.refl lim wf).alloc (by omega) _)).below hg ((Below.refl lim _).grown hg1 (by simp; omega) (fun k hk => by have := (HOf.out.1.lt k hk).1; omega))); have hz9 := hg1.size; clear hown1 hg1) | fail)
            go_roundw
            case rel => exact ⟨k + 1, ls ++ [[r0, r1, r2, r3, r4, r5, r6, r7, r8]], by go_num, by omega, by simp; omega, (by intro r hr; rcases List.mem_append.1 hr with h8 | h8; exact HRL.out r h8; rw [List.mem_singleton.1 h8]; rfl), by simp at hz9; omega, by rw [List.length_append, flat_append]; exact HO9.out, HT9.out⟩
            case measure => simp [intOf]; omega
          · go_wp2
            go_roundw
            case rel => exact ⟨k + 1, ls, by go_num, by omega, by omega, HRL.out, by omega, HOf.out.1, HTf.out⟩
            case measure => simp [intOf]; omega
      · obtain rfl : k = 3 := by omega
        obtain ⟨hk, hr, hx, ho, he, -, -, -⟩ := HT.out
        have HKx := hid hk
        have HOx := hid ho
        have HEx := hid he
        have q0 := hx.cell 0 rfl
        have q1 := hx.cell 1 rfl
        have hxl := hx.lt
        have hrr := hr.lt
        have z0 := hr.cell 0 rfl
        have z1 := hr.cell 1 rfl
        have fz0 := hr.frozen 0 (by simp)
        have fz1 := hr.frozen 1 (by simp)
        have hne : w.heap.size ≠ bR := by omega
        clear hk hr hx ho he HT
        go_wp2_with fail
        go_region
        all_goals
          go_wp2
          refine bodyPost_ret (v := .tuple #[(.slice (some ⟨w.heap.size + 1, 0, none⟩) 10 10), .agg #[.slice A os.length qo, .bool q], .slice GL ls.length ql, iv d]) (by simp [results, Try.results155, go_sem, z0, z1]) rfl ⟨_, _, A, qo, os, q, ls, d, rfl, HOS.out, hol, by omega, HRL.out, ?_, ?_, ?_, ?_⟩
          · refine (HEx.out.apart (hi0 := w.heap.size + 1) ?_ (Nat.le_refl _)).mono (by omega) (by simp; omega)
            repeat (first | with_reducible exact Apart.refl _ _ | refine Apart.setCell ?_ (by simp) _ | with_reducible refine Apart.drew ?_)
          · refine (HOx.out.apart (hi0 := w.heap.size + 1) ?_ (Nat.le_refl _)).mono (by omega) (by simp; omega)
            repeat (first | with_reducible exact Apart.refl _ _ | refine Apart.setCell ?_ (by simp) _ | with_reducible refine Apart.drew ?_)
          · refine (HO.out.apart (hi0 := w.heap.size + 1) ?_ (by omega)).mono (by omega) (by simp)
            repeat (first | with_reducible exact Apart.refl _ _ | refine Apart.setCell ?_ (by simp) _ | with_reducible refine Apart.drew ?_)
          · have h9 := HKx.out
            have hle0 : w.heap.size ≤ w.heap.size := Nat.le_refl _
            repeat (first | with_reducible exact h9 | with_reducible refine Kb.set ?_ hg hle0 _ | with_reducible refine kb_drew hg ?_)
  have e0 : (s == 0) = false := by rw [beq_eq_false_iff_ne]; exact h0
  clear h0
  by_cases h1 : s = 1
  · have e1 : (s == 1) = true := by rw [beq_iff_eq]; exact h1
    clear h1
    have hzx : (w5.setCell ⟨w3.heap.size, 0, none⟩ (.slice (some ⟨w5.heap.size, 0, none⟩) 2 2)).heap.size = w5.heap.size := by simp
    have hzy : ((w5.setCell ⟨w3.heap.size, 0, none⟩ (.slice (some ⟨w5.heap.size, 0, none⟩) 2 2)).alloc (.cells #[iv 2, iv 2] 3)).heap.size = w5.heap.size + 1 := by simp
    have HS : Hid (∃ (A : Option Addr) (qo : Nat) (os : List Int) (lim : Nat), St14 g w w3.heap.size (.slice (some ⟨w.heap.size + 1, 0, none⟩) 10 10) A qo os q lim ((w5.setCell ⟨w3.heap.size, 0, none⟩ (.slice (some ⟨w5.heap.size, 0, none⟩) 2 2)).alloc (.cells #[iv 2, iv 2] 3)) ∧ (∀ o ∈ os, 0 ≤ o) ∧ os.length ≤ 3) := hid ⟨some ⟨w5.heap.size, 0, none⟩, 2, [2, 2], w5.heap.size + 1, ⟨(HK5.out.set hg (p := ⟨w3.heap.size, 0, none⟩) (by show w.heap.size ≤ w3.heap.size; omega) (.slice (some ⟨w5.heap.size, 0, none⟩) 2 2)).alloc hg _, (HR5.out.far (g := w3.heap.size) (k := 0) (by omega) (.slice (some ⟨w5.heap.size, 0, none⟩) 2 2)).alloc _, (HX5.out.set (k := 0) (by simp) (.slice (some ⟨w5.heap.size, 0, none⟩) 2 2)).alloc _, ?_, ((HE5.out.below ((Below.refl w1.heap.size w5).setCell (p := ⟨w3.heap.size, 0, none⟩) (by show w1.heap.size ≤ w3.heap.size; omega) (.slice (some ⟨w5.heap.size, 0, none⟩) 2 2)) (Nat.le_refl _)).below (below_alloc _ _) (by omega)).mono (Nat.le_refl _) (by omega), by omega, by omega, by omega⟩, by decide, by decide⟩
    rotate_left
    · have h9 := Own.of (World.ownsRow_lit (base := w5.heap.size) (e := 3) (size := 1) (w5.setCell ⟨w3.heap.size, 0, none⟩ (.slice (some ⟨w5.heap.size, 0, none⟩) 2 2)) #[iv 2, iv 2] 2 (by omega) (by decide) rfl)
      rw [hzx] at h9
      exact h9.mono (by omega) (by omega)
    clear HK5 HR5 HE5 HO5 HX5
    go_wp2_with fail
    generalize (w5.setCell ⟨w3.heap.size, 0, none⟩ (.slice (some ⟨w5.heap.size, 0, none⟩) 2 2)).alloc (.cells #[iv 2, iv 2] 3) = W at HS hzy ⊢
    clear hzx hzy
    obtain ⟨A, qo, os, lim, hs, hos, hol⟩ := HS.out
    have HT := hid hs
    have HOS := hid hos
    obtain ⟨hl0, hl1, hl2⟩ := hs.fit
    generalize w3.heap.size = bR at HT hl0 hl1 ⊢
    clear HS hos hs x0 fx0 hx5 hne5
    refine (l6Draw_any _ HT.out.1.1).mono ?_
    rintro e w6 ⟨t, ps, zs, P, S, mid, rfl, -, ⟨hp1, hp2⟩, -, hzl, -, ⟨hm0, hm1⟩, hp, hsz, hk6⟩
    obtain ⟨GP, qp, rfl⟩ := ownsRow_form hp.1
    obtain ⟨GS, qs, rfl⟩ := ownsRow_form hsz.1
    have hz6 := hk6.2.size
    have HT6 := hid ((HT.out.cur hg hk6).below hg ((Below.refl lim w6).alloc (by omega) (.cells #[iv t, .slice GP ps.length qp, .slice GS zs.length qs] 113)))
    have HP6 := hid ((Own.ss hp).below (below_alloc w6 (.cells #[iv t, .slice GP ps.length qp, .slice GS zs.length qs] 113)) hm1)
    have HZ6 := hid ((Own.si hsz).below (below_alloc w6 (.cells #[iv t, .slice GP ps.length qp, .slice GS zs.length qs] 113)) (Nat.le_refl _))
    have hz7 : (w6.alloc (.cells #[iv t, .slice GP ps.length qp, .slice GS zs.length qs] 113)).heap.size = w6.heap.size + 1 := by simp
    clear hp hsz hk6 hzl HT
    go_wp2_with fail
    generalize w6.alloc (.cells #[iv t, .slice GP ps.length qp, .slice GS zs.length qs] 113) = W6 at HT6 HP6 HZ6 hz7 ⊢
    refine (specDocDigest_any (B := W6.heap.size) 3 t W6 (HP6.out.mono (by omega)) (HZ6.out.mono (by omega)) (Nat.le_refl _)).mono ?_
    rintro e w7 ⟨rfl, hb7⟩
    generalize docI 3 t ps zs = d
    have hz8 := hb7.size
    have HT7 := hid ((HT6.out.below hg (hb7.mono (by omega))).below hg ((Below.refl lim w7).alloc (by omega) (.cells #[] 117)))
    have HL7 := hid (World.ownsRow_lit (base := w7.heap.size) (e := 117) (size := 9) w7 #[] 0 (Nat.le_refl _) (by decide) rfl)
    have hlw : lim ≤ w7.heap.size := by omega
    have hgl : g < lim := by omega
    clear hb7 HT6 HP6 HZ6 hm0 hm1 hz6 hz7 hz8 hp1 hp2
    go_wp2
    go_loopw [10, 11] (fun l i wr => ∃ (k : Nat) (ls : List (List Int)), i = .int .i64 k ∧ k ≤ 3 ∧ ls.length ≤ k ∧ (∀ r ∈ ls, r.length = 9) ∧ w7.heap.size ≤ wr.heap.size ∧ wr.ownsRow w7.heap.size 117 9 l ls.length (flat ls) ∧ St14 g w bR (.slice (some ⟨w.heap.size + 1, 0, none⟩) 10 10) A qo os q lim wr) (fun _ i _ => 3 - (intOf i).toNat)
    case atStart => exact ⟨0, [], rfl, by omega, by simp, (fun r hr => by cases hr), by simp, HL7.out, HT7.out⟩
    case round =>
      obtain ⟨k, ls, rfl, hk3, hll, hrl, hwr, how, hst⟩ := hrel
      obtain ⟨GL, ql, rfl⟩ := ownsRow_form how
      have HRL := hid hrl
      have HO := hid (Own.of how)
      have HT := hid hst
      clear hrl how hst HT7 HL7
      by_cases hlt : k < 3
      · have hk9 : (k : Int) < 3 := by omega
        have HLI := hid ((Own.of (World.ownsRow_lit (base := wr.heap.size) (e := 3) (size := 1) wr #[iv 11, iv 12, iv 13, iv 21] 4 (Nat.le_refl _) (by decide) rfl)).si (zs := [11, 12, 13, 21]))
        have HTA := hid (HT.out.below hg ((Below.refl lim wr).alloc (by omega) (.cells #[iv 11, iv 12, iv 13, iv 21] 3)))
        have HOA := hid (HO.out.below (below_alloc wr (.cells #[iv 11, iv 12, iv 13, iv 21] 3)) (Nat.le_refl _))
        have hzA : (wr.alloc (.cells #[iv 11, iv 12, iv 13, iv 21] 3)).heap.size = wr.heap.size + 1 := by simp
        clear HT HO
        go_wp2_with fail
        generalize wr.alloc (.cells #[iv 11, iv 12, iv 13, iv 21] 3) = WA at HLI HTA HOA hzA ⊢
        refine (l1Int_any _ HTA.out.1.1 HLI.out (Nat.le_refl _) (by intro b off n c h; simp only [Value.slice.injEq, Option.some.injEq, Addr.mk.injEq] at h; omega) (by decide)).mono ?_
        rintro e wa ⟨z, rfl, -, hca, hga⟩
        have hza := hga.size
        have HTa := hid ((HTA.out.cur hg ⟨hca, hga⟩).below hg ((Below.refl lim wa).alloc (by omega) (.cells #[iv z, iv 1, iv 3, iv d, iv 2, iv 0, iv 0, iv 0, iv 0] 117)))
        have HOa := hid ((Own.cur HOA.out hga (by omega) (by omega)).below (below_alloc wa (.cells #[iv z, iv 1, iv 3, iv d, iv 2, iv 0, iv 0, iv 0, iv 0] 117)) (by omega))
        have HXa := hid (Blk.new wa #[iv z, iv 1, iv 3, iv d, iv 2, iv 0, iv 0, iv 0, iv 0] 117)
        have hzb : (wa.alloc (.cells #[iv z, iv 1, iv 3, iv d, iv 2, iv 0, iv 0, iv 0, iv 0] 117)).heap.size = wa.heap.size + 1 := by simp
        clear hca hga HLI HTA HOA
        go_wp2_with fail
        generalize wa.alloc (.cells #[iv z, iv 1, iv 3, iv d, iv 2, iv 0, iv 0, iv 0, iv 0] 117) = Wa at HTa HOa HXa hzb ⊢
        refine (l1Once_any _ _ HTa.out.1.1).mono ?_
        rintro e wb ⟨b, rfl, hcb, hgb⟩
        have hzc := hgb.size
        have HTb := hid (HTa.out.cur hg ⟨hcb, hgb⟩)
        have HOb := hid (Own.cur HOa.out hgb (by omega) (by omega))
        have HXb := hid (HXa.out.cur hgb (by omega))
        clear hcb hgb HTa HOa HXa
        cases b
        · have q0 := HTb.out.2.2.1.cell 0 rfl
          have q1 := HTb.out.2.2.1.cell 1 rfl
          have hqb := HTb.out.2.2.1.lt
          go_wp2_with fail
          refine (specBeforeFor_any (B := wb.heap.size) (ks := keys10) (ls := ls) (os := os) q d 3 wb HTb.out.keys HTb.out.owners ((Own.sl HOb.out HRL.out).mono (by omega)) (Nat.le_refl _) (by omega)).mono ?_
          rintro e wc ⟨rfl, hbc⟩
          generalize beforeI keys10 ls os q d 3 = bf
          have hzc2 := hbc.size
          have hx6 := (HXb.out.below hbc).cell 6 rfl
          have fx6 := (HXb.out.below hbc).frozen 6 (by simp)
          have c0 := (HXb.out.below hbc).cell 0 rfl
          have c1 := (HXb.out.below hbc).cell 1 rfl
          have c2 := (HXb.out.below hbc).cell 2 rfl
          have c3 := (HXb.out.below hbc).cell 3 rfl
          have c4 := (HXb.out.below hbc).cell 4 rfl
          have c5 := (HXb.out.below hbc).cell 5 rfl
          have c7 := (HXb.out.below hbc).cell 7 rfl
          have c8 := (HXb.out.below hbc).cell 8 rfl
          have hxc := (HXb.out.below hbc).lt
          have HXc : Hid (Blk wa.heap.size (wc.setCell ⟨wa.heap.size, 6, none⟩ (iv bf)) [iv z, iv 1, iv 3, iv d, iv 2, iv 0, iv bf, iv 0, iv 0]) := hid ((HXb.out.below hbc).set (k := 6) (by simp) (iv bf))
          have HTc := hid ((HTb.out.below hg (hbc.mono HTb.out.fit.2.2)).below hg ((Below.refl lim wc).setCell (p := ⟨wa.heap.size, 6, none⟩) (by show lim ≤ wa.heap.size; omega) (iv bf)))
          have HOc := hid ((HOb.out.below hbc (by omega)).below ((Below.refl wr.heap.size wc).setCell (p := ⟨wa.heap.size, 6, none⟩) (by show wr.heap.size ≤ wa.heap.size; omega) (iv bf)) (Nat.le_refl _))
          have hzw : (wc.setCell ⟨wa.heap.size, 6, none⟩ (iv bf)).heap.size = wc.heap.size := by simp
          clear hbc q0 q1 HTb HOb HXb
          go_wp2_with fail
          clear hx6 fx6 c0 c1 c2 c3 c4 c5 c7 c8
          generalize wc.setCell ⟨wa.heap.size, 6, none⟩ (iv bf) = Wc at HXc HTc HOc hzw ⊢
          obtain ⟨r0, r1, r2, r3, r4, r5, r6, r7, r8, bb, -, hP⟩ := both_sign keys10 z 1 3 d 2 0 bf 0 0
          have HP := hid hP
          clear hP
          refine (HP.out _ Wc HTc.out.keys).mono ?_
          rintro e wd ⟨rfl, hbd⟩
          have hzd := hbd.size
          have HXd := hid (HXc.out.below hbd)
          have HTd := hid (HTc.out.below hg (hbd.mono HTc.out.fit.2.2))
          have HOd := hid (HOc.out.below hbd (by omega))
          clear hbd HP HXc HTc HOc
          have x0 := HXd.out.cell 0 rfl
          have x1 := HXd.out.cell 1 rfl
          have x2 := HXd.out.cell 2 rfl
          have x3 := HXd.out.cell 3 rfl
          have x4 := HXd.out.cell 4 rfl
          have x5 := HXd.out.cell 5 rfl
          have x6 := HXd.out.cell 6 rfl
          have x7 := HXd.out.cell 7 rfl
          have x8 := HXd.out.cell 8 rfl
          have fx0 := HXd.out.frozen 0 (by simp)
          have fx1 := HXd.out.frozen 1 (by simp)
          have fx2 := HXd.out.frozen 2 (by simp)
          have fx3 := HXd.out.frozen 3 (by simp)
          have fx4 := HXd.out.frozen 4 (by simp)
          have fx5 := HXd.out.frozen 5 (by simp)
          have fx6 := HXd.out.frozen 6 (by simp)
          have fx7 := HXd.out.frozen 7 (by simp)
          have fx8 := HXd.out.frozen 8 (by simp)
          have hxd := HXd.out.lt
          have hla : lim ≤ wa.heap.size := by omega
          have hra : wr.heap.size ≤ wa.heap.size := by omega
          have HXe : Hid (Blk wa.heap.size (((((((((wd.setCell ⟨wa.heap.size, 0, none⟩ (iv r0)).setCell ⟨wa.heap.size, 1, none⟩ (iv r1)).setCell ⟨wa.heap.size, 2, none⟩ (iv r2)).setCell ⟨wa.heap.size, 3, none⟩ (iv r3)).setCell ⟨wa.heap.size, 4, none⟩ (iv r4)).setCell ⟨wa.heap.size, 5, none⟩ (iv r5)).setCell ⟨wa.heap.size, 6, none⟩ (iv r6)).setCell ⟨wa.heap.size, 7, none⟩ (iv r7)).setCell ⟨wa.heap.size, 8, none⟩ (iv r8)) [iv r0, iv r1, iv r2, iv r3, iv r4, iv r5, iv r6, iv r7, iv r8]) := hid (((((((((HXd.out.set (k := 0) (by simp) (iv r0)).set (k := 1) (by simp) (iv r1)).set (k := 2) (by simp) (iv r2)).set (k := 3) (by simp) (iv r3)).set (k := 4) (by simp) (iv r4)).set (k := 5) (by simp) (iv r5)).set (k := 6) (by simp) (iv r6)).set (k := 7) (by simp) (iv r7)).set (k := 8) (by simp) (iv r8))
          have HTe := hid (HTd.out.below hg ((((((((((Below.refl lim wd).setCell (p := ⟨wa.heap.size, 0, none⟩) hla (iv r0)).setCell (p := ⟨wa.heap.size, 1, none⟩) hla (iv r1)).setCell (p := ⟨wa.heap.size, 2, none⟩) hla (iv r2)).setCell (p := ⟨wa.heap.size, 3, none⟩) hla (iv r3)).setCell (p := ⟨wa.heap.size, 4, none⟩) hla (iv r4)).setCell (p := ⟨wa.heap.size, 5, none⟩) hla (iv r5)).setCell (p := ⟨wa.heap.size, 6, none⟩) hla (iv r6)).setCell (p := ⟨wa.heap.size, 7, none⟩) hla (iv r7)).setCell (p := ⟨wa.heap.size, 8, none⟩) hla (iv r8)))
          have HOe := hid (HOd.out.below ((((((((((Below.refl wr.heap.size wd).setCell (p := ⟨wa.heap.size, 0, none⟩) hra (iv r0)).setCell (p := ⟨wa.heap.size, 1, none⟩) hra (iv r1)).setCell (p := ⟨wa.heap.size, 2, none⟩) hra (iv r2)).setCell (p := ⟨wa.heap.size, 3, none⟩) hra (iv r3)).setCell (p := ⟨wa.heap.size, 4, none⟩) hra (iv r4)).setCell (p := ⟨wa.heap.size, 5, none⟩) hra (iv r5)).setCell (p := ⟨wa.heap.size, 6, none⟩) hra (iv r6)).setCell (p := ⟨wa.heap.size, 7, none⟩) hra (iv r7)).setCell (p := ⟨wa.heap.size, 8, none⟩) hra (iv r8)) (Nat.le_refl _))
          have hze : (((((((((wd.setCell ⟨wa.heap.size, 0, none⟩ (iv r0)).setCell ⟨wa.heap.size, 1, none⟩ (iv r1)).setCell ⟨wa.heap.size, 2, none⟩ (iv r2)).setCell ⟨wa.heap.size, 3, none⟩ (iv r3)).setCell ⟨wa.heap.size, 4, none⟩ (iv r4)).setCell ⟨wa.heap.size, 5, none⟩ (iv r5)).setCell ⟨wa.heap.size, 6, none⟩ (iv r6)).setCell ⟨wa.heap.size, 7, none⟩ (iv r7)).setCell ⟨wa.heap.size, 8, none⟩ (iv r8)).heap.size = wd.heap.size := by simp
          clear HXd HTd HOd
          go_wp2_with fail
          clear x0 fx0 x1 fx1 x2 fx2 x3 fx3 x4 fx4 x5 fx5 x6 fx6 x7 fx7 x8 fx8
          generalize (((((((((wd.setCell ⟨wa.heap.size, 0, none⟩ (iv r0)).setCell ⟨wa.heap.size, 1, none⟩ (iv r1)).setCell ⟨wa.heap.size, 2, none⟩ (iv r2)).setCell ⟨wa.heap.size, 3, none⟩ (iv r3)).setCell ⟨wa.heap.size, 4, none⟩ (iv r4)).setCell ⟨wa.heap.size, 5, none⟩ (iv r5)).setCell ⟨wa.heap.size, 6, none⟩ (iv r6)).setCell ⟨wa.heap.size, 7, none⟩ (iv r7)).setCell ⟨wa.heap.size, 8, none⟩ (iv r8)) = We at HXe HTe HOe hze ⊢
          refine (l1Once_any _ _ HTe.out.1.1).mono ?_
          rintro e wf ⟨b2, rfl, hcf, hgf⟩
          have hzf := hgf.size
          have HTf := hid (HTe.out.cur hg ⟨hcf, hgf⟩)
          have HOf := hid (Own.cur HOe.out hgf (by omega) (by omega))
          have HXf := hid (HXe.out.cur hgf (by omega))
          clear hcf hgf HTe HOe HXe
          cases b2
          · have y0 := HXf.out.cell 0 rfl
            have y1 := HXf.out.cell 1 rfl
            have y2 := HXf.out.cell 2 rfl
            have y3 := HXf.out.cell 3 rfl
            have y4 := HXf.out.cell 4 rfl
            have y5 := HXf.out.cell 5 rfl
            have y6 := HXf.out.cell 6 rfl
            have y7 := HXf.out.cell 7 rfl
            have y8 := HXf.out.cell 8 rfl
            have hxf := HXf.out.lt
            go_wp2_with (first | (at_builtin; refine wpList_append_src _ rfl _ _ 35 rfl w7.heap.size 117 Try.underlying35 Try.infoSig0 rfl (by decide) _ _ ls.length 1 _ [iv r0, iv r1, iv r2, iv r3, iv r4, iv r5, iv r6, iv r7, iv r8] rfl rfl (HOf.out.1.alloc _) (Src.lit (cs := #[iv r0, iv r1, iv r2, iv r3, iv r4, iv r5, iv r6, iv r7, iv r8]) (m := 1) (size := 9) (heap_new_at wf _ (by simp)) rfl (by simp [Value.oneCell']) 1) (by unfold maxLen; omega) (by omega) (by simp; omega) ?_; intro v1 w9 hown1 hg1; have HO9 := hid hown1; have HT9 := hid ((HTf.out.below hg ((Below.refl lim wf).alloc (by omega) _)).below hg ((Below.refl lim _).grown hg1 (by simp; omega) (fun k hk => by have := (HOf.out.1.lt k hk).1; omega))); have hz9 := hg1.size; clear hown1 hg1) | fail)
            go_roundw
            case rel => exact ⟨k + 1, ls ++ [[r0, r1, r2, r3, r4, r5, r6, r7, r8]], by go_num, by omega, by simp; omega, (by intro r hr; rcases List.mem_append.1 hr with h8 | h8; exact HRL.out r h8; rw [List.mem_singleton.1 h8]; rfl), by simp at hz9; omega, by rw [List.length_append, flat_append]; exact HO9.out, HT9.out⟩
            case measure => simp [intOf]; omega
          · go_wp2
            go_roundw
            case rel => exact ⟨k + 1, ls, by go_num, by omega, by omega, HRL.out, by omega, HOf.out.1, HTf.out⟩
            case measure => simp [intOf]; omega
        · have HTc := HTb
          have HOc := HOb
          have HXc := HXb
          have c0 := HXb.out.cell 0 rfl
          have c1 := HXb.out.cell 1 rfl
          have c2 := HXb.out.cell 2 rfl
          have c3 := HXb.out.cell 3 rfl
          have c4 := HXb.out.cell 4 rfl
          have c5 := HXb.out.cell 5 rfl
          have c6 := HXb.out.cell 6 rfl
          have c7 := HXb.out.cell 7 rfl
          have c8 := HXb.out.cell 8 rfl
          have hxc := HXb.out.lt
          clear HTb HOb HXb
          go_wp2_with fail
          clear c0 c1 c2 c3 c4 c5 c6 c7 c8
          obtain ⟨r0, r1, r2, r3, r4, r5, r6, r7, r8, bb, -, hP⟩ := both_sign keys10 z 1 3 d 2 0 0 0 0
          have HP := hid hP
          clear hP
          refine (HP.out _ wb HTc.out.keys).mono ?_
          rintro e wd ⟨rfl, hbd⟩
          have hzd := hbd.size
          have HXd := hid (HXc.out.below hbd)
          have HTd := hid (HTc.out.below hg (hbd.mono HTc.out.fit.2.2))
          have HOd := hid (HOc.out.below hbd (by omega))
          clear hbd HP HXc HTc HOc
          have x0 := HXd.out.cell 0 rfl
          have x1 := HXd.out.cell 1 rfl
          have x2 := HXd.out.cell 2 rfl
          have x3 := HXd.out.cell 3 rfl
          have x4 := HXd.out.cell 4 rfl
          have x5 := HXd.out.cell 5 rfl
          have x6 := HXd.out.cell 6 rfl
          have x7 := HXd.out.cell 7 rfl
          have x8 := HXd.out.cell 8 rfl
          have fx0 := HXd.out.frozen 0 (by simp)
          have fx1 := HXd.out.frozen 1 (by simp)
          have fx2 := HXd.out.frozen 2 (by simp)
          have fx3 := HXd.out.frozen 3 (by simp)
          have fx4 := HXd.out.frozen 4 (by simp)
          have fx5 := HXd.out.frozen 5 (by simp)
          have fx6 := HXd.out.frozen 6 (by simp)
          have fx7 := HXd.out.frozen 7 (by simp)
          have fx8 := HXd.out.frozen 8 (by simp)
          have hxd := HXd.out.lt
          have hla : lim ≤ wa.heap.size := by omega
          have hra : wr.heap.size ≤ wa.heap.size := by omega
          have HXe : Hid (Blk wa.heap.size (((((((((wd.setCell ⟨wa.heap.size, 0, none⟩ (iv r0)).setCell ⟨wa.heap.size, 1, none⟩ (iv r1)).setCell ⟨wa.heap.size, 2, none⟩ (iv r2)).setCell ⟨wa.heap.size, 3, none⟩ (iv r3)).setCell ⟨wa.heap.size, 4, none⟩ (iv r4)).setCell ⟨wa.heap.size, 5, none⟩ (iv r5)).setCell ⟨wa.heap.size, 6, none⟩ (iv r6)).setCell ⟨wa.heap.size, 7, none⟩ (iv r7)).setCell ⟨wa.heap.size, 8, none⟩ (iv r8)) [iv r0, iv r1, iv r2, iv r3, iv r4, iv r5, iv r6, iv r7, iv r8]) := hid (((((((((HXd.out.set (k := 0) (by simp) (iv r0)).set (k := 1) (by simp) (iv r1)).set (k := 2) (by simp) (iv r2)).set (k := 3) (by simp) (iv r3)).set (k := 4) (by simp) (iv r4)).set (k := 5) (by simp) (iv r5)).set (k := 6) (by simp) (iv r6)).set (k := 7) (by simp) (iv r7)).set (k := 8) (by simp) (iv r8))
          have HTe := hid (HTd.out.below hg ((((((((((Below.refl lim wd).setCell (p := ⟨wa.heap.size, 0, none⟩) hla (iv r0)).setCell (p := ⟨wa.heap.size, 1, none⟩) hla (iv r1)).setCell (p := ⟨wa.heap.size, 2, none⟩) hla (iv r2)).setCell (p := ⟨wa.heap.size, 3, none⟩) hla (iv r3)).setCell (p := ⟨wa.heap.size, 4, none⟩) hla (iv r4)).setCell (p := ⟨wa.heap.size, 5, none⟩) hla (iv r5)).setCell (p := ⟨wa.heap.size, 6, none⟩) hla (iv r6)).setCell (p := ⟨wa.heap.size, 7, none⟩) hla (iv r7)).setCell (p := ⟨wa.heap.size, 8, none⟩) hla (iv r8)))
          have HOe := hid (HOd.out.below ((((((((((Below.refl wr.heap.size wd).setCell (p := ⟨wa.heap.size, 0, none⟩) hra (iv r0)).setCell (p := ⟨wa.heap.size, 1, none⟩) hra (iv r1)).setCell (p := ⟨wa.heap.size, 2, none⟩) hra (iv r2)).setCell (p := ⟨wa.heap.size, 3, none⟩) hra (iv r3)).setCell (p := ⟨wa.heap.size, 4, none⟩) hra (iv r4)).setCell (p := ⟨wa.heap.size, 5, none⟩) hra (iv r5)).setCell (p := ⟨wa.heap.size, 6, none⟩) hra (iv r6)).setCell (p := ⟨wa.heap.size, 7, none⟩) hra (iv r7)).setCell (p := ⟨wa.heap.size, 8, none⟩) hra (iv r8)) (Nat.le_refl _))
          have hze : (((((((((wd.setCell ⟨wa.heap.size, 0, none⟩ (iv r0)).setCell ⟨wa.heap.size, 1, none⟩ (iv r1)).setCell ⟨wa.heap.size, 2, none⟩ (iv r2)).setCell ⟨wa.heap.size, 3, none⟩ (iv r3)).setCell ⟨wa.heap.size, 4, none⟩ (iv r4)).setCell ⟨wa.heap.size, 5, none⟩ (iv r5)).setCell ⟨wa.heap.size, 6, none⟩ (iv r6)).setCell ⟨wa.heap.size, 7, none⟩ (iv r7)).setCell ⟨wa.heap.size, 8, none⟩ (iv r8)).heap.size = wd.heap.size := by simp
          clear HXd HTd HOd
          go_wp2_with fail
          clear x0 fx0 x1 fx1 x2 fx2 x3 fx3 x4 fx4 x5 fx5 x6 fx6 x7 fx7 x8 fx8
          generalize (((((((((wd.setCell ⟨wa.heap.size, 0, none⟩ (iv r0)).setCell ⟨wa.heap.size, 1, none⟩ (iv r1)).setCell ⟨wa.heap.size, 2, none⟩ (iv r2)).setCell ⟨wa.heap.size, 3, none⟩ (iv r3)).setCell ⟨wa.heap.size, 4, none⟩ (iv r4)).setCell ⟨wa.heap.size, 5, none⟩ (iv r5)).setCell ⟨wa.heap.size, 6, none⟩ (iv r6)).setCell ⟨wa.heap.size, 7, none⟩ (iv r7)).setCell ⟨wa.heap.size, 8, none⟩ (iv r8)) = We at HXe HTe HOe hze ⊢
          refine (l1Once_any _ _ HTe.out.1.1).mono ?_
          rintro e wf ⟨b2, rfl, hcf, hgf⟩
          have hzf := hgf.size
          have HTf := hid (HTe.out.cur hg ⟨hcf, hgf⟩)
          have HOf := hid (Own.cur HOe.out hgf (by omega) (by omega))
          have HXf := hid (HXe.out.cur hgf (by omega))
          clear hcf hgf HTe HOe HXe
          cases b2
          · have y0 := HXf.out.cell 0 rfl
            have y1 := HXf.out.cell 1 rfl
            have y2 := HXf.out.cell 2 rfl
            have y3 := HXf.out.cell 3 rfl
            have y4 := HXf.out.cell 4 rfl
            have y5 := HXf.out.cell 5 rfl
            have y6 := HXf.out.cell 6 rfl
            have y7 := HXf.out.cell 7 rfl
            have y8 := HXf.out.cell 8 rfl
            have hxf := HXf.out.lt
            go_wp2_with (first | (at_builtin; refine wpList_append_src _ rfl _ _ 35 rfl w7.heap.size 117 Try.underlying35 Try.infoSig0 rfl (by decide) _ _ ls.length 1 _ [iv r0, iv r1, iv r2, iv r3, iv r4, iv r5, iv r6, iv r7, iv r8] rfl rfl (HOf.out.1.alloc _) (Src.lit (cs := #[iv r0, iv r1, iv r2, iv r3, iv r4, iv r5, iv r6, iv r7, iv r8]) (m := 1) (size := 9) (heap_new_at wf _ (by simp)) rfl (by simp [Value.oneCell']) 1) (by unfold maxLen; omega) (by omega) (by simp; omega) ?_; intro v1 w9 hown1 hg1; have HO9 := hid hown1; have HT9 := hid ((HTf.out.below hg ((Below.refl lim wf).alloc (by omega) _)).below hg ((Below.refl lim _).grown hg1 (by simp; omega) (fun k hk => by have := (HOf.out.1.lt k hk).1; omega))); have hz9 := hg1.size; clear hown1 hg1) | fail)
            go_roundw
            case rel => exact ⟨k + 1, ls ++ [[r0, r1, r2, r3, r4, r5, r6, r7, r8]], by go_num, by omega, by simp; omega, (by intro r hr; rcases List.mem_append.1 hr with h8 | h8; exact HRL.out r h8; rw [List.mem_singleton.1 h8]; rfl), by simp at hz9; omega, by rw [List.length_append, flat_append]; exact HO9.out, HT9.out⟩
            case measure => simp [intOf]; omega
          · go_wp2
            go_roundw
            case rel => exact ⟨k + 1, ls, by go_num, by omega, by omega, HRL.out, by omega, HOf.out.1, HTf.out⟩
            case measure => simp [intOf]; omega
      · obtain rfl : k = 3 := by omega
        obtain ⟨hk, hr, hx, ho, he, -, -, -⟩ := HT.out
        have HKx := hid hk
        have HOx := hid ho
        have HEx := hid he
        have q0 := hx.cell 0 rfl
        have q1 := hx.cell 1 rfl
        have hxl := hx.lt
        have hrr := hr.lt
        have z0 := hr.cell 0 rfl
        have z1 := hr.cell 1 rfl
        have fz0 := hr.frozen 0 (by simp)
        have fz1 := hr.frozen 1 (by simp)
        have hne : w.heap.size ≠ bR := by omega
        clear hk hr hx ho he HT
        go_wp2_with fail
        go_region
        all_goals
          go_wp2
          refine bodyPost_ret (v := .tuple #[(.slice (some ⟨w.heap.size + 1, 0, none⟩) 10 10), .agg #[.slice A os.length qo, .bool q], .slice GL ls.length ql, iv d]) (by simp [results, Try.results155, go_sem, z0, z1]) rfl ⟨_, _, A, qo, os, q, ls, d, rfl, HOS.out, hol, by omega, HRL.out, ?_, ?_, ?_, ?_⟩
          · refine (HEx.out.apart (hi0 := w.heap.size + 1) ?_ (Nat.le_refl _)).mono (by omega) (by simp; omega)
            repeat (first | with_reducible exact Apart.refl _ _ | refine Apart.setCell ?_ (by simp) _ | with_reducible refine Apart.drew ?_)
          · refine (HOx.out.apart (hi0 := w.heap.size + 1) ?_ (Nat.le_refl _)).mono (by omega) (by simp; omega)
            repeat (first | with_reducible exact Apart.refl _ _ | refine Apart.setCell ?_ (by simp) _ | with_reducible refine Apart.drew ?_)
          · refine (HO.out.apart (hi0 := w.heap.size + 1) ?_ (by omega)).mono (by omega) (by simp)
            repeat (first | with_reducible exact Apart.refl _ _ | refine Apart.setCell ?_ (by simp) _ | with_reducible refine Apart.drew ?_)
          · have h9 := HKx.out
            have hle0 : w.heap.size ≤ w.heap.size := Nat.le_refl _
            repeat (first | with_reducible exact h9 | with_reducible refine Kb.set ?_ hg hle0 _ | with_reducible refine kb_drew hg ?_)
  have e1 : (s == 1) = false := by rw [beq_eq_false_iff_ne]; exact h1
  clear h1
  by_cases h2 : s = 2
  · have e2 : (s == 2) = true := by rw [beq_iff_eq]; exact h2
    clear h2
    have hzx : (w5.setCell ⟨w3.heap.size, 0, none⟩ (.slice (some ⟨w5.heap.size, 0, none⟩) 1 1)).heap.size = w5.heap.size := by simp
    have hzy : ((w5.setCell ⟨w3.heap.size, 0, none⟩ (.slice (some ⟨w5.heap.size, 0, none⟩) 1 1)).alloc (.cells #[iv 1] 3)).heap.size = w5.heap.size + 1 := by simp
    have HS : Hid (∃ (A : Option Addr) (qo : Nat) (os : List Int) (lim : Nat), St14 g w w3.heap.size (.slice (some ⟨w.heap.size + 1, 0, none⟩) 10 10) A qo os q lim ((w5.setCell ⟨w3.heap.size, 0, none⟩ (.slice (some ⟨w5.heap.size, 0, none⟩) 1 1)).alloc (.cells #[iv 1] 3)) ∧ (∀ o ∈ os, 0 ≤ o) ∧ os.length ≤ 3) := hid ⟨some ⟨w5.heap.size, 0, none⟩, 1, [1], w5.heap.size + 1, ⟨(HK5.out.set hg (p := ⟨w3.heap.size, 0, none⟩) (by show w.heap.size ≤ w3.heap.size; omega) (.slice (some ⟨w5.heap.size, 0, none⟩) 1 1)).alloc hg _, (HR5.out.far (g := w3.heap.size) (k := 0) (by omega) (.slice (some ⟨w5.heap.size, 0, none⟩) 1 1)).alloc _, (HX5.out.set (k := 0) (by simp) (.slice (some ⟨w5.heap.size, 0, none⟩) 1 1)).alloc _, ?_, ((HE5.out.below ((Below.refl w1.heap.size w5).setCell (p := ⟨w3.heap.size, 0, none⟩) (by show w1.heap.size ≤ w3.heap.size; omega) (.slice (some ⟨w5.heap.size, 0, none⟩) 1 1)) (Nat.le_refl _)).below (below_alloc _ _) (by omega)).mono (Nat.le_refl _) (by omega), by omega, by omega, by omega⟩, by decide, by decide⟩
    rotate_left
    · have h9 := Own.of (World.ownsRow_lit (base := w5.heap.size) (e := 3) (size := 1) (w5.setCell ⟨w3.heap.size, 0, none⟩ (.slice (some ⟨w5.heap.size, 0, none⟩) 1 1)) #[iv 1] 1 (by omega) (by decide) rfl)
      rw [hzx] at h9
      exact h9.mono (by omega) (by omega)
    clear HK5 HR5 HE5 HO5 HX5
    go_wp2_with fail
    generalize (w5.setCell ⟨w3.heap.size, 0, none⟩ (.slice (some ⟨w5.heap.size, 0, none⟩) 1 1)).alloc (.cells #[iv 1] 3) = W at HS hzy ⊢
    clear hzx hzy
    obtain ⟨A, qo, os, lim, hs, hos, hol⟩ := HS.out
    have HT := hid hs
    have HOS := hid hos
    obtain ⟨hl0, hl1, hl2⟩ := hs.fit
    generalize w3.heap.size = bR at HT hl0 hl1 ⊢
    clear HS hos hs x0 fx0 hx5 hne5
    refine (l6Draw_any _ HT.out.1.1).mono ?_
    rintro e w6 ⟨t, ps, zs, P, S, mid, rfl, -, ⟨hp1, hp2⟩, -, hzl, -, ⟨hm0, hm1⟩, hp, hsz, hk6⟩
    obtain ⟨GP, qp, rfl⟩ := ownsRow_form hp.1
    obtain ⟨GS, qs, rfl⟩ := ownsRow_form hsz.1
    have hz6 := hk6.2.size
    have HT6 := hid ((HT.out.cur hg hk6).below hg ((Below.refl lim w6).alloc (by omega) (.cells #[iv t, .slice GP ps.length qp, .slice GS zs.length qs] 113)))
    have HP6 := hid ((Own.ss hp).below (below_alloc w6 (.cells #[iv t, .slice GP ps.length qp, .slice GS zs.length qs] 113)) hm1)
    have HZ6 := hid ((Own.si hsz).below (below_alloc w6 (.cells #[iv t, .slice GP ps.length qp, .slice GS zs.length qs] 113)) (Nat.le_refl _))
    have hz7 : (w6.alloc (.cells #[iv t, .slice GP ps.length qp, .slice GS zs.length qs] 113)).heap.size = w6.heap.size + 1 := by simp
    clear hp hsz hk6 hzl HT
    go_wp2_with fail
    generalize w6.alloc (.cells #[iv t, .slice GP ps.length qp, .slice GS zs.length qs] 113) = W6 at HT6 HP6 HZ6 hz7 ⊢
    refine (specDocDigest_any (B := W6.heap.size) 3 t W6 (HP6.out.mono (by omega)) (HZ6.out.mono (by omega)) (Nat.le_refl _)).mono ?_
    rintro e w7 ⟨rfl, hb7⟩
    generalize docI 3 t ps zs = d
    have hz8 := hb7.size
    have HT7 := hid ((HT6.out.below hg (hb7.mono (by omega))).below hg ((Below.refl lim w7).alloc (by omega) (.cells #[] 117)))
    have HL7 := hid (World.ownsRow_lit (base := w7.heap.size) (e := 117) (size := 9) w7 #[] 0 (Nat.le_refl _) (by decide) rfl)
    have hlw : lim ≤ w7.heap.size := by omega
    have hgl : g < lim := by omega
    clear hb7 HT6 HP6 HZ6 hm0 hm1 hz6 hz7 hz8 hp1 hp2
    go_wp2
    go_loopw [10, 11] (fun l i wr => ∃ (k : Nat) (ls : List (List Int)), i = .int .i64 k ∧ k ≤ 3 ∧ ls.length ≤ k ∧ (∀ r ∈ ls, r.length = 9) ∧ w7.heap.size ≤ wr.heap.size ∧ wr.ownsRow w7.heap.size 117 9 l ls.length (flat ls) ∧ St14 g w bR (.slice (some ⟨w.heap.size + 1, 0, none⟩) 10 10) A qo os q lim wr) (fun _ i _ => 3 - (intOf i).toNat)
    case atStart => exact ⟨0, [], rfl, by omega, by simp, (fun r hr => by cases hr), by simp, HL7.out, HT7.out⟩
    case round =>
      obtain ⟨k, ls, rfl, hk3, hll, hrl, hwr, how, hst⟩ := hrel
      obtain ⟨GL, ql, rfl⟩ := ownsRow_form how
      have HRL := hid hrl
      have HO := hid (Own.of how)
      have HT := hid hst
      clear hrl how hst HT7 HL7
      by_cases hlt : k < 3
      · have hk9 : (k : Int) < 3 := by omega
        have HLI := hid ((Own.of (World.ownsRow_lit (base := wr.heap.size) (e := 3) (size := 1) wr #[iv 11, iv 12, iv 13, iv 21] 4 (Nat.le_refl _) (by decide) rfl)).si (zs := [11, 12, 13, 21]))
        have HTA := hid (HT.out.below hg ((Below.refl lim wr).alloc (by omega) (.cells #[iv 11, iv 12, iv 13, iv 21] 3)))
        have HOA := hid (HO.out.below (below_alloc wr (.cells #[iv 11, iv 12, iv 13, iv 21] 3)) (Nat.le_refl _))
        have hzA : (wr.alloc (.cells #[iv 11, iv 12, iv 13, iv 21] 3)).heap.size = wr.heap.size + 1 := by simp
        clear HT HO
        go_wp2_with fail
        generalize wr.alloc (.cells #[iv 11, iv 12, iv 13, iv 21] 3) = WA at HLI HTA HOA hzA ⊢
        refine (l1Int_any _ HTA.out.1.1 HLI.out (Nat.le_refl _) (by intro b off n c h; simp only [Value.slice.injEq, Option.some.injEq, Addr.mk.injEq] at h; omega) (by decide)).mono ?_
        rintro e wa ⟨z, rfl, -, hca, hga⟩
        have hza := hga.size
        have HTa := hid ((HTA.out.cur hg ⟨hca, hga⟩).below hg ((Below.refl lim wa).alloc (by omega) (.cells #[iv z, iv 1, iv 3, iv d, iv 2, iv 0, iv 0, iv 0, iv 0] 117)))
        have HOa := hid ((Own.cur HOA.out hga (by omega) (by omega)).below (below_alloc wa (.cells #[iv z, iv 1, iv 3, iv d, iv 2, iv 0, iv 0, iv 0, iv 0] 117)) (by omega))
        have HXa := hid (Blk.new wa #[iv z, iv 1, iv 3, iv d, iv 2, iv 0, iv 0, iv 0, iv 0] 117)
        have hzb : (wa.alloc (.cells #[iv z, iv 1, iv 3, iv d, iv 2, iv 0, iv 0, iv 0, iv 0] 117)).heap.size = wa.heap.size + 1 := by simp
        clear hca hga HLI HTA HOA
        go_wp2_with fail
        generalize wa.alloc (.cells #[iv z, iv 1, iv 3, iv d, iv 2, iv 0, iv 0, iv 0, iv 0] 117) = Wa at HTa HOa HXa hzb ⊢
        refine (l1Once_any _ _ HTa.out.1.1).mono ?_
        rintro e wb ⟨b, rfl, hcb, hgb⟩
        have hzc := hgb.size
        have HTb := hid (HTa.out.cur hg ⟨hcb, hgb⟩)
        have HOb := hid (Own.cur HOa.out hgb (by omega) (by omega))
        have HXb := hid (HXa.out.cur hgb (by omega))
        clear hcb hgb HTa HOa HXa
        cases b
        · have q0 := HTb.out.2.2.1.cell 0 rfl
          have q1 := HTb.out.2.2.1.cell 1 rfl
          have hqb := HTb.out.2.2.1.lt
          go_wp2_with fail
          refine (specBeforeFor_any (B := wb.heap.size) (ks := keys10) (ls := ls) (os := os) q d 3 wb HTb.out.keys HTb.out.owners ((Own.sl HOb.out HRL.out).mono (by omega)) (Nat.le_refl _) (by omega)).mono ?_
          rintro e wc ⟨rfl, hbc⟩
          generalize beforeI keys10 ls os q d 3 = bf
          have hzc2 := hbc.size
          have hx6 := (HXb.out.below hbc).cell 6 rfl
          have fx6 := (HXb.out.below hbc).frozen 6 (by simp)
          have c0 := (HXb.out.below hbc).cell 0 rfl
          have c1 := (HXb.out.below hbc).cell 1 rfl
          have c2 := (HXb.out.below hbc).cell 2 rfl
          have c3 := (HXb.out.below hbc).cell 3 rfl
          have c4 := (HXb.out.below hbc).cell 4 rfl
          have c5 := (HXb.out.below hbc).cell 5 rfl
          have c7 := (HXb.out.below hbc).cell 7 rfl
          have c8 := (HXb.out.below hbc).cell 8 rfl
          have hxc := (HXb.out.below hbc).lt
          have HXc : Hid (Blk wa.heap.size (wc.setCell ⟨wa.heap.size, 6, none⟩ (iv bf)) [iv z, iv 1, iv 3, iv d, iv 2, iv 0, iv bf, iv 0, iv 0]) := hid ((HXb.out.below hbc).set (k := 6) (by simp) (iv bf))
          have HTc := hid ((HTb.out.below hg (hbc.mono HTb.out.fit.2.2)).below hg ((Below.refl lim wc).setCell (p := ⟨wa.heap.size, 6, none⟩) (by show lim ≤ wa.heap.size; omega) (iv bf)))
          have HOc := hid ((HOb.out.below hbc (by omega)).below ((Below.refl wr.heap.size wc).setCell (p := ⟨wa.heap.size, 6, none⟩) (by show wr.heap.size ≤ wa.heap.size; omega) (iv bf)) (Nat.le_refl _))
          have hzw : (wc.setCell ⟨wa.heap.size, 6, none⟩ (iv bf)).heap.size = wc.heap.size := by simp
          clear hbc q0 q1 HTb HOb HXb
          go_wp2_with fail
          clear hx6 fx6 c0 c1 c2 c3 c4 c5 c7 c8
          generalize wc.setCell ⟨wa.heap.size, 6, none⟩ (iv bf) = Wc at HXc HTc HOc hzw ⊢
          obtain ⟨r0, r1, r2, r3, r4, r5, r6, r7, r8, bb, -, hP⟩ := both_sign keys10 z 1 3 d 2 0 bf 0 0
          have HP := hid hP
          clear hP
          refine (HP.out _ Wc HTc.out.keys).mono ?_
          rintro e wd ⟨rfl, hbd⟩
          have hzd := hbd.size
          have HXd := hid (HXc.out.below hbd)
          have HTd := hid (HTc.out.below hg (hbd.mono HTc.out.fit.2.2))
          have HOd := hid (HOc.out.below hbd (by omega))
          clear hbd HP HXc HTc HOc
          have x0 := HXd.out.cell 0 rfl
          have x1 := HXd.out.cell 1 rfl
          have x2 := HXd.out.cell 2 rfl
          have x3 := HXd.out.cell 3 rfl
          have x4 := HXd.out.cell 4 rfl
          have x5 := HXd.out.cell 5 rfl
          have x6 := HXd.out.cell 6 rfl
          have x7 := HXd.out.cell 7 rfl
          have x8 := HXd.out.cell 8 rfl
          have fx0 := HXd.out.frozen 0 (by simp)
          have fx1 := HXd.out.frozen 1 (by simp)
          have fx2 := HXd.out.frozen 2 (by simp)
          have fx3 := HXd.out.frozen 3 (by simp)
          have fx4 := HXd.out.frozen 4 (by simp)
          have fx5 := HXd.out.frozen 5 (by simp)
          have fx6 := HXd.out.frozen 6 (by simp)
          have fx7 := HXd.out.frozen 7 (by simp)
          have fx8 := HXd.out.frozen 8 (by simp)
          have hxd := HXd.out.lt
          have hla : lim ≤ wa.heap.size := by omega
          have hra : wr.heap.size ≤ wa.heap.size := by omega
          have HXe : Hid (Blk wa.heap.size (((((((((wd.setCell ⟨wa.heap.size, 0, none⟩ (iv r0)).setCell ⟨wa.heap.size, 1, none⟩ (iv r1)).setCell ⟨wa.heap.size, 2, none⟩ (iv r2)).setCell ⟨wa.heap.size, 3, none⟩ (iv r3)).setCell ⟨wa.heap.size, 4, none⟩ (iv r4)).setCell ⟨wa.heap.size, 5, none⟩ (iv r5)).setCell ⟨wa.heap.size, 6, none⟩ (iv r6)).setCell ⟨wa.heap.size, 7, none⟩ (iv r7)).setCell ⟨wa.heap.size, 8, none⟩ (iv r8)) [iv r0, iv r1, iv r2, iv r3, iv r4, iv r5, iv r6, iv r7, iv r8]) := hid (((((((((HXd.out.set (k := 0) (by simp) (iv r0)).set (k := 1) (by simp) (iv r1)).set (k := 2) (by simp) (iv r2)).set (k := 3) (by simp) (iv r3)).set (k := 4) (by simp) (iv r4)).set (k := 5) (by simp) (iv r5)).set (k := 6) (by simp) (iv r6)).set (k := 7) (by simp) (iv r7)).set (k := 8) (by simp) (iv r8))
          have HTe := hid (HTd.out.below hg ((((((((((Below.refl lim wd).setCell (p := ⟨wa.heap.size, 0, none⟩) hla (iv r0)).setCell (p := ⟨wa.heap.size, 1, none⟩) hla (iv r1)).setCell (p := ⟨wa.heap.size, 2, none⟩) hla (iv r2)).setCell (p := ⟨wa.heap.size, 3, none⟩) hla (iv r3)).setCell (p := ⟨wa.heap.size, 4, none⟩) hla (iv r4)).setCell (p := ⟨wa.heap.size, 5, none⟩) hla (iv r5)).setCell (p := ⟨wa.heap.size, 6, none⟩) hla (iv r6)).setCell (p := ⟨wa.heap.size, 7, none⟩) hla (iv r7)).setCell (p := ⟨wa.heap.size, 8, none⟩) hla (iv r8)))
          have HOe := hid (HOd.out.below ((((((((((Below.refl wr.heap.size wd).setCell (p := ⟨wa.heap.size, 0, none⟩) hra (iv r0)).setCell (p := ⟨wa.heap.size, 1, none⟩) hra (iv r1)).setCell (p := ⟨wa.heap.size, 2, none⟩) hra (iv r2)).setCell (p := ⟨wa.heap.size, 3, none⟩) hra (iv r3)).setCell (p := ⟨wa.heap.size, 4, none⟩) hra (iv r4)).setCell (p := ⟨wa.heap.size, 5, none⟩) hra (iv r5)).setCell (p := ⟨wa.heap.size, 6, none⟩) hra (iv r6)).setCell (p := ⟨wa.heap.size, 7, none⟩) hra (iv r7)).setCell (p := ⟨wa.heap.size, 8, none⟩) hra (iv r8)) (Nat.le_refl _))
          have hze : (((((((((wd.setCell ⟨wa.heap.size, 0, none⟩ (iv r0)).setCell ⟨wa.heap.size, 1, none⟩ (iv r1)).setCell ⟨wa.heap.size, 2, none⟩ (iv r2)).setCell ⟨wa.heap.size, 3, none⟩ (iv r3)).setCell ⟨wa.heap.size, 4, none⟩ (iv r4)).setCell ⟨wa.heap.size, 5, none⟩ (iv r5)).setCell ⟨wa.heap.size, 6, none⟩ (iv r6)).setCell ⟨wa.heap.size, 7, none⟩ (iv r7)).setCell ⟨wa.heap.size, 8, none⟩ (iv r8)).heap.size = wd.heap.size := by simp
          clear HXd HTd HOd
          go_wp2_with fail
          clear x0 fx0 x1 fx1 x2 fx2 x3 fx3 x4 fx4 x5 fx5 x6 fx6 x7 fx7 x8 fx8
          generalize (((((((((wd.setCell ⟨wa.heap.size, 0, none⟩ (iv r0)).setCell ⟨wa.heap.size, 1, none⟩ (iv r1)).setCell ⟨wa.heap.size, 2, none⟩ (iv r2)).setCell ⟨wa.heap.size, 3, none⟩ (iv r3)).setCell ⟨wa.heap.size, 4, none⟩ (iv r4)).setCell ⟨wa.heap.size, 5, none⟩ (iv r5)).setCell ⟨wa.heap.size, 6, none⟩ (iv r6)).setCell ⟨wa.heap.size, 7, none⟩ (iv r7)).setCell ⟨wa.heap.size, 8, none⟩ (iv r8)) = We at HXe HTe HOe hze ⊢
          refine (l1Once_any _ _ HTe.out.1.1).mono ?_
          rintro e wf ⟨b2, rfl, hcf, hgf⟩
          have hzf := hgf.size
          have HTf := hid (HTe.out.cur hg ⟨hcf, hgf⟩)
          have HOf := hid (Own.cur HOe.out hgf (by omega) (by omega))
          have HXf := hid (HXe.out.cur hgf (by omega))
          clear hcf hgf HTe HOe HXe
          cases b2
          · have y0 := HXf.out.cell 0 rfl
            have y1 := HXf.out.cell 1 rfl
            have y2 := HXf.out.cell 2 rfl
            have y3 := HXf.out.cell 3 rfl
            have y4 := HXf.out.cell 4 rfl
            have y5 := HXf.out.cell 5 rfl
            have y6 := HXf.out.cell 6 rfl
            have y7 := HXf.out.cell 7 rfl
            have y8 := HXf.out.cell 8 rfl
            have hxf := HXf.out.lt
            go_wp2_with (first | (at_builtin; refine wpList_append_src _ rfl _ _ 35 rfl w7.heap.size 117 Try.underlying35 Try.infoSig0 rfl (by decide) _ _ ls.length 1 _ [iv r0, iv r1, iv r2, iv r3, iv r4, iv r5, iv r6, iv r7, iv r8] rfl rfl (HOf.out.1.alloc _) (Src.lit (cs := #[iv r0, iv r1, iv r2, iv r3, iv r4, iv r5, iv r6, iv r7, iv r8]) (m := 1) (size := 9) (heap_new_at wf _ (by simp)) rfl (by simp [Value.oneCell']) 1) (by unfold maxLen; omega) (by omega) (by simp; omega) ?_; intro v1 w9 hown1 hg1; have HO9 := hid hown1; have HT9 := hid ((HTf.out.below hg ((Below.refl lim wf).alloc (by omega) _)).below hg ((Below.refl lim _).grown hg1 (by simp; omega) (fun k hk => by have := (HOf.out.1.lt k hk).1; omega))); have hz9 := hg1.size; clear hown1 hg1) | fail)
            go_roundw
            case rel => exact ⟨k + 1, ls ++ [[r0, r1, r2, r3, r4, r5, r6, r7, r8]], by go_num, by omega, by simp; omega, (by intro r hr; rcases List.mem_append.1 hr with h8 | h8; exact HRL.out r h8; rw [List.mem_singleton.1 h8]; rfl), by simp at hz9; omega, by rw [List.length_append, flat_append]; exact HO9.out, HT9.out⟩
            case measure => simp [intOf]; omega
          · go_wp2
            go_roundw
            case rel => exact ⟨k + 1, ls, by go_num, by omega, by omega, HRL.out, by omega, HOf.out.1, HTf.out⟩
            case measure => simp [intOf]; omega
        · have HTc := HTb
          have HOc := HOb
          have HXc := HXb
          have c0 := HXb.out.cell 0 rfl
          have c1 := HXb.out.cell 1 rfl
          have c2 := HXb.out.cell 2 rfl
          have c3 := HXb.out.cell 3 rfl
          have c4 := HXb.out.cell 4 rfl
          have c5 := HXb.out.cell 5 rfl
          have c6 := HXb.out.cell 6 rfl
          have c7 := HXb.out.cell 7 rfl
          have c8 := HXb.out.cell 8 rfl
          have hxc := HXb.out.lt
          clear HTb HOb HXb
          go_wp2_with fail
          clear c0 c1 c2 c3 c4 c5 c6 c7 c8
          obtain ⟨r0, r1, r2, r3, r4, r5, r6, r7, r8, bb, -, hP⟩ := both_sign keys10 z 1 3 d 2 0 0 0 0
          have HP := hid hP
          clear hP
          refine (HP.out _ wb HTc.out.keys).mono ?_
          rintro e wd ⟨rfl, hbd⟩
          have hzd := hbd.size
          have HXd := hid (HXc.out.below hbd)
          have HTd := hid (HTc.out.below hg (hbd.mono HTc.out.fit.2.2))
          have HOd := hid (HOc.out.below hbd (by omega))
          clear hbd HP HXc HTc HOc
          have x0 := HXd.out.cell 0 rfl
          have x1 := HXd.out.cell 1 rfl
          have x2 := HXd.out.cell 2 rfl
          have x3 := HXd.out.cell 3 rfl
          have x4 := HXd.out.cell 4 rfl
          have x5 := HXd.out.cell 5 rfl
          have x6 := HXd.out.cell 6 rfl
          have x7 := HXd.out.cell 7 rfl
          have x8 := HXd.out.cell 8 rfl
          have fx0 := HXd.out.frozen 0 (by simp)
          have fx1 := HXd.out.frozen 1 (by simp)
          have fx2 := HXd.out.frozen 2 (by simp)
          have fx3 := HXd.out.frozen 3 (by simp)
          have fx4 := HXd.out.frozen 4 (by simp)
          have fx5 := HXd.out.frozen 5 (by simp)
          have fx6 := HXd.out.frozen 6 (by simp)
          have fx7 := HXd.out.frozen 7 (by simp)
          have fx8 := HXd.out.frozen 8 (by simp)
          have hxd := HXd.out.lt
          have hla : lim ≤ wa.heap.size := by omega
          have hra : wr.heap.size ≤ wa.heap.size := by omega
          have HXe : Hid (Blk wa.heap.size (((((((((wd.setCell ⟨wa.heap.size, 0, none⟩ (iv r0)).setCell ⟨wa.heap.size, 1, none⟩ (iv r1)).setCell ⟨wa.heap.size, 2, none⟩ (iv r2)).setCell ⟨wa.heap.size, 3, none⟩ (iv r3)).setCell ⟨wa.heap.size, 4, none⟩ (iv r4)).setCell ⟨wa.heap.size, 5, none⟩ (iv r5)).setCell ⟨wa.heap.size, 6, none⟩ (iv r6)).setCell ⟨wa.heap.size, 7, none⟩ (iv r7)).setCell ⟨wa.heap.size, 8, none⟩ (iv r8)) [iv r0, iv r1, iv r2, iv r3, iv r4, iv r5, iv r6, iv r7, iv r8]) := hid (((((((((HXd.out.set (k := 0) (by simp) (iv r0)).set (k := 1) (by simp) (iv r1)).set (k := 2) (by simp) (iv r2)).set (k := 3) (by simp) (iv r3)).set (k := 4) (by simp) (iv r4)).set (k := 5) (by simp) (iv r5)).set (k := 6) (by simp) (iv r6)).set (k := 7) (by simp) (iv r7)).set (k := 8) (by simp) (iv r8))
          have HTe := hid (HTd.out.below hg ((((((((((Below.refl lim wd).setCell (p := ⟨wa.heap.size, 0, none⟩) hla (iv r0)).setCell (p := ⟨wa.heap.size, 1, none⟩) hla (iv r1)).setCell (p := ⟨wa.heap.size, 2, none⟩) hla (iv r2)).setCell (p := ⟨wa.heap.size, 3, none⟩) hla (iv r3)).setCell (p := ⟨wa.heap.size, 4, none⟩) hla (iv r4)).setCell (p := ⟨wa.heap.size, 5, none⟩) hla (iv r5)).setCell (p := ⟨wa.heap.size, 6, none⟩) hla (iv r6)).setCell (p := ⟨wa.heap.size, 7, none⟩) hla (iv r7)).setCell (p := ⟨wa.heap.size, 8, none⟩) hla (iv r8)))
          have HOe := hid (HOd.out.below ((((((((((Below.refl wr.heap.size wd).setCell (p := ⟨wa.heap.size, 0, none⟩) hra (iv r0)).setCell (p := ⟨wa.heap.size, 1, none⟩) hra (iv r1)).setCell (p := ⟨wa.heap.size, 2, none⟩) hra (iv r2)).setCell (p := ⟨wa.heap.size, 3, none⟩) hra (iv r3)).setCell (p := ⟨wa.heap.size, 4, none⟩) hra (iv r4)).setCell (p := ⟨wa.heap.size, 5, none⟩) hra (iv r5)).setCell (p := ⟨wa.heap.size, 6, none⟩) hra (iv r6)).setCell (p := ⟨wa.heap.size, 7, none⟩) hra (iv r7)).setCell (p := ⟨wa.heap.size, 8, none⟩) hra (iv r8)) (Nat.le_refl _))
          have hze : (((((((((wd.setCell ⟨wa.heap.size, 0, none⟩ (iv r0)).setCell ⟨wa.heap.size, 1, none⟩ (iv r1)).setCell ⟨wa.heap.size, 2, none⟩ (iv r2)).setCell ⟨wa.heap.size, 3, none⟩ (iv r3)).setCell ⟨wa.heap.size, 4, none⟩ (iv r4)).setCell ⟨wa.heap.size, 5, none⟩ (iv r5)).setCell ⟨wa.heap.size, 6, none⟩ (iv r6)).setCell ⟨wa.heap.size, 7, none⟩ (iv r7)).setCell ⟨wa.heap.size, 8, none⟩ (iv r8)).heap.size = wd.heap.size := by simp
          clear HXd HTd HOd
          go_wp2_with fail
          clear x0 fx0 x1 fx1 x2 fx2 x3 fx3 x4 fx4 x5 fx5 x6 fx6 x7 fx7 x8 fx8
          generalize (((((((((wd.setCell ⟨wa.heap.size, 0, none⟩ (iv r0)).setCell ⟨wa.heap.size, 1, none⟩ (iv r1)).setCell ⟨wa.heap.size, 2, none⟩ (iv r2)).setCell ⟨wa.heap.size, 3, none⟩ (iv r3)).setCell ⟨wa.heap.size, 4, none⟩ (iv r4)).setCell ⟨wa.heap.size, 5, none⟩ (iv r5)).setCell ⟨wa.heap.size, 6, none⟩ (iv r6)).setCell ⟨wa.heap.size, 7, none⟩ (iv r7)).setCell ⟨wa.heap.size, 8, none⟩ (iv r8)) = We at HXe HTe HOe hze ⊢
          refine (l1Once_any _ _ HTe.out.1.1).mono ?_
          rintro e wf ⟨b2, rfl, hcf, hgf⟩
          have hzf := hgf.size
          have HTf := hid (HTe.out.cur hg ⟨hcf, hgf⟩)
          have HOf := hid (Own.cur HOe.out hgf (by omega) (by omega))
          have HXf := hid (HXe.out.cur hgf (by omega))
          clear hcf hgf HTe HOe HXe
          cases b2
          · have y0 := HXf.out.cell 0 rfl
            have y1 := HXf.out.cell 1 rfl
            have y2 := HXf.out.cell 2 rfl
            have y3 := HXf.out.cell 3 rfl
            have y4 := HXf.out.cell 4 rfl
            have y5 := HXf.out.cell 5 rfl
            have y6 := HXf.out.cell 6 rfl
            have y7 := HXf.out.cell 7 rfl
            have y8 := HXf.out.cell 8 rfl
            have hxf := HXf.out.lt
            go_wp2_with (first | (at_builtin; refine wpList_append_src _ rfl _ _ 35 rfl w7.heap.size 117 Try.underlying35 Try.infoSig0 rfl (by decide) _ _ ls.length 1 _ [iv r0, iv r1, iv r2, iv r3, iv r4, iv r5, iv r6, iv r7, iv r8] rfl rfl (HOf.out.1.alloc _) (Src.lit (cs := #[iv r0, iv r1, iv r2, iv r3, iv r4, iv r5, iv r6, iv r7, iv r8]) (m := 1) (size := 9) (heap_new_at wf _ (by simp)) rfl (by simp [Value.oneCell']) 1) (by unfold maxLen; omega) (by omega) (by simp; omega) ?_; intro v1 w9 hown1 hg1; have HO9 := hid hown1; have HT9 := hid ((HTf.out.below hg ((Below.refl lim wf).alloc (by omega) _)).below hg ((Below.refl lim _).grown hg1 (by simp; omega) (fun k hk => by have := (HOf.out.1.lt k hk).1; omega))); have hz9 := hg1.size; clear hown1 hg1) | fail)
            go_roundw
            case rel => exact ⟨k + 1, ls ++ [[r0, r1, r2, r3, r4, r5, r6, r7, r8]], by go_num, by omega, by simp; omega, (by intro r hr; rcases List.mem_append.1 hr with h8 | h8; exact HRL.out r h8; rw [List.mem_singleton.1 h8]; rfl), by simp at hz9; omega, by rw [List.length_append, flat_append]; exact HO9.out, HT9.out⟩
            case measure => simp [intOf]; omega
          · go_wp2
            go_roundw
            case rel => exact ⟨k + 1, ls, by go_num, by omega, by omega, HRL.out, by omega, HOf.out.1, HTf.out⟩
            case measure => simp [intOf]; omega
      · obtain rfl : k = 3 := by omega
        obtain ⟨hk, hr, hx, ho, he, -, -, -⟩ := HT.out
        have HKx := hid hk
        have HOx := hid ho
        have HEx := hid he
        have q0 := hx.cell 0 rfl
        have q1 := hx.cell 1 rfl
        have hxl := hx.lt
        have hrr := hr.lt
        have z0 := hr.cell 0 rfl
        have z1 := hr.cell 1 rfl
        have fz0 := hr.frozen 0 (by simp)
        have fz1 := hr.frozen 1 (by simp)
        have hne : w.heap.size ≠ bR := by omega
        clear hk hr hx ho he HT
        go_wp2_with fail
        go_region
        all_goals
          go_wp2
          refine bodyPost_ret (v := .tuple #[(.slice (some ⟨w.heap.size + 1, 0, none⟩) 10 10), .agg #[.slice A os.length qo, .bool q], .slice GL ls.length ql, iv d]) (by simp [results, Try.results155, go_sem, z0, z1]) rfl ⟨_, _, A, qo, os, q, ls, d, rfl, HOS.out, hol, by omega, HRL.out, ?_, ?_, ?_, ?_⟩
          · refine (HEx.out.apart (hi0 := w.heap.size + 1) ?_ (Nat.le_refl _)).mono (by omega) (by simp; omega)
            repeat (first | with_reducible exact Apart.refl _ _ | refine Apart.setCell ?_ (by simp) _ | with_reducible refine Apart.drew ?_)
          · refine (HOx.out.apart (hi0 := w.heap.size + 1) ?_ (Nat.le_refl _)).mono (by omega) (by simp; omega)
            repeat (first | with_reducible exact Apart.refl _ _ | refine Apart.setCell ?_ (by simp) _ | with_reducible refine Apart.drew ?_)
          · refine (HO.out.apart (hi0 := w.heap.size + 1) ?_ (by omega)).mono (by omega) (by simp)
            repeat (first | with_reducible exact Apart.refl _ _ | refine Apart.setCell ?_ (by simp) _ | with_reducible refine Apart.drew ?_)
          · have h9 := HKx.out
            have hle0 : w.heap.size ≤ w.heap.size := Nat.le_refl _
            repeat (first | with_reducible exact h9 | with_reducible refine Kb.set ?_ hg hle0 _ | with_reducible refine kb_drew hg ?_)
  have e2 : (s == 2) = false := by rw [beq_eq_false_iff_ne]; exact h2
  clear h2
  have HS : Hid (∃ (A : Option Addr) (qo : Nat) (os : List Int) (lim : Nat), St14 g w w3.heap.size (.slice (some ⟨w.heap.size + 1, 0, none⟩) 10 10) A qo os q lim w5 ∧ (∀ o ∈ os, 0 ≤ o) ∧ os.length ≤ 3) := hid ⟨some ⟨w1.heap.size, 0, none⟩, 2, [1, 2], w5.heap.size, ⟨HK5.out, HR5.out, HX5.out, HO5.out.mono (by omega) (by omega), HE5.out.mono (Nat.le_refl _) (by omega), by omega, by omega, Nat.le_refl _⟩, by decide, by decide⟩
  clear HK5 HR5 HE5 HO5 HX5
  go_wp2_with fail
  obtain ⟨W, hW⟩ : ∃ W, W = w5 := ⟨_, rfl⟩
  rw [← hW]
  rw [← hW] at HS
  clear hW
  obtain ⟨A, qo, os, lim, hs, hos, hol⟩ := HS.out
  have HT := hid hs
  have HOS := hid hos
  obtain ⟨hl0, hl1, hl2⟩ := hs.fit
  generalize w3.heap.size = bR at HT hl0 hl1 ⊢
  clear HS hos hs x0 fx0 hx5 hne5
  refine (l6Draw_any _ HT.out.1.1).mono ?_
  rintro e w6 ⟨t, ps, zs, P, S, mid, rfl, -, ⟨hp1, hp2⟩, -, hzl, -, ⟨hm0, hm1⟩, hp, hsz, hk6⟩
  obtain ⟨GP, qp, rfl⟩ := ownsRow_form hp.1
  obtain ⟨GS, qs, rfl⟩ := ownsRow_form hsz.1
  have hz6 := hk6.2.size
  have HT6 := hid ((HT.out.cur hg hk6).below hg ((Below.refl lim w6).alloc (by omega) (.cells #[iv t, .slice GP ps.length qp, .slice GS zs.length qs] 113)))
  have HP6 := hid ((Own.ss hp).below (below_alloc w6 (.cells #[iv t, .slice GP ps.length qp, .slice GS zs.length qs] 113)) hm1)
  have HZ6 := hid ((Own.si hsz).below (below_alloc w6 (.cells #[iv t, .slice GP ps.length qp, .slice GS zs.length qs] 113)) (Nat.le_refl _))
  have hz7 : (w6.alloc (.cells #[iv t, .slice GP ps.length qp, .slice GS zs.length qs] 113)).heap.size = w6.heap.size + 1 := by simp
  clear hp hsz hk6 hzl HT
  go_wp2_with fail
  generalize w6.alloc (.cells #[iv t, .slice GP ps.length qp, .slice GS zs.length qs] 113) = W6 at HT6 HP6 HZ6 hz7 ⊢
  refine (specDocDigest_any (B := W6.heap.size) 3 t W6 (HP6.out.mono (by omega)) (HZ6.out.mono (by omega)) (Nat.le_refl _)).mono ?_
  rintro e w7 ⟨rfl, hb7⟩
  generalize docI 3 t ps zs = d
  have hz8 := hb7.size
  have HT7 := hid ((HT6.out.below hg (hb7.mono (by omega))).below hg ((Below.refl lim w7).alloc (by omega) (.cells #[] 117)))
  have HL7 := hid (World.ownsRow_lit (base := w7.heap.size) (e := 117) (size := 9) w7 #[] 0 (Nat.le_refl _) (by decide) rfl)
  have hlw : lim ≤ w7.heap.size := by omega
  have hgl : g < lim := by omega
  clear hb7 HT6 HP6 HZ6 hm0 hm1 hz6 hz7 hz8 hp1 hp2
  go_wp2
  go_loopw [10, 11] (fun l i wr => ∃ (k : Nat) (ls : List (List Int)), i = .int .i64 k ∧ k ≤ 3 ∧ ls.length ≤ k ∧ (∀ r ∈ ls, r.length = 9) ∧ w7.heap.size ≤ wr.heap.size ∧ wr.ownsRow w7.heap.size 117 9 l ls.length (flat ls) ∧ St14 g w bR (.slice (some ⟨w.heap.size + 1, 0, none⟩) 10 10) A qo os q lim wr) (fun _ i _ => 3 - (intOf i).toNat)
  case atStart => exact ⟨0, [], rfl, by omega, by simp, (fun r hr => by cases hr), by simp, HL7.out, HT7.out⟩
  case round =>
    obtain ⟨k, ls, rfl, hk3, hll, hrl, hwr, how, hst⟩ := hrel
    obtain ⟨GL, ql, rfl⟩ := ownsRow_form how
    have HRL := hid hrl
    have HO := hid (Own.of how)
    have HT := hid hst
    clear hrl how hst HT7 HL7
    by_cases hlt : k < 3
    · have hk9 : (k : Int) < 3 := by omega
      have HLI := hid ((Own.of (World.ownsRow_lit (base := wr.heap.size) (e := 3) (size := 1) wr #[iv 11, iv 12, iv 13, iv 21] 4 (Nat.le_refl _) (by decide) rfl)).si (zs := [11, 12, 13, 21]))
      have HTA := hid (HT.out.below hg ((Below.refl lim wr).alloc (by omega) (.cells #[iv 11, iv 12, iv 13, iv 21] 3)))
      have HOA := hid (HO.out.below (below_alloc wr (.cells #[iv 11, iv 12, iv 13, iv 21] 3)) (Nat.le_refl _))
      have hzA : (wr.alloc (.cells #[iv 11, iv 12, iv 13, iv 21] 3)).heap.size = wr.heap.size + 1 := by simp
      clear HT HO
      go_wp2_with fail
      generalize wr.alloc (.cells #[iv 11, iv 12, iv 13, iv 21] 3) = WA at HLI HTA HOA hzA ⊢
      refine (l1Int_any _ HTA.out.1.1 HLI.out (Nat.le_refl _) (by intro b off n c h; simp only [Value.slice.injEq, Option.some.injEq, Addr.mk.injEq] at h; omega) (by decide)).mono ?_
      rintro e wa ⟨z, rfl, -, hca, hga⟩
      have hza := hga.size
      have HTa := hid ((HTA.out.cur hg ⟨hca, hga⟩).below hg ((Below.refl lim wa).alloc (by omega) (.cells #[iv z, iv 1, iv 3, iv d, iv 2, iv 0, iv 0, iv 0, iv 0] 117)))
      have HOa := hid ((Own.cur HOA.out hga (by omega) (by omega)).below (below_alloc wa (.cells #[iv z, iv 1, iv 3, iv d, iv 2, iv 0, iv 0, iv 0, iv 0] 117)) (by omega))
      have HXa := hid (Blk.new wa #[iv z, iv 1, iv 3, iv d, iv 2, iv 0, iv 0, iv 0, iv 0] 117)
      have hzb : (wa.alloc (.cells #[iv z, iv 1, iv 3, iv d, iv 2, iv 0, iv 0, iv 0, iv 0] 117)).heap.size = wa.heap.size + 1 := by simp
      clear hca hga HLI HTA HOA
      go_wp2_with fail
      generalize wa.alloc (.cells #[iv z, iv 1, iv 3, iv d, iv 2, iv 0, iv 0, iv 0, iv 0] 117) = Wa at HTa HOa HXa hzb ⊢
      refine (l1Once_any _ _ HTa.out.1.1).mono ?_
      rintro e wb ⟨b, rfl, hcb, hgb⟩
      have hzc := hgb.size
      have HTb := hid (HTa.out.cur hg ⟨hcb, hgb⟩)
      have HOb := hid (Own.cur HOa.out hgb (by omega) (by omega))
      have HXb := hid (HXa.out.cur hgb (by omega))
      clear hcb hgb HTa HOa HXa
      cases b
      · have q0 := HTb.out.2.2.1.cell 0 rfl
        have q1 := HTb.out.2.2.1.cell 1 rfl
        have hqb := HTb.out.2.2.1.lt
        go_wp2_with fail
        refine (specBeforeFor_any (B := wb.heap.size) (ks := keys10) (ls := ls) (os := os) q d 3 wb HTb.out.keys HTb.out.owners ((Own.sl HOb.out HRL.out).mono (by omega)) (Nat.le_refl _) (by omega)).mono ?_
        rintro e wc ⟨rfl, hbc⟩
        generalize beforeI keys10 ls os q d 3 = bf
        have hzc2 := hbc.size
        have hx6 := (HXb.out.below hbc).cell 6 rfl
        have fx6 := (HXb.out.below hbc).frozen 6 (by simp)
        have c0 := (HXb.out.below hbc).cell 0 rfl
        have c1 := (HXb.out.below hbc).cell 1 rfl
        have c2 := (HXb.out.below hbc).cell 2 rfl
        have c3 := (HXb.out.below hbc).cell 3 rfl
        have c4 := (HXb.out.below hbc).cell 4 rfl
        have c5 := (HXb.out.below hbc).cell 5 rfl
        have c7 := (HXb.out.below hbc).cell 7 rfl
        have c8 := (HXb.out.below hbc).cell 8 rfl
        have hxc := (HXb.out.below hbc).lt
        have HXc : Hid (Blk wa.heap.size (wc.setCell ⟨wa.heap.size, 6, none⟩ (iv bf)) [iv z, iv 1, iv 3, iv d, iv 2, iv 0, iv bf, iv 0, iv 0]) := hid ((HXb.out.below hbc).set (k := 6) (by simp) (iv bf))
        have HTc := hid ((HTb.out.below hg (hbc.mono HTb.out.fit.2.2)).below hg ((Below.refl lim wc).setCell (p := ⟨wa.heap.size, 6, none⟩) (by show lim ≤ wa.heap.size; omega) (iv bf)))
        have HOc := hid ((HOb.out.below hbc (by omega)).below ((Below.refl wr.heap.size wc).setCell (p := ⟨wa.heap.size, 6, none⟩) (by show wr.heap.size ≤ wa.heap.size; omega) (iv bf)) (Nat.le_refl _))
        have hzw : (wc.setCell ⟨wa.heap.size, 6, none⟩ (iv bf)).heap.size = wc.heap.size := by simp
        clear hbc q0 q1 HTb HOb HXb
        go_wp2_with fail
        clear hx6 fx6 c0 c1 c2 c3 c4 c5 c7 c8
        generalize wc.setCell ⟨wa.heap.size, 6, none⟩ (iv bf) = Wc at HXc HTc HOc hzw ⊢
        obtain ⟨r0, r1, r2, r3, r4, r5, r6, r7, r8, bb, -, hP⟩ := both_sign keys10 z 1 3 d 2 0 bf 0 0
        have HP := hid hP
        clear hP
        refine (HP.out _ Wc HTc.out.keys).mono ?_
        rintro e wd ⟨rfl, hbd⟩
        have hzd := hbd.size
        have HXd := hid (HXc.out.below hbd)
        have HTd := hid (HTc.out.below hg (hbd.mono HTc.out.fit.2.2))
        have HOd := hid (HOc.out.below hbd (by omega))
        clear hbd HP HXc HTc HOc
        have x0 := HXd.out.cell 0 rfl
        have x1 := HXd.out.cell 1 rfl
        have x2 := HXd.out.cell 2 rfl
        have x3 := HXd.out.cell 3 rfl
        have x4 := HXd.out.cell 4 rfl
        have x5 := HXd.out.cell 5 rfl
        have x6 := HXd.out.cell 6 rfl
        have x7 := HXd.out.cell 7 rfl
        have x8 := HXd.out.cell 8 rfl
        have fx0 := HXd.out.frozen 0 (by simp)
        have fx1 := HXd.out.frozen 1 (by simp)
        have fx2 := HXd.out.frozen 2 (by simp)
        have fx3 := HXd.out.frozen 3 (by simp)
        have fx4 := HXd.out.frozen 4 (by simp)
        have fx5 := HXd.out.frozen 5 (by simp)
        have fx6 := HXd.out.frozen 6 (by simp)
        have fx7 := HXd.out.frozen 7 (by simp)
        have fx8 := HXd.out.frozen 8 (by simp)
        have hxd := HXd.out.lt
        have hla : lim ≤ wa.heap.size := by omega
        have hra : wr.heap.size ≤ wa.heap.size := by omega
        have HXe : Hid (Blk wa.heap.size (((((((((wd.setCell ⟨wa.heap.size, 0, none⟩ (iv r0)).setCell ⟨wa.heap.size, 1, none⟩ (iv r1)).setCell ⟨wa.heap.size, 2, none⟩ (iv r2)).setCell ⟨wa.heap.size, 3, none⟩ (iv r3)).setCell ⟨wa.heap.size, 4, none⟩ (iv r4)).setCell ⟨wa.heap.size, 5, none⟩ (iv r5)).setCell ⟨wa.heap.size, 6, none⟩ (iv r6)).setCell ⟨wa.heap.size, 7, none⟩ (iv r7)).setCell ⟨wa.heap.size, 8, none⟩ (iv r8)) [iv r0, iv r1, iv r2, iv r3, iv r4, iv r5, iv r6, iv r7, iv r8]) := hid (((((((((HXd.out.set (k := 0) (by simp) (iv r0)).set (k := 1) (by simp) (iv r1)).set (k := 2) (by simp) (iv r2)).set (k := 3) (by simp) (iv r3)).set (k := 4) (by simp) (iv r4)).set (k := 5) (by simp) (iv r5)).set (k := 6) (by simp) (iv r6)).set (k := 7) (by simp) (iv r7)).set (k := 8) (by simp) (iv r8))
        have HTe := hid (HTd.out.below hg ((((((((((Below.refl lim wd).setCell (p := ⟨wa.heap.size, 0, none⟩) hla (iv r0)).setCell (p := ⟨wa.heap.size, 1, none⟩) hla (iv r1)).setCell (p := ⟨wa.heap.size, 2, none⟩) hla (iv r2)).setCell (p := ⟨wa.heap.size, 3, none⟩) hla (iv r3)).setCell (p := ⟨wa.heap.size, 4, none⟩) hla (iv r4)).setCell (p := ⟨wa.heap.size, 5, none⟩) hla (iv r5)).setCell (p := ⟨wa.heap.size, 6, none⟩) hla (iv r6)).setCell (p := ⟨wa.heap.size, 7, none⟩) hla (iv r7)).setCell (p := ⟨wa.heap.size, 8, none⟩) hla (iv r8)))
        have HOe := hid (HOd.out.below ((((((((((Below.refl wr.heap.size wd).setCell (p := ⟨wa.heap.size, 0, none⟩) hra (iv r0)).setCell (p := ⟨wa.heap.size, 1, none⟩) hra (iv r1)).setCell (p := ⟨wa.heap.size, 2, none⟩) hra (iv r2)).setCell (p := ⟨wa.heap.size, 3, none⟩) hra (iv r3)).setCell (p := ⟨wa.heap.size, 4, none⟩) hra (iv r4)).setCell (p := ⟨wa.heap.size, 5, none⟩) hra (iv r5)).setCell (p := ⟨wa.heap.size, 6, none⟩) hra (iv r6)).setCell (p := ⟨wa.heap.size, 7, none⟩) hra (iv r7)).setCell (p := ⟨wa.heap.size, 8, none⟩) hra (iv r8)) (Nat.le_refl _))
        have hze : (((((((((wd.setCell ⟨wa.heap.size, 0, none⟩ (iv r0)).setCell ⟨wa.heap.size, 1, none⟩ (iv r1)).setCell ⟨wa.heap.size, 2, none⟩ (iv r2)).setCell ⟨wa.heap.size, 3, none⟩ (iv r3)).setCell ⟨wa.heap.size, 4, none⟩ (iv r4)).setCell ⟨wa.heap.size, 5, none⟩ (iv r5)).setCell ⟨wa.heap.size, 6, none⟩ (iv r6)).setCell ⟨wa.heap.size, 7, none⟩ (iv r7)).setCell ⟨wa.heap.size, 8, none⟩ (iv r8)).heap.size = wd.heap.size := by simp
        clear HXd HTd HOd
        go_wp2_with fail
        clear x0 fx0 x1 fx1 x2 fx2 x3 fx3 x4 fx4 x5 fx5 x6 fx6 x7 fx7 x8 fx8
        generalize (((((((((wd.setCell ⟨wa.heap.size, 0, none⟩ (iv r0)).setCell ⟨wa.heap.size, 1, none⟩ (iv r1)).setCell ⟨wa.heap.size, 2, none⟩ (iv r2)).setCell ⟨wa.heap.size, 3, none⟩ (iv r3)).setCell ⟨wa.heap.size, 4, none⟩ (iv r4)).setCell ⟨wa.heap.size, 5, none⟩ (iv r5)).setCell ⟨wa.heap.size, 6, none⟩ (iv r6)).setCell ⟨wa.heap.size, 7, none⟩ (iv r7)).setCell ⟨wa.heap.size, 8, none⟩ (iv r8)) = We at HXe HTe HOe hze ⊢
        refine (l1Once_any _ _ HTe.out.1.1).mono ?_
        rintro e wf ⟨b2, rfl, hcf, hgf⟩
        have hzf := hgf.size
        have HTf := hid (HTe.out.cur hg ⟨hcf, hgf⟩)
        have HOf := hid (Own.cur HOe.out hgf (by omega) (by omega))
        have HXf := hid (HXe.out.cur hgf (by omega))
        clear hcf hgf HTe HOe HXe
        cases b2
        · have y0 := HXf.out.cell 0 rfl
          have y1 := HXf.out.cell 1 rfl
          have y2 := HXf.out.cell 2 rfl
          have y3 := HXf.out.cell 3 rfl
          have y4 := HXf.out.cell 4 rfl
          have y5 := HXf.out.cell 5 rfl
          have y6 := HXf.out.cell 6 rfl
          have y7 := HXf.out.cell 7 rfl
          have y8 := HXf.out.cell 8 rfl
          have hxf := HXf.out.lt
          go_wp2_with (first | (at_builtin; refine wpList_append_src _ rfl _ _ 35 rfl w7.heap.size 117 Try.underlying35 Try.infoSig0 rfl (by decide) _ _ ls.length 1 _ [iv r0, iv r1, iv r2, iv r3, iv r4, iv r5, iv r6, iv r7, iv r8] rfl rfl (HOf.out.1.alloc _) (Src.lit (cs := #[iv r0, iv r1, iv r2, iv r3, iv r4, iv r5, iv r6, iv r7, iv r8]) (m := 1) (size := 9) (heap_new_at wf _ (by simp)) rfl (by simp [Value.oneCell']) 1) (by unfold maxLen; omega) (by omega) (by simp; omega) ?_; intro v1 w9 hown1 hg1; have HO9 := hid hown1; have HT9 := hid ((HTf.out.below hg ((Below.refl lim wf).alloc (by omega) _)).below hg ((Below.refl lim _).grown hg1 (by simp; omega) (fun k hk => by have := (HOf.out.1.lt k hk).1; omega))); have hz9 := hg1.size; clear hown1 hg1) | fail)
          go_roundw
          case rel => exact ⟨k + 1, ls ++ [[r0, r1, r2, r3, r4, r5, r6, r7, r8]], by go_num, by omega, by simp; omega, (by intro r hr; rcases List.mem_append.1 hr with h8 | h8; exact HRL.out r h8; rw [List.mem_singleton.1 h8]; rfl), by simp at hz9; omega, by rw [List.length_append, flat_append]; exact HO9.out, HT9.out⟩
          case measure => simp [intOf]; omega
        · go_wp2
          go_roundw
          case rel => exact ⟨k + 1, ls, by go_num, by omega, by omega, HRL.out, by omega, HOf.out.1, HTf.out⟩
          case measure => simp [intOf]; omega
      · have HTc := HTb
        have HOc := HOb
        have HXc := HXb
        have c0 := HXb.out.cell 0 rfl
        have c1 := HXb.out.cell 1 rfl
        have c2 := HXb.out.cell 2 rfl
        have c3 := HXb.out.cell 3 rfl
        have c4 := HXb.out.cell 4 rfl
        have c5 := HXb.out.cell 5 rfl
        have c6 := HXb.out.cell 6 rfl
        have c7 := HXb.out.cell 7 rfl
        have c8 := HXb.out.cell 8 rfl
        have hxc := HXb.out.lt
        clear HTb HOb HXb
        go_wp2_with fail
        clear c0 c1 c2 c3 c4 c5 c6 c7 c8
        obtain ⟨r0, r1, r2, r3, r4, r5, r6, r7, r8, bb, -, hP⟩ := both_sign keys10 z 1 3 d 2 0 0 0 0
        have HP := hid hP
        clear hP
        refine (HP.out _ wb HTc.out.keys).mono ?_
        rintro e wd ⟨rfl, hbd⟩
        have hzd := hbd.size
        have HXd := hid (HXc.out.below hbd)
        have HTd := hid (HTc.out.below hg (hbd.mono HTc.out.fit.2.2))
        have HOd := hid (HOc.out.below hbd (by omega))
        clear hbd HP HXc HTc HOc
        have x0 := HXd.out.cell 0 rfl
        have x1 := HXd.out.cell 1 rfl
        have x2 := HXd.out.cell 2 rfl
        have x3 := HXd.out.cell 3 rfl
        have x4 := HXd.out.cell 4 rfl
        have x5 := HXd.out.cell 5 rfl
        have x6 := HXd.out.cell 6 rfl
        have x7 := HXd.out.cell 7 rfl
        have x8 := HXd.out.cell 8 rfl
        have fx0 := HXd.out.frozen 0 (by simp)
        have fx1 := HXd.out.frozen 1 (by simp)
        have fx2 := HXd.out.frozen 2 (by simp)
        have fx3 := HXd.out.frozen 3 (by simp)
        have fx4 := HXd.out.frozen 4 (by simp)
        have fx5 := HXd.out.frozen 5 (by simp)
        have fx6 := HXd.out.frozen 6 (by simp)
        have fx7 := HXd.out.frozen 7 (by simp)
        have fx8 := HXd.out.frozen 8 (by simp)
        have hxd := HXd.out.lt
        have hla : lim ≤ wa.heap.size := by omega
        have hra : wr.heap.size ≤ wa.heap.size := by omega
        have HXe : Hid (Blk wa.heap.size (((((((((wd.setCell ⟨wa.heap.size, 0, none⟩ (iv r0)).setCell ⟨wa.heap.size, 1, none⟩ (iv r1)).setCell ⟨wa.heap.size, 2, none⟩ (iv r2)).setCell ⟨wa.heap.size, 3, none⟩ (iv r3)).setCell ⟨wa.heap.size, 4, none⟩ (iv r4)).setCell ⟨wa.heap.size, 5, none⟩ (iv r5)).setCell ⟨wa.heap.size, 6, none⟩ (iv r6)).setCell ⟨wa.heap.size, 7, none⟩ (iv r7)).setCell ⟨wa.heap.size, 8, none⟩ (iv r8)) [iv r0, iv r1, iv r2, iv r3, iv r4, iv r5, iv r6, iv r7, iv r8]) := hid (((((((((HXd.out.set (k := 0) (by simp) (iv r0)).set (k := 1) (by simp) (iv r1)).set (k := 2) (by simp) (iv r2)).set (k := 3) (by simp) (iv r3)).set (k := 4) (by simp) (iv r4)).set (k := 5) (by simp) (iv r5)).set (k := 6) (by simp) (iv r6)).set (k := 7) (by simp) (iv r7)).set (k := 8) (by simp) (iv r8))
        have HTe := hid (HTd.out.below hg ((((((((((Below.refl lim wd).setCell (p := ⟨wa.heap.size, 0, none⟩) hla (iv r0)).setCell (p := ⟨wa.heap.size, 1, none⟩) hla (iv r1)).setCell (p := ⟨wa.heap.size, 2, none⟩) hla (iv r2)).setCell (p := ⟨wa.heap.size, 3, none⟩) hla (iv r3)).setCell (p := ⟨wa.heap.size, 4, none⟩) hla (iv r4)).setCell (p := ⟨wa.heap.size, 5, none⟩) hla (iv r5)).setCell (p := ⟨wa.heap.size, 6, none⟩) hla (iv r6)).setCell (p := ⟨wa.heap.size, 7, none⟩) hla (iv r7)).setCell (p := ⟨wa.heap.size, 8, none⟩) hla (iv r8)))
        have HOe := hid (HOd.out.below ((((((((((Below.refl wr.heap.size wd).setCell (p := ⟨wa.heap.size, 0, none⟩) hra (iv r0)).setCell (p := ⟨wa.heap.size, 1, none⟩) hra (iv r1)).setCell (p := ⟨wa.heap.size, 2, none⟩) hra (iv r2)).setCell (p := ⟨wa.heap.size, 3, none⟩) hra (iv r3)).setCell (p := ⟨wa.heap.size, 4, none⟩) hra (iv r4)).setCell (p := ⟨wa.heap.size, 5, none⟩) hra (iv r5)).setCell (p := ⟨wa.heap.size, 6, none⟩) hra (iv r6)).setCell (p := ⟨wa.heap.size, 7, none⟩) hra (iv r7)).setCell (p := ⟨wa.heap.size, 8, none⟩) hra (iv r8)) (Nat.le_refl _))
        have hze : (((((((((wd.setCell ⟨wa.heap.size, 0, none⟩ (iv r0)).setCell ⟨wa.heap.size, 1, none⟩ (iv r1)).setCell ⟨wa.heap.size, 2, none⟩ (iv r2)).setCell ⟨wa.heap.size, 3, none⟩ (iv r3)).setCell ⟨wa.heap.size, 4, none⟩ (iv r4)).setCell ⟨wa.heap.size, 5, none⟩ (iv r5)).setCell ⟨wa.heap.size, 6, none⟩ (iv r6)).setCell ⟨wa.heap.size, 7, none⟩ (iv r7)).setCell ⟨wa.heap.size, 8, none⟩ (iv r8)).heap.size = wd.heap.size := by simp
        clear HXd HTd HOd
        go_wp2_with fail
        clear x0 fx0 x1 fx1 x2 fx2 x3 fx3 x4 fx4 x5 fx5 x6 fx6 x7 fx7 x8 fx8
        generalize (((((((((wd.setCell ⟨wa.heap.size, 0, none⟩ (iv r0)).setCell ⟨wa.heap.size, 1, none⟩ (iv r1)).setCell ⟨wa.heap.size, 2, none⟩ (iv r2)).setCell ⟨wa.heap.size, 3, none⟩ (iv r3)).setCell ⟨wa.heap.size, 4, none⟩ (iv r4)).setCell ⟨wa.heap.size, 5, none⟩ (iv r5)).setCell ⟨wa.heap.size, 6, none⟩ (iv r6)).setCell ⟨wa.heap.size, 7, none⟩ (iv r7)).setCell ⟨wa.heap.size, 8, none⟩ (iv r8)) = We at HXe HTe HOe hze ⊢
        refine (l1Once_any _ _ HTe.out.1.1).mono ?_
        rintro e wf ⟨b2, rfl, hcf, hgf⟩
        have hzf := hgf.size
        have HTf := hid (HTe.out.cur hg ⟨hcf, hgf⟩)
        have HOf := hid (Own.cur HOe.out hgf (by omega) (by omega))
        have HXf := hid (HXe.out.cur hgf (by omega))
        clear hcf hgf HTe HOe HXe
        cases b2
        · have y0 := HXf.out.cell 0 rfl
          have y1 := HXf.out.cell 1 rfl
          have y2 := HXf.out.cell 2 rfl
          have y3 := HXf.out.cell 3 rfl
          have y4 := HXf.out.cell 4 rfl
          have y5 := HXf.out.cell 5 rfl
          have y6 := HXf.out.cell 6 rfl
          have y7 := HXf.out.cell 7 rfl
          have y8 := HXf.out.cell 8 rfl
          have hxf := HXf.out.lt
          go_wp2_with (first | (at_builtin; refine wpList_append_src _ rfl _ _ 35 rfl w7.heap.size 117 Try.underlying35 Try.infoSig0 rfl (by decide) _ _ ls.length 1 _ [iv r0, iv r1, iv r2, iv r3, iv r4, iv r5, iv r6, iv r7, iv r8] rfl rfl (HOf.out.1.alloc _) (Src.lit (cs := #[iv r0, iv r1, iv r2, iv r3, iv r4, iv r5, iv r6, iv r7, iv r8]) (m := 1) (size := 9) (heap_new_at wf _ (by simp)) rfl (by simp [Value.oneCell']) 1) (by unfold maxLen; omega) (by omega) (by simp; omega) ?_; intro v1 w9 hown1 hg1; have HO9 := hid hown1; have HT9 := hid ((HTf.out.below hg ((Below.refl lim wf).alloc (by omega) _)).below hg ((Below.refl lim _).grown hg1 (by simp; omega) (fun k hk => by have := (HOf.out.1.lt k hk).1; omega))); have hz9 := hg1.size; clear hown1 hg1) | fail)
          go_roundw
          case rel => exact ⟨k + 1, ls ++ [[r0, r1, r2, r3, r4, r5, r6, r7, r8]], by go_num, by omega, by simp; omega, (by intro r hr; rcases List.mem_append.1 hr with h8 | h8; exact HRL.out r h8; rw [List.mem_singleton.1 h8]; rfl), by simp at hz9; omega, by rw [List.length_append, flat_append]; exact HO9.out, HT9.out⟩
          case measure => simp [intOf]; omega
        · go_wp2
          go_roundw
          case rel => exact ⟨k + 1, ls, by go_num, by omega, by omega, HRL.out, by omega, HOf.out.1, HTf.out⟩
          case measure => simp [intOf]; omega
    · obtain rfl : k = 3 := by omega
      obtain ⟨hk, hr, hx, ho, he, -, -, -⟩ := HT.out
      have HKx := hid hk
      have HOx := hid ho
      have HEx := hid he
      have q0 := hx.cell 0 rfl
      have q1 := hx.cell 1 rfl
      have hxl := hx.lt
      have hrr := hr.lt
      have z0 := hr.cell 0 rfl
      have z1 := hr.cell 1 rfl
      have fz0 := hr.frozen 0 (by simp)
      have fz1 := hr.frozen 1 (by simp)
      have hne : w.heap.size ≠ bR := by omega
      clear hk hr hx ho he HT
      go_wp2_with fail
      go_region
      all_goals
        go_wp2
        refine bodyPost_ret (v := .tuple #[(.slice (some ⟨w.heap.size + 1, 0, none⟩) 10 10), .agg #[.slice A os.length qo, .bool q], .slice GL ls.length ql, iv d]) (by simp [results, Try.results155, go_sem, z0, z1]) rfl ⟨_, _, A, qo, os, q, ls, d, rfl, HOS.out, hol, by omega, HRL.out, ?_, ?_, ?_, ?_⟩
        · refine (HEx.out.apart (hi0 := w.heap.size + 1) ?_ (Nat.le_refl _)).mono (by omega) (by simp; omega)
          repeat (first | with_reducible exact Apart.refl _ _ | refine Apart.setCell ?_ (by simp) _ | with_reducible refine Apart.drew ?_)
        · refine (HOx.out.apart (hi0 := w.heap.size + 1) ?_ (Nat.le_refl _)).mono (by omega) (by simp; omega)
          repeat (first | with_reducible exact Apart.refl _ _ | refine Apart.setCell ?_ (by simp) _ | with_reducible refine Apart.drew ?_)
        · refine (HO.out.apart (hi0 := w.heap.size + 1) ?_ (by omega)).mono (by omega) (by simp)
          repeat (first | with_reducible exact Apart.refl _ _ | refine Apart.setCell ?_ (by simp) _ | with_reducible refine Apart.drew ?_)
        · have h9 := HKx.out
          have hle0 : w.heap.size ≤ w.heap.size := Nat.le_refl _
          repeat (first | with_reducible exact h9 | with_reducible refine Kb.set ?_ hg hle0 _ | with_reducible refine kb_drew hg ?_)
/-- What was drawn for a rule. -/
def DrewRule (w : World) (e : Ending) (w' : World) : Prop :=
  ∃ (KV LV : Value) (A : Option Addr) (qo : Nat) (os : List Int) (q : Bool) (ls : List (List Int)) (d : Int), e = .returned (.tuple #[KV, .agg #[.slice A os.length qo, .bool q], LV, iv d]) ∧ (∀ o ∈ os, 0 ≤ o) ∧ os.length ≤ 3 ∧ ls.length ≤ 3 ∧ (∀ r ∈ ls, r.length = 9) ∧
    Own w' 64 5 KV w.heap.size w'.heap.size 10 (flat keys10) ∧ Own w' 3 1 (.slice A os.length qo) w.heap.size w'.heap.size os.length (os.map (Value.int .i64)) ∧ Own w' 117 9 LV w.heap.size w'.heap.size ls.length (flat ls) ∧ Below w.heap.size w w'
set_option maxRecDepth 16000 in
set_option maxHeartbeats 4000000 in
theorem DrawMeetsRule_any {n : Nat} {v : Value} (w : World) (hv : Bytes w.heap.size w v n) (hn : n ≤ 1048576) :
    Calls Try.prog 90 #[v] w (DrewRule w) := by
  have HV := hid ((hv.below (below_alloc w (.cells #[.slice none 0 0, .bool false] 33)) (Nat.le_refl _)).mono (B' := (w.alloc (.cells #[.slice none 0 0, .bool false] 33)).heap.size) (by simp))
  have HX0 := hid (Blk.new w #[.slice none 0 0, .bool false] 33)
  clear hv
  go_enter Try.func90, Try.ntmps90
  go_wp2_with fail
  refine (l1New_any _ HV.out hn).mono ?_
  rintro e w1 ⟨rfl, hc1, hb1⟩
  have HX1 := hid (HX0.out.below hb1)
  have HB1 := hid (below_step (below_alloc w (.cells #[.slice none 0 0, .bool false] 33)) hb1)
  have hg := hc1.lt
  have HK1 := hid (Kb.refl hc1)
  obtain ⟨g, hgg⟩ : ∃ g, g = (w.alloc (.cells #[.slice none 0 0, .bool false] 33)).heap.size := ⟨_, rfl⟩
  rw [← hgg] at hg HK1 ⊢
  have hgw : w.heap.size < g := by rw [hgg]; simp
  clear hb1 hc1 hgg
  go_wp2_with fail
  refine (l14Case_any _ HK1.out.1).mono ?_
  rintro e w2 ⟨KV, LV, A, qo, os, q, ls, d, rfl, hos, hol, hll, hrl, hke, hoo, hlo, hk2⟩
  have HK2 := hid (HK1.out.next hk2)
  have HX2 := hid (HX1.out.cur hk2.2 (by omega))
  have HOS := hid hos
  have HRL := hid hrl
  have HKE := hid hke
  have HOO := hid hoo
  have HLO := hid hlo
  have hz2 := hk2.2.size
  have HB2 := hid (kb_below HB1.out (Nat.le_of_lt hgw) hg HK2.out)
  have r0 := HX2.out.cell 0 rfl
  have r1 := HX2.out.cell 1 rfl
  have fr0 := HX2.out.frozen 0 (by simp)
  have fr1 := HX2.out.frozen 1 (by simp)
  have hr9 := HX2.out.lt
  have hne : w.heap.size ≠ w2.heap.size := by omega
  have hz1 : w.heap.size < w1.heap.size := by omega
  clear hos hrl hke hoo hlo hk2 HX2 HX1 HX0 HK1 HK2 HV
  go_wp2_with fail
  go_region
  all_goals
    go_wp2
    refine bodyPost_ret (v := .tuple #[KV, .agg #[.slice A os.length qo, .bool q], LV, iv d]) (by simp [results, Try.results90, go_sem, r0, r1, hr9]) rfl ⟨KV, LV, A, qo, os, q, ls, d, rfl, HOS.out, hol, hll, HRL.out, ?_, ?_, ?_, ?_⟩
    · refine ((((HKE.out.apart (hi0 := w.heap.size + 1) ?_ (by omega)).below (below_alloc _ _) (by simp)).below (Below.refl w2.heap.size _).drew (Nat.le_refl _))).mono (by omega) (by simp)
      repeat (first | with_reducible exact Apart.refl _ _ | refine Apart.setCell ?_ (by simp) _ | with_reducible refine Apart.drew ?_)
    · refine ((((HOO.out.apart (hi0 := w.heap.size + 1) ?_ (by omega)).below (below_alloc _ _) (by simp)).below (Below.refl w2.heap.size _).drew (Nat.le_refl _))).mono (by omega) (by simp)
      repeat (first | with_reducible exact Apart.refl _ _ | refine Apart.setCell ?_ (by simp) _ | with_reducible refine Apart.drew ?_)
    · refine ((((HLO.out.apart (hi0 := w.heap.size + 1) ?_ (by omega)).below (below_alloc _ _) (by simp)).below (Below.refl w2.heap.size _).drew (Nat.le_refl _))).mono (by omega) (by simp)
      repeat (first | with_reducible exact Apart.refl _ _ | refine Apart.setCell ?_ (by simp) _ | with_reducible refine Apart.drew ?_)
    · have h9 := HB2.out
      refine Below.drew (Below.alloc ?_ (by simp; omega) _)
      repeat (first | with_reducible exact h9 | refine Below.setCell ?_ (by simp) _)
end Go.Proofs.Ytkdpfbodmfjkkaa
