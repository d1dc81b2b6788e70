/- The reference's MakeDocument, of a good title, good parts and a valid seed: it makes a document with as many salts as parts, each from 1 on. Condition: the title, the parts and the seed are good ones. -/
import Derived.Test.YtkdpfbodmfjkkaaRows
import Derived.Test.YtkdpfbodmfjkkaaBase
import Derived.Test.YtkdpfbodmfjkkaaPlain
import Derived.Test.YtkdpfbodmfjkkaaAppend
import Derived.Test.YtkdpfbodmfjkkaaApart
import Derived.Test.YtkdpfbodmfjkkaaCrypto
import Derived.Test.YtkdpfbodmfjkkaaStampsDigest
import Derived.Test.YtkdpfbodmfjkkaaStr
import Derived.Test.YtkdpfbodmfjkkaaBlk
import Derived.Test.YtkdpfbodmfjkkaaDoc
namespace Go.Proofs.Ytkdpfbodmfjkkaa
open Go.ChangeShapes Go.WideShapes Go.ChangeAt Go.RowKit Go.Deep

theorem Try.infoStr1 : (Try.prog.info? 9).map (fun i => (i.zero, i.size, i.bytes)) = some (some (.string ByteArray.empty), 1, 16) := by kernel_rfl
/-- An array below a row that grows stands. -/
theorem Own.below_row {w w' : World} {E s lo hi n base e size m : Nat} {v u : Value} {xs ys : List Value} (h : Own w E s v lo hi n xs) (hg : w.grownBy w' u.ownBlock) {w0 : World} (hu : w0.ownsRow base e size u m ys) (hB : hi ≤ base) : Own w' E s v lo hi n xs := by
  obtain ⟨⟨hn, h1⟩, h2⟩ := h
  refine ⟨⟨hn, ?_⟩, h2⟩
  rcases h1 with h1 | ⟨q, cap, cur, rfl, r0, r1, r2⟩
  · exact .inl h1
  · exact .inr ⟨q, cap, cur, rfl, r0, (hg.block q (Array.getElem?_eq_some_iff.1 r1).1 (by intro e; have := (hu.lt q e.symm).1; have := h2 q rfl; omega)).trans r1, r2⟩
/-- A salt. -/
def SaltOk (z : Int) : Prop := 1 ≤ z ∧ z ≤ 2147483646
theorem salt_of (key : Int) (l : List Int) : SaltOk (mx 1 (keyedHash key l)) := by
  have h := hashI_bd (key :: l ++ [key])
  unfold SaltOk mx keyedHash
  split <;> omega
set_option maxHeartbeats 400000 in
theorem specIsValidKey_yes (n : Int) (w : World) (h : 1 ≤ n) (h2 : n ≤ 2147483646) : Calls Try.prog 199 #[iv n] w (Ret (.bool true) w) := by
  have HT : Hid (inR n 1 2147483646 = true) := hid (inR_iff.2 ⟨h, h2⟩)
  clear h h2
  go_enter Try.func199, Try.ntmps199
  go_wp2_with fail
  refine (specInR_any n 1 2147483646 w).mono ?_
  rintro e w1 ⟨rfl, rfl⟩
  rw [HT.out]
  go_wp2
  go_ret
  exact ⟨rfl, Below.refl _ _⟩
/-- A document was made: its parts are these, its salts are good. -/
def MadeDoc (t : Int) (ps : List ByteArray) (w : World) (e : Ending) (w' : World) : Prop :=
  ∃ (P S : Value) (zs : List Int) (mid : Nat), e = .returned (.tuple #[.agg #[iv t, P, S], .bool true]) ∧ zs.length = ps.length ∧ (∀ z ∈ zs, SaltOk z) ∧ (w.heap.size ≤ mid ∧ mid ≤ w'.heap.size) ∧ Own w' 9 1 P w.heap.size mid ps.length (ps.map Value.string) ∧ Own w' 3 1 S mid w'.heap.size zs.length (zs.map (Value.int .i64)) ∧ Below w.heap.size w w'
theorem docB_made {t : Int} {ps : List ByteArray} {zs : List Int} (ht : 0 ≤ t ∧ t ≤ 999) (h1 : 1 ≤ ps.length) (h2 : ps.length ≤ 6) (hs : ∀ k, k < ps.length → (nthS ps k).size ≤ 40) (hl : zs.length = ps.length) (hz : ∀ z ∈ zs, SaltOk z) : docB t ps zs = true := by
  unfold docB
  have e1 : inR t 0 999 = true := inR_iff.2 ht
  have e2 : inR ps.length 1 6 = true := inR_iff.2 (by omega)
  have e3 : ((zs.length : Int) == (ps.length : Int)) = true := by rw [beq_iff_eq, hl]
  have e4 : allB (goodP ps) ps.length = true := allB_end fun i hi => by unfold goodP; simpa using hs i hi
  have e5 : allB (goodZ zs) zs.length = true := allB_end fun i hi => by
    unfold goodZ
    have h9 : SaltOk (nth zs i) := hz _ (by rw [nth, List.getD, List.getElem?_eq_getElem hi]; exact List.getElem_mem hi)
    unfold SaltOk at h9
    exact inR_iff.2 (by omega)
  rw [e1, e2, e3, e4, e5]
  rfl
set_option maxRecDepth 16000 in
set_option maxHeartbeats 16000000 in
theorem specMakeDocument_any {B : Nat} {ps : List ByteArray} {P : Value} (t seed : Int) (w : World) (hp : Ss B w P ps) (hB : B ≤ w.heap.size) (ht : 0 ≤ t ∧ t ≤ 999) (h1 : 1 ≤ ps.length) (h2 : ps.length ≤ 6) (hs : ∀ k, k < ps.length → (nthS ps k).size ≤ 40) (hk1 : 1 ≤ seed) (hk2 : seed ≤ 2147483646) :
    Calls Try.prog 187 #[iv t, P, iv seed] w (MadeDoc t ps w) := by
  obtain ⟨A1, c1, rfl, hd1, hd2, -⟩ := id hp
  have HDB : Hid (∀ zs : List Int, zs.length = ps.length → (∀ z ∈ zs, SaltOk z) → docB t ps zs = true) := hid fun zs hl hz => docB_made ht h1 h2 hs hl hz
  have hb0 := (below_alloc w (.cells #[iv 0, .slice none 0 0, .slice none 0 0] 113)).alloc (by simp) (.cells #[] 9)
  have HB0 := hid hb0
  have HP0 := hid ((hp.below hb0 hB).src)
  have HR0 := hid ((Blk.new w #[iv 0, .slice none 0 0, .slice none 0 0] 113).alloc (.cells #[] 9))
  have HO0 := hid (World.ownsRow_lit (base := w.heap.size + 1) (e := 9) (size := 1) (w.alloc (.cells #[iv 0, .slice none 0 0, .slice none 0 0] 113)) #[] 0 (by simp) (by decide) rfl)
  rw [show (w.alloc (.cells #[iv 0, .slice none 0 0, .slice none 0 0] 113)).heap.size = w.heap.size + 1 by simp] at HO0
  have hs0 : ((w.alloc (.cells #[iv 0, .slice none 0 0, .slice none 0 0] 113)).alloc (.cells #[] 9)).heap.size = w.heap.size + 2 := by simp
  clear hp hb0 hs
  go_enter Try.func187, Try.ntmps187
  go_wp2_with (first | (at_builtin; generalize (w.alloc (.cells #[iv 0, .slice none 0 0, .slice none 0 0] 113)).alloc (.cells #[] 9) = W0 at HB0 HP0 HR0 HO0 hs0 ⊢; refine wpList_append_src _ rfl _ _ 111 rfl (w.heap.size + 1) 9 Try.underlying111 Try.infoStr1 rfl (by decide) _ _ 0 ps.length [] _ rfl rfl HO0.out HP0.out (by unfold maxLen; omega) (by omega) (by omega) ?_; intro v1 w1 hown1 hg1; rw [Nat.zero_add, List.nil_append] at hown1; obtain ⟨G1, q1, rfl⟩ := ownsRow_form hown1; have HO1 := hid hown1; have HB1 := hid (HB0.out.grown hg1 HB0.out.size (fun g hg => by have := (HO0.out.lt g hg).1; omega)); have HR1 := hid (HR0.out.grown hg1 (row_ne HO0.out (by omega))); have hz1 := hg1.size; clear hown1 hg1) | fail)
  obtain ⟨bd, hbd⟩ : ∃ b, b = w1.heap.size := ⟨_, rfl⟩
  have hwb : w.heap.size + 2 ≤ bd := by omega
  have HB2 := hid (HB1.out.alloc HB1.out.size (.cells #[iv t, .slice G1 ps.length q1, .slice none 0 0] 113))
  have HR2 := hid (HR1.out.alloc (.cells #[iv t, .slice G1 ps.length q1, .slice none 0 0] 113))
  have HX2 := hid (Blk.new w1 #[iv t, .slice G1 ps.length q1, .slice none 0 0] 113)
  have HP2 := hid ((Own.of HO1.out).below (below_alloc w1 (.cells #[iv t, .slice G1 ps.length q1, .slice none 0 0] 113)) (Nat.le_refl _))
  have hs2 : (w1.alloc (.cells #[iv t, .slice G1 ps.length q1, .slice none 0 0] 113)).heap.size = w1.heap.size + 1 := by simp
  have hn9 : (ps.length : Int) ≤ 6 := by omega
  rw [← hbd] at HX2 HP2 hs2
  clear HO0 HP0 HR0 HB0 HO1 HB1 HR1 hs0 hz1
  rw [← hbd]
  generalize w1.alloc (.cells #[iv t, .slice G1 ps.length q1, .slice none 0 0] 113) = W2 at HB2 HR2 HX2 HP2 hs2 ⊢
  clear hbd
  go_loopw [9] (fun i wr => ∃ (k : Nat) (zs : List Int) (Sv : Value), k ≤ ps.length ∧ i = .int .i64 k ∧ zs.length = k ∧ (∀ z ∈ zs, SaltOk z) ∧ Blk w.heap.size wr [iv 0, .slice none 0 0, .slice none 0 0] ∧ Blk bd wr [iv t, .slice G1 ps.length q1, Sv] ∧ wr.ownsRow (bd + 1) 3 1 Sv k (zs.map (Value.int .i64)) ∧ Own wr 9 1 (.slice G1 ps.length q1) (w.heap.size + 1) bd ps.length (ps.map Value.string) ∧ Below w.heap.size w wr) (fun i _ => ps.length - (intOf i).toNat)
  case atStart => exact ⟨0, [], .slice none 0 0, Nat.zero_le _, rfl, rfl, (fun z hz => by cases hz), HR2.out, HX2.out, World.ownsRow_nil _ _ _ _, HP2.out, HB2.out⟩
  case round =>
    obtain ⟨k, zs, Sv, hk, rfl, hzl, hzs, hr, hx, how, hpo, hb⟩ := hrel
    have HZS := hid hzs
    have HR := hid hr
    have HX := hid hx
    have HOW := hid how
    have HPO := hid hpo
    have HBL := hid hb
    have hbr := hx.lt
    have hwr := hr.lt
    clear hzs hr hx how hpo hb HB2 HR2 HX2 HP2 hs2
    by_cases hlt : k < ps.length
    · have hi1 : (k : Int) < (ps.length : Int) := by omega
      have HLIT := hid ((Own.of (World.ownsRow_lit (base := wr.heap.size) (e := 3) (size := 1) wr #[iv t, iv k] 2 (Nat.le_refl _) (by decide) rfl)).si (zs := [t, (k : Int)]))
      have HBA := hid ((Below.refl wr.heap.size wr).alloc (Nat.le_refl _) (.cells #[iv t, iv (k : Int)] 3))
      have x0 := HX.out.cell 0 rfl
      have x1 := HX.out.cell 1 rfl
      have x2 := HX.out.cell 2 rfl
      have y2 := HX.out.frozen 2 (by simp)
      have hsalt := salt_of seed [t, (k : Int)]
      have HSALT := hid hsalt
      clear hsalt
      generalize hkh : keyedHash seed [t, (k : Int)] = h at HSALT
      have HKH := hid hkh
      clear hkh
      generalize hmx : mx 1 h = z at HSALT
      have HMX := hid hmx
      clear hmx
      go_wp2_with fail
      refine wp_region_any (by kernel_rfl) ?_
      change wpAny _ _ _ _ _ _ _ (World.drew _)
      refine wpAny_take (i := 0) (v := .pointer (some ⟨bd, 2, none⟩)) rfl (by kernel_rfl) (by kernel_rfl) (by kernel_rfl) (fun _ _ _ h => h) (Or.inl ⟨by rfl, fun wq => by go_simp⟩) ?_
      refine wpAny_take (i := 2) (v := iv seed) rfl (by kernel_rfl) (by kernel_rfl) (by kernel_rfl) (fun _ _ _ h => h) (Or.inl ⟨by rfl, fun wq => by go_simp⟩) ?_
      refine wpAny_take (i := 3) (v := iv t) rfl (by kernel_rfl) (by kernel_rfl) (by kernel_rfl) (fun _ _ _ h => h) (Or.inl ⟨by rfl, fun wq => by go_simp⟩) ?_
      refine wpAny_take (i := 4) (v := iv (k : Int)) rfl (by kernel_rfl) (by kernel_rfl) (by kernel_rfl) (fun _ _ _ h => h) (Or.inl ⟨by rfl, fun wq => by go_simp⟩) ?_
      refine wpAny_ready (rs := [1, 5]) (by kernel_rfl) (by simp) ?_
      refine (AllReady.cons rfl (fun K hK => ?_) (AllReady.cons rfl (fun K hK => ?_) AllReady.nil))
      · go_simp
        first | (refine hK _ _ ?_; clear hK K) | skip
        refine wpAny_ready (rs := [5]) (by kernel_rfl) (by simp) ?_
        refine (AllReady.cons rfl (fun K hK => ?_) AllReady.nil)
        go_simp
        first | (refine hK _ _ ?_; clear hK K) | skip
        refine wpAny_ready (rs := [6]) (by kernel_rfl) (by simp) ?_
        refine (AllReady.cons rfl (fun K hK => ?_) AllReady.nil)
        go_simp
        refine (ret_cast (y := iv h) (by rw [HKH.out]) (specKeyedHash_any seed _ (HLIT.out.below (Below.refl _ _).drew (Nat.le_refl _)) (Nat.le_refl _) (by simp))).mono ?_
        rintro e wa ⟨rfl, hba⟩
        have HBa := hid (below_step HBA.out.drew hba)
        have za := (HX.out.below HBa.out).cell 2 rfl
        have hba2 := (HX.out.below HBa.out).lt
        clear hba
        go_simp
        first | (refine hK _ _ ?_; clear hK K) | skip
        refine wpAny_ready (rs := [7]) (by kernel_rfl) (by simp) ?_
        refine (AllReady.cons rfl (fun K hK => ?_) AllReady.nil)
        go_simp
        refine (ret_cast (y := iv z) (by rw [HMX.out]) (specMax_any 1 h _)).mono ?_
        rintro e wb ⟨rfl, hbb⟩
        have HBb := hid (below_step HBa.out hbb)
        have zb := (HX.out.below HBb.out).cell 2 rfl
        have hbb2 := (HX.out.below HBb.out).lt
        have hzb := HBb.out.size
        clear hbb
        go_simp
        first | (refine hK _ _ ?_; clear hK K) | skip
        refine wpAny_ready (rs := [8]) (by kernel_rfl) (by simp) ?_
        refine (AllReady.cons rfl (fun K hK => ?_) AllReady.nil)
        go_simp
        first | (refine hK _ _ ?_; clear hK K) | skip
        refine wpAny_ready (rs := [9]) (by kernel_rfl) (by simp) ?_
        refine (AllReady.cons rfl (fun K hK => ?_) AllReady.nil)
        refine step_append_src _ (by rfl) _ _ 23 (by rfl) (bd + 1) 3 Try.underlying23 Try.infoI rfl (by decide) Sv (.slice (some ⟨wb.heap.size, 0, none⟩) 1 1) k 1 (zs.map (Value.int .i64)) [iv z] (by rfl) (by rfl) ((ownsRow_below HOW.out HBb.out (fun g hg => (HOW.out.lt g hg).2)).alloc (.cells #[iv z] 3)) (Src.lit (cs := #[iv z]) (m := 1) (size := 1) (heap_new wb _) rfl (by simp [Value.oneCell']) 1) (by unfold maxLen; omega) (by omega) (by simp; omega) ?_
        intro v4 w4 hown4 hg4
        obtain ⟨G4, q4, rfl⟩ := ownsRow_form hown4
        have HO4 := hid hown4
        have HX4 := hid (((HX.out.below HBb.out).alloc (.cells #[iv z] 3)).grown hg4 (row_ne HOW.out (by omega)))
        have HR4 := hid (((HR.out.below HBb.out).alloc (.cells #[iv z] 3)).grown hg4 (row_ne HOW.out (by omega)))
        have zc := HX4.out.cell 2 rfl
        have fzc := HX4.out.frozen 2 (by simp)
        have hzc := HX4.out.lt
        have HP4 := hid (((HPO.out.below HBb.out (by omega)).below (below_alloc wb (.cells #[iv z] 3)) (by omega)).below_row hg4 HOW.out (Nat.le_succ bd))
        have HB4 := hid (((below_step HBL.out HBb.out).alloc (Nat.le_trans HBL.out.size HBb.out.size) (.cells #[iv z] 3)).grown hg4 (Nat.le_trans (Nat.le_trans HBL.out.size HBb.out.size) (by simp)) (fun g hg => by have := (HOW.out.lt g hg).1; omega))
        clear hown4 hg4
        refine hK _ _ ?_
        clear hK K
        refine wpAny_take (i := 10) (v := .pointer (some ⟨bd, 2, none⟩)) rfl (by kernel_rfl) (by kernel_rfl) (by kernel_rfl) (fun _ _ _ h => h) (Or.inl ⟨by rfl, fun wq => by go_simp⟩) ?_
        refine wpAny_ready (rs := [11]) (by kernel_rfl) (by simp) ?_
        refine (AllReady.cons rfl (fun K hK => ?_) AllReady.nil)
        go_simp
        first | (refine hK _ _ ?_; clear hK K) | skip
        refine wpAny_done (by kernel_rfl) ?_ _
        go_wp2
        go_roundw
        case rel => exact ⟨k + 1, zs ++ [z], .slice G4 (k + 1) q4, by omega, by go_num, by simp [hzl], (by intro y hy; rcases List.mem_append.1 hy with h8 | h8; exact HZS.out y h8; rw [List.mem_singleton.1 h8]; exact HSALT.out), HR4.out.far (by omega) _, by simpa using HX4.out.set (k := 2) (by simp) (.slice G4 (k + 1) q4), by rw [List.map_append]; exact ownsRow_set HO4.out (by show bd < bd + 1; omega) _, (HP4.out.below ((Below.refl bd w4).setCell (p := ⟨bd, 2, none⟩) (Nat.le_refl _) _) (Nat.le_refl _)), HB4.out.setCell (by show w.heap.size ≤ bd; omega) _⟩
        case measure => simp [intOf]; omega
      · go_simp
        first | (refine hK _ _ ?_; clear hK K) | skip
        refine wpAny_ready (rs := [1, 6]) (by kernel_rfl) (by simp) ?_
        refine (AllReady.cons rfl (fun K hK => ?_) (AllReady.cons rfl (fun K hK => ?_) AllReady.nil))
        · go_simp
          first | (refine hK _ _ ?_; clear hK K) | skip
          refine wpAny_ready (rs := [6]) (by kernel_rfl) (by simp) ?_
          refine (AllReady.cons rfl (fun K hK => ?_) AllReady.nil)
          go_simp
          refine (ret_cast (y := iv h) (by rw [HKH.out]) (specKeyedHash_any seed _ (HLIT.out.below (Below.refl _ _).drew (Nat.le_refl _)) (Nat.le_refl _) (by simp))).mono ?_
          rintro e wa ⟨rfl, hba⟩
          have HBa := hid (below_step HBA.out.drew hba)
          have za := (HX.out.below HBa.out).cell 2 rfl
          have hba2 := (HX.out.below HBa.out).lt
          clear hba
          go_simp
          first | (refine hK _ _ ?_; clear hK K) | skip
          refine wpAny_ready (rs := [7]) (by kernel_rfl) (by simp) ?_
          refine (AllReady.cons rfl (fun K hK => ?_) AllReady.nil)
          go_simp
          refine (ret_cast (y := iv z) (by rw [HMX.out]) (specMax_any 1 h _)).mono ?_
          rintro e wb ⟨rfl, hbb⟩
          have HBb := hid (below_step HBa.out hbb)
          have zb := (HX.out.below HBb.out).cell 2 rfl
          have hbb2 := (HX.out.below HBb.out).lt
          have hzb := HBb.out.size
          clear hbb
          go_simp
          first | (refine hK _ _ ?_; clear hK K) | skip
          refine wpAny_ready (rs := [8]) (by kernel_rfl) (by simp) ?_
          refine (AllReady.cons rfl (fun K hK => ?_) AllReady.nil)
          go_simp
          first | (refine hK _ _ ?_; clear hK K) | skip
          refine wpAny_ready (rs := [9]) (by kernel_rfl) (by simp) ?_
          refine (AllReady.cons rfl (fun K hK => ?_) AllReady.nil)
          refine step_append_src _ (by rfl) _ _ 23 (by rfl) (bd + 1) 3 Try.underlying23 Try.infoI rfl (by decide) Sv (.slice (some ⟨wb.heap.size, 0, none⟩) 1 1) k 1 (zs.map (Value.int .i64)) [iv z] (by rfl) (by rfl) ((ownsRow_below HOW.out HBb.out (fun g hg => (HOW.out.lt g hg).2)).alloc (.cells #[iv z] 3)) (Src.lit (cs := #[iv z]) (m := 1) (size := 1) (heap_new wb _) rfl (by simp [Value.oneCell']) 1) (by unfold maxLen; omega) (by omega) (by simp; omega) ?_
          intro v4 w4 hown4 hg4
          obtain ⟨G4, q4, rfl⟩ := ownsRow_form hown4
          have HO4 := hid hown4
          have HX4 := hid (((HX.out.below HBb.out).alloc (.cells #[iv z] 3)).grown hg4 (row_ne HOW.out (by omega)))
          have HR4 := hid (((HR.out.below HBb.out).alloc (.cells #[iv z] 3)).grown hg4 (row_ne HOW.out (by omega)))
          have zc := HX4.out.cell 2 rfl
          have fzc := HX4.out.frozen 2 (by simp)
          have hzc := HX4.out.lt
          have HP4 := hid (((HPO.out.below HBb.out (by omega)).below (below_alloc wb (.cells #[iv z] 3)) (by omega)).below_row hg4 HOW.out (Nat.le_succ bd))
          have HB4 := hid (((below_step HBL.out HBb.out).alloc (Nat.le_trans HBL.out.size HBb.out.size) (.cells #[iv z] 3)).grown hg4 (Nat.le_trans (Nat.le_trans HBL.out.size HBb.out.size) (by simp)) (fun g hg => by have := (HOW.out.lt g hg).1; omega))
          clear hown4 hg4
          refine hK _ _ ?_
          clear hK K
          refine wpAny_take (i := 10) (v := .pointer (some ⟨bd, 2, none⟩)) rfl (by kernel_rfl) (by kernel_rfl) (by kernel_rfl) (fun _ _ _ h => h) (Or.inl ⟨by rfl, fun wq => by go_simp⟩) ?_
          refine wpAny_ready (rs := [11]) (by kernel_rfl) (by simp) ?_
          refine (AllReady.cons rfl (fun K hK => ?_) AllReady.nil)
          go_simp
          first | (refine hK _ _ ?_; clear hK K) | skip
          refine wpAny_done (by kernel_rfl) ?_ _
          go_wp2
          go_roundw
          case rel => exact ⟨k + 1, zs ++ [z], .slice G4 (k + 1) q4, by omega, by go_num, by simp [hzl], (by intro y hy; rcases List.mem_append.1 hy with h8 | h8; exact HZS.out y h8; rw [List.mem_singleton.1 h8]; exact HSALT.out), HR4.out.far (by omega) _, by simpa using HX4.out.set (k := 2) (by simp) (.slice G4 (k + 1) q4), by rw [List.map_append]; exact ownsRow_set HO4.out (by show bd < bd + 1; omega) _, (HP4.out.below ((Below.refl bd w4).setCell (p := ⟨bd, 2, none⟩) (Nat.le_refl _) _) (Nat.le_refl _)), HB4.out.setCell (by show w.heap.size ≤ bd; omega) _⟩
          case measure => simp [intOf]; omega
        · go_simp
          refine (ret_cast (y := iv h) (by rw [HKH.out]) (specKeyedHash_any seed _ (HLIT.out.below (Below.refl _ _).drew (Nat.le_refl _)) (Nat.le_refl _) (by simp))).mono ?_
          rintro e wa ⟨rfl, hba⟩
          have HBa := hid (below_step HBA.out.drew hba)
          have za := (HX.out.below HBa.out).cell 2 rfl
          have hba2 := (HX.out.below HBa.out).lt
          clear hba
          go_simp
          first | (refine hK _ _ ?_; clear hK K) | skip
          refine wpAny_ready (rs := [1, 7]) (by kernel_rfl) (by simp) ?_
          refine (AllReady.cons rfl (fun K hK => ?_) (AllReady.cons rfl (fun K hK => ?_) AllReady.nil))
          · go_simp
            first | (refine hK _ _ ?_; clear hK K) | skip
            refine wpAny_ready (rs := [7]) (by kernel_rfl) (by simp) ?_
            refine (AllReady.cons rfl (fun K hK => ?_) AllReady.nil)
            go_simp
            refine (ret_cast (y := iv z) (by rw [HMX.out]) (specMax_any 1 h _)).mono ?_
            rintro e wb ⟨rfl, hbb⟩
            have HBb := hid (below_step HBa.out hbb)
            have zb := (HX.out.below HBb.out).cell 2 rfl
            have hbb2 := (HX.out.below HBb.out).lt
            have hzb := HBb.out.size
            clear hbb
            go_simp
            first | (refine hK _ _ ?_; clear hK K) | skip
            refine wpAny_ready (rs := [8]) (by kernel_rfl) (by simp) ?_
            refine (AllReady.cons rfl (fun K hK => ?_) AllReady.nil)
            go_simp
            first | (refine hK _ _ ?_; clear hK K) | skip
            refine wpAny_ready (rs := [9]) (by kernel_rfl) (by simp) ?_
            refine (AllReady.cons rfl (fun K hK => ?_) AllReady.nil)
            refine step_append_src _ (by rfl) _ _ 23 (by rfl) (bd + 1) 3 Try.underlying23 Try.infoI rfl (by decide) Sv (.slice (some ⟨wb.heap.size, 0, none⟩) 1 1) k 1 (zs.map (Value.int .i64)) [iv z] (by rfl) (by rfl) ((ownsRow_below HOW.out HBb.out (fun g hg => (HOW.out.lt g hg).2)).alloc (.cells #[iv z] 3)) (Src.lit (cs := #[iv z]) (m := 1) (size := 1) (heap_new wb _) rfl (by simp [Value.oneCell']) 1) (by unfold maxLen; omega) (by omega) (by simp; omega) ?_
            intro v4 w4 hown4 hg4
            obtain ⟨G4, q4, rfl⟩ := ownsRow_form hown4
            have HO4 := hid hown4
            have HX4 := hid (((HX.out.below HBb.out).alloc (.cells #[iv z] 3)).grown hg4 (row_ne HOW.out (by omega)))
            have HR4 := hid (((HR.out.below HBb.out).alloc (.cells #[iv z] 3)).grown hg4 (row_ne HOW.out (by omega)))
            have zc := HX4.out.cell 2 rfl
            have fzc := HX4.out.frozen 2 (by simp)
            have hzc := HX4.out.lt
            have HP4 := hid (((HPO.out.below HBb.out (by omega)).below (below_alloc wb (.cells #[iv z] 3)) (by omega)).below_row hg4 HOW.out (Nat.le_succ bd))
            have HB4 := hid (((below_step HBL.out HBb.out).alloc (Nat.le_trans HBL.out.size HBb.out.size) (.cells #[iv z] 3)).grown hg4 (Nat.le_trans (Nat.le_trans HBL.out.size HBb.out.size) (by simp)) (fun g hg => by have := (HOW.out.lt g hg).1; omega))
            clear hown4 hg4
            refine hK _ _ ?_
            clear hK K
            refine wpAny_take (i := 10) (v := .pointer (some ⟨bd, 2, none⟩)) rfl (by kernel_rfl) (by kernel_rfl) (by kernel_rfl) (fun _ _ _ h => h) (Or.inl ⟨by rfl, fun wq => by go_simp⟩) ?_
            refine wpAny_ready (rs := [11]) (by kernel_rfl) (by simp) ?_
            refine (AllReady.cons rfl (fun K hK => ?_) AllReady.nil)
            go_simp
            first | (refine hK _ _ ?_; clear hK K) | skip
            refine wpAny_done (by kernel_rfl) ?_ _
            go_wp2
            go_roundw
            case rel => exact ⟨k + 1, zs ++ [z], .slice G4 (k + 1) q4, by omega, by go_num, by simp [hzl], (by intro y hy; rcases List.mem_append.1 hy with h8 | h8; exact HZS.out y h8; rw [List.mem_singleton.1 h8]; exact HSALT.out), HR4.out.far (by omega) _, by simpa using HX4.out.set (k := 2) (by simp) (.slice G4 (k + 1) q4), by rw [List.map_append]; exact ownsRow_set HO4.out (by show bd < bd + 1; omega) _, (HP4.out.below ((Below.refl bd w4).setCell (p := ⟨bd, 2, none⟩) (Nat.le_refl _) _) (Nat.le_refl _)), HB4.out.setCell (by show w.heap.size ≤ bd; omega) _⟩
            case measure => simp [intOf]; omega
          · go_simp
            refine (ret_cast (y := iv z) (by rw [HMX.out]) (specMax_any 1 h _)).mono ?_
            rintro e wb ⟨rfl, hbb⟩
            have HBb := hid (below_step HBa.out hbb)
            have zb := (HX.out.below HBb.out).cell 2 rfl
            have hbb2 := (HX.out.below HBb.out).lt
            have hzb := HBb.out.size
            clear hbb
            go_simp
            first | (refine hK _ _ ?_; clear hK K) | skip
            refine wpAny_ready (rs := [1, 8]) (by kernel_rfl) (by simp) ?_
            refine (AllReady.cons rfl (fun K hK => ?_) (AllReady.cons rfl (fun K hK => ?_) AllReady.nil))
            · go_simp
              first | (refine hK _ _ ?_; clear hK K) | skip
              refine wpAny_ready (rs := [8]) (by kernel_rfl) (by simp) ?_
              refine (AllReady.cons rfl (fun K hK => ?_) AllReady.nil)
              go_simp
              first | (refine hK _ _ ?_; clear hK K) | skip
              refine wpAny_ready (rs := [9]) (by kernel_rfl) (by simp) ?_
              refine (AllReady.cons rfl (fun K hK => ?_) AllReady.nil)
              refine step_append_src _ (by rfl) _ _ 23 (by rfl) (bd + 1) 3 Try.underlying23 Try.infoI rfl (by decide) Sv (.slice (some ⟨wb.heap.size, 0, none⟩) 1 1) k 1 (zs.map (Value.int .i64)) [iv z] (by rfl) (by rfl) ((ownsRow_below HOW.out HBb.out (fun g hg => (HOW.out.lt g hg).2)).alloc (.cells #[iv z] 3)) (Src.lit (cs := #[iv z]) (m := 1) (size := 1) (heap_new wb _) rfl (by simp [Value.oneCell']) 1) (by unfold maxLen; omega) (by omega) (by simp; omega) ?_
              intro v4 w4 hown4 hg4
              obtain ⟨G4, q4, rfl⟩ := ownsRow_form hown4
              have HO4 := hid hown4
              have HX4 := hid (((HX.out.below HBb.out).alloc (.cells #[iv z] 3)).grown hg4 (row_ne HOW.out (by omega)))
              have HR4 := hid (((HR.out.below HBb.out).alloc (.cells #[iv z] 3)).grown hg4 (row_ne HOW.out (by omega)))
              have zc := HX4.out.cell 2 rfl
              have fzc := HX4.out.frozen 2 (by simp)
              have hzc := HX4.out.lt
              have HP4 := hid (((HPO.out.below HBb.out (by omega)).below (below_alloc wb (.cells #[iv z] 3)) (by omega)).below_row hg4 HOW.out (Nat.le_succ bd))
              have HB4 := hid (((below_step HBL.out HBb.out).alloc (Nat.le_trans HBL.out.size HBb.out.size) (.cells #[iv z] 3)).grown hg4 (Nat.le_trans (Nat.le_trans HBL.out.size HBb.out.size) (by simp)) (fun g hg => by have := (HOW.out.lt g hg).1; omega))
              clear hown4 hg4
              refine hK _ _ ?_
              clear hK K
              refine wpAny_take (i := 10) (v := .pointer (some ⟨bd, 2, none⟩)) rfl (by kernel_rfl) (by kernel_rfl) (by kernel_rfl) (fun _ _ _ h => h) (Or.inl ⟨by rfl, fun wq => by go_simp⟩) ?_
              refine wpAny_ready (rs := [11]) (by kernel_rfl) (by simp) ?_
              refine (AllReady.cons rfl (fun K hK => ?_) AllReady.nil)
              go_simp
              first | (refine hK _ _ ?_; clear hK K) | skip
              refine wpAny_done (by kernel_rfl) ?_ _
              go_wp2
              go_roundw
              case rel => exact ⟨k + 1, zs ++ [z], .slice G4 (k + 1) q4, by omega, by go_num, by simp [hzl], (by intro y hy; rcases List.mem_append.1 hy with h8 | h8; exact HZS.out y h8; rw [List.mem_singleton.1 h8]; exact HSALT.out), HR4.out.far (by omega) _, by simpa using HX4.out.set (k := 2) (by simp) (.slice G4 (k + 1) q4), by rw [List.map_append]; exact ownsRow_set HO4.out (by show bd < bd + 1; omega) _, (HP4.out.below ((Below.refl bd w4).setCell (p := ⟨bd, 2, none⟩) (Nat.le_refl _) _) (Nat.le_refl _)), HB4.out.setCell (by show w.heap.size ≤ bd; omega) _⟩
              case measure => simp [intOf]; omega
            · go_simp
              first | (refine hK _ _ ?_; clear hK K) | skip
              refine wpAny_ready (rs := [1]) (by kernel_rfl) (by simp) ?_
              refine (AllReady.cons rfl (fun K hK => ?_) AllReady.nil)
              go_simp
              first | (refine hK _ _ ?_; clear hK K) | skip
              refine wpAny_ready (rs := [9]) (by kernel_rfl) (by simp) ?_
              refine (AllReady.cons rfl (fun K hK => ?_) AllReady.nil)
              refine step_append_src _ (by rfl) _ _ 23 (by rfl) (bd + 1) 3 Try.underlying23 Try.infoI rfl (by decide) Sv (.slice (some ⟨wb.heap.size, 0, none⟩) 1 1) k 1 (zs.map (Value.int .i64)) [iv z] (by rfl) (by rfl) ((ownsRow_below HOW.out HBb.out (fun g hg => (HOW.out.lt g hg).2)).alloc (.cells #[iv z] 3)) (Src.lit (cs := #[iv z]) (m := 1) (size := 1) (heap_new wb _) rfl (by simp [Value.oneCell']) 1) (by unfold maxLen; omega) (by omega) (by simp; omega) ?_
              intro v4 w4 hown4 hg4
              obtain ⟨G4, q4, rfl⟩ := ownsRow_form hown4
              have HO4 := hid hown4
              have HX4 := hid (((HX.out.below HBb.out).alloc (.cells #[iv z] 3)).grown hg4 (row_ne HOW.out (by omega)))
              have HR4 := hid (((HR.out.below HBb.out).alloc (.cells #[iv z] 3)).grown hg4 (row_ne HOW.out (by omega)))
              have zc := HX4.out.cell 2 rfl
              have fzc := HX4.out.frozen 2 (by simp)
              have hzc := HX4.out.lt
              have HP4 := hid (((HPO.out.below HBb.out (by omega)).below (below_alloc wb (.cells #[iv z] 3)) (by omega)).below_row hg4 HOW.out (Nat.le_succ bd))
              have HB4 := hid (((below_step HBL.out HBb.out).alloc (Nat.le_trans HBL.out.size HBb.out.size) (.cells #[iv z] 3)).grown hg4 (Nat.le_trans (Nat.le_trans HBL.out.size HBb.out.size) (by simp)) (fun g hg => by have := (HOW.out.lt g hg).1; omega))
              clear hown4 hg4
              refine hK _ _ ?_
              clear hK K
              refine wpAny_take (i := 10) (v := .pointer (some ⟨bd, 2, none⟩)) rfl (by kernel_rfl) (by kernel_rfl) (by kernel_rfl) (fun _ _ _ h => h) (Or.inl ⟨by rfl, fun wq => by go_simp⟩) ?_
              refine wpAny_ready (rs := [11]) (by kernel_rfl) (by simp) ?_
              refine (AllReady.cons rfl (fun K hK => ?_) AllReady.nil)
              go_simp
              first | (refine hK _ _ ?_; clear hK K) | skip
              refine wpAny_done (by kernel_rfl) ?_ _
              go_wp2
              go_roundw
              case rel => exact ⟨k + 1, zs ++ [z], .slice G4 (k + 1) q4, by omega, by go_num, by simp [hzl], (by intro y hy; rcases List.mem_append.1 hy with h8 | h8; exact HZS.out y h8; rw [List.mem_singleton.1 h8]; exact HSALT.out), HR4.out.far (by omega) _, by simpa using HX4.out.set (k := 2) (by simp) (.slice G4 (k + 1) q4), by rw [List.map_append]; exact ownsRow_set HO4.out (by show bd < bd + 1; omega) _, (HP4.out.below ((Below.refl bd w4).setCell (p := ⟨bd, 2, none⟩) (Nat.le_refl _) _) (Nat.le_refl _)), HB4.out.setCell (by show w.heap.size ≤ bd; omega) _⟩
              case measure => simp [intOf]; omega
    · obtain rfl : k = ps.length := by omega
      have HT : Hid (docB t ps zs = true) := hid (HDB.out zs hzl HZS.out)
      have hsi := HOW.out
      rw [← hzl] at hsi
      have HSI := hid (Own.si (Own.of hsi))
      have HSO := hid (Own.of hsi)
      obtain ⟨G2, q2, rfl⟩ := ownsRow_form hsi
      have x0 := HX.out.cell 0 rfl
      have x1 := HX.out.cell 1 rfl
      have x2 := HX.out.cell 2 rfl
      have HZL := hid hzl
      clear hsi HDB hzl
      have h5 := specIsDocument_any (B := wr.heap.size) t wr ((Own.ss HPO.out).mono (by omega)) HSI.out (Nat.le_refl _)
      rw [HT.out] at h5
      have H5 := hid h5
      clear h5
      go_wp2_with fail
      refine H5.out.mono ?_
      rintro e w5 ⟨rfl, hb5⟩
      have HX5 := hid (HX.out.below hb5)
      have HR5 := hid (HR.out.below hb5)
      have HP5 := hid (HPO.out.below hb5 (by omega))
      have HS5 := hid (HSO.out.below hb5 (Nat.le_refl _))
      have HB5 := hid (below_step HBL.out hb5)
      have hz5 := hb5.size
      clear x0 x1 x2 hb5 HX HR HPO HSO HSI HOW HBL HT
      go_wp2_with fail
      refine (specIsValidKey_yes seed w5 hk1 hk2).mono ?_
      rintro e w6 ⟨rfl, hb6⟩
      have HX6 := hid (HX5.out.below hb6)
      have HR6 := hid (HR5.out.below hb6)
      have HP6 := hid (HP5.out.below hb6 (by omega))
      have HS6 := hid (HS5.out.below hb6 hz5)
      have HB6 := hid (below_step HB5.out hb6)
      have hz6 := hb6.size
      have x0 := HX6.out.cell 0 rfl
      have x1 := HX6.out.cell 1 rfl
      have x2 := HX6.out.cell 2 rfl
      have r0 := HR6.out.cell 0 rfl
      have r1 := HR6.out.cell 1 rfl
      have r2 := HR6.out.cell 2 rfl
      have fr0 := HR6.out.frozen 0 (by simp)
      have fr1 := HR6.out.frozen 1 (by simp)
      have fr2 := HR6.out.frozen 2 (by simp)
      have hne : w.heap.size ≠ bd := by omega
      clear hb6 HX5 HR5 HP5 HS5 HB5 HX6 HR6
      go_wp2
      refine bodyPost_ret (v := .tuple #[.agg #[iv t, .slice G1 ps.length q1, .slice G2 zs.length q2], .bool true]) (by simp [results, Try.results187, go_sem, r0, r1, r2]) rfl ⟨_, _, zs, bd + 1, rfl, HZL.out, HZS.out, ⟨by omega, by simp; omega⟩, ?_, ?_, ?_⟩
      · refine (HP6.out.apart (hi0 := w.heap.size + 1) ?_ (Nat.le_refl _)).mono (by omega) (by omega)
        repeat (first | with_reducible exact Apart.refl _ _ | refine Apart.setCell ?_ (by simp) _)
      · refine (HS6.out.apart (hi0 := w.heap.size + 1) ?_ (by omega)).mono (by omega) (by simp; omega)
        repeat (first | with_reducible exact Apart.refl _ _ | refine Apart.setCell ?_ (by simp) _)
      · have h9 := HB6.out
        repeat (first | with_reducible exact h9 | refine Below.setCell ?_ (by simp) _)
end Go.Proofs.Ytkdpfbodmfjkkaa
