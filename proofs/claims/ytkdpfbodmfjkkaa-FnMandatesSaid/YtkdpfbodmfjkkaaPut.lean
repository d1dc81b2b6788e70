/- The reference's l4Put: a span is put into a list of spans of times, in an array of its own. Conditions: the list and the span are valid, and the list is no longer than 2^40. -/
import Derived.Test.YtkdpfbodmfjkkaaRows
import Derived.Test.YtkdpfbodmfjkkaaPlain
import Derived.Test.YtkdpfbodmfjkkaaPlainJoin
import Derived.Test.YtkdpfbodmfjkkaaAppend
import Derived.Test.YtkdpfbodmfjkkaaSlices
import Derived.Test.YtkdpfbodmfjkkaaApart
import Derived.Test.YtkdpfbodmfjkkaaCol
import Derived.Test.YtkdpfbodmfjkkaaMeet
import Derived.Test.YtkdpfbodmfjkkaaHelpSpan
namespace Go.Proofs.Ytkdpfbodmfjkkaa
open Go.RowKit

theorem sizeSpan (W : World) : (sizeOf (Try.prog.elem 43)).run Try.prog W = .ok 2 W := by kernel_rfl
theorem elemSpan : Try.prog.underlying 43 = some (.slice (Try.prog.elem 43)) := by kernel_rfl
theorem join_ret {ns : List (List Int)} {f t : Int} {k : Nat} (hk : headK ns f = k) (hl : k ≤ ns.length) {w : World} {lo : Nat} {v : Value}
    (h : w.ownsRow lo 47 2 v (0 + k + 1 + (ns.length - k)) (([] ++ flat (ns.take k)) ++ [iv f, iv t] ++ flat (ns.drop k))) : w.ownsRow lo 47 2 v (insR ns f t).length (flat (insR ns f t)) := by
  have e1 : (insR ns f t).length = 0 + k + 1 + (ns.length - k) := by rw [insR_len]; omega
  have e2 : flat (insR ns f t) = ([] ++ flat (ns.take k)) ++ [iv f, iv t] ++ flat (ns.drop k) := by
    unfold insR
    rw [hk, flat_append, flat_append]
    rfl
  rw [e1, e2]; exact h

set_option maxRecDepth 8000 in
set_option maxHeartbeats 8000000 in
theorem specl4Put_any {B : Nat} {ks : List (List Int)} {v : Value} (f t : Int) (w : World) (h : Sl B w 2 v ks) (hB : B ≤ w.heap.size) (hg : Good ks) (h1 : 0 ≤ f) (h2 : f ≤ t) (h3 : t ≤ 10000) (hn : ks.length ≤ 1099511627776) :
    Calls Try.prog 188 #[v, .agg #[iv f, iv t]] w (RetOwn 47 2 (putR ks f t).length (flat (putR ks f t)) w) := by
  obtain ⟨A, c, rfl, hc1, hc2, -, hcell⟩ := h
  have HC := hid hcell
  have HG := hid (fun k hk => scan_good (f := f) (t := t) hg h1 h2 h3 k hk)
  have HGK := hid hg
  have HBX0 := hid ((Box2.new w f t 47).below (below_alloc _ (.cells #[] 47)))
  clear hcell hg
  go_enter Try.func188, Try.ntmps188
  go_wp2
  go_loopw [5, 6] (fun l i wr => ∃ k : Nat, k ≤ ks.length ∧ i = .int .i64 k ∧ wr.ownsRow (w.heap.size + 1) 47 2 l (scR ks f t k).length (flat (scR ks f t k)) ∧ Box2 w.heap.size wr (scF ks f t k) (scT ks f t k) ∧ Below w.heap.size w wr) (fun _ i _ => ks.length - (intOf i).toNat)
  case atStart => exact ⟨0, Nat.zero_le _, rfl, by simpa [scR, scan, flat] using World.ownsRow_lit (base := w.heap.size + 1) (e := 47) (size := 2) (w.alloc (.cells #[iv f, iv t] 47)) #[] 0 (by simp) (by decide) rfl, HBX0.out, (below_alloc _ _).alloc (by simp) _⟩
  case round =>
    obtain ⟨k, hk, rfl, how, hbx, hb⟩ := hrel
    have HOW := hid how
    have HBX := hid hbx
    have HBL := hid hb
    clear how hbx
    by_cases hlt : k < ks.length
    · obtain ⟨b, off, rfl, hbB, hcc⟩ := HC.out (by omega)
      have c0 := cell_at hb hbB hB (hcc k 0 hlt (by omega))
      have c1 := cell_at hb hbB hB (hcc k 1 hlt (by omega))
      rw [Nat.add_zero] at c0
      obtain ⟨hz, s0, s1, z0, z1⟩ := HBX.out
      obtain ⟨-, g1, g2, g3⟩ := HG.out k hk
      obtain ⟨e1, e2, e3⟩ := HGK.out k hlt
      have hle := scR_len ks f t k
      have hbw : b < wr.heap.size := by have := hb.size; omega
      have hB1 := hid (HBL.out.alloc HBL.out.size (.cells #[iv (fld ks k 0), iv (fld ks k 1)] 47))
      have HB1 := hid (HBX.out.below (below_alloc wr (.cells #[iv (fld ks k 0), iv (fld ks k 1)] 47)))
      have HO1 := hid (HOW.out.alloc (.cells #[iv (fld ks k 0), iv (fld ks k 1)] 47))
      clear HC hcc hb HG HGK
      by_cases ha : fld ks k 1 + 1 < scF ks f t k ∨ scT ks f t k + 1 < fld ks k 0
      · have HT := hid (sc_apart ha)
        by_cases ha1 : fld ks k 1 + 1 < scF ks f t k
        · clear ha
          go_wp2_with (first | (at_builtin; refine wpList_append_src _ rfl _ _ 43 rfl (w.heap.size + 1) 47 Try.underlying43 Try.infoSpan rfl (by decide) _ _ (scR ks f t k).length 1 _ [iv (fld ks k 0), iv (fld ks k 1)] rfl rfl (HO1.out.alloc _) (Src.lit (cs := #[iv (fld ks k 0), iv (fld ks k 1)]) (m := 1) (size := 2) (heap_new_at (wr.alloc (.cells #[iv (fld ks k 0), iv (fld ks k 1)] 47)) _ (by simp)) rfl (by simp [Value.oneCell']) 1) (by unfold maxLen; omega) (by omega) (by simp; omega) ?_; intro v1 w1 hown1 hg1; have HP1 := hid hown1; have HB2 := hid ((HB1.out.below (below_alloc _ _)).grown hg1 (row_ne HO1.out (by simp))); have HW2 := hid (below_grown (hB1.out.alloc hB1.out.size _) (HO1.out.alloc _) hg1 (by simp) (hB1.out.alloc hB1.out.size _).size); clear hown1 hg1) | fail)
          go_roundw
          case rel => exact ⟨k + 1, by omega, by go_num, by rw [HT.out.1, List.length_append, flat_append]; exact HP1.out, by rw [HT.out.2.1, HT.out.2.2]; exact HB2.out, HW2.out⟩
          case measure => simp [intOf]; omega
        · have ha2 : scT ks f t k + 1 < fld ks k 0 := by omega
          clear ha
          go_wp2_with (first | (at_builtin; refine wpList_append_src _ rfl _ _ 43 rfl (w.heap.size + 1) 47 Try.underlying43 Try.infoSpan rfl (by decide) _ _ (scR ks f t k).length 1 _ [iv (fld ks k 0), iv (fld ks k 1)] rfl rfl (HO1.out.alloc _) (Src.lit (cs := #[iv (fld ks k 0), iv (fld ks k 1)]) (m := 1) (size := 2) (heap_new_at (wr.alloc (.cells #[iv (fld ks k 0), iv (fld ks k 1)] 47)) _ (by simp)) rfl (by simp [Value.oneCell']) 1) (by unfold maxLen; omega) (by omega) (by simp; omega) ?_; intro v1 w1 hown1 hg1; have HP1 := hid hown1; have HB2 := hid ((HB1.out.below (below_alloc _ _)).grown hg1 (row_ne HO1.out (by simp))); have HW2 := hid (below_grown (hB1.out.alloc hB1.out.size _) (HO1.out.alloc _) hg1 (by simp) (hB1.out.alloc hB1.out.size _).size); clear hown1 hg1) | fail)
          go_roundw
          case rel => exact ⟨k + 1, by omega, by go_num, by rw [HT.out.1, List.length_append, flat_append]; exact HP1.out, by rw [HT.out.2.1, HT.out.2.2]; exact HB2.out, HW2.out⟩
          case measure => simp [intOf]; omega
      · have ht1 : scF ks f t k ≤ fld ks k 1 + 1 := by omega
        have ht2 : fld ks k 0 ≤ scT ks f t k + 1 := by omega
        have HT := hid (sc_touch ht1 ht2)
        have HB2 := hid ((HBX.out.set (min (scF ks f t k) (fld ks k 0)) (max (scT ks f t k) (fld ks k 1))).below (below_alloc _ (.cells #[iv (fld ks k 0), iv (fld ks k 1)] 47)))
        have HO2 := hid ((ownsRow_set (ownsRow_set HOW.out (p := ⟨w.heap.size, 0, none⟩) (by simp) (iv (min (scF ks f t k) (fld ks k 0)))) (p := ⟨w.heap.size, 1, none⟩) (by simp) (iv (max (scT ks f t k) (fld ks k 1)))).alloc (.cells #[iv (fld ks k 0), iv (fld ks k 1)] 47))
        have HW2 := hid (((HBL.out.setCell (p := ⟨w.heap.size, 0, none⟩) (by simp) (iv (min (scF ks f t k) (fld ks k 0)))).setCell (p := ⟨w.heap.size, 1, none⟩) (by simp) (iv (max (scT ks f t k) (fld ks k 1)))).alloc (by simp; omega) (.cells #[iv (fld ks k 0), iv (fld ks k 1)] 47))
        clear ha HB1 HO1 hB1 HBX HOW HBL HBX0
        go_wp2_with (first | (go_at_call 200; refine (specMin_same _ _ _).mono ?_; rintro e wm ⟨rfl, rfl⟩) | (go_at_call 198; refine (specMax_same _ _ _).mono ?_; rintro e wm ⟨rfl, rfl⟩))
        go_roundw
        case rel => exact ⟨k + 1, by omega, by go_num, by rw [HT.out.1]; exact HO2.out, by rw [HT.out.2.1, HT.out.2.2]; exact HB2.out, HW2.out⟩
        case measure => simp [intOf]; omega
    · obtain rfl : k = ks.length := by omega
      have HFIN : Hid (putR ks f t = insR (scR ks f t ks.length) (scF ks f t ks.length) (scT ks f t ks.length)) := hid rfl
      have hle := scR_len ks f t ks.length
      have HTWO := hid (scR_two ks f t ks.length)
      clear HG HGK HBX0 HC hb
      obtain ⟨ns, hns⟩ : ∃ ns, ns = scR ks f t ks.length := ⟨_, rfl⟩
      obtain ⟨F, hF⟩ : ∃ F, F = scF ks f t ks.length := ⟨_, rfl⟩
      obtain ⟨T, hT⟩ : ∃ T, T = scT ks f t ks.length := ⟨_, rfl⟩
      rw [← hns, ← hF, ← hT] at HFIN
      rw [← hns] at HOW HTWO hle
      rw [← hF, ← hT] at HBX
      clear hns hF hT
      have HSl0 := hid ((Own.of HOW.out).sl HTWO.out)
      go_wp2
      go_loopw [8] (fun t wx => ∃ j : Nat, j ≤ ns.length ∧ t = .int .i64 j ∧ HD ns F j ∧ Below wr.heap.size wr wx) (fun t _ => ns.length - (intOf t).toNat)
      case atStart => exact ⟨0, Nat.zero_le _, rfl, HD_zero _ _, Below.refl _ _⟩
      case round =>
        obtain ⟨k, hkn, rfl, hhd, hbw⟩ := hrel
        have HH := hid hhd
        have HBW := hid hbw
        have HBY := hid (HBX.out.below hbw)
        have HSl := hid ((HSl0.out.below hbw (Nat.le_refl _)).mono hbw.size)
        clear hhd hbw
        obtain ⟨A5, c5, rfl, hd1, hd2, -, hcell5⟩ := id HSl.out
        obtain ⟨hz, s0, s1, z0, z1⟩ := HBY.out
        have hk0 : (0 : Int) ≤ (k : Int) := Int.natCast_nonneg _
        by_cases hlt : k < ns.length
        · obtain ⟨b, off, rfl, hbB, hcc⟩ := hcell5 (by omega)
          have c0 := hcc k 0 hlt (by omega)
          rw [Nat.add_zero] at c0
          have hk1 : (k : Int) < (ns.length : Int) := by omega
          by_cases hf : fld ns k 0 < F
          · have HT := hid (HD_succ HH.out hf)
            clear hcc hcell5 HSl
            go_wp2_with fail
            go_quiet (fail)
            go_wp2
            go_roundw
            case rel => exact ⟨k + 1, by omega, by go_num, HT.out, below_drewN HBW.out _⟩
            case measure => simp [intOf]; omega
          · have HK := hid (headK_at hkn HH.out (fun hh => hf hh.2))
            clear hcc hcell5
            have hfd : decide (fld ns k 0 < F) = false := by simpa using hf
            clear hf
            go_wp2_with fail
            go_quiet (fail)
            rename_i nq
            have hbq := below_drewN (Below.refl wr.heap.size wr) nq
            generalize wr.drewN nq = wy at hbq ⊢
            replace HBX := hid (HBY.out.below hbq)
            replace HSl := hid ((HSl.out.below hbq (Nat.le_refl _)).mono hbq.size)
            replace HBW := hid (below_step HBW.out hbq)
            have hzy : w.heap.size < wy.heap.size := HBX.out.1
            clear s0 s1 z0 z1 hbq hz
            obtain ⟨X1, hr1, hs1⟩ := slice_head (P := Try.prog) (t := 43) elemSpan sizeSpan HSl.out (show k ≤ ns.length from hkn)
            obtain ⟨X2, hr2, hs2⟩ := slice_tail (P := Try.prog) (t := 43) elemSpan sizeSpan HSl.out (show k ≤ ns.length from hkn)
            have HX1 : Hid (∀ W : World, Below wy.heap.size wy W → Src W X1 k 2 (flat (ns.take k))) := hid fun W hx => by have h := (hs1.below hx (Nat.le_refl _)).src (fun r hr => HTWO.out r (List.mem_of_mem_take hr)) (by decide); rwa [List.length_take, Nat.min_eq_left hkn] at h
            have HX2 : Hid (∀ W : World, Below wy.heap.size wy W → Src W X2 (ns.length - k) 2 (flat (ns.drop k))) := hid fun W hx => by have h := (hs2.below hx (Nat.le_refl _)).src (fun r hr => HTWO.out r (List.mem_of_mem_drop hr)) (by decide); rwa [List.length_drop] at h
            clear hs1 hs2
            have HKN := hid hkn
            clear hkn hd1
            go_wp2_with fail
            clear hlt hk1 hfd c0 hbB
            have hrf := Below.refl wy.heap.size wy
            have HA1 := hid ((hrf.alloc (Nat.le_refl _) (.cells #[] 47)).drew)
            have HA2 := hid (((hrf.alloc (Nat.le_refl _) (.cells #[] 47)).alloc (by simp) (.cells #[iv F, iv T] 47)).drew)
            have HA3 := hid (((hrf.alloc (Nat.le_refl _) (.cells #[iv F, iv T] 47)).alloc (by simp) (.cells #[] 47)).drew)
            have HA0 := hid ((hrf.alloc (Nat.le_refl _) (.cells #[iv F, iv T] 47)).drew)
            have HO1 : Hid ((wy.alloc (.cells #[] 47)).drew.ownsRow wy.heap.size 47 2 (.slice (some ⟨wy.heap.size, 0, none⟩) 0 0) 0 []) := hid (World.ownsRow_lit (base := wy.heap.size) (e := 47) (size := 2) wy #[] 0 (Nat.le_refl _) (by decide) rfl).drew
            have HO2 : Hid (((wy.alloc (.cells #[] 47)).alloc (.cells #[iv F, iv T] 47)).drew.ownsRow wy.heap.size 47 2 (.slice (some ⟨wy.heap.size, 0, none⟩) 0 0) 0 []) := hid ((World.ownsRow_lit (base := wy.heap.size) (e := 47) (size := 2) wy #[] 0 (Nat.le_refl _) (by decide) rfl).alloc _).drew
            have HO3 : Hid (((wy.alloc (.cells #[iv F, iv T] 47)).alloc (.cells #[] 47)).drew.ownsRow wy.heap.size 47 2 (.slice (some ⟨wy.heap.size + 1, 0, none⟩) 0 0) 0 []) := hid (by have h := World.ownsRow_lit (base := wy.heap.size) (e := 47) (size := 2) (wy.alloc (.cells #[iv F, iv T] 47)) #[] 0 (by simp) (by decide) rfl; simpa using h.drew)
            have HL2 : Hid (((wy.alloc (.cells #[] 47)).alloc (.cells #[iv F, iv T] 47)).drew.heap[wy.heap.size + 1]? = some (.cells #[iv F, iv T] 47)) := hid (by have h := heap_new (wy.alloc (.cells #[] 47)) (.cells #[iv F, iv T] 47); rw [show (wy.alloc (.cells #[] 47)).heap.size = wy.heap.size + 1 by simp] at h; exact h)
            have HL3 : Hid (((wy.alloc (.cells #[iv F, iv T] 47)).alloc (.cells #[] 47)).drew.heap[wy.heap.size]? = some (.cells #[iv F, iv T] 47)) := hid (by have h := (below_alloc (wy.alloc (.cells #[iv F, iv T] 47)) (.cells #[] 47)).block wy.heap.size (by simp); exact h.trans (heap_new wy (.cells #[iv F, iv T] 47)))
            have HSS : Hid (∀ w' : World, Below wy.heap.size wy w' → (w'.cell? ⟨w.heap.size, 0, none⟩ = some (iv F) ∧ w'.cell? ⟨w.heap.size, 1, none⟩ = some (iv T))) := hid fun w' hx => ⟨(HBX.out.below hx).2.1, (HBX.out.below hx).2.2.1⟩
            go_region_held3 (fun w' => w'.cell? ⟨w.heap.size, 0, none⟩ = some (iv F) ∧ w'.cell? ⟨w.heap.size, 1, none⟩ = some (iv T)) (first | with_reducible exact HSS.out _ hrf.drew | with_reducible exact HSS.out _ HA0.out | with_reducible exact HSS.out _ HA1.out | with_reducible exact HSS.out _ HA2.out | with_reducible exact HSS.out _ HA3.out | with_reducible exact HSS.out _ HZ1.out | with_reducible exact HSS.out _ (HZ1.out.alloc HZ1.out.size _) | with_reducible exact HSS.out _ HZ2.out | with_reducible exact HSS.out _ HZ3.out | go_keep)
              (first
                | (refine step_append_src _ (by rfl) _ _ 43 (by rfl) wy.heap.size 47 Try.underlying43 Try.infoSpan rfl (by decide) (.slice (some ⟨wy.heap.size, 0, none⟩) 0 0) X1 0 k [] (flat (ns.take k)) (by rfl) (by rfl) HO1.out (HX1.out _ HA1.out) (by have := HKN.out; unfold maxLen; omega) (by have := HKN.out; omega) HA1.out.size ?_; intro v1 w1 hown1 hg1; have HP1 := hid hown1; have HZ1 := hid (below_grown HA1.out HO1.out hg1 (Nat.le_refl _) HA1.out.size); clear hown1 hg1)
                | (refine step_append_src _ (by rfl) _ _ 43 (by rfl) wy.heap.size 47 Try.underlying43 Try.infoSpan rfl (by decide) (.slice (some ⟨wy.heap.size, 0, none⟩) 0 0) X1 0 k [] (flat (ns.take k)) (by rfl) (by rfl) HO2.out (HX1.out _ HA2.out) (by have := HKN.out; unfold maxLen; omega) (by have := HKN.out; omega) HA2.out.size ?_; intro v1 w1 hown1 hg1; have HP1 := hid hown1; have HZ1 := hid (below_grown HA2.out HO2.out hg1 (Nat.le_refl _) HA2.out.size); have HQ1 := hid (grown_block hg1 HL2.out (by simp [Value.ownBlock])); clear hown1 hg1)
                | (refine step_append_src _ (by rfl) _ _ 43 (by rfl) wy.heap.size 47 Try.underlying43 Try.infoSpan rfl (by decide) (.slice (some ⟨wy.heap.size + 1, 0, none⟩) 0 0) X1 0 k [] (flat (ns.take k)) (by rfl) (by rfl) HO3.out (HX1.out _ HA3.out) (by have := HKN.out; unfold maxLen; omega) (by have := HKN.out; omega) HA3.out.size ?_; intro v1 w1 hown1 hg1; have HP1 := hid hown1; have HZ1 := hid (below_grown HA3.out HO3.out hg1 (Nat.le_refl _) HA3.out.size); have HQ1 := hid (grown_block hg1 HL3.out (by simp [Value.ownBlock])); clear hown1 hg1)
                | (refine step_append_src _ (by rfl) _ _ 43 (by rfl) wy.heap.size 47 Try.underlying43 Try.infoSpan rfl (by decide) v1 (.slice (some ⟨w1.heap.size, 0, none⟩) 1 1) (0 + k) 1 _ [iv F, iv T] (by rfl) (by rfl) (HP1.out.alloc _) (Src.lit (cs := #[iv F, iv T]) (m := 1) (size := 2) (heap_new w1 _) rfl (by simp [Value.oneCell']) 1) (by have := HKN.out; unfold maxLen; omega) (by have := HKN.out; omega) (HZ1.out.alloc HZ1.out.size _).size ?_; intro v2 w2 hown2 hg2; have HP2 := hid hown2; have HZ2 := hid (below_grown (HZ1.out.alloc HZ1.out.size _) (HP1.out.alloc _) hg2 (Nat.le_refl _) (HZ1.out.alloc HZ1.out.size _).size); clear hown2 hg2)
                | (refine step_append_src _ (by rfl) _ _ 43 (by rfl) wy.heap.size 47 Try.underlying43 Try.infoSpan rfl (by decide) v1 (.slice (some ⟨wy.heap.size + 1, 0, none⟩) 1 1) (0 + k) 1 _ [iv F, iv T] (by rfl) (by rfl) HP1.out (Src.lit (cs := #[iv F, iv T]) (m := 1) (size := 2) HQ1.out rfl (by simp [Value.oneCell']) 1) (by have := HKN.out; unfold maxLen; omega) (by have := HKN.out; omega) HZ1.out.size ?_; intro v2 w2 hown2 hg2; have HP2 := hid hown2; have HZ2 := hid (below_grown HZ1.out HP1.out hg2 (Nat.le_refl _) HZ1.out.size); clear hown2 hg2)
                | (refine step_append_src _ (by rfl) _ _ 43 (by rfl) wy.heap.size 47 Try.underlying43 Try.infoSpan rfl (by decide) v1 (.slice (some ⟨wy.heap.size, 0, none⟩) 1 1) (0 + k) 1 _ [iv F, iv T] (by rfl) (by rfl) HP1.out (Src.lit (cs := #[iv F, iv T]) (m := 1) (size := 2) HQ1.out rfl (by simp [Value.oneCell']) 1) (by have := HKN.out; unfold maxLen; omega) (by have := HKN.out; omega) HZ1.out.size ?_; intro v2 w2 hown2 hg2; have HP2 := hid hown2; have HZ2 := hid (below_grown HZ1.out HP1.out hg2 (Nat.le_refl _) HZ1.out.size); clear hown2 hg2)
                | (refine step_append_src _ (by rfl) _ _ 43 (by rfl) wy.heap.size 47 Try.underlying43 Try.infoSpan rfl (by decide) v2 X2 (0 + k + 1) (ns.length - k) _ (flat (ns.drop k)) (by rfl) (by rfl) HP2.out (HX2.out _ HZ2.out) (by have := HKN.out; unfold maxLen; omega) (by have := HKN.out; omega) HZ2.out.size ?_; intro v3 w3 hown3 hg3; have HP3 := hid hown3; have HZ3 := hid (below_grown HZ2.out HP2.out hg3 (Nat.le_refl _) HZ2.out.size); clear hown3 hg3))
            all_goals
              go_wp2
              go_ret
              refine ⟨_, rfl, ?_, below_step (below_step HBL.out HBW.out) HZ3.out⟩
              have h9 := (Own.of (join_ret HK.out HKN.out HP3.out)).mono (lo' := w.heap.size) (Nat.le_trans HBL.out.size HBW.out.size) (Nat.le_refl _)
              rw [HFIN.out]
              exact h9
        · have HK := hid (headK_at hkn HH.out (fun hh => hlt hh.1))
          have hkd : decide (k < ns.length) = false := by simpa using hlt
          have hkd2 : decide ((k : Int) < (ns.length : Int)) = false := by simpa using hlt
          clear hcell5
          go_wp2_with fail
          go_quiet (fail)
          rename_i nq
          have hbq := below_drewN (Below.refl wr.heap.size wr) nq
          generalize wr.drewN nq = wy at hbq ⊢
          replace HBX := hid (HBY.out.below hbq)
          replace HSl := hid ((HSl.out.below hbq (Nat.le_refl _)).mono hbq.size)
          replace HBW := hid (below_step HBW.out hbq)
          have hzy : w.heap.size < wy.heap.size := HBX.out.1
          clear s0 s1 z0 z1 hbq hz
          obtain ⟨X1, hr1, hs1⟩ := slice_head (P := Try.prog) (t := 43) elemSpan sizeSpan HSl.out (show k ≤ ns.length from hkn)
          obtain ⟨X2, hr2, hs2⟩ := slice_tail (P := Try.prog) (t := 43) elemSpan sizeSpan HSl.out (show k ≤ ns.length from hkn)
          have HX1 : Hid (∀ W : World, Below wy.heap.size wy W → Src W X1 k 2 (flat (ns.take k))) := hid fun W hx => by have h := (hs1.below hx (Nat.le_refl _)).src (fun r hr => HTWO.out r (List.mem_of_mem_take hr)) (by decide); rwa [List.length_take, Nat.min_eq_left hkn] at h
          have HX2 : Hid (∀ W : World, Below wy.heap.size wy W → Src W X2 (ns.length - k) 2 (flat (ns.drop k))) := hid fun W hx => by have h := (hs2.below hx (Nat.le_refl _)).src (fun r hr => HTWO.out r (List.mem_of_mem_drop hr)) (by decide); rwa [List.length_drop] at h
          clear hs1 hs2
          have HKN := hid hkn
          clear hkn hd1
          go_wp2_with fail
          clear hlt hkd hkd2
          have hrf := Below.refl wy.heap.size wy
          have HA1 := hid ((hrf.alloc (Nat.le_refl _) (.cells #[] 47)).drew)
          have HA2 := hid (((hrf.alloc (Nat.le_refl _) (.cells #[] 47)).alloc (by simp) (.cells #[iv F, iv T] 47)).drew)
          have HA3 := hid (((hrf.alloc (Nat.le_refl _) (.cells #[iv F, iv T] 47)).alloc (by simp) (.cells #[] 47)).drew)
          have HA0 := hid ((hrf.alloc (Nat.le_refl _) (.cells #[iv F, iv T] 47)).drew)
          have HO1 : Hid ((wy.alloc (.cells #[] 47)).drew.ownsRow wy.heap.size 47 2 (.slice (some ⟨wy.heap.size, 0, none⟩) 0 0) 0 []) := hid (World.ownsRow_lit (base := wy.heap.size) (e := 47) (size := 2) wy #[] 0 (Nat.le_refl _) (by decide) rfl).drew
          have HO2 : Hid (((wy.alloc (.cells #[] 47)).alloc (.cells #[iv F, iv T] 47)).drew.ownsRow wy.heap.size 47 2 (.slice (some ⟨wy.heap.size, 0, none⟩) 0 0) 0 []) := hid ((World.ownsRow_lit (base := wy.heap.size) (e := 47) (size := 2) wy #[] 0 (Nat.le_refl _) (by decide) rfl).alloc _).drew
          have HO3 : Hid (((wy.alloc (.cells #[iv F, iv T] 47)).alloc (.cells #[] 47)).drew.ownsRow wy.heap.size 47 2 (.slice (some ⟨wy.heap.size + 1, 0, none⟩) 0 0) 0 []) := hid (by have h := World.ownsRow_lit (base := wy.heap.size) (e := 47) (size := 2) (wy.alloc (.cells #[iv F, iv T] 47)) #[] 0 (by simp) (by decide) rfl; simpa using h.drew)
          have HL2 : Hid (((wy.alloc (.cells #[] 47)).alloc (.cells #[iv F, iv T] 47)).drew.heap[wy.heap.size + 1]? = some (.cells #[iv F, iv T] 47)) := hid (by have h := heap_new (wy.alloc (.cells #[] 47)) (.cells #[iv F, iv T] 47); rw [show (wy.alloc (.cells #[] 47)).heap.size = wy.heap.size + 1 by simp] at h; exact h)
          have HL3 : Hid (((wy.alloc (.cells #[iv F, iv T] 47)).alloc (.cells #[] 47)).drew.heap[wy.heap.size]? = some (.cells #[iv F, iv T] 47)) := hid (by have h := (below_alloc (wy.alloc (.cells #[iv F, iv T] 47)) (.cells #[] 47)).block wy.heap.size (by simp); exact h.trans (heap_new wy (.cells #[iv F, iv T] 47)))
          have HSS : Hid (∀ w' : World, Below wy.heap.size wy w' → (w'.cell? ⟨w.heap.size, 0, none⟩ = some (iv F) ∧ w'.cell? ⟨w.heap.size, 1, none⟩ = some (iv T))) := hid fun w' hx => ⟨(HBX.out.below hx).2.1, (HBX.out.below hx).2.2.1⟩
          go_region_held3 (fun w' => w'.cell? ⟨w.heap.size, 0, none⟩ = some (iv F) ∧ w'.cell? ⟨w.heap.size, 1, none⟩ = some (iv T)) (first | with_reducible exact HSS.out _ hrf.drew | with_reducible exact HSS.out _ HA0.out | with_reducible exact HSS.out _ HA1.out | with_reducible exact HSS.out _ HA2.out | with_reducible exact HSS.out _ HA3.out | with_reducible exact HSS.out _ HZ1.out | with_reducible exact HSS.out _ (HZ1.out.alloc HZ1.out.size _) | with_reducible exact HSS.out _ HZ2.out | with_reducible exact HSS.out _ HZ3.out | go_keep)
            (first
              | (refine step_append_src _ (by rfl) _ _ 43 (by rfl) wy.heap.size 47 Try.underlying43 Try.infoSpan rfl (by decide) (.slice (some ⟨wy.heap.size, 0, none⟩) 0 0) X1 0 k [] (flat (ns.take k)) (by rfl) (by rfl) HO1.out (HX1.out _ HA1.out) (by have := HKN.out; unfold maxLen; omega) (by have := HKN.out; omega) HA1.out.size ?_; intro v1 w1 hown1 hg1; have HP1 := hid hown1; have HZ1 := hid (below_grown HA1.out HO1.out hg1 (Nat.le_refl _) HA1.out.size); clear hown1 hg1)
              | (refine step_append_src _ (by rfl) _ _ 43 (by rfl) wy.heap.size 47 Try.underlying43 Try.infoSpan rfl (by decide) (.slice (some ⟨wy.heap.size, 0, none⟩) 0 0) X1 0 k [] (flat (ns.take k)) (by rfl) (by rfl) HO2.out (HX1.out _ HA2.out) (by have := HKN.out; unfold maxLen; omega) (by have := HKN.out; omega) HA2.out.size ?_; intro v1 w1 hown1 hg1; have HP1 := hid hown1; have HZ1 := hid (below_grown HA2.out HO2.out hg1 (Nat.le_refl _) HA2.out.size); have HQ1 := hid (grown_block hg1 HL2.out (by simp [Value.ownBlock])); clear hown1 hg1)
              | (refine step_append_src _ (by rfl) _ _ 43 (by rfl) wy.heap.size 47 Try.underlying43 Try.infoSpan rfl (by decide) (.slice (some ⟨wy.heap.size + 1, 0, none⟩) 0 0) X1 0 k [] (flat (ns.take k)) (by rfl) (by rfl) HO3.out (HX1.out _ HA3.out) (by have := HKN.out; unfold maxLen; omega) (by have := HKN.out; omega) HA3.out.size ?_; intro v1 w1 hown1 hg1; have HP1 := hid hown1; have HZ1 := hid (below_grown HA3.out HO3.out hg1 (Nat.le_refl _) HA3.out.size); have HQ1 := hid (grown_block hg1 HL3.out (by simp [Value.ownBlock])); clear hown1 hg1)
              | (refine step_append_src _ (by rfl) _ _ 43 (by rfl) wy.heap.size 47 Try.underlying43 Try.infoSpan rfl (by decide) v1 (.slice (some ⟨w1.heap.size, 0, none⟩) 1 1) (0 + k) 1 _ [iv F, iv T] (by rfl) (by rfl) (HP1.out.alloc _) (Src.lit (cs := #[iv F, iv T]) (m := 1) (size := 2) (heap_new w1 _) rfl (by simp [Value.oneCell']) 1) (by have := HKN.out; unfold maxLen; omega) (by have := HKN.out; omega) (HZ1.out.alloc HZ1.out.size _).size ?_; intro v2 w2 hown2 hg2; have HP2 := hid hown2; have HZ2 := hid (below_grown (HZ1.out.alloc HZ1.out.size _) (HP1.out.alloc _) hg2 (Nat.le_refl _) (HZ1.out.alloc HZ1.out.size _).size); clear hown2 hg2)
              | (refine step_append_src _ (by rfl) _ _ 43 (by rfl) wy.heap.size 47 Try.underlying43 Try.infoSpan rfl (by decide) v1 (.slice (some ⟨wy.heap.size + 1, 0, none⟩) 1 1) (0 + k) 1 _ [iv F, iv T] (by rfl) (by rfl) HP1.out (Src.lit (cs := #[iv F, iv T]) (m := 1) (size := 2) HQ1.out rfl (by simp [Value.oneCell']) 1) (by have := HKN.out; unfold maxLen; omega) (by have := HKN.out; omega) HZ1.out.size ?_; intro v2 w2 hown2 hg2; have HP2 := hid hown2; have HZ2 := hid (below_grown HZ1.out HP1.out hg2 (Nat.le_refl _) HZ1.out.size); clear hown2 hg2)
              | (refine step_append_src _ (by rfl) _ _ 43 (by rfl) wy.heap.size 47 Try.underlying43 Try.infoSpan rfl (by decide) v1 (.slice (some ⟨wy.heap.size, 0, none⟩) 1 1) (0 + k) 1 _ [iv F, iv T] (by rfl) (by rfl) HP1.out (Src.lit (cs := #[iv F, iv T]) (m := 1) (size := 2) HQ1.out rfl (by simp [Value.oneCell']) 1) (by have := HKN.out; unfold maxLen; omega) (by have := HKN.out; omega) HZ1.out.size ?_; intro v2 w2 hown2 hg2; have HP2 := hid hown2; have HZ2 := hid (below_grown HZ1.out HP1.out hg2 (Nat.le_refl _) HZ1.out.size); clear hown2 hg2)
              | (refine step_append_src _ (by rfl) _ _ 43 (by rfl) wy.heap.size 47 Try.underlying43 Try.infoSpan rfl (by decide) v2 X2 (0 + k + 1) (ns.length - k) _ (flat (ns.drop k)) (by rfl) (by rfl) HP2.out (HX2.out _ HZ2.out) (by have := HKN.out; unfold maxLen; omega) (by have := HKN.out; omega) HZ2.out.size ?_; intro v3 w3 hown3 hg3; have HP3 := hid hown3; have HZ3 := hid (below_grown HZ2.out HP2.out hg3 (Nat.le_refl _) HZ2.out.size); clear hown3 hg3))
          all_goals
            go_wp2
            go_ret
            refine ⟨_, rfl, ?_, below_step (below_step HBL.out HBW.out) HZ3.out⟩
            have h9 := (Own.of (join_ret HK.out HKN.out HP3.out)).mono (lo' := w.heap.size) (Nat.le_trans HBL.out.size HBW.out.size) (Nat.le_refl _)
            rw [HFIN.out]
            exact h9

end Go.Proofs.Ytkdpfbodmfjkkaa
