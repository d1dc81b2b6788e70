/- IsDocument and DocDigest of the program and of the reference return what the plain functions say. No condition. -/
import Derived.Test.YtkdpfbodmfjkkaaRows
import Derived.Test.YtkdpfbodmfjkkaaBase
import Derived.Test.YtkdpfbodmfjkkaaPlain
import Derived.Test.YtkdpfbodmfjkkaaAppend
import Derived.Test.YtkdpfbodmfjkkaaApart
import Derived.Test.YtkdpfbodmfjkkaaSlices
import Derived.Test.YtkdpfbodmfjkkaaCol
import Derived.Test.YtkdpfbodmfjkkaaDigest
import Derived.Test.YtkdpfbodmfjkkaaStr
import Derived.Test.YtkdpfbodmfjkkaaPartDigest
import Derived.Test.YtkdpfbodmfjkkaaBlk
namespace Go.Proofs.Ytkdpfbodmfjkkaa
open Go.ChangeShapes Go.WideShapes Go.ChangeAt Go.RowKit Go.Deep

def goodP (ps : List ByteArray) (k : Nat) : Bool := decide ((nthS ps k).size ≤ 40)
def goodZ (zs : List Int) (k : Nat) : Bool := inR (nth zs k) 1 1000000000000
def allB (good : Nat → Bool) (n : Nat) : Bool := (List.range n).all good
theorem allB_bad {good : Nat → Bool} {n k : Nat} (hk : k < n) (e : good k = false) : allB good n = false := by
  unfold allB
  cases hx : (List.range n).all good with
  | false => rfl
  | true => rw [List.all_eq_true] at hx; rw [hx k (List.mem_range.2 hk)] at e; cases e
theorem allB_end {good : Nat → Bool} {n : Nat} (h : AG good n) : allB good n = true := by
  unfold allB
  rw [List.all_eq_true]
  exact fun i hi => h i (List.mem_range.1 hi)
theorem allB_at {good : Nat → Bool} {n k : Nat} (h : allB good n = true) (hk : k < n) : good k = true := by
  unfold allB at h
  rw [List.all_eq_true] at h
  exact h k (List.mem_range.2 hk)
def docB (t : Int) (ps : List ByteArray) (zs : List Int) : Bool := inR t 0 999 && inR ps.length 1 6 && ((zs.length : Int) == (ps.length : Int)) && allB (goodP ps) ps.length && allB (goodZ zs) zs.length
theorem docB_facts {t : Int} {ps : List ByteArray} {zs : List Int} (h : docB t ps zs = true) : (0 ≤ t ∧ t ≤ 999) ∧ 1 ≤ ps.length ∧ ps.length ≤ 6 ∧ zs.length = ps.length ∧ (∀ k, k < ps.length → (nthS ps k).size ≤ 40) ∧ ∀ k, k < zs.length → 1 ≤ nth zs k ∧ nth zs k ≤ 1000000000000 := by
  unfold docB at h
  simp only [Bool.and_eq_true, beq_iff_eq] at h
  obtain ⟨⟨⟨⟨h1, h2⟩, h3⟩, h4⟩, h5⟩ := h
  have h1' := inR_iff.1 h1
  have h2' := inR_iff.1 h2
  refine ⟨h1', by omega, by omega, by omega, fun k hk => ?_, fun k hk => ?_⟩
  · have := allB_at h4 hk
    unfold goodP at this
    simpa using this
  · exact inR_iff.1 (allB_at h5 hk)
def partsI (m : Int) (ps : List ByteArray) (zs : List Int) (k : Nat) : List Int := (List.range k).map fun i => partI m (nthS ps i) (nth zs i)
theorem partsI_succ (m : Int) (ps : List ByteArray) (zs : List Int) (k : Nat) : partsI m ps zs (k + 1) = partsI m ps zs k ++ [partI m (nthS ps k) (nth zs k)] := by simp [partsI, List.range_succ]
theorem partsI_length (m : Int) (ps : List ByteArray) (zs : List Int) (k : Nat) : (partsI m ps zs k).length = k := by simp [partsI]
def docI (m t : Int) (ps : List ByteArray) (zs : List Int) : Int := if docB t ps zs then digestI m (t :: partsI m ps zs ps.length) else -1
theorem docI_no {m t : Int} {ps : List ByteArray} {zs : List Int} (h : docB t ps zs = false) : -1 = docI m t ps zs := by simp [docI, h]
theorem docI_yes {m t : Int} {ps : List ByteArray} {zs : List Int} (h : docB t ps zs = true) : digestI m (t :: partsI m ps zs ps.length) = docI m t ps zs := by simp [docI, h]
set_option maxHeartbeats 400000 in
theorem implInR_any (n lo hi : Int) (w : World) :
    Calls Try.prog 106 #[iv n, iv lo, iv hi] w fun e w' => e = .returned (.bool (inR n lo hi)) ∧ w = w' := by
  go_enter Try.func106, Try.ntmps106
  go_wp2
  all_goals
    go_ret
    exact ⟨ret_bool (by rw [Bool.eq_iff_iff, inR_iff]; first | (simp only [decide_eq_true_eq]; omega) | (simp only [Bool.false_eq_true, false_iff]; omega) | (simp; omega)), rfl⟩
set_option maxHeartbeats 400000 in
theorem specInR_any (n lo hi : Int) (w : World) :
    Calls Try.prog 157 #[iv n, iv lo, iv hi] w fun e w' => e = .returned (.bool (inR n lo hi)) ∧ w = w' := by
  go_enter Try.func157, Try.ntmps157
  go_wp2
  all_goals
    go_ret
    exact ⟨ret_bool (by rw [Bool.eq_iff_iff, inR_iff]; first | (simp only [decide_eq_true_eq]; omega) | (simp only [Bool.false_eq_true, false_iff]; omega) | (simp; omega)), rfl⟩
set_option maxRecDepth 16000 in
set_option maxHeartbeats 8000000 in
theorem implIsDocument_any {B : Nat} {ps : List ByteArray} {zs : List Int} {P S : Value} (t : Int) (w : World) (hp : Ss B w P ps) (hz : Si B w S zs) (hB : B ≤ w.heap.size) :
    Calls Try.prog 141 #[.agg #[iv t, P, S]] w (Ret (.bool (docB t ps zs)) w) := by
  have HP := hid (hp.below (below_alloc w (.cells #[iv t, P, S] 113)) hB)
  have HZ := hid (hz.below (below_alloc w (.cells #[iv t, P, S] 113)) hB)
  have HB0 := hid (below_alloc w (.cells #[iv t, P, S] 113))
  have hcell : (w.alloc (.cells #[iv t, P, S] 113)).heap[w.heap.size]? = some (.cells #[iv t, P, S] 113) := heap_new w _
  have HC0 := hid (cell_in hcell 0 (u := iv t) rfl)
  have HC1 := hid (cell_in hcell 1 (u := P) rfl)
  have HC2 := hid (cell_in hcell 2 (u := S) rfl)
  have HIN : Hid (∀ (n lo hi : Int) (b : Bool), inR n lo hi = b → ∀ W : World, Calls Try.prog 106 #[iv n, iv lo, iv hi] W fun e w' => e = .returned (.bool b) ∧ W = w') := hid fun n lo hi b h W => by rw [← h]; exact implInR_any n lo hi W
  clear hcell hp hz
  go_enter Try.func141, Try.ntmps141
  go_wp2_with fail
  generalize w.alloc (.cells #[iv t, P, S] 113) = W at HP HZ HB0 HC0 HC1 HC2 ⊢
  obtain ⟨bx, hbx⟩ : ∃ b, b = w.heap.size := ⟨_, rfl⟩
  rw [← hbx] at HC0 HC1 HC2 ⊢
  have hc0 := HC0.out
  have hc1 := HC1.out
  have hc2 := HC2.out
  have hbB : B ≤ bx := by omega
  clear hbx HC0 HC1 HC2
  obtain ⟨A1, c1, rfl, hd1, hd2, -, hcp⟩ := id HP.out
  obtain ⟨A2, c2, rfl, hd3, hd4, -, hcz⟩ := id HZ.out
  have HCP := hid hcp
  have HCZ := hid hcz
  clear hcp hcz HP HZ
  cases ht : inR t 0 999
  · have HT : Hid (false = docB t ps zs) := hid (by simp [docB, ht])
    go_wp2_with fail
    refine (HIN.out t 0 999 _ ht _).mono ?_
    rintro e w1 ⟨rfl, rfl⟩
    go_wp2
    go_ret
    exact ⟨ret_bool HT.out, HB0.out⟩
  cases hn : inR ps.length 1 6
  · have HT : Hid (false = docB t ps zs) := hid (by simp [docB, hn])
    go_wp2_with fail
    refine (HIN.out t 0 999 _ ht _).mono ?_
    rintro e w1 ⟨rfl, rfl⟩
    go_wp2_with fail
    refine (HIN.out ps.length 1 6 _ hn _).mono ?_
    rintro e w2 ⟨rfl, rfl⟩
    go_wp2
    go_ret
    exact ⟨ret_bool HT.out, HB0.out⟩
  go_wp2_with fail
  refine (HIN.out t 0 999 _ ht _).mono ?_
  rintro e w1 ⟨rfl, rfl⟩
  go_wp2_with fail
  refine (HIN.out ps.length 1 6 _ hn _).mono ?_
  rintro e w2 ⟨rfl, rfl⟩
  cases hl : ((zs.length : Int) == (ps.length : Int))
  · have HT : Hid (false = docB t ps zs) := hid (by unfold docB; rw [hl]; simp)
    have hl2 : ((zs.length : Int) != (ps.length : Int)) = true := by unfold bne; rw [hl]; rfl
    go_wp2
    go_ret
    exact ⟨ret_bool HT.out, HB0.out⟩
  have hl2 : ((zs.length : Int) != (ps.length : Int)) = false := by unfold bne; rw [hl]; rfl
  have HLEN : Hid (zs.length = ps.length) := hid (by rw [beq_iff_eq] at hl; omega)
  have hn9 : ps.length ≤ 6 := by have := inR_iff.1 hn; omega
  have HHT := hid (And.intro ht (And.intro hn hl))
  go_wp2
  clear ht hn hl hl2
  go_loopw [28] (fun i wr => ∃ k : Nat, k ≤ ps.length ∧ i = .int .i64 k ∧ AG (goodP ps) k ∧ AG (goodZ zs) k ∧ wr = W) (fun i _ => ps.length - (intOf i).toNat)
  case atStart => exact ⟨0, Nat.zero_le _, rfl, AG_zero _, AG_zero _, rfl⟩
  case round =>
    obtain ⟨k, hk, rfl, hgp, hgz, rfl⟩ := hrel
    have HGP := hid hgp
    have HGZ := hid hgz
    clear hgp hgz
    by_cases hlt : k < ps.length
    · obtain ⟨b1, o1, rfl, -, hcc1⟩ := HCP.out (by omega)
      have hlz : k < zs.length := by have := HLEN.out; omega
      obtain ⟨b2, o2, rfl, -, hcc2⟩ := HCZ.out (by omega)
      have d1 := hcc1 k hlt
      have d2 := hcc2 k hlz
      have hi0 : (0 : Int) ≤ (k : Int) := Int.natCast_nonneg _
      have hi1 : (k : Int) < (ps.length : Int) := by omega
      have hi2 : (k : Int) < (zs.length : Int) := by omega
      clear hcc1 hcc2 HCP HCZ
      obtain ⟨p, hp⟩ : ∃ p, p = nthS ps k := ⟨_, rfl⟩
      obtain ⟨z, hz⟩ : ∃ z, z = nth zs k := ⟨_, rfl⟩
      rw [← hp] at d1
      rw [← hz] at d2
      have HPP := hid hp
      have HZZ := hid hz
      clear hp hz
      by_cases hs : p.size ≤ 40
      · have hs2 : (p.size : Int) ≤ 40 := by omega
        have HG1 := hid (AG_succ HGP.out (show goodP ps k = true by unfold goodP; rw [← HPP.out]; simpa using hs))
        cases hin : inR z 1 1000000000000
        · have HT : Hid (false = docB t ps zs) := hid (by unfold docB; rw [allB_bad (good := goodZ zs) hlz (by unfold goodZ; rw [← HZZ.out]; exact hin)]; simp)
          clear HG1
          go_wp2_with fail
          refine (HIN.out z 1 1000000000000 _ hin _).mono ?_
          rintro e w1 ⟨rfl, rfl⟩
          go_wp2
          go_ret
          exact ⟨ret_bool HT.out, HB0.out⟩
        · have HG2 := hid (AG_succ HGZ.out (show goodZ zs k = true by unfold goodZ; rw [← HZZ.out]; exact hin))
          go_wp2_with fail
          refine (HIN.out z 1 1000000000000 _ hin _).mono ?_
          rintro e w1 ⟨rfl, rfl⟩
          go_wp2
          go_roundw
          case rel => exact ⟨k + 1, by omega, by go_num, HG1.out, HG2.out, by first | rfl | trivial⟩
          case measure => simp [intOf]; omega
      · have hs2 : 40 < (p.size : Int) := by omega
        have HT : Hid (false = docB t ps zs) := hid (by unfold docB; rw [allB_bad (good := goodP ps) hlt (by unfold goodP; rw [← HPP.out]; simpa using hs)]; simp)
        go_wp2
        go_ret
        exact ⟨ret_bool HT.out, HB0.out⟩
    · obtain rfl : k = ps.length := by omega
      have HT : Hid (true = docB t ps zs) := hid (by
        obtain ⟨ht, hn, hl⟩ := HHT.out
        unfold docB
        rw [ht, hn, hl, allB_end HGP.out, HLEN.out, allB_end HGZ.out]
        rfl)
      clear HGP HGZ HCP HCZ
      go_wp2
      go_ret
      exact ⟨ret_bool HT.out, HB0.out⟩
set_option maxRecDepth 16000 in
set_option maxHeartbeats 8000000 in
theorem specIsDocument_any {B : Nat} {ps : List ByteArray} {zs : List Int} {P S : Value} (t : Int) (w : World) (hp : Ss B w P ps) (hz : Si B w S zs) (hB : B ≤ w.heap.size) :
    Calls Try.prog 192 #[.agg #[iv t, P, S]] w (Ret (.bool (docB t ps zs)) w) := by
  have HP := hid (hp.below (below_alloc w (.cells #[iv t, P, S] 113)) hB)
  have HZ := hid (hz.below (below_alloc w (.cells #[iv t, P, S] 113)) hB)
  have HB0 := hid (below_alloc w (.cells #[iv t, P, S] 113))
  have hcell : (w.alloc (.cells #[iv t, P, S] 113)).heap[w.heap.size]? = some (.cells #[iv t, P, S] 113) := heap_new w _
  have HC0 := hid (cell_in hcell 0 (u := iv t) rfl)
  have HC1 := hid (cell_in hcell 1 (u := P) rfl)
  have HC2 := hid (cell_in hcell 2 (u := S) rfl)
  have HIN : Hid (∀ (n lo hi : Int) (b : Bool), inR n lo hi = b → ∀ W : World, Calls Try.prog 157 #[iv n, iv lo, iv hi] W fun e w' => e = .returned (.bool b) ∧ W = w') := hid fun n lo hi b h W => by rw [← h]; exact specInR_any n lo hi W
  clear hcell hp hz
  go_enter Try.func192, Try.ntmps192
  go_wp2_with fail
  generalize w.alloc (.cells #[iv t, P, S] 113) = W at HP HZ HB0 HC0 HC1 HC2 ⊢
  obtain ⟨bx, hbx⟩ : ∃ b, b = w.heap.size := ⟨_, rfl⟩
  rw [← hbx] at HC0 HC1 HC2 ⊢
  have hc0 := HC0.out
  have hc1 := HC1.out
  have hc2 := HC2.out
  have hbB : B ≤ bx := by omega
  clear hbx HC0 HC1 HC2
  obtain ⟨A1, c1, rfl, hd1, hd2, -, hcp⟩ := id HP.out
  obtain ⟨A2, c2, rfl, hd3, hd4, -, hcz⟩ := id HZ.out
  have HCP := hid hcp
  have HCZ := hid hcz
  clear hcp hcz HP HZ
  go_loop [3] (fun i => ∃ k : Nat, k ≤ ps.length ∧ i = .int .i64 k ∧ AG (goodP ps) k) (fun i => ps.length - (intOf i).toNat)
  case atStart => exact ⟨0, Nat.zero_le _, rfl, AG_zero _⟩
  case round =>
    obtain ⟨k, hk, rfl, hgp⟩ := hrel
    have HGP := hid hgp
    clear hgp
    by_cases hlt : k < ps.length
    · obtain ⟨b1, o1, rfl, -, hcc1⟩ := HCP.out (by omega)
      have d1 := hcc1 k hlt
      have hi0 : (0 : Int) ≤ (k : Int) := Int.natCast_nonneg _
      have hi1 : (k : Int) < (ps.length : Int) := by omega
      clear hcc1 HCP HCZ
      obtain ⟨p, hp⟩ : ∃ p, p = nthS ps k := ⟨_, rfl⟩
      rw [← hp] at d1
      have HPP := hid hp
      clear hp
      by_cases hs : p.size ≤ 40
      · have hs2 : (p.size : Int) ≤ 40 := by omega
        have HG1 := hid (AG_succ HGP.out (show goodP ps k = true by unfold goodP; rw [← HPP.out]; simpa using hs))
        go_wp2
        go_round
        case rel => exact ⟨k + 1, by omega, by go_num, HG1.out⟩
        case measure => simp [intOf]; omega
      · have hs2 : 40 < (p.size : Int) := by omega
        have HT : Hid (false = docB t ps zs) := hid (by unfold docB; rw [allB_bad (good := goodP ps) hlt (by unfold goodP; rw [← HPP.out]; simpa using hs)]; simp)
        go_wp2
        go_ret
        exact ⟨ret_bool HT.out, HB0.out⟩
    · obtain rfl : k = ps.length := by omega
      have hi2 : decide (((ps.length : Nat) : Int) < (ps.length : Int)) = false := by simp
      go_wp2
      go_loop [4] (fun i => ∃ k : Nat, k ≤ zs.length ∧ i = .int .i64 k ∧ AG (goodZ zs) k) (fun i => zs.length - (intOf i).toNat)
      case atStart => exact ⟨0, Nat.zero_le _, rfl, AG_zero _⟩
      case round =>
        obtain ⟨k, hk, rfl, hgz⟩ := hrel
        have HGZ := hid hgz
        clear hgz
        by_cases hlt : k < zs.length
        · obtain ⟨b2, o2, rfl, -, hcc2⟩ := HCZ.out (by omega)
          have d2 := hcc2 k hlt
          have hi0 : (0 : Int) ≤ (k : Int) := Int.natCast_nonneg _
          have hi1 : (k : Int) < (zs.length : Int) := by omega
          clear hcc2 HCP HCZ
          obtain ⟨z, hz⟩ : ∃ z, z = nth zs k := ⟨_, rfl⟩
          rw [← hz] at d2
          have HZZ := hid hz
          clear hz
          cases hin : inR z 1 1000000000000
          · have HT : Hid (false = docB t ps zs) := hid (by unfold docB; rw [allB_bad (good := goodZ zs) hlt (by unfold goodZ; rw [← HZZ.out]; exact hin)]; simp)
            go_wp2_with fail
            refine (HIN.out z 1 1000000000000 _ hin _).mono ?_
            rintro e w1 ⟨rfl, rfl⟩
            go_wp2
            go_ret
            exact ⟨ret_bool HT.out, HB0.out⟩
          · have HG2 := hid (AG_succ HGZ.out (show goodZ zs k = true by unfold goodZ; rw [← HZZ.out]; exact hin))
            go_wp2_with fail
            refine (HIN.out z 1 1000000000000 _ hin _).mono ?_
            rintro e w1 ⟨rfl, rfl⟩
            go_wp2
            go_round
            case rel => exact ⟨k + 1, by omega, by go_num, HG2.out⟩
            case measure => simp [intOf]; omega
        · obtain rfl : k = zs.length := by omega
          have HT : Hid (docB t ps zs = (inR t 0 999 && inR ps.length 1 6 && ((zs.length : Int) == (ps.length : Int)))) := hid (by
            unfold docB
            rw [allB_end HGP.out, allB_end HGZ.out, Bool.and_true, Bool.and_true])
          clear HGP HGZ HCP HCZ
          go_wp2_with fail
          cases ht : inR t 0 999
          · have HT2 : Hid (false = docB t ps zs) := hid (by rw [HT.out, ht]; rfl)
            refine (HIN.out t 0 999 _ ht _).mono ?_
            rintro e w1 ⟨rfl, rfl⟩
            go_wp2
            go_ret
            exact ⟨ret_bool HT2.out, HB0.out⟩
          refine (HIN.out t 0 999 _ ht _).mono ?_
          rintro e w1 ⟨rfl, rfl⟩
          go_wp2_with fail
          cases hn : inR ps.length 1 6
          · have HT2 : Hid (false = docB t ps zs) := hid (by rw [HT.out, ht, hn]; rfl)
            refine (HIN.out ps.length 1 6 _ hn _).mono ?_
            rintro e w2 ⟨rfl, rfl⟩
            go_wp2
            go_ret
            exact ⟨ret_bool HT2.out, HB0.out⟩
          refine (HIN.out ps.length 1 6 _ hn _).mono ?_
          rintro e w2 ⟨rfl, rfl⟩
          have HT2 : Hid (((zs.length : Int) == (ps.length : Int)) = docB t ps zs) := hid (by rw [HT.out, ht, hn]; rfl)
          clear ht hn
          go_wp2
          go_ret
          exact ⟨ret_bool HT2.out, HB0.out⟩
set_option maxRecDepth 16000 in
set_option maxHeartbeats 8000000 in
theorem implDocDigest_any {B : Nat} {ps : List ByteArray} {zs : List Int} {P S : Value} (m t : Int) (w : World) (hp : Ss B w P ps) (hz : Si B w S zs) (hB : B ≤ w.heap.size) :
    Calls Try.prog 74 #[iv m, .agg #[iv t, P, S]] w (Ret (iv (docI m t ps zs)) w) := by
  obtain ⟨A1, c1, rfl, hd1, hd2, -⟩ := id hp
  obtain ⟨A2, c2, rfl, hd3, hd4, -⟩ := id hz
  have HB0 := hid (below_alloc w (.cells #[iv t, .slice A1 ps.length c1, .slice A2 zs.length c2] 113))
  have HP := hid (hp.below HB0.out hB)
  have HZ := hid (hz.below HB0.out hB)
  have HX := hid (Blk.new w #[iv t, .slice A1 ps.length c1, .slice A2 zs.length c2] 113)
  have hBW : B ≤ (w.alloc (.cells #[iv t, .slice A1 ps.length c1, .slice A2 zs.length c2] 113)).heap.size := by simp; omega
  clear hp hz
  go_enter Try.func74, Try.ntmps74
  go_wp2_with fail
  generalize w.alloc (.cells #[iv t, .slice A1 ps.length c1, .slice A2 zs.length c2] 113) = W at HB0 HP HZ HX hBW ⊢
  refine (implIsDocument_any t W HP.out HZ.out hBW).mono ?_
  rintro e w1 ⟨rfl, hb1⟩
  have HB1 := hid (below_step HB0.out hb1)
  have HP1 := hid (HP.out.below hb1 hBW)
  have HZ1 := hid (HZ.out.below hb1 hBW)
  have HX1 := hid (HX.out.below hb1)
  have hB1 : B ≤ w1.heap.size := Nat.le_trans hBW hb1.size
  clear hb1 HB0 HP HZ HX hBW
  cases hd : docB t ps zs
  · have HT := hid (docI_no (m := m) hd)
    clear hd
    go_wp2
    go_ret
    exact ⟨ret_int HT.out, HB1.out⟩
  have HT := hid (docI_yes (m := m) hd)
  obtain ⟨-, hp1, hp2, hlen, hs, -⟩ := docB_facts hd
  have HSZ := hid hs
  have HLEN := hid hlen
  have x0 := HX1.out.cell 0 rfl
  have x1 := HX1.out.cell 1 rfl
  have hx9 := HX1.out.lt
  clear hd hs hlen
  go_wp2
  clear x0 x1
  go_loopw [5, 17] (fun l i wr => ∃ k : Nat, k ≤ ps.length ∧ i = .int .i64 k ∧ wr.ownsRow w1.heap.size 3 1 l (k + 1) ((t :: partsI m ps zs k).map (Value.int .i64)) ∧ Below w1.heap.size w1 wr) (fun _ i _ => ps.length - (intOf i).toNat)
  case atStart => exact ⟨0, Nat.zero_le _, rfl, World.ownsRow_lit (base := w1.heap.size) (e := 3) (size := 1) w1 #[iv t] 1 (Nat.le_refl _) (by decide) rfl, below_alloc _ _⟩
  case round =>
    obtain ⟨k, hk, rfl, how, hb⟩ := hrel
    have HOW := hid how
    have HBL := hid hb
    have hzw := hb.size
    have HXW := hid (HX1.out.below hb)
    clear how hb
    have x1 := HXW.out.cell 1 rfl
    have x2 := HXW.out.cell 2 rfl
    by_cases hlt : k < ps.length
    · obtain ⟨A9, c9, h9, -, -, -, hcp⟩ := HP1.out
      simp only [Value.slice.injEq] at h9
      obtain ⟨rfl, -, rfl⟩ := h9
      obtain ⟨A9, c9, h9, -, -, -, hcz⟩ := HZ1.out
      simp only [Value.slice.injEq] at h9
      obtain ⟨rfl, -, rfl⟩ := h9
      have hlz : k < zs.length := by have := HLEN.out; omega
      obtain ⟨b1, o1, rfl, hb1B, hcc1⟩ := hcp (by omega)
      obtain ⟨b2, o2, rfl, hb2B, hcc2⟩ := hcz (by omega)
      have e1 := hcc1 k hlt
      have e2 := hcc2 k hlz
      have hs9 := HSZ.out k hlt
      have HN := hid (partsI_succ m ps zs k)
      have hi0 : (0 : Int) ≤ (k : Int) := Int.natCast_nonneg _
      have hi1 : (k : Int) < (ps.length : Int) := by omega
      have hi2 : (k : Int) < (zs.length : Int) := by omega
      generalize nthS ps k = p at e1 hs9 HN
      generalize nth zs k = z at e2 HN
      have d1 := cell_at HBL.out hb1B hB1 e1
      have d2 := cell_at HBL.out hb2B hB1 e2
      clear hcp hcz hcc1 hcc2
      have HPD : Hid (∀ W : World, Calls Try.prog 142 #[iv m, .string p, iv z] W (Ret (iv (partI m p z)) W)) := hid fun W => implPartDigest_any m z p W (by omega)
      generalize hq : partI m p z = q at HPD HN
      clear hq hs9
      go_wp2_with fail
      refine (HPD.out _).mono ?_
      rintro e w2 ⟨rfl, hb2⟩
      have HO2 := hid (ownsRow_below HOW.out hb2 (fun g hg => (HOW.out.lt g hg).2))
      have HB2 := hid (below_step HBL.out hb2)
      have hz2 := hb2.size
      clear hb2 HOW HBL d1 d2 x1 x2
      go_wp2_with (first | (at_builtin; refine wpList_append_src _ rfl _ _ 23 rfl w1.heap.size 3 Try.underlying23 Try.infoI rfl (by decide) _ _ (k + 1) 1 _ [iv q] rfl rfl (HO2.out.alloc _) (Src.lit (cs := #[iv q]) (m := 1) (size := 1) (heap_new_at w2 _ (by simp)) rfl (by simp [Value.oneCell']) 1) (by unfold maxLen; omega) (by omega) (Nat.le_trans HB2.out.size (by simp; try omega)) ?_; intro v1 w3 hown1 hg1; have HO3 := hid hown1; have HB3 := hid (below_grown (HB2.out.alloc HB2.out.size _) (HO2.out.alloc _) hg1 (Nat.le_refl _) (Nat.le_trans HB2.out.size (by simp; try omega))); clear hown1 hg1) | fail)
      go_roundw
      case rel => exact ⟨k + 1, by omega, by go_num, by rw [HN.out, ← List.cons_append, List.map_append]; exact HO3.out, HB3.out⟩
      case measure => simp [intOf]; omega
    · obtain rfl : k = ps.length := by omega
      have h9 := HOW.out
      have hl9 : (t :: partsI m ps zs ps.length).length = ps.length + 1 := by rw [List.length_cons, partsI_length]
      rw [← hl9] at h9
      have HO := hid h9
      have HL9 := hid hl9
      clear h9 HOW hl9
      go_wp2_with fail
      refine (implDigestOf_any (zs := t :: partsI m ps zs ps.length) _ _ (Own.si (Own.of HO.out)) (Nat.le_refl _) (by rw [HL9.out]; omega)).mono ?_
      rintro e w4 ⟨rfl, hb4⟩
      have HB4 := hid (below_step HB1.out (below_step HBL.out hb4))
      clear hb4
      go_wp2
      go_ret
      exact ⟨ret_int HT.out, HB4.out⟩
set_option maxRecDepth 16000 in
set_option maxHeartbeats 8000000 in
theorem specDocDigest_any {B : Nat} {ps : List ByteArray} {zs : List Int} {P S : Value} (m t : Int) (w : World) (hp : Ss B w P ps) (hz : Si B w S zs) (hB : B ≤ w.heap.size) :
    Calls Try.prog 181 #[iv m, .agg #[iv t, P, S]] w (Ret (iv (docI m t ps zs)) w) := by
  obtain ⟨A1, c1, rfl, hd1, hd2, -⟩ := id hp
  obtain ⟨A2, c2, rfl, hd3, hd4, -⟩ := id hz
  have HB0 := hid (below_alloc w (.cells #[iv t, .slice A1 ps.length c1, .slice A2 zs.length c2] 113))
  have HP := hid (hp.below HB0.out hB)
  have HZ := hid (hz.below HB0.out hB)
  have HX := hid (Blk.new w #[iv t, .slice A1 ps.length c1, .slice A2 zs.length c2] 113)
  have hBW : B ≤ (w.alloc (.cells #[iv t, .slice A1 ps.length c1, .slice A2 zs.length c2] 113)).heap.size := by simp; omega
  clear hp hz
  go_enter Try.func181, Try.ntmps181
  go_wp2_with fail
  generalize w.alloc (.cells #[iv t, .slice A1 ps.length c1, .slice A2 zs.length c2] 113) = W at HB0 HP HZ HX hBW ⊢
  refine (specIsDocument_any t W HP.out HZ.out hBW).mono ?_
  rintro e w1 ⟨rfl, hb1⟩
  have HB1 := hid (below_step HB0.out hb1)
  have HP1 := hid (HP.out.below hb1 hBW)
  have HZ1 := hid (HZ.out.below hb1 hBW)
  have HX1 := hid (HX.out.below hb1)
  have hB1 : B ≤ w1.heap.size := Nat.le_trans hBW hb1.size
  clear hb1 HB0 HP HZ HX hBW
  cases hd : docB t ps zs
  · have HT := hid (docI_no (m := m) hd)
    clear hd
    go_wp2
    go_ret
    exact ⟨ret_int HT.out, HB1.out⟩
  have HT := hid (docI_yes (m := m) hd)
  obtain ⟨-, hp1, hp2, hlen, hs, -⟩ := docB_facts hd
  have HSZ := hid hs
  have HLEN := hid hlen
  have x0 := HX1.out.cell 0 rfl
  have x1 := HX1.out.cell 1 rfl
  have hx9 := HX1.out.lt
  clear hd hs hlen
  go_wp2
  clear x0 x1
  go_loopw [5, 6] (fun l i wr => ∃ k : Nat, k ≤ ps.length ∧ i = .int .i64 k ∧ wr.ownsRow w1.heap.size 3 1 l (k + 1) ((t :: partsI m ps zs k).map (Value.int .i64)) ∧ Below w1.heap.size w1 wr) (fun _ i _ => ps.length - (intOf i).toNat)
  case atStart => exact ⟨0, Nat.zero_le _, rfl, World.ownsRow_lit (base := w1.heap.size) (e := 3) (size := 1) w1 #[iv t] 1 (Nat.le_refl _) (by decide) rfl, below_alloc _ _⟩
  case round =>
    obtain ⟨k, hk, rfl, how, hb⟩ := hrel
    have HOW := hid how
    have HBL := hid hb
    have hzw := hb.size
    have HXW := hid (HX1.out.below hb)
    clear how hb
    have x1 := HXW.out.cell 1 rfl
    have x2 := HXW.out.cell 2 rfl
    by_cases hlt : k < ps.length
    · obtain ⟨A9, c9, h9, -, -, -, hcp⟩ := HP1.out
      simp only [Value.slice.injEq] at h9
      obtain ⟨rfl, -, rfl⟩ := h9
      obtain ⟨A9, c9, h9, -, -, -, hcz⟩ := HZ1.out
      simp only [Value.slice.injEq] at h9
      obtain ⟨rfl, -, rfl⟩ := h9
      have hlz : k < zs.length := by have := HLEN.out; omega
      obtain ⟨b1, o1, rfl, hb1B, hcc1⟩ := hcp (by omega)
      obtain ⟨b2, o2, rfl, hb2B, hcc2⟩ := hcz (by omega)
      have e1 := hcc1 k hlt
      have e2 := hcc2 k hlz
      have hs9 := HSZ.out k hlt
      have HN := hid (partsI_succ m ps zs k)
      have hi0 : (0 : Int) ≤ (k : Int) := Int.natCast_nonneg _
      have hi1 : (k : Int) < (ps.length : Int) := by omega
      have hi2 : (k : Int) < (zs.length : Int) := by omega
      generalize nthS ps k = p at e1 hs9 HN
      generalize nth zs k = z at e2 HN
      have d1 := cell_at HBL.out hb1B hB1 e1
      have d2 := cell_at HBL.out hb2B hB1 e2
      clear hcp hcz hcc1 hcc2
      have HPD : Hid (∀ W : World, Calls Try.prog 193 #[iv m, .string p, iv z] W (Ret (iv (partI m p z)) W)) := hid fun W => specPartDigest_any m z p W (by omega)
      generalize hq : partI m p z = q at HPD HN
      clear hq hs9
      have HS : Hid (∀ w' : World, Below w1.heap.size w1 w' → (w'.cell? ⟨w.heap.size, 1, none⟩ = some (.slice (some ⟨b1, o1, none⟩) ps.length c1) ∧ w'.cell? ⟨w.heap.size, 2, none⟩ = some (.slice (some ⟨b2, o2, none⟩) zs.length c2) ∧ w'.cell? ⟨b1, o1 + k, none⟩ = some (.string p) ∧ w'.cell? ⟨b2, o2 + k, none⟩ = some (iv z))) := hid fun w' hx => ⟨(HX1.out.below hx).cell 1 rfl, (HX1.out.below hx).cell 2 rfl, cell_at hx hb1B hB1 e1, cell_at hx hb2B hB1 e2⟩
      go_wp2_with fail
      go_region_held3 (fun w' => w'.cell? ⟨w.heap.size, 1, none⟩ = some (.slice (some ⟨b1, o1, none⟩) ps.length c1) ∧ w'.cell? ⟨w.heap.size, 2, none⟩ = some (.slice (some ⟨b2, o2, none⟩) zs.length c2) ∧ w'.cell? ⟨b1, o1 + k, none⟩ = some (.string p) ∧ w'.cell? ⟨b2, o2 + k, none⟩ = some (iv z)) (first | with_reducible exact HS.out _ HBL.out.drew | with_reducible exact HS.out _ HB2.out | with_reducible exact HS.out _ HBA.out | with_reducible exact HS.out _ HB3.out | go_keep)
        (first | (go_at_call 193; refine (HPD.out _).mono ?_; rintro e w2 ⟨rfl, hb2⟩; have HB2 := hid (below_step HBL.out.drew hb2); have HO2 := hid (ownsRow_below HOW.out.drew hb2 (fun g hg => (HOW.out.lt g hg).2)); have HOA := hid (HO2.out.alloc (.cells #[iv q] 3)); have HBA := hid (HB2.out.alloc HB2.out.size (.cells #[iv q] 3)); clear hb2) | (refine step_append_src _ (by rfl) _ _ 23 (by rfl) w1.heap.size 3 Try.underlying23 Try.infoI rfl (by decide) _ (.slice (some ⟨w2.heap.size, 0, none⟩) 1 1) (k + 1) 1 _ [iv q] (by rfl) (by rfl) HOA.out (Src.lit (cs := #[iv q]) (m := 1) (size := 1) (heap_new w2 _) rfl (by simp [Value.oneCell']) 1) (by unfold maxLen; omega) (by omega) HBA.out.size ?_; intro v1 w3 hown1 hg1; have HO3 := hid hown1; have HB3 := hid (below_grown HBA.out HOA.out hg1 (Nat.le_refl _) HBA.out.size); clear hown1 hg1))
      go_wp2
      go_roundw
      case rel => exact ⟨k + 1, by omega, by go_num, by rw [HN.out, ← List.cons_append, List.map_append]; exact HO3.out, HB3.out⟩
      case measure => simp [intOf]; omega
    · obtain rfl : k = ps.length := by omega
      have h9 := HOW.out
      have hl9 : (t :: partsI m ps zs ps.length).length = ps.length + 1 := by rw [List.length_cons, partsI_length]
      rw [← hl9] at h9
      have HO := hid h9
      have HL9 := hid hl9
      clear h9 HOW hl9
      go_wp2_with fail
      refine (specDigestOf_any (zs := t :: partsI m ps zs ps.length) _ _ (Own.si (Own.of HO.out)) (Nat.le_refl _) (by rw [HL9.out]; omega)).mono ?_
      rintro e w4 ⟨rfl, hb4⟩
      have HB4 := hid (below_step HB1.out (below_step HBL.out hb4))
      clear hb4
      go_wp2
      go_ret
      exact ⟨ret_int HT.out, HB4.out⟩
end Go.Proofs.Ytkdpfbodmfjkkaa
