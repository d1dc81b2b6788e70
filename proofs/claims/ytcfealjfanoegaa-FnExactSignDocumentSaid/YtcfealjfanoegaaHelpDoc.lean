/- The laws' helpers on Document and on slices of strings: they copy, compare, count. No condition beyond sizes. -/
import Derived.Test.YtcfealjfanoegaaRows
import Derived.Test.YtcfealjfanoegaaBase
import Derived.Test.YtcfealjfanoegaaApart
import Derived.Test.YtcfealjfanoegaaHelpI
import Derived.Test.YtcfealjfanoegaaStr
import Derived.Test.YtcfealjfanoegaaBlk
namespace Go.Proofs.Ytcfealjfanoegaa
open Go.RowKit

theorem Try.infoStr : (Try.prog.info? 9).map (fun i => (i.zero, i.size, i.bytes)) = some (some (.string ByteArray.empty), 1, 16) := by kernel_rfl
set_option maxHeartbeats 1000000 in
theorem eqStringS_any {B : Nat} {ps : List ByteArray} {u v : Value} (w : World) (hu : Ss B w u ps) (hv : Ss B w v ps) (hB : B ≤ w.heap.size) :
    Calls Try.prog 123 #[u, v] w (Ret (.bool true) w) := by
  obtain ⟨A, c, rfl, hc1, hc2, -, hA⟩ := hu
  obtain ⟨A', c', rfl, hd1, hd2, -, hA'⟩ := hv
  have HA := hid hA
  have HA' := hid hA'
  clear hA hA'
  go_enter Try.func123, Try.ntmps123
  go_wp2
  go_loopw [5] (fun i wr => ∃ k : Nat, k ≤ ps.length ∧ i = .int .i64 k ∧ Below w.heap.size w wr) (fun i _ => ps.length - (intOf i).toNat)
  case atStart => exact ⟨0, Nat.zero_le _, rfl, Below.refl _ _⟩
  case round =>
    obtain ⟨k, hk, rfl, hb⟩ := hrel
    by_cases hlt : k < ps.length
    · obtain ⟨b, off, rfl, hbB, hcc⟩ := HA.out (by omega)
      obtain ⟨b', off', rfl, hbB', hcc'⟩ := HA'.out (by omega)
      have c0 := cell_at hb hbB hB (hcc k hlt)
      have d0 := cell_at hb hbB' hB (hcc' k hlt)
      have hi0 : (0 : Int) ≤ (k : Int) := Int.natCast_nonneg _
      have hi1 : (k : Int) < (ps.length : Int) := by omega
      generalize nthS ps k = p at c0 d0
      clear HA HA' hcc hcc'
      go_wp2
      go_quiet (fail)
      go_wp2
      go_roundw
      case rel => exact ⟨k + 1, by omega, by go_num, below_drewN hb _⟩
      case measure => simp [intOf]; omega
    · go_wp2
      go_ret
      exact ⟨rfl, hb⟩
set_option maxHeartbeats 1000000 in
theorem toStringS_any {B : Nat} {ps : List ByteArray} {v : Value} (w : World) (hv : Ss B w v ps) (hB : B ≤ w.heap.size) (hn : ps.length ≤ 1048576) :
    Calls Try.prog 119 #[v] w (RetOwn 9 1 ps.length (ps.map Value.string) w) := by
  obtain ⟨A, c, rfl, hc1, hc2, -, hA⟩ := hv
  have HA := hid hA
  clear hA
  have hmk := run_make_fresh (P := Try.prog) 95 9 Try.underlying95 Try.infoStr ps.length (by omega) (by omega)
  go_enter Try.func119, Try.ntmps119
  go_wp2
  have HU := hid (World.ownsRow_lit (base := w.heap.size) (e := 9) (size := 1) w (fresh #[Value.string ByteArray.empty] ps.length) ps.length (Nat.le_refl _) (by unfold maxLen; omega) (by rw [size_fresh]; omega))
  go_loopw [4] (fun i wr => ∃ k : Nat, ∃ xs, k ≤ ps.length ∧ i = .int .i64 k ∧ Upd xs (ps.map Value.string) k ∧ wr.ownsRow w.heap.size 9 1 (.slice (some ⟨w.heap.size, 0, none⟩) ps.length ps.length) ps.length xs ∧ Below w.heap.size w wr) (fun i _ => ps.length - (intOf i).toNat)
  case atStart => exact ⟨0, _, Nat.zero_le _, rfl, Upd.zero (by rw [Array.length_toList, size_fresh]; simp), HU.out, (Below.refl _ _).alloc (Nat.le_refl _) _⟩
  case round =>
    obtain ⟨k, xs, hk, rfl, hup, how, hb⟩ := hrel
    by_cases hlt : k < ps.length
    · obtain ⟨b, off, rfl, hbB, hcc⟩ := HA.out (by omega)
      have c0 := cell_at hb hbB hB (hcc k hlt)
      obtain ⟨u, hu⟩ := ownsRow_cell how (j := k) (by omega)
      have hz := how.frozenAt k
      have HU1 := hid (hup.step (u := .string (nthS ps k)) (by rw [List.getElem?_map, nthS_get hlt]; rfl))
      have HW1 := hid (how.stored k (.string (nthS ps k))).1
      have hi0 : (0 : Int) ≤ (k : Int) := Int.natCast_nonneg _
      have hi1 : (k : Int) < (ps.length : Int) := by omega
      generalize nthS ps k = p at c0 HU1 HW1
      clear HA HU hcc how hup
      go_wp2
      go_roundw
      case rel => exact ⟨k + 1, _, by omega, by go_num, HU1.out, HW1.out, hb.setCell (Nat.le_refl _) _⟩
      case measure => simp [intOf]; omega
    · obtain rfl : xs = ps.map Value.string := hup.done (by rw [List.length_map]; omega)
      have HW1 := hid how
      clear how hup HU
      go_wp2
      go_ret
      exact ⟨_, rfl, Own.of HW1.out, hb⟩
/-- What is left of a count: below 0, or no more than was there less the things counted. -/
def Left (left n r : Int) : Prop := r = -1 ∨ (0 ≤ r ∧ r ≤ left - n)
set_option maxHeartbeats 1000000 in
theorem szStringS_any {B : Nat} {ps : List ByteArray} {v : Value} (left : Int) (w : World) (hv : Ss B w v ps) (h0 : 0 ≤ left) (h1 : left ≤ 1048576) (hsz : ∀ k, k < ps.length → (nthS ps k).size ≤ 9223372036854775807) :
    Calls Try.prog 115 #[v, iv left] w fun e w' => ∃ r : Int, e = .returned (iv r) ∧ Left left ps.length r ∧ w = w' := by
  obtain ⟨A, c, rfl, hc1, hc2, -, hA⟩ := hv
  have HA := hid hA
  have HS := hid hsz
  clear hA hsz
  have hn0 : (0 : Int) ≤ (ps.length : Int) := Int.natCast_nonneg _
  have hn2 : (ps.length : Int) ≤ 9223372036854775807 := by omega
  go_enter Try.func115, Try.ntmps115
  by_cases hn : (ps.length : Int) ≤ left
  · have HL := hid hn
    obtain ⟨r0, hr0⟩ : ∃ r0 : Int, r0 = left - (ps.length : Int) := ⟨_, rfl⟩
    have hr1 : 0 ≤ r0 := by omega
    have hr2 : r0 ≤ left := by omega
    go_wp2
    go_loop [1, 5] (fun l i => ∃ (k : Nat) (x : Int), k ≤ ps.length ∧ i = .int .i64 k ∧ l = iv x ∧ 0 ≤ x ∧ x ≤ left - (ps.length : Int)) (fun _ i => ps.length - (intOf i).toNat)
    case atStart => exact ⟨0, left - (ps.length : Int), Nat.zero_le _, rfl, rfl, by omega, by omega⟩
    case round =>
      obtain ⟨k, x, hk, rfl, rfl, hx0, hx1⟩ := hrel
      by_cases hlt : k < ps.length
      · obtain ⟨b, off, rfl, hbB, hcc⟩ := HA.out (by omega)
        have c0 := hcc k hlt
        have hs9 := HS.out k hlt
        have hi0 : (0 : Int) ≤ (k : Int) := Int.natCast_nonneg _
        have hi1 : (k : Int) < (ps.length : Int) := by omega
        generalize nthS ps k = p at c0 hs9
        have hp0 : (0 : Int) ≤ (p.size : Int) := Int.natCast_nonneg _
        have hp1 : (p.size : Int) ≤ 9223372036854775807 := by omega
        clear HA hcc HS hs9
        by_cases hd : (p.size : Int) ≤ x
        · go_wp2
          go_round
          case rel => exact ⟨k + 1, _, by omega, by go_num, rfl, by omega, by omega⟩
          case measure => simp [intOf]; omega
        · go_wp2
          go_ret
          exact ⟨_, rfl, .inl rfl, rfl⟩
      · obtain rfl : k = ps.length := by omega
        go_wp2
        go_ret
        exact ⟨_, rfl, .inr ⟨hx0, hx1⟩, rfl⟩
  · go_wp2
    go_ret
    exact ⟨_, rfl, .inl rfl, rfl⟩
/-- The call returned a struct of a number and two slices of its own; what was in memory stands. -/
def RetDoc (t : Int) (ps : List ByteArray) (zs : List Int) (w : World) (e : Ending) (w' : World) : Prop :=
  ∃ P S, e = .returned (.agg #[iv t, P, S]) ∧ Own w' 9 1 P w.heap.size w'.heap.size ps.length (ps.map Value.string) ∧ Own w' 3 1 S w.heap.size w'.heap.size zs.length (zs.map (Value.int .i64)) ∧ Below w.heap.size w w'
set_option maxRecDepth 16000 in
set_option maxHeartbeats 4000000 in
theorem toDocument_any {B : Nat} {ps : List ByteArray} {zs : List Int} {P S : Value} (t : Int) (w : World) (hp : Ss B w P ps) (hz : Si B w S zs) (hB : B ≤ w.heap.size) (hn : ps.length ≤ 1048576) (hn2 : zs.length ≤ 1048576) :
    Calls Try.prog 69 #[.agg #[iv t, P, S]] w (RetDoc t ps zs w) := by
  obtain ⟨A1, c1, rfl, hd1, hd2, -⟩ := id hp
  obtain ⟨A2, c2, rfl, hd3, hd4, -⟩ := id hz
  have hsz1 : (w.alloc (.cells #[iv t, .slice A1 ps.length c1, .slice A2 zs.length c2] 97)).heap.size = w.heap.size + 1 := by simp
  have hsz2 : ((w.alloc (.cells #[iv t, .slice A1 ps.length c1, .slice A2 zs.length c2] 97)).alloc (.cells #[iv 0, .slice none 0 0, .slice none 0 0] 101)).heap.size = w.heap.size + 2 := by simp
  have HB0 := hid (((below_alloc w (.cells #[iv t, .slice A1 ps.length c1, .slice A2 zs.length c2] 97)).alloc (by simp) (.cells #[iv 0, .slice none 0 0, .slice none 0 0] 101)).alloc (by simp; omega) (.cells #[iv t, .slice none 0 0, .slice none 0 0] 101))
  have HA := hid (((Blk.new w #[iv t, .slice A1 ps.length c1, .slice A2 zs.length c2] 97).alloc (.cells #[iv 0, .slice none 0 0, .slice none 0 0] 101)).alloc (.cells #[iv t, .slice none 0 0, .slice none 0 0] 101))
  have HR := hid ((Blk.new (w.alloc (.cells #[iv t, .slice A1 ps.length c1, .slice A2 zs.length c2] 97)) #[iv 0, .slice none 0 0, .slice none 0 0] 101).alloc (.cells #[iv t, .slice none 0 0, .slice none 0 0] 101))
  have HO := hid (Blk.new ((w.alloc (.cells #[iv t, .slice A1 ps.length c1, .slice A2 zs.length c2] 97)).alloc (.cells #[iv 0, .slice none 0 0, .slice none 0 0] 101)) #[iv t, .slice none 0 0, .slice none 0 0] 101)
  rw [hsz1] at HR
  rw [hsz2] at HO
  have hWs : (((w.alloc (.cells #[iv t, .slice A1 ps.length c1, .slice A2 zs.length c2] 97)).alloc (.cells #[iv 0, .slice none 0 0, .slice none 0 0] 101)).alloc (.cells #[iv t, .slice none 0 0, .slice none 0 0] 101)).heap.size = w.heap.size + 3 := by simp
  clear hsz1 hsz2
  go_enter Try.func69, Try.ntmps69
  go_wp2_with fail
  generalize ((w.alloc (.cells #[iv t, .slice A1 ps.length c1, .slice A2 zs.length c2] 97)).alloc (.cells #[iv 0, .slice none 0 0, .slice none 0 0] 101)).alloc (.cells #[iv t, .slice none 0 0, .slice none 0 0] 101) = W at HB0 HA HR HO hWs ⊢
  have HBW := HB0
  have HAW := HA
  have HRW := HR
  have HOW := HO
  clear HB0 HA HR HO
  refine (toStringS_any (B := B) W (hp.below HBW.out hB) (by omega) hn).mono ?_
  rintro e w1 ⟨P1, rfl, ho1, hb1⟩
  obtain ⟨G1, q1, rfl⟩ := ownsRow_form ho1.1
  have HO1 := hid ho1
  have HB1 := hid (below_step HBW.out hb1)
  have HA1 := hid (HAW.out.below hb1)
  have HR1 := hid (HRW.out.below hb1)
  have HX1 := hid (HOW.out.below hb1)
  have hz1 := hb1.size
  have a2 := HA1.out.cell 2 rfl
  have x1 := HX1.out.cell 1 rfl
  have fx1 := HX1.out.frozen 1 (by simp)
  have hx9 := HX1.out.lt
  clear hb1 ho1 HBW HAW HRW HOW
  go_wp2_with fail
  have HBV := hid (HB1.out.setCell (p := ⟨w.heap.size + 2, 1, none⟩) (by simp) (.slice G1 ps.length q1))
  have HRV := hid (HR1.out.far (g := w.heap.size + 2) (k := 1) (by omega) (.slice G1 ps.length q1))
  have HXV := hid (HX1.out.set (k := 1) (by simp) (.slice G1 ps.length q1))
  have HOV := hid (HO1.out.apart (hi0 := w.heap.size + 3) ((Apart.refl _ w1).setCell (p := ⟨w.heap.size + 2, 1, none⟩) (by simp) (.slice G1 ps.length q1)) (by omega))
  have hVs : (w1.setCell ⟨w.heap.size + 2, 1, none⟩ (.slice G1 ps.length q1)).heap.size = w1.heap.size := by simp
  generalize w1.setCell ⟨w.heap.size + 2, 1, none⟩ (.slice G1 ps.length q1) = V at HBV HRV HXV HOV hVs ⊢
  clear HO1 HB1 HA1 HR1 HX1 a2 x1 fx1 hx9
  refine (toIntS_any (B := B) V (hz.below HBV.out hB) (by omega) hn2).mono ?_
  rintro e w2 ⟨S1, rfl, ho2, hb2⟩
  obtain ⟨G2, q2, rfl⟩ := ownsRow_form ho2.1
  have HO2 := hid ho2
  have HP2 := hid (HOV.out.below hb2 (by omega))
  have HB2 := hid (below_step HBV.out hb2)
  have HR2 := hid (HRV.out.below hb2)
  have HX2 := hid (HXV.out.below hb2)
  have hz2 := hb2.size
  have x0 := HX2.out.cell 0 rfl
  have x1 := HX2.out.cell 1 rfl
  have x2 := HX2.out.cell 2 rfl
  have fx2 := HX2.out.frozen 2 (by simp)
  have r0 := HR2.out.cell 0 rfl
  have r1 := HR2.out.cell 1 rfl
  have r2 := HR2.out.cell 2 rfl
  have fr0 := HR2.out.frozen 0 (by simp)
  have fr1 := HR2.out.frozen 1 (by simp)
  have fr2 := HR2.out.frozen 2 (by simp)
  have hx9 := HX2.out.lt
  clear hb2 ho2 HBV HRV HXV HOV HR2 HX2 hp hz
  go_wp2
  refine bodyPost_ret (v := .agg #[iv t, .slice G1 ps.length q1, .slice G2 zs.length q2]) (by simp [results, Try.results69, go_sem, r0, r1, r2]) rfl ⟨_, _, rfl, ?_, ?_, ?_⟩
  · refine (HP2.out.apart (hi0 := w.heap.size + 3) ?_ (by omega)).mono (by omega) (by simp; omega)
    repeat (first | with_reducible exact Apart.refl _ _ | refine Apart.setCell ?_ (by simp) _)
  · refine (HO2.out.apart (hi0 := w.heap.size + 3) ?_ (by omega)).mono (by omega) (by simp)
    repeat (first | with_reducible exact Apart.refl _ _ | refine Apart.setCell ?_ (by simp) _)
  · have h9 := HB2.out
    repeat (first | with_reducible exact h9 | refine Below.setCell ?_ (by simp <;> omega) _)
set_option maxHeartbeats 1000000 in
theorem szDocument_any {B : Nat} {ps : List ByteArray} {zs : List Int} {P S : Value} (t left : Int) (w : World) (hp : Ss B w P ps) (hz : Si B w S zs) (hB : B ≤ w.heap.size) (h0 : 0 ≤ left) (h1 : left ≤ 1048576) (hsz : ∀ k, k < ps.length → (nthS ps k).size ≤ 9223372036854775807) :
    Calls Try.prog 67 #[.agg #[iv t, P, S], iv left] w fun e w' => ∃ r : Int, e = .returned (iv r) ∧ (r = -1 ∨ (0 ≤ r ∧ r ≤ left - ps.length - zs.length)) ∧ Below w.heap.size w w' := by
  obtain ⟨A1, c1, rfl, hd1, hd2, -⟩ := id hp
  obtain ⟨A2, c2, rfl, hd3, hd4, -⟩ := id hz
  have HB0 := hid (below_alloc w (.cells #[iv t, .slice A1 ps.length c1, .slice A2 zs.length c2] 97))
  have HP := hid (hp.below HB0.out hB)
  have HA := hid (Blk.new w #[iv t, .slice A1 ps.length c1, .slice A2 zs.length c2] 97)
  have HSZ := hid hsz
  clear hp hz hsz
  go_enter Try.func67, Try.ntmps67
  go_wp2_with fail
  generalize w.alloc (.cells #[iv t, .slice A1 ps.length c1, .slice A2 zs.length c2] 97) = W at HB0 HP HA ⊢
  refine (szStringS_any left W HP.out h0 h1 HSZ.out).mono ?_
  rintro e w1 ⟨r, rfl, hr, rfl⟩
  have a2 := HA.out.cell 2 rfl
  rcases hr with rfl | ⟨hr0, hr1⟩
  · go_wp2
    go_ret
    exact ⟨_, rfl, .inl rfl, HB0.out⟩
  · go_wp2_with fail
    by_cases hl : (zs.length : Int) ≤ r
    · refine (szIntS_ok _ _ (by omega) (by omega) hl).mono ?_
      rintro e w1 ⟨rfl, rfl⟩
      go_wp2
      go_ret
      exact ⟨_, rfl, .inr (by omega), HB0.out⟩
    · refine (szIntS_no _ _ (by omega) (by omega) (by omega) (by omega)).mono ?_
      rintro e w1 ⟨rfl, rfl⟩
      go_wp2
      go_ret
      exact ⟨_, rfl, .inl rfl, HB0.out⟩
set_option maxHeartbeats 1000000 in
theorem eqDocument_any {B : Nat} {ps : List ByteArray} {zs : List Int} {P S Q T : Value} (t : Int) (w : World) (hp : Ss B w P ps) (hz : Si B w S zs) (hp2 : Ss B w Q ps) (hz2 : Si B w T zs) (hB : B ≤ w.heap.size) :
    Calls Try.prog 72 #[.agg #[iv t, P, S], .agg #[iv t, Q, T]] w (Ret (.bool true) w) := by
  obtain ⟨A1, c1, rfl, hd1, hd2, -⟩ := id hp
  obtain ⟨A2, c2, rfl, hd3, hd4, -⟩ := id hz
  obtain ⟨A3, c3, rfl, hd5, hd6, -⟩ := id hp2
  obtain ⟨A4, c4, rfl, hd7, hd8, -⟩ := id hz2
  have HB0 := hid ((below_alloc w (.cells #[iv t, .slice A1 ps.length c1, .slice A2 zs.length c2] 101)).alloc (by simp) (.cells #[iv t, .slice A3 ps.length c3, .slice A4 zs.length c4] 101))
  have HA := hid ((Blk.new w #[iv t, .slice A1 ps.length c1, .slice A2 zs.length c2] 101).alloc (.cells #[iv t, .slice A3 ps.length c3, .slice A4 zs.length c4] 101))
  have HC := hid (Blk.new (w.alloc (.cells #[iv t, .slice A1 ps.length c1, .slice A2 zs.length c2] 101)) #[iv t, .slice A3 ps.length c3, .slice A4 zs.length c4] 101)
  rw [show (w.alloc (.cells #[iv t, .slice A1 ps.length c1, .slice A2 zs.length c2] 101)).heap.size = w.heap.size + 1 by simp] at HC
  have hBW : B ≤ ((w.alloc (.cells #[iv t, .slice A1 ps.length c1, .slice A2 zs.length c2] 101)).alloc (.cells #[iv t, .slice A3 ps.length c3, .slice A4 zs.length c4] 101)).heap.size := by simp; omega
  go_enter Try.func72, Try.ntmps72
  go_wp2_with fail
  generalize (w.alloc (.cells #[iv t, .slice A1 ps.length c1, .slice A2 zs.length c2] 101)).alloc (.cells #[iv t, .slice A3 ps.length c3, .slice A4 zs.length c4] 101) = W at HB0 HA HC hBW ⊢
  refine (eqStringS_any W (hp.below HB0.out hB) (hp2.below HB0.out hB) hBW).mono ?_
  rintro e w1 ⟨rfl, hb1⟩
  have HB1 := hid (below_step HB0.out hb1)
  have a2 := (HA.out.below hb1).cell 2 rfl
  have x2 := (HC.out.below hb1).cell 2 rfl
  have hz1 := hb1.size
  clear hb1 HB0 HA HC hp hp2
  go_wp2_with fail
  refine (eqIntS_any w1 (hz.below HB1.out hB) (hz2.below HB1.out hB) (by omega)).mono ?_
  rintro e w2 ⟨rfl, hb2⟩
  have HB2 := hid (below_step HB1.out hb2)
  clear hb2
  go_wp2
  go_ret
  exact ⟨rfl, HB2.out⟩
end Go.Proofs.Ytcfealjfanoegaa
