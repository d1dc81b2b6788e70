/- BeforeFor of the program and of the reference: what the next signature has to refer to. Condition: no more than 2^40 owners. -/
import Derived.Test.YtkdpfbodmfjkkaaRows
import Derived.Test.YtkdpfbodmfjkkaaPlain
import Derived.Test.YtkdpfbodmfjkkaaHas
import Derived.Test.YtkdpfbodmfjkkaaSigDigest
import Derived.Test.YtkdpfbodmfjkkaaMissing
namespace Go.Proofs.Ytkdpfbodmfjkkaa
open Go.RowKit

def sigDig (ls : List (List Int)) (m : Int) (k : Nat) : Int := digestI m ([104, fld ls k 0, fld ls k 1, fld ls k 2, fld ls k 3, fld ls k 4, fld ls k 5, fld ls k 6, fld ls k 7] ++ [fld ls k 8])
def befI (ks ls : List (List Int)) (os : List Int) (d m : Int) : Int :=
  if sigOf ks ls (nth os ((idxI (nextOw ks ls os d) os).toNat - 1)) d < 0 then 0 else sigDig ls m (sigOf ks ls (nth os ((idxI (nextOw ks ls os d) os).toNat - 1)) d).toNat
def beforeI (ks ls : List (List Int)) (os : List Int) (q : Bool) (d m : Int) : Int :=
  if q = false ∨ nextOw ks ls os d < 0 ∨ idxI (nextOw ks ls os d) os < 1 then 0 else befI ks ls os d m
theorem bef_no {ks ls : List (List Int)} {os : List Int} {q : Bool} {d : Int} (m : Int) (h : q = false ∨ nextOw ks ls os d < 0 ∨ idxI (nextOw ks ls os d) os < 1) : 0 = beforeI ks ls os q d m := by unfold beforeI; rw [if_pos h]
theorem bef_none {ks ls : List (List Int)} {os : List Int} {q : Bool} {d : Int} {i : Nat} (m : Int) (hq : q = true) (hn : 0 ≤ nextOw ks ls os d) (hi : 1 ≤ i) (h : idxI (nextOw ks ls os d) os = i) (hs : sigOf ks ls (nth os (i - 1)) d = -1) : 0 = beforeI ks ls os q d m := by
  unfold beforeI befI
  rw [if_neg (by simp [hq]; omega), h, Int.toNat_natCast, hs]
  rfl
theorem bef_some {ks ls : List (List Int)} {os : List Int} {q : Bool} {d : Int} {i k : Nat} (m : Int) (hq : q = true) (hn : 0 ≤ nextOw ks ls os d) (hi : 1 ≤ i) (h : idxI (nextOw ks ls os d) os = i) (hs : sigOf ks ls (nth os (i - 1)) d = k) : sigDig ls m k = beforeI ks ls os q d m := by
  unfold beforeI befI
  rw [if_neg (by simp [hq]; omega), h, Int.toNat_natCast, hs, if_neg (by omega), Int.toNat_natCast]
/-- n is not among the numbers 1 .. i - 1. -/
def NZ1 (n : Int) (os : List Int) (i : Nat) : Prop := ∀ j, 1 ≤ j → j < i → nth os j ≠ n
theorem NZ1_succ {n : Int} {os : List Int} {i : Nat} (h : NZ1 n os i) (e : nth os i ≠ n) : NZ1 n os (i + 1) := fun j h1 h2 => by
  by_cases hj : j = i
  · rw [hj]; exact e
  · exact h j h1 (by omega)
theorem idx_first {n : Int} {os : List Int} (h : nth os 0 = n) (hl : 0 < os.length) : idxI n os = 0 := idxI_hit (NZ_zero n os) hl (by simpa using h)
theorem idx_end {n : Int} {os : List Int} (h : NZ1 n os os.length) : idxI n os < 1 := by
  rcases idxI_range n os with h1 | ⟨k, hk, h1, h2⟩
  · omega
  · by_cases h3 : k = 0
    · omega
    · exact absurd h2 (h k (by omega) hk)
theorem idx_at {n : Int} {os : List Int} {i : Nat} (h : NZ1 n os i) (h0 : nth os 0 ≠ n) (hl : i < os.length) (e : nth os i = n) : idxI n os = i :=
  idxI_hit (fun j hj => by
    by_cases h3 : j = 0
    · rw [h3]; exact h0
    · exact h j (by omega) hj) hl (by simpa using e)

set_option maxRecDepth 4000 in
set_option maxHeartbeats 4000000 in
theorem implBeforeFor_any {B : Nat} {ks ls : List (List Int)} {os : List Int} {v x u : Value} (q : Bool) (d m : Int) (w : World) (h : Sl B w 5 v ks) (g : Si B w x os) (g2 : Sl B w 9 u ls) (hB : B ≤ w.heap.size) (hn : os.length ≤ 1099511627776) :
    Calls Try.prog 89 #[v, .agg #[x, .bool q], u, iv d, iv m] w (Ret (iv (beforeI ks ls os q d m)) w) := by
  have HV := hid (And.intro h (And.intro g g2))
  obtain ⟨A, c, rfl, hc1, hc2, -, hcell⟩ := g
  obtain ⟨A2, c2, rfl, hd1, hd2, -, hcell2⟩ := g2
  have HC := hid (And.intro hcell hcell2)
  clear hcell hcell2 h
  have H0 : Hid (Below w.heap.size w (w.alloc (.cells #[.slice A os.length c, .bool q] 33))) := hid (below_alloc _ _)
  have HQ : Hid (∀ wr : World, Below (w.alloc (.cells #[.slice A os.length c, .bool q] 33)).heap.size (w.alloc (.cells #[.slice A os.length c, .bool q] 33)) wr → wr.cell? ⟨w.heap.size, 0, none⟩ = some (.slice A os.length c) ∧ wr.cell? ⟨w.heap.size, 1, none⟩ = some (.bool q)) := hid fun wr hx => ⟨(hx.cell (p := ⟨w.heap.size, 0, none⟩) (by simp)).trans (by simp [go_sem]), (hx.cell (p := ⟨w.heap.size, 1, none⟩) (by simp)).trans (by simp [go_sem])⟩
  go_enter Try.func89, Try.ntmps89
  go_wp2_with fail
  refine (implNextOwner_any _ _ _ (HV.out.1.below H0.out hB) (HV.out.2.1.below H0.out hB) (HV.out.2.2.below H0.out hB) (Nat.le_trans hB H0.out.size) hn).mono ?_
  rintro e w1 ⟨rfl, hb1⟩
  obtain ⟨q0, q1⟩ := HQ.out _ hb1
  have HB1 := hid (below_step H0.out hb1)
  have HBX := hid hb1
  clear hb1
  cases q
  · have HT := hid (bef_no (ks := ks) (ls := ls) (os := os) (q := false) (d := d) m (.inl rfl))
    have HJ := hid (implindexOf_any (nextOw ks ls os d) w1 (HV.out.2.1.below HB1.out hB))
    go_wp2_with (go_at_call 154; refine HJ.out.mono ?_; rintro e w2 ⟨rfl, rfl⟩)
    go_ret
    exact ⟨ret_int HT.out, HB1.out⟩
  by_cases hng : nextOw ks ls os d < 0
  · have HT := hid (bef_no (ks := ks) (ls := ls) (os := os) (q := true) (d := d) m (.inr (.inl hng)))
    have HJ := hid (implindexOf_any (nextOw ks ls os d) w1 (HV.out.2.1.below HB1.out hB))
    go_wp2_with (go_at_call 154; refine HJ.out.mono ?_; rintro e w2 ⟨rfl, rfl⟩)
    go_ret
    exact ⟨ret_int HT.out, HB1.out⟩
  have hnp : 0 ≤ nextOw ks ls os d := by omega
  clear hng
  by_cases hix : idxI (nextOw ks ls os d) os < 1
  · have HT := hid (bef_no (ks := ks) (ls := ls) (os := os) (q := true) (d := d) m (.inr (.inr hix)))
    have HJ := hid (implindexOf_any (nextOw ks ls os d) w1 (HV.out.2.1.below HB1.out hB))
    go_wp2_with (go_at_call 154; refine HJ.out.mono ?_; rintro e w2 ⟨rfl, rfl⟩)
    go_ret
    exact ⟨ret_int HT.out, HB1.out⟩
  rcases idxI_range (nextOw ks ls os d) os with hi | ⟨i, hil, hi, -⟩
  · omega
  have hi1 : 1 ≤ i := by omega
  clear hix
  obtain ⟨b, off, rfl, hbB, hcc⟩ := HC.out.1 (by omega)
  have c0 := cell_at HB1.out hbB hB (hcc (i - 1) (by omega))
  have hj0 : (0 : Int) ≤ (i : Int) - 1 := by omega
  have hj1 : (i : Int) - 1 < (os.length : Int) := by omega
  have hj2 : ((i : Int) - 1).toNat = i - 1 := by omega
  have hj4 : (1 : Int) ≤ (i : Int) := by omega
  have hj5 : (i : Int) ≤ (os.length : Int) := by omega
  have HJ : Hid (Calls Try.prog 154 #[.slice (some ⟨b, off, none⟩) os.length c, iv (nextOw ks ls os d)] w1 fun e w2 => e = .returned (iv (i : Int)) ∧ w2 = w1) := hid (by rw [← hi]; exact implindexOf_any _ _ (HV.out.2.1.below HB1.out hB))
  clear hcc
  rcases sigOf_range ks ls (nth os (i - 1)) d with hs | ⟨k, hk, hs, -⟩
  · have HT := hid (bef_none (q := true) m rfl hnp hi1 hi hs)
    have HS := hid hs
    clear hs hi
    go_wp2_with (go_at_call 154; refine HJ.out.mono ?_; rintro e w2 ⟨rfl, rfl⟩)
    refine (implSignatureOf_any _ _ _ (HV.out.1.below HB1.out hB) (HV.out.2.2.below HB1.out hB) (Nat.le_trans hB HB1.out.size)).mono ?_
    rintro e w2 ⟨rfl, hb2⟩
    rw [HS.out]
    have HB2 := hid (below_step HB1.out hb2)
    clear hb2 c0 q0 q1
    go_wp2
    go_ret
    exact ⟨ret_int HT.out, HB2.out⟩
  · have HT := hid (bef_some (q := true) m rfl hnp hi1 hi hs)
    have HS := hid hs
    clear hs hi
    go_wp2_with (go_at_call 154; refine HJ.out.mono ?_; rintro e w2 ⟨rfl, rfl⟩)
    refine (implSignatureOf_any _ _ _ (HV.out.1.below HB1.out hB) (HV.out.2.2.below HB1.out hB) (Nat.le_trans hB HB1.out.size)).mono ?_
    rintro e w2 ⟨rfl, hb2⟩
    rw [HS.out]
    have HB2 := hid (below_step HB1.out hb2)
    clear hb2 c0 q0 q1
    obtain ⟨b2, off2, rfl, hbB2, hcc2⟩ := HC.out.2 (by omega)
    have r0 := cell_at HB2.out hbB2 hB (hcc2 k 0 hk (by omega))
    have r1 := cell_at HB2.out hbB2 hB (hcc2 k 1 hk (by omega))
    have r2 := cell_at HB2.out hbB2 hB (hcc2 k 2 hk (by omega))
    have r3 := cell_at HB2.out hbB2 hB (hcc2 k 3 hk (by omega))
    have r4 := cell_at HB2.out hbB2 hB (hcc2 k 4 hk (by omega))
    have r5 := cell_at HB2.out hbB2 hB (hcc2 k 5 hk (by omega))
    have r6 := cell_at HB2.out hbB2 hB (hcc2 k 6 hk (by omega))
    have r7 := cell_at HB2.out hbB2 hB (hcc2 k 7 hk (by omega))
    have r8 := cell_at HB2.out hbB2 hB (hcc2 k 8 hk (by omega))
    rw [Nat.add_zero] at r0
    have hk0 : (0 : Int) ≤ (k : Int) := Int.natCast_nonneg _
    have hk1 : (k : Int) < (ls.length : Int) := by omega
    clear hcc2
    go_wp2_with fail
    refine (implSignatureDigest_any _ _ _ _ _ _ _ _ _ _ _).mono ?_
    rintro e w3 ⟨rfl, hb3⟩
    have HB3 := hid (below_step HB2.out hb3)
    clear hb3
    go_wp2
    go_ret
    exact ⟨ret_int HT.out, HB3.out⟩

set_option maxRecDepth 4000 in
set_option maxHeartbeats 4000000 in
theorem specBeforeFor_any {B : Nat} {ks ls : List (List Int)} {os : List Int} {v x u : Value} (q : Bool) (d m : Int) (w : World) (h : Sl B w 5 v ks) (g : Si B w x os) (g2 : Sl B w 9 u ls) (hB : B ≤ w.heap.size) (hn : os.length ≤ 1099511627776) :
    Calls Try.prog 88 #[v, .agg #[x, .bool q], u, iv d, iv m] w (Ret (iv (beforeI ks ls os q d m)) w) := by
  have HV := hid (And.intro h (And.intro g g2))
  obtain ⟨A, c, rfl, hc1, hc2, -, hcell⟩ := g
  obtain ⟨A2, c2, rfl, hd1, hd2, -, hcell2⟩ := g2
  have HC := hid (And.intro hcell hcell2)
  clear hcell hcell2 h
  have H0 : Hid (Below w.heap.size w (w.alloc (.cells #[.slice A os.length c, .bool q] 33))) := hid (below_alloc _ _)
  have HQ : Hid (∀ wr : World, Below (w.alloc (.cells #[.slice A os.length c, .bool q] 33)).heap.size (w.alloc (.cells #[.slice A os.length c, .bool q] 33)) wr → wr.cell? ⟨w.heap.size, 0, none⟩ = some (.slice A os.length c) ∧ wr.cell? ⟨w.heap.size, 1, none⟩ = some (.bool q)) := hid fun wr hx => ⟨(hx.cell (p := ⟨w.heap.size, 0, none⟩) (by simp)).trans (by simp [go_sem]), (hx.cell (p := ⟨w.heap.size, 1, none⟩) (by simp)).trans (by simp [go_sem])⟩
  go_enter Try.func88, Try.ntmps88
  go_wp2_with fail
  refine (specNextOwner_any _ _ _ (HV.out.1.below H0.out hB) (HV.out.2.1.below H0.out hB) (HV.out.2.2.below H0.out hB) (Nat.le_trans hB H0.out.size) hn).mono ?_
  rintro e w1 ⟨rfl, hb1⟩
  obtain ⟨q0, q1⟩ := HQ.out _ hb1
  have HB1 := hid (below_step H0.out hb1)
  have HBX := hid hb1
  clear hb1
  go_wp2
  go_loop [12] (fun t => ∃ i : Nat, 1 ≤ i ∧ t = .int .i64 i ∧ NZ1 (nextOw ks ls os d) os i) (fun t => os.length - (intOf t).toNat)
  case atStart => exact ⟨1, Nat.le_refl _, rfl, fun j h1 h2 => by omega⟩
  case round =>
    obtain ⟨i, hi1, rfl, hz⟩ := hrel
    have HZ := hid hz
    clear hz
    by_cases hlt : i < os.length
    rotate_left
    · have HT := hid (bef_no (ks := ks) (ls := ls) (os := os) (q := q) (d := d) m (.inr (.inr (idx_end (fun j h1 h2 => HZ.out j h1 (by omega))))))
      clear HZ HC
      go_wp2
      go_ret
      exact ⟨ret_int HT.out, HB1.out⟩
    cases q
    · have HT := hid (bef_no (ks := ks) (ls := ls) (os := os) (q := false) (d := d) m (.inl rfl))
      clear HZ HC
      go_wp2
      go_ret
      exact ⟨ret_int HT.out, HB1.out⟩
    by_cases hng : nextOw ks ls os d < 0
    · have HT := hid (bef_no (ks := ks) (ls := ls) (os := os) (q := true) (d := d) m (.inr (.inl hng)))
      clear HZ HC
      go_wp2
      go_ret
      exact ⟨ret_int HT.out, HB1.out⟩
    have hnp : 0 ≤ nextOw ks ls os d := by omega
    clear hng
    obtain ⟨b, off, rfl, hbB, hcc⟩ := HC.out.1 (by omega)
    have c0 := cell_at HB1.out hbB hB (hcc i hlt)
    have c1 := cell_at HB1.out hbB hB (hcc (i - 1) (by omega))
    have c2 := cell_at HB1.out hbB hB (hcc 0 (by omega))
    rw [Nat.add_zero] at c2
    have hi0 : (0 : Int) ≤ (i : Int) := Int.natCast_nonneg _
    have hil : (i : Int) < (os.length : Int) := by omega
    have hj0 : (0 : Int) ≤ (i : Int) - 1 := by omega
    have hj1 : (i : Int) - 1 < (os.length : Int) := by omega
    have hj2 : ((i : Int) - 1).toNat = i - 1 := by omega
    have hj4 : (1 : Int) ≤ (i : Int) := by omega
    have hj5 : (i : Int) ≤ (os.length : Int) := by omega
    have HCC := hid hcc
    clear hcc
    by_cases he : nth os i = nextOw ks ls os d
    rotate_left
    · have hne : (nth os i == nextOw ks ls os d) = false := by rw [beq_eq_false_iff_ne]; exact he
      have HT := hid (NZ1_succ HZ.out he)
      clear HZ he c1 c2
      go_wp2
      go_round
      case rel => exact ⟨i + 1, by omega, by go_num, HT.out⟩
      case measure => simp [intOf]; omega
    have heq : (nth os i == nextOw ks ls os d) = true := by rw [beq_iff_eq]; exact he
    by_cases h0 : nth os 0 = nextOw ks ls os d
    · have HT := hid (bef_no (ks := ks) (ls := ls) (os := os) (q := true) (d := d) m (.inr (.inr (by rw [idx_first h0 (by omega)]; omega))))
      have h00 : (nth os 0 == nextOw ks ls os d) = true := by rw [beq_iff_eq]; exact h0
      have HS := hid (rfl : sigOf ks ls (nth os (i - 1)) d = sigOf ks ls (nth os (i - 1)) d)
      clear HZ he h0
      rcases sigOf_range ks ls (nth os (i - 1)) d with hs | ⟨k, hk, hs, -⟩
      · replace HS := hid hs
        clear hs
        go_wp2_with fail
        refine (specSignatureOf_any _ _ _ (HV.out.1.below HB1.out hB) (HV.out.2.2.below HB1.out hB) (Nat.le_trans hB HB1.out.size)).mono ?_
        rintro e w2 ⟨rfl, hb2⟩
        rw [HS.out]
        have HB2 := hid (below_step HB1.out hb2)
        obtain ⟨q2, q3⟩ := HQ.out _ (below_step HBX.out hb2)
        have g2 := cell_at HB2.out hbB hB (HCC.out 0 (by omega))
        rw [Nat.add_zero] at g2
        clear hb2 c0 c1 c2 q0 q1
        go_wp2
        go_ret
        exact ⟨ret_int HT.out, HB2.out⟩
      · replace HS := hid hs
        clear hs
        go_wp2_with fail
        refine (specSignatureOf_any _ _ _ (HV.out.1.below HB1.out hB) (HV.out.2.2.below HB1.out hB) (Nat.le_trans hB HB1.out.size)).mono ?_
        rintro e w2 ⟨rfl, hb2⟩
        rw [HS.out]
        have HB2 := hid (below_step HB1.out hb2)
        obtain ⟨q2, q3⟩ := HQ.out _ (below_step HBX.out hb2)
        have g2 := cell_at HB2.out hbB hB (HCC.out 0 (by omega))
        rw [Nat.add_zero] at g2
        clear hb2 c0 c1 c2 q0 q1
        have hk0 : (0 : Int) ≤ (k : Int) := Int.natCast_nonneg _
        go_wp2
        go_ret
        exact ⟨ret_int HT.out, HB2.out⟩
    have h00 : (nth os 0 == nextOw ks ls os d) = false := by rw [beq_eq_false_iff_ne]; exact h0
    have hix := idx_at HZ.out h0 hlt he
    clear HZ he h0
    rcases sigOf_range ks ls (nth os (i - 1)) d with hs | ⟨k, hk, hs, -⟩
    · have HT := hid (bef_none (q := true) m rfl hnp hi1 hix hs)
      have HS := hid hs
      clear hs hix
      go_wp2_with fail
      refine (specSignatureOf_any _ _ _ (HV.out.1.below HB1.out hB) (HV.out.2.2.below HB1.out hB) (Nat.le_trans hB HB1.out.size)).mono ?_
      rintro e w2 ⟨rfl, hb2⟩
      rw [HS.out]
      have HB2 := hid (below_step HB1.out hb2)
      obtain ⟨q2, q3⟩ := HQ.out _ (below_step HBX.out hb2)
      have g2 := cell_at HB2.out hbB hB (HCC.out 0 (by omega))
      rw [Nat.add_zero] at g2
      clear hb2 c0 c1 c2 q0 q1
      go_wp2
      go_ret
      exact ⟨ret_int HT.out, HB2.out⟩
    · have HT := hid (bef_some (q := true) m rfl hnp hi1 hix hs)
      have HS := hid hs
      clear hs hix
      go_wp2_with fail
      refine (specSignatureOf_any _ _ _ (HV.out.1.below HB1.out hB) (HV.out.2.2.below HB1.out hB) (Nat.le_trans hB HB1.out.size)).mono ?_
      rintro e w2 ⟨rfl, hb2⟩
      rw [HS.out]
      have HB2 := hid (below_step HB1.out hb2)
      obtain ⟨q2, q3⟩ := HQ.out _ (below_step HBX.out hb2)
      have g2 := cell_at HB2.out hbB hB (HCC.out 0 (by omega))
      rw [Nat.add_zero] at g2
      clear hb2 c0 c1 c2 q0 q1
      obtain ⟨b2, off2, rfl, hbB2, hcc2⟩ := HC.out.2 (by omega)
      have r0 := cell_at HB2.out hbB2 hB (hcc2 k 0 hk (by omega))
      have r1 := cell_at HB2.out hbB2 hB (hcc2 k 1 hk (by omega))
      have r2 := cell_at HB2.out hbB2 hB (hcc2 k 2 hk (by omega))
      have r3 := cell_at HB2.out hbB2 hB (hcc2 k 3 hk (by omega))
      have r4 := cell_at HB2.out hbB2 hB (hcc2 k 4 hk (by omega))
      have r5 := cell_at HB2.out hbB2 hB (hcc2 k 5 hk (by omega))
      have r6 := cell_at HB2.out hbB2 hB (hcc2 k 6 hk (by omega))
      have r7 := cell_at HB2.out hbB2 hB (hcc2 k 7 hk (by omega))
      have r8 := cell_at HB2.out hbB2 hB (hcc2 k 8 hk (by omega))
      rw [Nat.add_zero] at r0
      have hk0 : (0 : Int) ≤ (k : Int) := Int.natCast_nonneg _
      have hk1 : (k : Int) < (ls.length : Int) := by omega
      clear hcc2
      go_wp2_with fail
      refine (specSignatureDigest_any _ _ _ _ _ _ _ _ _ _ _).mono ?_
      rintro e w3 ⟨rfl, hb3⟩
      have HB3 := hid (below_step HB2.out hb3)
      clear hb3
      go_wp2
      go_ret
      exact ⟨ret_int HT.out, HB3.out⟩

end Go.Proofs.Ytkdpfbodmfjkkaa
