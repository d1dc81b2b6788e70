/- MeetsRule of the program and of the reference: every owner has signed, and where there is an order each signature refers to the one before. Condition: no more than 2^40 owners. -/
import Derived.Test.YtkdpfbodmfjkkaaRows
import Derived.Test.YtkdpfbodmfjkkaaPlain
import Derived.Test.YtkdpfbodmfjkkaaIsSignRule
import Derived.Test.YtkdpfbodmfjkkaaBeforeFor
namespace Go.Proofs.Ytkdpfbodmfjkkaa
open Go.RowKit

/-- The place of the signature of owner i. -/
def plc (ks ls : List (List Int)) (os : List Int) (d : Int) (i : Nat) : Nat := (sigOf ks ls (nth os i) d).toNat
def refOk (ks ls : List (List Int)) (os : List Int) (d : Int) (i : Nat) : Bool := fld ls (plc ks ls os d i) 6 == sigDig ls (fld ls (plc ks ls os d i) 2) (plc ks ls os d (i - 1))
def stepOk (ks ls : List (List Int)) (os : List Int) (q : Bool) (d : Int) (i : Nat) : Bool := decide (0 ≤ sigOf ks ls (nth os i) d) && (!q || decide (i = 0) || refOk ks ls os d i)
def meetsB (ks ls : List (List Int)) (os : List Int) (q : Bool) (d : Int) : Bool := ruleB os && (List.range os.length).all (stepOk ks ls os q d)
theorem meets_rule {ks ls : List (List Int)} {os : List Int} {q : Bool} {d : Int} (h : ruleB os = false) : false = meetsB ks ls os q d := by simp [meetsB, h]
theorem meets_bad {ks ls : List (List Int)} {os : List Int} {q : Bool} {d : Int} {i : Nat} (hi : i < os.length) (e : stepOk ks ls os q d i = false) : false = meetsB ks ls os q d := by
  have : (List.range os.length).all (stepOk ks ls os q d) = false := by
    cases hx : (List.range os.length).all (stepOk ks ls os q d) with
    | false => rfl
    | true => rw [List.all_eq_true] at hx; rw [hx i (List.mem_range.2 hi)] at e; cases e
  simp [meetsB, this]
theorem meets_all {ks ls : List (List Int)} {os : List Int} {q : Bool} {d : Int} (h0 : ruleB os = true) (h : ∀ i, i < os.length → stepOk ks ls os q d i = true) : true = meetsB ks ls os q d := by
  have : (List.range os.length).all (stepOk ks ls os q d) = true := by
    rw [List.all_eq_true]
    intro i hi
    exact h i (List.mem_range.1 hi)
  simp [meetsB, h0, this]
theorem step_neg {ks ls : List (List Int)} {os : List Int} {q : Bool} {d : Int} {i : Nat} (h : sigOf ks ls (nth os i) d < 0) : stepOk ks ls os q d i = false := by
  have h' : ¬ 0 ≤ sigOf ks ls (nth os i) d := by omega
  simp [stepOk, h']
theorem step_ref {ks ls : List (List Int)} {os : List Int} {d : Int} {i : Nat} (hi : 0 < i) (h : refOk ks ls os d i = false) : stepOk ks ls os true d i = false := by
  have h' : ¬ i = 0 := by omega
  simp [stepOk, h', h]
theorem step_free {ks ls : List (List Int)} {os : List Int} {d : Int} {i : Nat} (h : 0 ≤ sigOf ks ls (nth os i) d) : stepOk ks ls os false d i = true := by simp [stepOk, h]
theorem step_zero {ks ls : List (List Int)} {os : List Int} {q : Bool} {d : Int} (h : 0 ≤ sigOf ks ls (nth os 0) d) : stepOk ks ls os q d 0 = true := by simp [stepOk, h]
theorem step_yes {ks ls : List (List Int)} {os : List Int} {q : Bool} {d : Int} {i : Nat} (h : 0 ≤ sigOf ks ls (nth os i) d) (h2 : refOk ks ls os d i = true) : stepOk ks ls os q d i = true := by simp [stepOk, h, h2]
theorem step_sig {ks ls : List (List Int)} {os : List Int} {q : Bool} {d : Int} {i : Nat} (h : stepOk ks ls os q d i = true) : 0 ≤ sigOf ks ls (nth os i) d := by
  simp [stepOk] at h
  exact h.1
theorem plc_at {ks ls : List (List Int)} {os : List Int} {d : Int} {i : Nat} (h : 0 ≤ sigOf ks ls (nth os i) d) : plc ks ls os d i < ls.length ∧ sigOf ks ls (nth os i) d = (plc ks ls os d i : Nat) := by
  rcases sigOf_range ks ls (nth os i) d with h1 | ⟨k, hk, h1, -⟩
  · omega
  · unfold plc
    rw [h1, Int.toNat_natCast]
    exact ⟨hk, rfl⟩
theorem miss_none {ks ls : List (List Int)} {os : List Int} {d : Int} (h : (missI ks ls os d os.length).length = 0) (i : Nat) (hi : i < os.length) : 0 ≤ sigOf ks ls (nth os i) d := by
  have h1 : missI ks ls os d os.length = [] := List.eq_nil_of_length_eq_zero h
  unfold missI at h1
  rw [List.map_eq_nil_iff, List.filter_eq_nil_iff] at h1
  have h2 := h1 i (List.mem_range.2 hi)
  simp at h2
  exact h2
theorem miss_some {ks ls : List (List Int)} {os : List Int} {q : Bool} {d : Int} (h : 0 < (missI ks ls os d os.length).length) : false = meetsB ks ls os q d := by
  rcases Classical.em (∃ i, i < os.length ∧ sigOf ks ls (nth os i) d < 0) with ⟨i, hi, hs⟩ | hn
  · exact meets_bad hi (step_neg hs)
  · exfalso
    have h1 : missI ks ls os d os.length = [] := by
      unfold missI
      rw [List.map_eq_nil_iff, List.filter_eq_nil_iff]
      intro i hi
      simp
      have h2 : ¬ sigOf ks ls (nth os i) d < 0 := fun hs => hn ⟨i, List.mem_range.1 hi, hs⟩
      omega
    rw [h1] at h
    simp at h

set_option maxRecDepth 8000 in
set_option maxHeartbeats 8000000 in
theorem implMeetsRule_any {B : Nat} {ks ls : List (List Int)} {os : List Int} {v x u : Value} (q : Bool) (d : Int) (w : World) (h : Sl B w 5 v ks) (g : Si B w x os) (g2 : Sl B w 9 u ls) (hB : B ≤ w.heap.size) (hn : os.length ≤ 1099511627776) :
    Calls Try.prog 22 #[v, .agg #[x, .bool q], u, iv d] w (Ret (.bool (meetsB ks ls os q d)) w) := by
  have HV := hid (And.intro h (And.intro g g2))
  obtain ⟨A, c, rfl, hc1, hc2, -, hcell⟩ := g
  obtain ⟨A2, c2, rfl, hd1, hd2, -, hcell2⟩ := g2
  have HC := hid (And.intro hcell hcell2)
  clear hcell hcell2 h
  have H0 : Hid (Below w.heap.size w (w.alloc (.cells #[.slice A os.length c, .bool q] 33))) := hid (below_alloc _ _)
  have HQ : Hid (∀ wr : World, Below (w.alloc (.cells #[.slice A os.length c, .bool q] 33)).heap.size (w.alloc (.cells #[.slice A os.length c, .bool q] 33)) wr → wr.cell? ⟨w.heap.size, 0, none⟩ = some (.slice A os.length c) ∧ wr.cell? ⟨w.heap.size, 1, none⟩ = some (.bool q)) := hid fun wr hx => ⟨(hx.cell (p := ⟨w.heap.size, 0, none⟩) (by simp)).trans (by simp [go_sem]), (hx.cell (p := ⟨w.heap.size, 1, none⟩) (by simp)).trans (by simp [go_sem])⟩
  cases hr : ruleB os
  · have HT := hid (meets_rule (ks := ks) (ls := ls) (q := q) (d := d) hr)
    have HR : Hid (∀ W : World, Si B W (.slice A os.length c) os → B ≤ W.heap.size → Calls Try.prog 92 #[.agg #[.slice A os.length c, .bool q]] W (Ret (.bool false) W)) := hid fun W h1 h2 => by rw [← hr]; exact implIsSignRule_any q W h1 h2
    clear hr
    go_enter Try.func22, Try.ntmps22
    go_wp2_with fail
    refine (HR.out _ (HV.out.2.1.below H0.out hB) (Nat.le_trans hB H0.out.size)).mono ?_
    rintro e w1 ⟨rfl, hb1⟩
    have HB1 := hid (below_step H0.out hb1)
    clear hb1
    go_wp2
    go_ret
    exact ⟨ret_bool HT.out, HB1.out⟩
  have HR : Hid (∀ W : World, Si B W (.slice A os.length c) os → B ≤ W.heap.size → Calls Try.prog 92 #[.agg #[.slice A os.length c, .bool q]] W (Ret (.bool true) W)) := hid fun W h1 h2 => by rw [← hr]; exact implIsSignRule_any q W h1 h2
  go_enter Try.func22, Try.ntmps22
  go_wp2_with fail
  refine (HR.out _ (HV.out.2.1.below H0.out hB) (Nat.le_trans hB H0.out.size)).mono ?_
  rintro e w1 ⟨rfl, hb1⟩
  obtain ⟨q0, q1⟩ := HQ.out _ hb1
  have HB1 := hid (below_step H0.out hb1)
  go_wp2_with fail
  refine (implMissingOwners_any _ _ _ (HV.out.1.below HB1.out hB) (HV.out.2.1.below HB1.out hB) (HV.out.2.2.below HB1.out hB) (Nat.le_trans hB HB1.out.size) hn).mono ?_
  rintro e w2 ⟨r, rfl, ho2, hb2⟩
  have HBX := hid (below_step hb1 hb2)
  have hle := missI_le ks ls os d os.length
  clear q0 q1 HB1 hb1 hb2
  obtain ⟨A3, c3, rfl⟩ := ownsRow_form ho2.1
  clear ho2
  by_cases hm : 0 < (missI ks ls os d os.length).length
  · have HT := hid (miss_some (q := q) hm)
    have hm' : (0 : Int) < ((missI ks ls os d os.length).length : Int) := by omega
    go_wp2
    go_ret
    exact ⟨ret_bool HT.out, below_step H0.out HBX.out⟩
  have hz : (missI ks ls os d os.length).length = 0 := by omega
  have HM := hid (miss_none hz)
  rw [hz]
  clear hm hz hle
  go_wp2
  go_loopw [9] (fun t wr => ∃ i : Nat, 1 ≤ i ∧ t = .int .i64 i ∧ (∀ j, 1 ≤ j → j < i → j < os.length → refOk ks ls os d j = true) ∧ Below (w.alloc (.cells #[.slice A os.length c, .bool q] 33)).heap.size (w.alloc (.cells #[.slice A os.length c, .bool q] 33)) wr) (fun t _ => os.length - (intOf t).toNat)
  case atStart => exact ⟨1, Nat.le_refl _, rfl, fun j h1 h2 => by omega, HBX.out⟩
  case round =>
    obtain ⟨i, hi1, rfl, hg, hb⟩ := hrel
    obtain ⟨q0, q1⟩ := HQ.out _ hb
    have HG := hid hg
    have HBW := hid (below_step H0.out hb)
    have HBL := hid hb
    clear hg hb
    by_cases hlt : i < os.length
    rotate_left
    · have HT := hid (meets_all (ks := ks) (ls := ls) (q := q) (d := d) hr (fun j hj => by
        by_cases hj0 : j = 0
        · subst hj0; exact step_zero (HM.out 0 hj)
        · exact step_yes (HM.out j hj) (HG.out j (by omega) (by omega) hj)))
      clear HG HM HC hr
      go_wp2
      go_ret
      exact ⟨ret_bool HT.out, HBW.out⟩
    cases q
    · have HT := hid (meets_all (ks := ks) (ls := ls) (q := false) (d := d) hr (fun j hj => step_free (HM.out j hj)))
      clear HG HM HC hr
      go_wp2
      go_ret
      exact ⟨ret_bool HT.out, HBW.out⟩
    obtain ⟨b, off, rfl, hbB, hcc⟩ := HC.out.1 (by omega)
    obtain ⟨hk, hs⟩ := plc_at (HM.out i hlt)
    obtain ⟨hk', hs'⟩ := plc_at (HM.out (i - 1) (by omega))
    obtain ⟨b2, off2, rfl, hbB2, hcc2⟩ := HC.out.2 (by omega)
    have hi0 : (0 : Int) ≤ (i : Int) := Int.natCast_nonneg _
    have hil : (i : Int) < (os.length : Int) := by omega
    have hj0 : (0 : Int) ≤ (i : Int) - 1 := by omega
    have hj1 : (i : Int) - 1 < (os.length : Int) := by omega
    have hj2 : ((i : Int) - 1).toNat = i - 1 := by omega
    have hj4 : (1 : Int) ≤ (i : Int) := by omega
    have hj5 : (i : Int) ≤ (os.length : Int) := by omega
    have c0 := cell_at HBW.out hbB hB (hcc i hlt)
    have HCC := hid (hcc (i - 1) (by omega))
    have HS := hid hs
    have HS' := hid hs'
    have HCA := hid (fun (W : World) (hx : Below w.heap.size w W) (k j : Nat) (h1 : k < ls.length) (h2 : j < 9) => cell_at hx hbB2 hB (hcc2 k j h1 h2))
    clear hs hs' hcc hcc2
    go_wp2_with fail
    refine (implSignatureOf_any _ _ _ (HV.out.1.below HBW.out hB) (HV.out.2.2.below HBW.out hB) (Nat.le_trans hB HBW.out.size)).mono ?_
    rintro e w3 ⟨rfl, hb3⟩
    rw [HS.out]
    have HBL3 := hid (below_step HBL.out hb3)
    have HBW3 := hid (below_step HBW.out hb3)
    clear hb3 c0 q0 q1
    have x0 := HCA.out _ HBW3.out (plc ks ls os d i) 0 hk (by omega)
    have x1 := HCA.out _ HBW3.out (plc ks ls os d i) 1 hk (by omega)
    have x2 := HCA.out _ HBW3.out (plc ks ls os d i) 2 hk (by omega)
    have x3 := HCA.out _ HBW3.out (plc ks ls os d i) 3 hk (by omega)
    have x4 := HCA.out _ HBW3.out (plc ks ls os d i) 4 hk (by omega)
    have x5 := HCA.out _ HBW3.out (plc ks ls os d i) 5 hk (by omega)
    have x6 := HCA.out _ HBW3.out (plc ks ls os d i) 6 hk (by omega)
    have x7 := HCA.out _ HBW3.out (plc ks ls os d i) 7 hk (by omega)
    have x8 := HCA.out _ HBW3.out (plc ks ls os d i) 8 hk (by omega)
    rw [Nat.add_zero] at x0
    have hk0 : (0 : Int) ≤ ((plc ks ls os d i) : Int) := Int.natCast_nonneg _
    have hk1 : ((plc ks ls os d i) : Int) < (ls.length : Int) := by omega
    obtain ⟨q0, q1⟩ := HQ.out _ HBL3.out
    have c1 := cell_at HBW3.out hbB hB HCC.out
    have hzw : w.heap.size < w3.heap.size := below_size HBL3.out
    have hbw : b < w3.heap.size := by omega
    have hbw2 : b2 < w3.heap.size := by omega
    have HX : Hid (Below w3.heap.size w3 (w3.alloc (.cells #[iv (fld ls (plc ks ls os d i) 0), iv (fld ls (plc ks ls os d i) 1), iv (fld ls (plc ks ls os d i) 2), iv (fld ls (plc ks ls os d i) 3), iv (fld ls (plc ks ls os d i) 4), iv (fld ls (plc ks ls os d i) 5), iv (fld ls (plc ks ls os d i) 6), iv (fld ls (plc ks ls os d i) 7), iv (fld ls (plc ks ls os d i) 8)] 117))) := hid (below_alloc _ _)
    have HBL4 := hid (below_step HBL3.out HX.out)
    have HBW4 := hid (below_step HBW3.out HX.out)
    go_wp2_with fail
    refine (implSignatureOf_any _ _ _ (HV.out.1.below HBW4.out hB) (HV.out.2.2.below HBW4.out hB) (Nat.le_trans hB HBW4.out.size)).mono ?_
    rintro e w5 ⟨rfl, hb5⟩
    rw [HS'.out]
    have HBL5 := hid (below_step HBL4.out hb5)
    have HBW5 := hid (below_step HBW4.out hb5)
    have hz5 : w3.heap.size < w5.heap.size := below_size hb5
    have n2 : w5.cell? ⟨w3.heap.size, 2, none⟩ = some (iv (fld ls (plc ks ls os d i) 2)) := (hb5.cell (p := ⟨w3.heap.size, 2, none⟩) (by simp)).trans (by simp [go_sem])
    have n6 : w5.cell? ⟨w3.heap.size, 6, none⟩ = some (iv (fld ls (plc ks ls os d i) 6)) := (hb5.cell (p := ⟨w3.heap.size, 6, none⟩) (by simp)).trans (by simp [go_sem])
    clear hb5 c1 q0 q1 hk0 hk1 x0 x1 x2 x3 x4 x5 x6 x7 x8
    have y0 := HCA.out _ HBW5.out (plc ks ls os d (i - 1)) 0 hk' (by omega)
    have y1 := HCA.out _ HBW5.out (plc ks ls os d (i - 1)) 1 hk' (by omega)
    have y2 := HCA.out _ HBW5.out (plc ks ls os d (i - 1)) 2 hk' (by omega)
    have y3 := HCA.out _ HBW5.out (plc ks ls os d (i - 1)) 3 hk' (by omega)
    have y4 := HCA.out _ HBW5.out (plc ks ls os d (i - 1)) 4 hk' (by omega)
    have y5 := HCA.out _ HBW5.out (plc ks ls os d (i - 1)) 5 hk' (by omega)
    have y6 := HCA.out _ HBW5.out (plc ks ls os d (i - 1)) 6 hk' (by omega)
    have y7 := HCA.out _ HBW5.out (plc ks ls os d (i - 1)) 7 hk' (by omega)
    have y8 := HCA.out _ HBW5.out (plc ks ls os d (i - 1)) 8 hk' (by omega)
    rw [Nat.add_zero] at y0
    have hk0 : (0 : Int) ≤ ((plc ks ls os d (i - 1)) : Int) := Int.natCast_nonneg _
    have hk1 : ((plc ks ls os d (i - 1)) : Int) < (ls.length : Int) := by omega
    have hbw3 : b2 < w5.heap.size := by omega
    have HY : Hid (∀ w' : World, Below (w5.alloc (.cells #[iv (fld ls (plc ks ls os d (i - 1)) 0), iv (fld ls (plc ks ls os d (i - 1)) 1), iv (fld ls (plc ks ls os d (i - 1)) 2), iv (fld ls (plc ks ls os d (i - 1)) 3), iv (fld ls (plc ks ls os d (i - 1)) 4), iv (fld ls (plc ks ls os d (i - 1)) 5), iv (fld ls (plc ks ls os d (i - 1)) 6), iv (fld ls (plc ks ls os d (i - 1)) 7), iv (fld ls (plc ks ls os d (i - 1)) 8)] 117)).heap.size (w5.alloc (.cells #[iv (fld ls (plc ks ls os d (i - 1)) 0), iv (fld ls (plc ks ls os d (i - 1)) 1), iv (fld ls (plc ks ls os d (i - 1)) 2), iv (fld ls (plc ks ls os d (i - 1)) 3), iv (fld ls (plc ks ls os d (i - 1)) 4), iv (fld ls (plc ks ls os d (i - 1)) 5), iv (fld ls (plc ks ls os d (i - 1)) 6), iv (fld ls (plc ks ls os d (i - 1)) 7), iv (fld ls (plc ks ls os d (i - 1)) 8)] 117)) w' → (w'.cell? ⟨w3.heap.size, 2, none⟩ = some (iv (fld ls (plc ks ls os d i) 2)) ∧ w'.cell? ⟨w3.heap.size, 6, none⟩ = some (iv (fld ls (plc ks ls os d i) 6)) ∧ w'.cell? ⟨w5.heap.size, 0, none⟩ = some (iv (fld ls (plc ks ls os d (i - 1)) 0)) ∧ w'.cell? ⟨w5.heap.size, 1, none⟩ = some (iv (fld ls (plc ks ls os d (i - 1)) 1)) ∧ w'.cell? ⟨w5.heap.size, 2, none⟩ = some (iv (fld ls (plc ks ls os d (i - 1)) 2)) ∧ w'.cell? ⟨w5.heap.size, 3, none⟩ = some (iv (fld ls (plc ks ls os d (i - 1)) 3)) ∧ w'.cell? ⟨w5.heap.size, 4, none⟩ = some (iv (fld ls (plc ks ls os d (i - 1)) 4)) ∧ w'.cell? ⟨w5.heap.size, 5, none⟩ = some (iv (fld ls (plc ks ls os d (i - 1)) 5)) ∧ w'.cell? ⟨w5.heap.size, 6, none⟩ = some (iv (fld ls (plc ks ls os d (i - 1)) 6)) ∧ w'.cell? ⟨w5.heap.size, 7, none⟩ = some (iv (fld ls (plc ks ls os d (i - 1)) 7)) ∧ w'.cell? ⟨w5.heap.size, 8, none⟩ = some (iv (fld ls (plc ks ls os d (i - 1)) 8)))) := hid fun w' hx => ⟨(hx.cell (p := ⟨w3.heap.size, 2, none⟩) (by simp; omega)).trans ((World.cell?_alloc_past _ _ _ hz5).trans n2), (hx.cell (p := ⟨w3.heap.size, 6, none⟩) (by simp; omega)).trans ((World.cell?_alloc_past _ _ _ hz5).trans n6), (hx.cell (p := ⟨w5.heap.size, 0, none⟩) (by simp)).trans (by simp [go_sem]), (hx.cell (p := ⟨w5.heap.size, 1, none⟩) (by simp)).trans (by simp [go_sem]), (hx.cell (p := ⟨w5.heap.size, 2, none⟩) (by simp)).trans (by simp [go_sem]), (hx.cell (p := ⟨w5.heap.size, 3, none⟩) (by simp)).trans (by simp [go_sem]), (hx.cell (p := ⟨w5.heap.size, 4, none⟩) (by simp)).trans (by simp [go_sem]), (hx.cell (p := ⟨w5.heap.size, 5, none⟩) (by simp)).trans (by simp [go_sem]), (hx.cell (p := ⟨w5.heap.size, 6, none⟩) (by simp)).trans (by simp [go_sem]), (hx.cell (p := ⟨w5.heap.size, 7, none⟩) (by simp)).trans (by simp [go_sem]), (hx.cell (p := ⟨w5.heap.size, 8, none⟩) (by simp)).trans (by simp [go_sem])⟩
    have HBL6 := hid (below_step HBL5.out (below_alloc w5 (.cells #[iv (fld ls (plc ks ls os d (i - 1)) 0), iv (fld ls (plc ks ls os d (i - 1)) 1), iv (fld ls (plc ks ls os d (i - 1)) 2), iv (fld ls (plc ks ls os d (i - 1)) 3), iv (fld ls (plc ks ls os d (i - 1)) 4), iv (fld ls (plc ks ls os d (i - 1)) 5), iv (fld ls (plc ks ls os d (i - 1)) 6), iv (fld ls (plc ks ls os d (i - 1)) 7), iv (fld ls (plc ks ls os d (i - 1)) 8)] 117)))
    have hrf := Below.refl (w5.alloc (.cells #[iv (fld ls (plc ks ls os d (i - 1)) 0), iv (fld ls (plc ks ls os d (i - 1)) 1), iv (fld ls (plc ks ls os d (i - 1)) 2), iv (fld ls (plc ks ls os d (i - 1)) 3), iv (fld ls (plc ks ls os d (i - 1)) 4), iv (fld ls (plc ks ls os d (i - 1)) 5), iv (fld ls (plc ks ls os d (i - 1)) 6), iv (fld ls (plc ks ls os d (i - 1)) 7), iv (fld ls (plc ks ls os d (i - 1)) 8)] 117)).heap.size (w5.alloc (.cells #[iv (fld ls (plc ks ls os d (i - 1)) 0), iv (fld ls (plc ks ls os d (i - 1)) 1), iv (fld ls (plc ks ls os d (i - 1)) 2), iv (fld ls (plc ks ls os d (i - 1)) 3), iv (fld ls (plc ks ls os d (i - 1)) 4), iv (fld ls (plc ks ls os d (i - 1)) 5), iv (fld ls (plc ks ls os d (i - 1)) 6), iv (fld ls (plc ks ls os d (i - 1)) 7), iv (fld ls (plc ks ls os d (i - 1)) 8)] 117))
    clear n2 n6
    go_wp2_with fail
    go_region_held3 (fun w' => w'.cell? ⟨w3.heap.size, 2, none⟩ = some (iv (fld ls (plc ks ls os d i) 2)) ∧ w'.cell? ⟨w3.heap.size, 6, none⟩ = some (iv (fld ls (plc ks ls os d i) 6)) ∧ w'.cell? ⟨w5.heap.size, 0, none⟩ = some (iv (fld ls (plc ks ls os d (i - 1)) 0)) ∧ w'.cell? ⟨w5.heap.size, 1, none⟩ = some (iv (fld ls (plc ks ls os d (i - 1)) 1)) ∧ w'.cell? ⟨w5.heap.size, 2, none⟩ = some (iv (fld ls (plc ks ls os d (i - 1)) 2)) ∧ w'.cell? ⟨w5.heap.size, 3, none⟩ = some (iv (fld ls (plc ks ls os d (i - 1)) 3)) ∧ w'.cell? ⟨w5.heap.size, 4, none⟩ = some (iv (fld ls (plc ks ls os d (i - 1)) 4)) ∧ w'.cell? ⟨w5.heap.size, 5, none⟩ = some (iv (fld ls (plc ks ls os d (i - 1)) 5)) ∧ w'.cell? ⟨w5.heap.size, 6, none⟩ = some (iv (fld ls (plc ks ls os d (i - 1)) 6)) ∧ w'.cell? ⟨w5.heap.size, 7, none⟩ = some (iv (fld ls (plc ks ls os d (i - 1)) 7)) ∧ w'.cell? ⟨w5.heap.size, 8, none⟩ = some (iv (fld ls (plc ks ls os d (i - 1)) 8))) (first | with_reducible exact HY.out _ hrf.drew | with_reducible exact HY.out _ HZ1.out | go_keep)
      (first | (go_at_call 75; refine (implSignatureDigest_any _ _ _ _ _ _ _ _ _ _ _).mono ?_; rintro e w7 ⟨rfl, hb7⟩; have HZ1 := hid (below_step hrf.drew hb7)))
    have HBL7 := hid (below_step HBL6.out HZ1.out)
    clear HZ1 hrf y0 y1 y2 y3 y4 y5 y6 y7 y8
    cases hok : refOk ks ls os d i
    · have HT := hid (meets_bad (ks := ks) (ls := ls) (q := true) (d := d) hlt (step_ref hi1 hok))
      have hne : (fld ls (plc ks ls os d i) 6 == digestI (fld ls (plc ks ls os d i) 2) [104, fld ls (plc ks ls os d (i - 1)) 0, fld ls (plc ks ls os d (i - 1)) 1, fld ls (plc ks ls os d (i - 1)) 2, fld ls (plc ks ls os d (i - 1)) 3, fld ls (plc ks ls os d (i - 1)) 4, fld ls (plc ks ls os d (i - 1)) 5, fld ls (plc ks ls os d (i - 1)) 6, fld ls (plc ks ls os d (i - 1)) 7, fld ls (plc ks ls os d (i - 1)) 8]) = false := hok
      have hne2 : (fld ls (plc ks ls os d i) 6 != digestI (fld ls (plc ks ls os d i) 2) [104, fld ls (plc ks ls os d (i - 1)) 0, fld ls (plc ks ls os d (i - 1)) 1, fld ls (plc ks ls os d (i - 1)) 2, fld ls (plc ks ls os d (i - 1)) 3, fld ls (plc ks ls os d (i - 1)) 4, fld ls (plc ks ls os d (i - 1)) 5, fld ls (plc ks ls os d (i - 1)) 6, fld ls (plc ks ls os d (i - 1)) 7, fld ls (plc ks ls os d (i - 1)) 8]) = true := by rw [bne, hne]; rfl
      clear hok HG HM HC hr
      go_wp2
      go_ret
      exact ⟨ret_bool HT.out, below_step H0.out HBL7.out⟩
    · have HT := hid (fun j h1 h2 h3 => if hj : j = i then (by rw [hj]; exact hok) else HG.out j h1 (by omega) h3 : ∀ j, 1 ≤ j → j < i + 1 → j < os.length → refOk ks ls os d j = true)
      have hne : (fld ls (plc ks ls os d i) 6 == digestI (fld ls (plc ks ls os d i) 2) [104, fld ls (plc ks ls os d (i - 1)) 0, fld ls (plc ks ls os d (i - 1)) 1, fld ls (plc ks ls os d (i - 1)) 2, fld ls (plc ks ls os d (i - 1)) 3, fld ls (plc ks ls os d (i - 1)) 4, fld ls (plc ks ls os d (i - 1)) 5, fld ls (plc ks ls os d (i - 1)) 6, fld ls (plc ks ls os d (i - 1)) 7, fld ls (plc ks ls os d (i - 1)) 8]) = true := hok
      have hne2 : (fld ls (plc ks ls os d i) 6 != digestI (fld ls (plc ks ls os d i) 2) [104, fld ls (plc ks ls os d (i - 1)) 0, fld ls (plc ks ls os d (i - 1)) 1, fld ls (plc ks ls os d (i - 1)) 2, fld ls (plc ks ls os d (i - 1)) 3, fld ls (plc ks ls os d (i - 1)) 4, fld ls (plc ks ls os d (i - 1)) 5, fld ls (plc ks ls os d (i - 1)) 6, fld ls (plc ks ls os d (i - 1)) 7, fld ls (plc ks ls os d (i - 1)) 8]) = false := by rw [bne, hne]; rfl
      clear hok HG HM HC hr
      go_wp2
      go_roundw
      case rel => exact ⟨i + 1, by omega, by go_num, HT.out, HBL7.out⟩
      case measure => simp [intOf]; omega

set_option maxRecDepth 8000 in
set_option maxHeartbeats 8000000 in
theorem specMeetsRule_any {B : Nat} {ks ls : List (List Int)} {os : List Int} {v x u : Value} (q : Bool) (d : Int) (w : World) (h : Sl B w 5 v ks) (g : Si B w x os) (g2 : Sl B w 9 u ls) (hB : B ≤ w.heap.size) (hn : os.length ≤ 1099511627776) :
    Calls Try.prog 18 #[v, .agg #[x, .bool q], u, iv d] w (Ret (.bool (meetsB ks ls os q d)) w) := by
  have HV := hid (And.intro h (And.intro g g2))
  obtain ⟨A, c, rfl, hc1, hc2, -, hcell⟩ := g
  obtain ⟨A2, c2, rfl, hd1, hd2, -, hcell2⟩ := g2
  have HC := hid (And.intro hcell hcell2)
  clear hcell hcell2 h
  have H0 : Hid (Below w.heap.size w (w.alloc (.cells #[.slice A os.length c, .bool q] 33))) := hid (below_alloc _ _)
  have HQ : Hid (∀ wr : World, Below (w.alloc (.cells #[.slice A os.length c, .bool q] 33)).heap.size (w.alloc (.cells #[.slice A os.length c, .bool q] 33)) wr → wr.cell? ⟨w.heap.size, 0, none⟩ = some (.slice A os.length c) ∧ wr.cell? ⟨w.heap.size, 1, none⟩ = some (.bool q)) := hid fun wr hx => ⟨(hx.cell (p := ⟨w.heap.size, 0, none⟩) (by simp)).trans (by simp [go_sem]), (hx.cell (p := ⟨w.heap.size, 1, none⟩) (by simp)).trans (by simp [go_sem])⟩
  cases hr : ruleB os
  · have HT := hid (meets_rule (ks := ks) (ls := ls) (q := q) (d := d) hr)
    have HR : Hid (∀ W : World, Si B W (.slice A os.length c) os → B ≤ W.heap.size → Calls Try.prog 94 #[.agg #[.slice A os.length c, .bool q]] W (Ret (.bool false) W)) := hid fun W h1 h2 => by rw [← hr]; exact specIsSignRule_any q W h1 h2
    clear hr
    go_enter Try.func18, Try.ntmps18
    go_wp2_with fail
    refine (HR.out _ (HV.out.2.1.below H0.out hB) (Nat.le_trans hB H0.out.size)).mono ?_
    rintro e w1 ⟨rfl, hb1⟩
    have HB1 := hid (below_step H0.out hb1)
    clear hb1
    go_wp2
    go_ret
    exact ⟨ret_bool HT.out, HB1.out⟩
  have HR : Hid (∀ W : World, Si B W (.slice A os.length c) os → B ≤ W.heap.size → Calls Try.prog 94 #[.agg #[.slice A os.length c, .bool q]] W (Ret (.bool true) W)) := hid fun W h1 h2 => by rw [← hr]; exact specIsSignRule_any q W h1 h2
  go_enter Try.func18, Try.ntmps18
  go_wp2_with fail
  refine (HR.out _ (HV.out.2.1.below H0.out hB) (Nat.le_trans hB H0.out.size)).mono ?_
  rintro e w1 ⟨rfl, hb1⟩
  have HBX := hid hb1
  clear hb1
  go_wp2
  go_loopw [9] (fun t wr => ∃ i : Nat, i ≤ os.length ∧ t = .int .i64 i ∧ AG (stepOk ks ls os q d) i ∧ Below (w.alloc (.cells #[.slice A os.length c, .bool q] 33)).heap.size (w.alloc (.cells #[.slice A os.length c, .bool q] 33)) wr) (fun t _ => os.length - (intOf t).toNat)
  case atStart => exact ⟨0, Nat.zero_le _, rfl, AG_zero _, HBX.out⟩
  case round =>
    obtain ⟨i, hi, rfl, hg, hb⟩ := hrel
    obtain ⟨q0, q1⟩ := HQ.out _ hb
    have HG := hid hg
    have HBW := hid (below_step H0.out hb)
    have HBL := hid hb
    clear hg hb
    by_cases hlt : i < os.length
    rotate_left
    · obtain rfl : i = os.length := by omega
      have HT := hid (meets_all (ks := ks) (ls := ls) (q := q) (d := d) hr HG.out)
      clear HG HC hr
      go_wp2
      go_ret
      exact ⟨ret_bool HT.out, HBW.out⟩
    obtain ⟨b, off, rfl, hbB, hcc⟩ := HC.out.1 (by omega)
    have hi0 : (0 : Int) ≤ (i : Int) := Int.natCast_nonneg _
    have hil : (i : Int) < (os.length : Int) := by omega
    have c0 := cell_at HBW.out hbB hB (hcc i hlt)
    have HCC := hid hcc
    clear hcc
    go_wp2_with fail
    refine (specSignatureOf_any _ _ _ (HV.out.1.below HBW.out hB) (HV.out.2.2.below HBW.out hB) (Nat.le_trans hB HBW.out.size)).mono ?_
    rintro e w3 ⟨rfl, hb3⟩
    have HBL3 := hid (below_step HBL.out hb3)
    have HBW3 := hid (below_step HBW.out hb3)
    clear hb3 c0 q0 q1
    by_cases hs : sigOf ks ls (nth os i) d < 0
    · have HT := hid (meets_bad (ks := ks) (ls := ls) (q := q) (d := d) hlt (step_neg hs))
      clear HG HC hr
      go_wp2
      go_ret
      exact ⟨ret_bool HT.out, HBW3.out⟩
    have hsp : 0 ≤ sigOf ks ls (nth os i) d := by omega
    obtain ⟨hk, hs1⟩ := plc_at hsp
    obtain ⟨q0, q1⟩ := HQ.out _ HBL3.out
    rw [hs1]
    have hk0 : (0 : Int) ≤ ((plc ks ls os d i) : Int) := Int.natCast_nonneg _
    clear hs
    have HS1 := hid hs1
    clear hs1
    have hrf := Below.refl w3.heap.size w3
    have hq1 : w3.drew.cell? ⟨w.heap.size, 1, none⟩ = some (.bool q) := (hrf.drew.cell (p := ⟨w.heap.size, 1, none⟩) (by have := below_size HBL3.out; show w.heap.size < _; omega)).trans q1
    cases q
    · have HT := hid (AG_succ HG.out (step_free hsp))
      clear HG HC hr
      go_wp2_with fail
      refine wp_region_held_drew (S := fun w' => w'.cell? ⟨w.heap.size, 1, none⟩ = some (.bool false)) (by kernel_rfl) (hq1) (fun hSx => ?_)
      refine wpAnyH_take (i := 0) (v := .pointer (some ⟨w.heap.size, 1, none⟩)) rfl (by kernel_rfl) (by kernel_rfl) (by kernel_rfl) (fun _ _ _ h => h) (Or.inl ⟨by rfl, fun wq hSw => by go_simp⟩) hSx ?_
      try simp [Act.put]
      refine wpAnyH_take (i := 1) (v := .bool false) rfl (by kernel_rfl) (by kernel_rfl) (by kernel_rfl) (fun _ _ _ h => h) (Or.inl ⟨by rfl, fun wq hSw => by go_simp⟩) hSx ?_
      try simp [Act.put]
      refine wpAnyH_take (i := 2) (v := .bool false) rfl (by kernel_rfl) (by kernel_rfl) (by kernel_rfl) (fun _ _ _ h => h) (Or.inl ⟨by rfl, fun wq hSw => by go_simp⟩) hSx ?_
      try simp [Act.put]
      refine wpAnyH_take (i := 3) (v := undef) rfl (by kernel_rfl) (by kernel_rfl) (by kernel_rfl) (fun _ _ _ h => h) (Or.inr ⟨by rfl, rfl⟩) hSx ?_
      try simp [Act.put]
      refine wpAnyH_take (i := 4) (v := undef) rfl (by kernel_rfl) (by kernel_rfl) (by kernel_rfl) (fun _ _ _ h => h) (Or.inr ⟨by rfl, rfl⟩) hSx ?_
      try simp [Act.put]
      refine wpAnyH_take (i := 5) (v := .bool false) rfl (by kernel_rfl) (by kernel_rfl) (by kernel_rfl) (fun _ _ _ h => h) (Or.inl ⟨by rfl, fun wq hSw => by go_simp⟩) hSx ?_
      try simp [Act.put]
      refine wpAnyH_take (i := 6) (v := .bool false) rfl (by kernel_rfl) (by kernel_rfl) (by kernel_rfl) (fun _ _ _ h => h) (Or.inl ⟨by rfl, fun wq hSw => by go_simp⟩) hSx ?_
      try simp [Act.put]
      refine wpAnyH_take (i := 7) (v := undef) rfl (by kernel_rfl) (by kernel_rfl) (by kernel_rfl) (fun _ _ _ h => h) (Or.inr ⟨by rfl, rfl⟩) hSx ?_
      try simp [Act.put]
      refine wpAnyH_take (i := 8) (v := undef) rfl (by kernel_rfl) (by kernel_rfl) (by kernel_rfl) (fun _ _ _ h => h) (Or.inr ⟨by rfl, rfl⟩) hSx ?_
      try simp [Act.put]
      refine wpAnyH_take (i := 9) (v := undef) rfl (by kernel_rfl) (by kernel_rfl) (by kernel_rfl) (fun _ _ _ h => h) (Or.inr ⟨by rfl, rfl⟩) hSx ?_
      try simp [Act.put]
      refine wpAnyH_take (i := 10) (v := undef) rfl (by kernel_rfl) (by kernel_rfl) (by kernel_rfl) (fun _ _ _ h => h) (Or.inr ⟨by rfl, rfl⟩) hSx ?_
      try simp [Act.put]
      refine wpAnyH_take (i := 11) (v := undef) rfl (by kernel_rfl) (by kernel_rfl) (by kernel_rfl) (fun _ _ _ h => h) (Or.inr ⟨by rfl, rfl⟩) hSx ?_
      try simp [Act.put]
      refine wpAnyH_take (i := 12) (v := undef) rfl (by kernel_rfl) (by kernel_rfl) (by kernel_rfl) (fun _ _ _ h => h) (Or.inr ⟨by rfl, rfl⟩) hSx ?_
      try simp [Act.put]
      refine wpAnyH_take (i := 13) (v := undef) rfl (by kernel_rfl) (by kernel_rfl) (by kernel_rfl) (fun _ _ _ h => h) (Or.inr ⟨by rfl, rfl⟩) hSx ?_
      try simp [Act.put]
      refine wpAnyH_take (i := 14) (v := undef) rfl (by kernel_rfl) (by kernel_rfl) (by kernel_rfl) (fun _ _ _ h => h) (Or.inr ⟨by rfl, rfl⟩) hSx ?_
      try simp [Act.put]
      refine wpAnyH_take (i := 15) (v := undef) rfl (by kernel_rfl) (by kernel_rfl) (by kernel_rfl) (fun _ _ _ h => h) (Or.inr ⟨by rfl, rfl⟩) hSx ?_
      try simp [Act.put]
      refine wpAnyH_take (i := 16) (v := undef) rfl (by kernel_rfl) (by kernel_rfl) (by kernel_rfl) (fun _ _ _ h => h) (Or.inr ⟨by rfl, rfl⟩) hSx ?_
      try simp [Act.put]
      refine wpAnyH_take (i := 17) (v := undef) rfl (by kernel_rfl) (by kernel_rfl) (by kernel_rfl) (fun _ _ _ h => h) (Or.inr ⟨by rfl, rfl⟩) hSx ?_
      try simp [Act.put]
      refine wpAnyH_take (i := 18) (v := undef) rfl (by kernel_rfl) (by kernel_rfl) (by kernel_rfl) (fun _ _ _ h => h) (Or.inr ⟨by rfl, rfl⟩) hSx ?_
      try simp [Act.put]
      refine wpAnyH_take (i := 19) (v := undef) rfl (by kernel_rfl) (by kernel_rfl) (by kernel_rfl) (fun _ _ _ h => h) (Or.inr ⟨by rfl, rfl⟩) hSx ?_
      try simp [Act.put]
      refine wpAnyH_take (i := 20) (v := undef) rfl (by kernel_rfl) (by kernel_rfl) (by kernel_rfl) (fun _ _ _ h => h) (Or.inr ⟨by rfl, rfl⟩) hSx ?_
      try simp [Act.put]
      refine wpAnyH_take (i := 21) (v := undef) rfl (by kernel_rfl) (by kernel_rfl) (by kernel_rfl) (fun _ _ _ h => h) (Or.inr ⟨by rfl, rfl⟩) hSx ?_
      try simp [Act.put]
      refine wpAnyH_take (i := 22) (v := undef) rfl (by kernel_rfl) (by kernel_rfl) (by kernel_rfl) (fun _ _ _ h => h) (Or.inr ⟨by rfl, rfl⟩) hSx ?_
      try simp [Act.put]
      refine wpAnyH_take (i := 23) (v := undef) rfl (by kernel_rfl) (by kernel_rfl) (by kernel_rfl) (fun _ _ _ h => h) (Or.inr ⟨by rfl, rfl⟩) hSx ?_
      try simp [Act.put]
      refine wpAnyH_take (i := 24) (v := undef) rfl (by kernel_rfl) (by kernel_rfl) (by kernel_rfl) (fun _ _ _ h => h) (Or.inr ⟨by rfl, rfl⟩) hSx ?_
      try simp [Act.put]
      refine wpAnyH_take (i := 25) (v := undef) rfl (by kernel_rfl) (by kernel_rfl) (by kernel_rfl) (fun _ _ _ h => h) (Or.inr ⟨by rfl, rfl⟩) hSx ?_
      try simp [Act.put]
      refine wpAnyH_take (i := 26) (v := undef) rfl (by kernel_rfl) (by kernel_rfl) (by kernel_rfl) (fun _ _ _ h => h) (Or.inr ⟨by rfl, rfl⟩) hSx ?_
      try simp [Act.put]
      refine wpAnyH_take (i := 27) (v := undef) rfl (by kernel_rfl) (by kernel_rfl) (by kernel_rfl) (fun _ _ _ h => h) (Or.inr ⟨by rfl, rfl⟩) hSx ?_
      try simp [Act.put]
      refine wpAnyH_take (i := 28) (v := undef) rfl (by kernel_rfl) (by kernel_rfl) (by kernel_rfl) (fun _ _ _ h => h) (Or.inr ⟨by rfl, rfl⟩) hSx ?_
      try simp [Act.put]
      refine wpAnyH_take (i := 29) (v := undef) rfl (by kernel_rfl) (by kernel_rfl) (by kernel_rfl) (fun _ _ _ h => h) (Or.inr ⟨by rfl, rfl⟩) hSx ?_
      try simp [Act.put]
      refine wpAnyH_take (i := 30) (v := undef) rfl (by kernel_rfl) (by kernel_rfl) (by kernel_rfl) (fun _ _ _ h => h) (Or.inr ⟨by rfl, rfl⟩) hSx ?_
      try simp [Act.put]
      refine wpAnyH_take (i := 31) (v := undef) rfl (by kernel_rfl) (by kernel_rfl) (by kernel_rfl) (fun _ _ _ h => h) (Or.inr ⟨by rfl, rfl⟩) hSx ?_
      try simp [Act.put]
      refine wpAnyH_take (i := 32) (v := .bool false) rfl (by kernel_rfl) (by kernel_rfl) (by kernel_rfl) (fun _ _ _ h => h) (Or.inl ⟨by rfl, fun wq hSw => by go_simp⟩) hSx ?_
      try simp [Act.put]
      refine wpAnyH_done (by kernel_rfl) ?_ _
      go_wp2
      go_roundw
      case rel => exact ⟨i + 1, by omega, by go_num, HT.out, HBL3.out.drew⟩
      case measure => simp [intOf]; omega
    by_cases hz : i = 0
    · have HT := hid (AG_succ HG.out (show stepOk ks ls os true d i = true by subst hz; exact step_zero hsp))
      have hd0 : decide ((0 : Int) < (i : Int)) = false := by simp; omega
      have hz2 : ¬ 0 < i := by omega
      clear HG HC hr hz
      go_wp2_with fail
      refine wp_region_held_drew (S := fun w' => w'.cell? ⟨w.heap.size, 1, none⟩ = some (.bool true)) (by kernel_rfl) (hq1) (fun hSx => ?_)
      refine wpAnyH_take (i := 0) (v := .pointer (some ⟨w.heap.size, 1, none⟩)) rfl (by kernel_rfl) (by kernel_rfl) (by kernel_rfl) (fun _ _ _ h => h) (Or.inl ⟨by rfl, fun wq hSw => by go_simp⟩) hSx ?_
      try simp [Act.put]
      refine wpAnyH_take (i := 1) (v := .bool true) rfl (by kernel_rfl) (by kernel_rfl) (by kernel_rfl) (fun _ _ _ h => h) (Or.inl ⟨by rfl, fun wq hSw => by go_simp⟩) hSx ?_
      try simp [Act.put]
      refine wpAnyH_take (i := 2) (v := .bool true) rfl (by kernel_rfl) (by kernel_rfl) (by kernel_rfl) (fun _ _ _ h => h) (Or.inl ⟨by rfl, fun wq hSw => by go_simp⟩) hSx ?_
      try simp [Act.put]
      refine wpAnyH_take (i := 3) (v := .int .i64 (i : Int)) rfl (by kernel_rfl) (by kernel_rfl) (by kernel_rfl) (fun _ _ _ h => h) (Or.inl ⟨by rfl, fun wq hSw => by go_simp⟩) hSx ?_
      try simp [Act.put]
      refine wpAnyH_take (i := 4) (v := .bool false) rfl (by kernel_rfl) (by kernel_rfl) (by kernel_rfl) (fun _ _ _ h => h) (Or.inl ⟨by rfl, fun wq hSw => by go_simp⟩) hSx ?_
      try simp [Act.put]
      refine wpAnyH_take (i := 5) (v := .bool false) rfl (by kernel_rfl) (by kernel_rfl) (by kernel_rfl) (fun _ _ _ h => h) (Or.inl ⟨by rfl, fun wq hSw => by go_simp⟩) hSx ?_
      try simp [Act.put]
      refine wpAnyH_take (i := 6) (v := .bool false) rfl (by kernel_rfl) (by kernel_rfl) (by kernel_rfl) (fun _ _ _ h => h) (Or.inl ⟨by rfl, fun wq hSw => by go_simp⟩) hSx ?_
      try simp [Act.put]
      refine wpAnyH_take (i := 7) (v := undef) rfl (by kernel_rfl) (by kernel_rfl) (by kernel_rfl) (fun _ _ _ h => h) (Or.inr ⟨by rfl, rfl⟩) hSx ?_
      try simp [Act.put]
      refine wpAnyH_take (i := 8) (v := undef) rfl (by kernel_rfl) (by kernel_rfl) (by kernel_rfl) (fun _ _ _ h => h) (Or.inr ⟨by rfl, rfl⟩) hSx ?_
      try simp [Act.put]
      refine wpAnyH_take (i := 9) (v := undef) rfl (by kernel_rfl) (by kernel_rfl) (by kernel_rfl) (fun _ _ _ h => h) (Or.inr ⟨by rfl, rfl⟩) hSx ?_
      try simp [Act.put]
      refine wpAnyH_take (i := 10) (v := undef) rfl (by kernel_rfl) (by kernel_rfl) (by kernel_rfl) (fun _ _ _ h => h) (Or.inr ⟨by rfl, rfl⟩) hSx ?_
      try simp [Act.put]
      refine wpAnyH_take (i := 11) (v := undef) rfl (by kernel_rfl) (by kernel_rfl) (by kernel_rfl) (fun _ _ _ h => h) (Or.inr ⟨by rfl, rfl⟩) hSx ?_
      try simp [Act.put]
      refine wpAnyH_take (i := 12) (v := undef) rfl (by kernel_rfl) (by kernel_rfl) (by kernel_rfl) (fun _ _ _ h => h) (Or.inr ⟨by rfl, rfl⟩) hSx ?_
      try simp [Act.put]
      refine wpAnyH_take (i := 13) (v := undef) rfl (by kernel_rfl) (by kernel_rfl) (by kernel_rfl) (fun _ _ _ h => h) (Or.inr ⟨by rfl, rfl⟩) hSx ?_
      try simp [Act.put]
      refine wpAnyH_take (i := 14) (v := undef) rfl (by kernel_rfl) (by kernel_rfl) (by kernel_rfl) (fun _ _ _ h => h) (Or.inr ⟨by rfl, rfl⟩) hSx ?_
      try simp [Act.put]
      refine wpAnyH_take (i := 15) (v := undef) rfl (by kernel_rfl) (by kernel_rfl) (by kernel_rfl) (fun _ _ _ h => h) (Or.inr ⟨by rfl, rfl⟩) hSx ?_
      try simp [Act.put]
      refine wpAnyH_take (i := 16) (v := undef) rfl (by kernel_rfl) (by kernel_rfl) (by kernel_rfl) (fun _ _ _ h => h) (Or.inr ⟨by rfl, rfl⟩) hSx ?_
      try simp [Act.put]
      refine wpAnyH_take (i := 17) (v := undef) rfl (by kernel_rfl) (by kernel_rfl) (by kernel_rfl) (fun _ _ _ h => h) (Or.inr ⟨by rfl, rfl⟩) hSx ?_
      try simp [Act.put]
      refine wpAnyH_take (i := 18) (v := undef) rfl (by kernel_rfl) (by kernel_rfl) (by kernel_rfl) (fun _ _ _ h => h) (Or.inr ⟨by rfl, rfl⟩) hSx ?_
      try simp [Act.put]
      refine wpAnyH_take (i := 19) (v := undef) rfl (by kernel_rfl) (by kernel_rfl) (by kernel_rfl) (fun _ _ _ h => h) (Or.inr ⟨by rfl, rfl⟩) hSx ?_
      try simp [Act.put]
      refine wpAnyH_take (i := 20) (v := undef) rfl (by kernel_rfl) (by kernel_rfl) (by kernel_rfl) (fun _ _ _ h => h) (Or.inr ⟨by rfl, rfl⟩) hSx ?_
      try simp [Act.put]
      refine wpAnyH_take (i := 21) (v := undef) rfl (by kernel_rfl) (by kernel_rfl) (by kernel_rfl) (fun _ _ _ h => h) (Or.inr ⟨by rfl, rfl⟩) hSx ?_
      try simp [Act.put]
      refine wpAnyH_take (i := 22) (v := undef) rfl (by kernel_rfl) (by kernel_rfl) (by kernel_rfl) (fun _ _ _ h => h) (Or.inr ⟨by rfl, rfl⟩) hSx ?_
      try simp [Act.put]
      refine wpAnyH_take (i := 23) (v := undef) rfl (by kernel_rfl) (by kernel_rfl) (by kernel_rfl) (fun _ _ _ h => h) (Or.inr ⟨by rfl, rfl⟩) hSx ?_
      try simp [Act.put]
      refine wpAnyH_take (i := 24) (v := undef) rfl (by kernel_rfl) (by kernel_rfl) (by kernel_rfl) (fun _ _ _ h => h) (Or.inr ⟨by rfl, rfl⟩) hSx ?_
      try simp [Act.put]
      refine wpAnyH_take (i := 25) (v := undef) rfl (by kernel_rfl) (by kernel_rfl) (by kernel_rfl) (fun _ _ _ h => h) (Or.inr ⟨by rfl, rfl⟩) hSx ?_
      try simp [Act.put]
      refine wpAnyH_take (i := 26) (v := undef) rfl (by kernel_rfl) (by kernel_rfl) (by kernel_rfl) (fun _ _ _ h => h) (Or.inr ⟨by rfl, rfl⟩) hSx ?_
      try simp [Act.put]
      refine wpAnyH_take (i := 27) (v := undef) rfl (by kernel_rfl) (by kernel_rfl) (by kernel_rfl) (fun _ _ _ h => h) (Or.inr ⟨by rfl, rfl⟩) hSx ?_
      try simp [Act.put]
      refine wpAnyH_take (i := 28) (v := undef) rfl (by kernel_rfl) (by kernel_rfl) (by kernel_rfl) (fun _ _ _ h => h) (Or.inr ⟨by rfl, rfl⟩) hSx ?_
      try simp [Act.put]
      refine wpAnyH_take (i := 29) (v := undef) rfl (by kernel_rfl) (by kernel_rfl) (by kernel_rfl) (fun _ _ _ h => h) (Or.inr ⟨by rfl, rfl⟩) hSx ?_
      try simp [Act.put]
      refine wpAnyH_take (i := 30) (v := undef) rfl (by kernel_rfl) (by kernel_rfl) (by kernel_rfl) (fun _ _ _ h => h) (Or.inr ⟨by rfl, rfl⟩) hSx ?_
      try simp [Act.put]
      refine wpAnyH_take (i := 31) (v := undef) rfl (by kernel_rfl) (by kernel_rfl) (by kernel_rfl) (fun _ _ _ h => h) (Or.inr ⟨by rfl, rfl⟩) hSx ?_
      try simp [Act.put]
      refine wpAnyH_take (i := 32) (v := .bool false) rfl (by kernel_rfl) (by kernel_rfl) (by kernel_rfl) (fun _ _ _ h => h) (Or.inl ⟨by rfl, fun wq hSw => by go_simp⟩) hSx ?_
      try simp [Act.put]
      refine wpAnyH_done (by kernel_rfl) ?_ _
      go_wp2
      go_roundw
      case rel => exact ⟨i + 1, by omega, by go_num, HT.out, HBL3.out.drew⟩
      case measure => simp [intOf]; omega
    have hi1 : 0 < i := by omega
    obtain ⟨hk', hs'⟩ := plc_at (step_sig (HG.out (i - 1) (by omega)))
    obtain ⟨b2, off2, rfl, hbB2, hcc2⟩ := HC.out.2 (by omega)
    have HCA := hid (fun (W : World) (hx : Below w.heap.size w W) (k j : Nat) (h1 : k < ls.length) (h2 : j < 9) => cell_at hx hbB2 hB (hcc2 k j h1 h2))
    have hj0 : (0 : Int) ≤ (i : Int) - 1 := by omega
    have hj1 : (i : Int) - 1 < (os.length : Int) := by omega
    have hj2 : ((i : Int) - 1).toNat = i - 1 := by omega
    have hj3 : IntKind.i64.wrap ((i : Int) - 1) = (i : Int) - 1 := IntWalk.i64_in _ (by omega)
    have hj4 : (1 : Int) ≤ (i : Int) := by omega
    have hj5 : (i : Int) ≤ (os.length : Int) := by omega
    have hj6 : (0 : Int) < (i : Int) := by omega
    have hk1 : ((plc ks ls os d i) : Int) < (ls.length : Int) := by omega
    have hm0 : (0 : Int) ≤ ((plc ks ls os d (i - 1)) : Int) := Int.natCast_nonneg _
    have hm1 : ((plc ks ls os d (i - 1)) : Int) < (ls.length : Int) := by omega
    have HSS : Hid (∀ W : World, Below w3.heap.size w3 W → Calls Try.prog 62 #[v, .slice (some ⟨b2, off2, none⟩) ls.length c2, iv (nth os (i - 1)), iv d] W (Ret (iv ((plc ks ls os d (i - 1)) : Nat)) W)) := hid fun W hx => by rw [← hs']; exact specSignatureOf_any _ _ _ (HV.out.1.below (below_step HBW3.out hx) hB) (HV.out.2.2.below (below_step HBW3.out hx) hB) (Nat.le_trans hB (below_step HBW3.out hx).size)
    have HY : Hid (∀ w' : World, Below w3.heap.size w3 w' → (w'.cell? ⟨w.heap.size, 0, none⟩ = some (.slice (some ⟨b, off, none⟩) os.length c) ∧ w'.cell? ⟨w.heap.size, 1, none⟩ = some (.bool true) ∧ w'.cell? ⟨b, off + (i - 1), none⟩ = some (iv (nth os (i - 1))) ∧ w'.cell? ⟨b2, off2 + (plc ks ls os d i) * 9 + 6, none⟩ = some (iv (fld ls (plc ks ls os d i) 6)) ∧ w'.cell? ⟨b2, off2 + (plc ks ls os d i) * 9 + 2, none⟩ = some (iv (fld ls (plc ks ls os d i) 2)) ∧ w'.cell? ⟨b2, off2 + (plc ks ls os d (i - 1)) * 9, none⟩ = some (iv (fld ls (plc ks ls os d (i - 1)) 0)) ∧ w'.cell? ⟨b2, off2 + (plc ks ls os d (i - 1)) * 9 + 1, none⟩ = some (iv (fld ls (plc ks ls os d (i - 1)) 1)) ∧ w'.cell? ⟨b2, off2 + (plc ks ls os d (i - 1)) * 9 + 2, none⟩ = some (iv (fld ls (plc ks ls os d (i - 1)) 2)) ∧ w'.cell? ⟨b2, off2 + (plc ks ls os d (i - 1)) * 9 + 3, none⟩ = some (iv (fld ls (plc ks ls os d (i - 1)) 3)) ∧ w'.cell? ⟨b2, off2 + (plc ks ls os d (i - 1)) * 9 + 4, none⟩ = some (iv (fld ls (plc ks ls os d (i - 1)) 4)) ∧ w'.cell? ⟨b2, off2 + (plc ks ls os d (i - 1)) * 9 + 5, none⟩ = some (iv (fld ls (plc ks ls os d (i - 1)) 5)) ∧ w'.cell? ⟨b2, off2 + (plc ks ls os d (i - 1)) * 9 + 6, none⟩ = some (iv (fld ls (plc ks ls os d (i - 1)) 6)) ∧ w'.cell? ⟨b2, off2 + (plc ks ls os d (i - 1)) * 9 + 7, none⟩ = some (iv (fld ls (plc ks ls os d (i - 1)) 7)) ∧ w'.cell? ⟨b2, off2 + (plc ks ls os d (i - 1)) * 9 + 8, none⟩ = some (iv (fld ls (plc ks ls os d (i - 1)) 8)))) := hid fun w' hx => ⟨(HQ.out _ (below_step HBL3.out hx)).1, (HQ.out _ (below_step HBL3.out hx)).2, cell_at (below_step HBW3.out hx) hbB hB (HCC.out (i - 1) (by omega)), HCA.out _ (below_step HBW3.out hx) (plc ks ls os d i) 6 hk (by omega), HCA.out _ (below_step HBW3.out hx) (plc ks ls os d i) 2 hk (by omega), (by have := HCA.out _ (below_step HBW3.out hx) (plc ks ls os d (i - 1)) 0 hk' (by omega); rwa [Nat.add_zero] at this), HCA.out _ (below_step HBW3.out hx) (plc ks ls os d (i - 1)) 1 hk' (by omega), HCA.out _ (below_step HBW3.out hx) (plc ks ls os d (i - 1)) 2 hk' (by omega), HCA.out _ (below_step HBW3.out hx) (plc ks ls os d (i - 1)) 3 hk' (by omega), HCA.out _ (below_step HBW3.out hx) (plc ks ls os d (i - 1)) 4 hk' (by omega), HCA.out _ (below_step HBW3.out hx) (plc ks ls os d (i - 1)) 5 hk' (by omega), HCA.out _ (below_step HBW3.out hx) (plc ks ls os d (i - 1)) 6 hk' (by omega), HCA.out _ (below_step HBW3.out hx) (plc ks ls os d (i - 1)) 7 hk' (by omega), HCA.out _ (below_step HBW3.out hx) (plc ks ls os d (i - 1)) 8 hk' (by omega)⟩
    clear hs' hcc2 q0 q1 hq1
    go_wp2_with fail
    go_region_held3 (fun w' => w'.cell? ⟨w.heap.size, 0, none⟩ = some (.slice (some ⟨b, off, none⟩) os.length c) ∧ w'.cell? ⟨w.heap.size, 1, none⟩ = some (.bool true) ∧ w'.cell? ⟨b, off + (i - 1), none⟩ = some (iv (nth os (i - 1))) ∧ w'.cell? ⟨b2, off2 + (plc ks ls os d i) * 9 + 6, none⟩ = some (iv (fld ls (plc ks ls os d i) 6)) ∧ w'.cell? ⟨b2, off2 + (plc ks ls os d i) * 9 + 2, none⟩ = some (iv (fld ls (plc ks ls os d i) 2)) ∧ w'.cell? ⟨b2, off2 + (plc ks ls os d (i - 1)) * 9, none⟩ = some (iv (fld ls (plc ks ls os d (i - 1)) 0)) ∧ w'.cell? ⟨b2, off2 + (plc ks ls os d (i - 1)) * 9 + 1, none⟩ = some (iv (fld ls (plc ks ls os d (i - 1)) 1)) ∧ w'.cell? ⟨b2, off2 + (plc ks ls os d (i - 1)) * 9 + 2, none⟩ = some (iv (fld ls (plc ks ls os d (i - 1)) 2)) ∧ w'.cell? ⟨b2, off2 + (plc ks ls os d (i - 1)) * 9 + 3, none⟩ = some (iv (fld ls (plc ks ls os d (i - 1)) 3)) ∧ w'.cell? ⟨b2, off2 + (plc ks ls os d (i - 1)) * 9 + 4, none⟩ = some (iv (fld ls (plc ks ls os d (i - 1)) 4)) ∧ w'.cell? ⟨b2, off2 + (plc ks ls os d (i - 1)) * 9 + 5, none⟩ = some (iv (fld ls (plc ks ls os d (i - 1)) 5)) ∧ w'.cell? ⟨b2, off2 + (plc ks ls os d (i - 1)) * 9 + 6, none⟩ = some (iv (fld ls (plc ks ls os d (i - 1)) 6)) ∧ w'.cell? ⟨b2, off2 + (plc ks ls os d (i - 1)) * 9 + 7, none⟩ = some (iv (fld ls (plc ks ls os d (i - 1)) 7)) ∧ w'.cell? ⟨b2, off2 + (plc ks ls os d (i - 1)) * 9 + 8, none⟩ = some (iv (fld ls (plc ks ls os d (i - 1)) 8))) (first | with_reducible exact HY.out _ hrf.drew | with_reducible exact HY.out _ HZ1.out | with_reducible exact HY.out _ HZ2.out | go_keep)
      (first | (go_at_call 62; refine (HSS.out _ hrf.drew).mono ?_; rintro e w4 ⟨rfl, hb4⟩; have HZ1 := hid (below_step hrf.drew hb4)) | (go_at_call 95; refine (specSignatureDigest_any _ _ _ _ _ _ _ _ _ _ _).mono ?_; rintro e w5 ⟨rfl, hb5⟩; have HZ2 := hid (below_step HZ1.out hb5)))
    have HBL7 := hid (below_step HBL3.out HZ2.out)
    clear HZ1 HZ2 hrf
    cases hok : refOk ks ls os d i
    · have HT := hid (meets_bad (ks := ks) (ls := ls) (q := true) (d := d) hlt (step_ref hi1 hok))
      have hne : (fld ls (plc ks ls os d i) 6 == digestI (fld ls (plc ks ls os d i) 2) [104, fld ls (plc ks ls os d (i - 1)) 0, fld ls (plc ks ls os d (i - 1)) 1, fld ls (plc ks ls os d (i - 1)) 2, fld ls (plc ks ls os d (i - 1)) 3, fld ls (plc ks ls os d (i - 1)) 4, fld ls (plc ks ls os d (i - 1)) 5, fld ls (plc ks ls os d (i - 1)) 6, fld ls (plc ks ls os d (i - 1)) 7, fld ls (plc ks ls os d (i - 1)) 8]) = false := hok
      have hne2 : (fld ls (plc ks ls os d i) 6 != digestI (fld ls (plc ks ls os d i) 2) [104, fld ls (plc ks ls os d (i - 1)) 0, fld ls (plc ks ls os d (i - 1)) 1, fld ls (plc ks ls os d (i - 1)) 2, fld ls (plc ks ls os d (i - 1)) 3, fld ls (plc ks ls os d (i - 1)) 4, fld ls (plc ks ls os d (i - 1)) 5, fld ls (plc ks ls os d (i - 1)) 6, fld ls (plc ks ls os d (i - 1)) 7, fld ls (plc ks ls os d (i - 1)) 8]) = true := by rw [bne, hne]; rfl
      clear hok HG HC hr
      go_wp2
      go_ret
      exact ⟨ret_bool HT.out, below_step H0.out HBL7.out⟩
    · have HT := hid (AG_succ HG.out (step_yes (q := true) hsp hok))
      have hne : (fld ls (plc ks ls os d i) 6 == digestI (fld ls (plc ks ls os d i) 2) [104, fld ls (plc ks ls os d (i - 1)) 0, fld ls (plc ks ls os d (i - 1)) 1, fld ls (plc ks ls os d (i - 1)) 2, fld ls (plc ks ls os d (i - 1)) 3, fld ls (plc ks ls os d (i - 1)) 4, fld ls (plc ks ls os d (i - 1)) 5, fld ls (plc ks ls os d (i - 1)) 6, fld ls (plc ks ls os d (i - 1)) 7, fld ls (plc ks ls os d (i - 1)) 8]) = true := hok
      have hne2 : (fld ls (plc ks ls os d i) 6 != digestI (fld ls (plc ks ls os d i) 2) [104, fld ls (plc ks ls os d (i - 1)) 0, fld ls (plc ks ls os d (i - 1)) 1, fld ls (plc ks ls os d (i - 1)) 2, fld ls (plc ks ls os d (i - 1)) 3, fld ls (plc ks ls os d (i - 1)) 4, fld ls (plc ks ls os d (i - 1)) 5, fld ls (plc ks ls os d (i - 1)) 6, fld ls (plc ks ls os d (i - 1)) 7, fld ls (plc ks ls os d (i - 1)) 8]) = false := by rw [bne, hne]; rfl
      clear hok HG HC hr
      go_wp2
      go_roundw
      case rel => exact ⟨i + 1, by omega, by go_num, HT.out, HBL7.out⟩
      case measure => simp [intOf]; omega

end Go.Proofs.Ytkdpfbodmfjkkaa
