/- SignatureOf of the program and of the reference: the place of the first valid signature of an owner over a digest, or -1. No condition. -/
import Derived.Test.YtkdpfbodmfjkkaaRows
import Derived.Test.YtkdpfbodmfjkkaaPlain
import Derived.Test.YtkdpfbodmfjkkaaFindKey
import Derived.Test.YtkdpfbodmfjkkaaCheckSignature
namespace Go.Proofs.Ytkdpfbodmfjkkaa
open Go.RowKit

def isSig (ks ls : List (List Int)) (o d : Int) (k : Nat) : Bool := checkSignatureB ks (fld ls k 0) (fld ls k 1) (fld ls k 2) (fld ls k 3) (fld ls k 4) (fld ls k 5) (fld ls k 6) (fld ls k 7) (fld ls k 8) && (ownerOf (fld ls k 0) ks == o) && (fld ls k 3 == d)
def noSig (ks ls : List (List Int)) (o d : Int) (k : Nat) : Bool := !isSig ks ls o d k
def sigOf (ks ls : List (List Int)) (o d : Int) : Int := match (List.range ls.length).find? (isSig ks ls o d) with | some k => (k : Int) | none => -1
theorem sigOf_hit {ks ls : List (List Int)} {o d : Int} {k : Nat} (h : AG (noSig ks ls o d) k) (hk : k < ls.length) (e : isSig ks ls o d k = true) : (k : Int) = sigOf ks ls o d := by
  have hf : (List.range ls.length).find? (isSig ks ls o d) = some k := by
    rw [List.find?_range_eq_some]
    exact ⟨e, by simpa using hk, fun j hj => h j hj⟩
  unfold sigOf; rw [hf]
theorem sigOf_miss {ks ls : List (List Int)} {o d : Int} (h : AG (noSig ks ls o d) ls.length) : -1 = sigOf ks ls o d := by
  have hf : (List.range ls.length).find? (isSig ks ls o d) = none := by
    rw [List.find?_range_eq_none]
    exact fun j hj => h j hj
  unfold sigOf; rw [hf]
theorem sigOf_range (ks ls : List (List Int)) (o d : Int) : sigOf ks ls o d = -1 ∨ ∃ k : Nat, k < ls.length ∧ sigOf ks ls o d = k ∧ isSig ks ls o d k = true := by
  unfold sigOf
  cases h : (List.range ls.length).find? (isSig ks ls o d) with
  | none => exact .inl rfl
  | some k =>
    rw [List.find?_range_eq_some] at h
    exact .inr ⟨k, by simpa using h.2.1, rfl, h.1⟩

set_option maxRecDepth 4000 in
set_option maxHeartbeats 4000000 in
theorem implSignatureOf_any {B : Nat} {ks ls : List (List Int)} {v u : Value} (o d : Int) (w : World) (h : Sl B w 5 v ks) (g : Sl B w 9 u ls) (hB : B ≤ w.heap.size) :
    Calls Try.prog 63 #[v, u, iv o, iv d] w (Ret (iv (sigOf ks ls o d)) w) := by
  obtain ⟨A, c, rfl, hc1, hc2, -, hcell⟩ := g
  have HC := hid hcell
  have HV := hid h
  clear hcell h
  go_enter Try.func63, Try.ntmps63
  go_wp2
  go_loopw [13] (fun i wr => ∃ k : Nat, k ≤ ls.length ∧ i = .int .i64 k ∧ AG (noSig ks ls o d) k ∧ Below w.heap.size w wr) (fun i _ => ls.length - (intOf i).toNat)
  case atStart => exact ⟨0, Nat.zero_le _, rfl, AG_zero _, Below.refl _ _⟩
  case round =>
    obtain ⟨k, hk, rfl, hg, hb⟩ := hrel
    have HG := hid hg
    clear hg
    by_cases hlt : k < ls.length
    · obtain ⟨b, off, rfl, hbB, hcc⟩ := HC.out (by omega)
      have c0 := cell_at hb hbB hB (hcc k 0 hlt (by omega))
      have c1 := cell_at hb hbB hB (hcc k 1 hlt (by omega))
      have c2 := cell_at hb hbB hB (hcc k 2 hlt (by omega))
      have c3 := cell_at hb hbB hB (hcc k 3 hlt (by omega))
      have c4 := cell_at hb hbB hB (hcc k 4 hlt (by omega))
      have c5 := cell_at hb hbB hB (hcc k 5 hlt (by omega))
      have c6 := cell_at hb hbB hB (hcc k 6 hlt (by omega))
      have c7 := cell_at hb hbB hB (hcc k 7 hlt (by omega))
      have c8 := cell_at hb hbB hB (hcc k 8 hlt (by omega))
      rw [Nat.add_zero] at c0
      have hbl : b < wr.heap.size := by have := hb.size; omega
      have HBL := hid (hb.alloc hb.size (.cells #[iv (fld ls k 0), iv (fld ls k 1), iv (fld ls k 2), iv (fld ls k 3), iv (fld ls k 4), iv (fld ls k 5), iv (fld ls k 6), iv (fld ls k 7), iv (fld ls k 8)] 117))
      clear HC hcc hb
      cases hs : checkSignatureB ks (fld ls k 0) (fld ls k 1) (fld ls k 2) (fld ls k 3) (fld ls k 4) (fld ls k 5) (fld ls k 6) (fld ls k 7) (fld ls k 8)
      · skip
        have HT := hid (AG_succ HG.out (show noSig ks ls o d k = true by simp [noSig, isSig, hs]))
        have HSB : Hid (∀ (W : World), Sl B W 5 v ks → B ≤ W.heap.size → Calls Try.prog 73 #[v, .agg #[iv (fld ls k 0), iv (fld ls k 1), iv (fld ls k 2), iv (fld ls k 3), iv (fld ls k 4), iv (fld ls k 5), iv (fld ls k 6), iv (fld ls k 7), iv (fld ls k 8)]] W (Ret (.bool false) W)) := hid fun W h1 h2 => by rw [← hs]; exact implCheckSignature_any _ _ _ _ _ _ _ _ _ W h1 h2
        clear HG hs
        go_wp2_with fail
        refine (HSB.out _ (HV.out.below HBL.out hB) (Nat.le_trans hB HBL.out.size)).mono ?_
        rintro e w1 ⟨rfl, hb1⟩
        have HB1 := hid (below_step HBL.out hb1)
        clear hb1
        go_wp2
        go_roundw
        case rel => exact ⟨k + 1, by omega, by go_num, HT.out, HB1.out⟩
        case measure => simp [intOf]; omega
      · cases ho : (ownerOf (fld ls k 0) ks == o)
        · skip
          have HT := hid (AG_succ HG.out (show noSig ks ls o d k = true by simp [noSig, isSig, ho]))
          have HSB : Hid (∀ (W : World), Sl B W 5 v ks → B ≤ W.heap.size → Calls Try.prog 73 #[v, .agg #[iv (fld ls k 0), iv (fld ls k 1), iv (fld ls k 2), iv (fld ls k 3), iv (fld ls k 4), iv (fld ls k 5), iv (fld ls k 6), iv (fld ls k 7), iv (fld ls k 8)]] W (Ret (.bool true) W)) := hid fun W h1 h2 => by rw [← hs]; exact implCheckSignature_any _ _ _ _ _ _ _ _ _ W h1 h2
          clear HG hs
          go_wp2_with fail
          refine (HSB.out _ (HV.out.below HBL.out hB) (Nat.le_trans hB HBL.out.size)).mono ?_
          rintro e w1 ⟨rfl, hb1⟩
          have HB1 := hid (below_step HBL.out hb1)
          have e10 := (hb1.cell (p := ⟨wr.heap.size, 0, none⟩) (by simp)).trans (show _ = some (iv (fld ls k 0)) by simp [go_sem])
          have e13 := (hb1.cell (p := ⟨wr.heap.size, 3, none⟩) (by simp)).trans (show _ = some (iv (fld ls k 3)) by simp [go_sem])
          go_wp2_with fail
          refine (implOwnerOf_any _ _ (HV.out.below HB1.out hB) (Nat.le_trans hB HB1.out.size)).mono ?_
          rintro e w2 ⟨rfl, hb2⟩
          have HB2 := hid (below_step HB1.out hb2)
          have e23 := (hb2.cell (p := ⟨wr.heap.size, 3, none⟩) (by have := hb1.size; simp at this; show wr.heap.size < _; omega)).trans (show _ = some (iv (fld ls k 3)) by exact e13)
          clear hb1 hb2 e10 e13
          go_wp2
          go_roundw
          case rel => exact ⟨k + 1, by omega, by go_num, HT.out, HB2.out⟩
          case measure => simp [intOf]; omega
        · cases hd : (fld ls k 3 == d)
          · skip
            have HT := hid (AG_succ HG.out (show noSig ks ls o d k = true by simp [noSig, isSig, hd]))
            have HSB : Hid (∀ (W : World), Sl B W 5 v ks → B ≤ W.heap.size → Calls Try.prog 73 #[v, .agg #[iv (fld ls k 0), iv (fld ls k 1), iv (fld ls k 2), iv (fld ls k 3), iv (fld ls k 4), iv (fld ls k 5), iv (fld ls k 6), iv (fld ls k 7), iv (fld ls k 8)]] W (Ret (.bool true) W)) := hid fun W h1 h2 => by rw [← hs]; exact implCheckSignature_any _ _ _ _ _ _ _ _ _ W h1 h2
            clear HG hs
            go_wp2_with fail
            refine (HSB.out _ (HV.out.below HBL.out hB) (Nat.le_trans hB HBL.out.size)).mono ?_
            rintro e w1 ⟨rfl, hb1⟩
            have HB1 := hid (below_step HBL.out hb1)
            have e10 := (hb1.cell (p := ⟨wr.heap.size, 0, none⟩) (by simp)).trans (show _ = some (iv (fld ls k 0)) by simp [go_sem])
            have e13 := (hb1.cell (p := ⟨wr.heap.size, 3, none⟩) (by simp)).trans (show _ = some (iv (fld ls k 3)) by simp [go_sem])
            go_wp2_with fail
            refine (implOwnerOf_any _ _ (HV.out.below HB1.out hB) (Nat.le_trans hB HB1.out.size)).mono ?_
            rintro e w2 ⟨rfl, hb2⟩
            have HB2 := hid (below_step HB1.out hb2)
            have e23 := (hb2.cell (p := ⟨wr.heap.size, 3, none⟩) (by have := hb1.size; simp at this; show wr.heap.size < _; omega)).trans (show _ = some (iv (fld ls k 3)) by exact e13)
            clear hb1 hb2 e10 e13
            go_wp2
            go_roundw
            case rel => exact ⟨k + 1, by omega, by go_num, HT.out, HB2.out⟩
            case measure => simp [intOf]; omega
          · skip
            have HT := hid (sigOf_hit HG.out hlt (show isSig ks ls o d k = true by simp [isSig, hs, ho, hd]))
            have HSB : Hid (∀ (W : World), Sl B W 5 v ks → B ≤ W.heap.size → Calls Try.prog 73 #[v, .agg #[iv (fld ls k 0), iv (fld ls k 1), iv (fld ls k 2), iv (fld ls k 3), iv (fld ls k 4), iv (fld ls k 5), iv (fld ls k 6), iv (fld ls k 7), iv (fld ls k 8)]] W (Ret (.bool true) W)) := hid fun W h1 h2 => by rw [← hs]; exact implCheckSignature_any _ _ _ _ _ _ _ _ _ W h1 h2
            clear HG hs
            go_wp2_with fail
            refine (HSB.out _ (HV.out.below HBL.out hB) (Nat.le_trans hB HBL.out.size)).mono ?_
            rintro e w1 ⟨rfl, hb1⟩
            have HB1 := hid (below_step HBL.out hb1)
            have e10 := (hb1.cell (p := ⟨wr.heap.size, 0, none⟩) (by simp)).trans (show _ = some (iv (fld ls k 0)) by simp [go_sem])
            have e13 := (hb1.cell (p := ⟨wr.heap.size, 3, none⟩) (by simp)).trans (show _ = some (iv (fld ls k 3)) by simp [go_sem])
            go_wp2_with fail
            refine (implOwnerOf_any _ _ (HV.out.below HB1.out hB) (Nat.le_trans hB HB1.out.size)).mono ?_
            rintro e w2 ⟨rfl, hb2⟩
            have HB2 := hid (below_step HB1.out hb2)
            have e23 := (hb2.cell (p := ⟨wr.heap.size, 3, none⟩) (by have := hb1.size; simp at this; show wr.heap.size < _; omega)).trans (show _ = some (iv (fld ls k 3)) by exact e13)
            clear hb1 hb2 e10 e13
            go_wp2
            go_ret
            exact ⟨ret_int HT.out, HB2.out⟩
    · obtain rfl : k = ls.length := by omega
      have HT := hid (sigOf_miss HG.out)
      have HB := hid hb
      clear hb HG
      go_wp2
      go_ret
      exact ⟨ret_int HT.out, HB.out⟩

set_option maxRecDepth 4000 in
set_option maxHeartbeats 4000000 in
theorem specSignatureOf_any {B : Nat} {ks ls : List (List Int)} {v u : Value} (o d : Int) (w : World) (h : Sl B w 5 v ks) (g : Sl B w 9 u ls) (hB : B ≤ w.heap.size) :
    Calls Try.prog 62 #[v, u, iv o, iv d] w (Ret (iv (sigOf ks ls o d)) w) := by
  obtain ⟨A, c, rfl, hc1, hc2, -, hcell⟩ := g
  have HC := hid hcell
  have HV := hid h
  clear hcell h
  go_enter Try.func62, Try.ntmps62
  go_wp2
  go_loopw [9] (fun i wr => ∃ k : Nat, k ≤ ls.length ∧ i = .int .i64 k ∧ AG (noSig ks ls o d) k ∧ Below w.heap.size w wr) (fun i _ => ls.length - (intOf i).toNat)
  case atStart => exact ⟨0, Nat.zero_le _, rfl, AG_zero _, Below.refl _ _⟩
  case round =>
    obtain ⟨k, hk, rfl, hg, hb⟩ := hrel
    have HG := hid hg
    clear hg
    by_cases hlt : k < ls.length
    · obtain ⟨b, off, rfl, hbB, hcc⟩ := HC.out (by omega)
      have c0 := cell_at hb hbB hB (hcc k 0 hlt (by omega))
      have c1 := cell_at hb hbB hB (hcc k 1 hlt (by omega))
      have c2 := cell_at hb hbB hB (hcc k 2 hlt (by omega))
      have c3 := cell_at hb hbB hB (hcc k 3 hlt (by omega))
      have c4 := cell_at hb hbB hB (hcc k 4 hlt (by omega))
      have c5 := cell_at hb hbB hB (hcc k 5 hlt (by omega))
      have c6 := cell_at hb hbB hB (hcc k 6 hlt (by omega))
      have c7 := cell_at hb hbB hB (hcc k 7 hlt (by omega))
      have c8 := cell_at hb hbB hB (hcc k 8 hlt (by omega))
      rw [Nat.add_zero] at c0
      have hbl : b < wr.heap.size := by have := hb.size; omega
      have HBL := hid hb
      clear HC hcc hb
      cases hs : checkSignatureB ks (fld ls k 0) (fld ls k 1) (fld ls k 2) (fld ls k 3) (fld ls k 4) (fld ls k 5) (fld ls k 6) (fld ls k 7) (fld ls k 8)
      · skip
        have HT := hid (AG_succ HG.out (show noSig ks ls o d k = true by simp [noSig, isSig, hs]))
        have HSB : Hid (∀ (W : World), Sl B W 5 v ks → B ≤ W.heap.size → Calls Try.prog 127 #[v, .agg #[iv (fld ls k 0), iv (fld ls k 1), iv (fld ls k 2), iv (fld ls k 3), iv (fld ls k 4), iv (fld ls k 5), iv (fld ls k 6), iv (fld ls k 7), iv (fld ls k 8)]] W (Ret (.bool false) W)) := hid fun W h1 h2 => by rw [← hs]; exact specCheckSignature_any _ _ _ _ _ _ _ _ _ W h1 h2
        clear HG hs
        go_wp2_with fail
        refine (HSB.out _ (HV.out.below HBL.out hB) (Nat.le_trans hB HBL.out.size)).mono ?_
        rintro e w1 ⟨rfl, hb1⟩
        have HB1 := hid (below_step HBL.out hb1)
        clear hb1
        go_wp2
        go_roundw
        case rel => exact ⟨k + 1, by omega, by go_num, HT.out, HB1.out⟩
        case measure => simp [intOf]; omega
      · cases ho : (ownerOf (fld ls k 0) ks == o)
        · skip
          have HT := hid (AG_succ HG.out (show noSig ks ls o d k = true by simp [noSig, isSig, ho]))
          have HSB : Hid (∀ (W : World), Sl B W 5 v ks → B ≤ W.heap.size → Calls Try.prog 127 #[v, .agg #[iv (fld ls k 0), iv (fld ls k 1), iv (fld ls k 2), iv (fld ls k 3), iv (fld ls k 4), iv (fld ls k 5), iv (fld ls k 6), iv (fld ls k 7), iv (fld ls k 8)]] W (Ret (.bool true) W)) := hid fun W h1 h2 => by rw [← hs]; exact specCheckSignature_any _ _ _ _ _ _ _ _ _ W h1 h2
          clear HG hs
          go_wp2_with fail
          refine (HSB.out _ (HV.out.below HBL.out hB) (Nat.le_trans hB HBL.out.size)).mono ?_
          rintro e w1 ⟨rfl, hb1⟩
          have HB1 := hid (below_step HBL.out hb1)
          have e10 := (hb1.cell (p := ⟨b, off + k * 9, none⟩) (by show b < _; omega)).trans c0
          have e13 := (hb1.cell (p := ⟨b, off + k * 9 + 3, none⟩) (by show b < _; omega)).trans c3
          go_wp2_with fail
          refine (specOwnerOf_any _ _ (HV.out.below HB1.out hB) (Nat.le_trans hB HB1.out.size)).mono ?_
          rintro e w2 ⟨rfl, hb2⟩
          have HB2 := hid (below_step HB1.out hb2)
          have e23 := (hb2.cell (p := ⟨b, off + k * 9 + 3, none⟩) (by have := hb1.size; show b < _; omega)).trans e13
          clear hb1 hb2 e10 e13
          go_wp2
          go_roundw
          case rel => exact ⟨k + 1, by omega, by go_num, HT.out, HB2.out⟩
          case measure => simp [intOf]; omega
        · cases hd : (fld ls k 3 == d)
          · skip
            have HT := hid (AG_succ HG.out (show noSig ks ls o d k = true by simp [noSig, isSig, hd]))
            have HSB : Hid (∀ (W : World), Sl B W 5 v ks → B ≤ W.heap.size → Calls Try.prog 127 #[v, .agg #[iv (fld ls k 0), iv (fld ls k 1), iv (fld ls k 2), iv (fld ls k 3), iv (fld ls k 4), iv (fld ls k 5), iv (fld ls k 6), iv (fld ls k 7), iv (fld ls k 8)]] W (Ret (.bool true) W)) := hid fun W h1 h2 => by rw [← hs]; exact specCheckSignature_any _ _ _ _ _ _ _ _ _ W h1 h2
            clear HG hs
            go_wp2_with fail
            refine (HSB.out _ (HV.out.below HBL.out hB) (Nat.le_trans hB HBL.out.size)).mono ?_
            rintro e w1 ⟨rfl, hb1⟩
            have HB1 := hid (below_step HBL.out hb1)
            have e10 := (hb1.cell (p := ⟨b, off + k * 9, none⟩) (by show b < _; omega)).trans c0
            have e13 := (hb1.cell (p := ⟨b, off + k * 9 + 3, none⟩) (by show b < _; omega)).trans c3
            go_wp2_with fail
            refine (specOwnerOf_any _ _ (HV.out.below HB1.out hB) (Nat.le_trans hB HB1.out.size)).mono ?_
            rintro e w2 ⟨rfl, hb2⟩
            have HB2 := hid (below_step HB1.out hb2)
            have e23 := (hb2.cell (p := ⟨b, off + k * 9 + 3, none⟩) (by have := hb1.size; show b < _; omega)).trans e13
            clear hb1 hb2 e10 e13
            go_wp2
            go_roundw
            case rel => exact ⟨k + 1, by omega, by go_num, HT.out, HB2.out⟩
            case measure => simp [intOf]; omega
          · skip
            have HT := hid (sigOf_hit HG.out hlt (show isSig ks ls o d k = true by simp [isSig, hs, ho, hd]))
            have HSB : Hid (∀ (W : World), Sl B W 5 v ks → B ≤ W.heap.size → Calls Try.prog 127 #[v, .agg #[iv (fld ls k 0), iv (fld ls k 1), iv (fld ls k 2), iv (fld ls k 3), iv (fld ls k 4), iv (fld ls k 5), iv (fld ls k 6), iv (fld ls k 7), iv (fld ls k 8)]] W (Ret (.bool true) W)) := hid fun W h1 h2 => by rw [← hs]; exact specCheckSignature_any _ _ _ _ _ _ _ _ _ W h1 h2
            clear HG hs
            go_wp2_with fail
            refine (HSB.out _ (HV.out.below HBL.out hB) (Nat.le_trans hB HBL.out.size)).mono ?_
            rintro e w1 ⟨rfl, hb1⟩
            have HB1 := hid (below_step HBL.out hb1)
            have e10 := (hb1.cell (p := ⟨b, off + k * 9, none⟩) (by show b < _; omega)).trans c0
            have e13 := (hb1.cell (p := ⟨b, off + k * 9 + 3, none⟩) (by show b < _; omega)).trans c3
            go_wp2_with fail
            refine (specOwnerOf_any _ _ (HV.out.below HB1.out hB) (Nat.le_trans hB HB1.out.size)).mono ?_
            rintro e w2 ⟨rfl, hb2⟩
            have HB2 := hid (below_step HB1.out hb2)
            have e23 := (hb2.cell (p := ⟨b, off + k * 9 + 3, none⟩) (by have := hb1.size; show b < _; omega)).trans e13
            clear hb1 hb2 e10 e13
            go_wp2
            go_ret
            exact ⟨ret_int HT.out, HB2.out⟩
    · obtain rfl : k = ls.length := by omega
      have HT := hid (sigOf_miss HG.out)
      have HB := hid hb
      clear hb HG
      go_wp2
      go_ret
      exact ⟨ret_int HT.out, HB.out⟩

end Go.Proofs.Ytkdpfbodmfjkkaa
