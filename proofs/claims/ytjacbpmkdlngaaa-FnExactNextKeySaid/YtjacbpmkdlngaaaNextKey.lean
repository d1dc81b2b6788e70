/- CheckSuccession and NextKey of the program and of the reference return what the plain functions say. No condition. -/
import Derived.Test.YtjacbpmkdlngaaaRows
import Derived.Test.YtjacbpmkdlngaaaPlain
import Derived.Test.YtjacbpmkdlngaaaCheckSuccession
namespace Go.Proofs.Ytjacbpmkdlngaaa
open Go.RowKit

def succB (ks : List (List Int)) (a0 a1 a2 a3 : Int) : Bool :=
  decide (0 ≤ findI 0 a0 ks) && decide (0 ≤ findI 0 a1 ks) && !(a0 == a1) && (fld ks (findI 0 a0 ks).toNat 1 == fld ks (findI 0 a1 ks).toNat 1) && timeB a2 && (markW (fld ks (findI 0 a0 ks).toNat 2) (fld ks (findI 0 a0 ks).toNat 4) [106, a0, a1, a2] == a3)
def isNext (ks ls : List (List Int)) (key t : Int) (k : Nat) : Bool := (fld ls k 0 == key) && decide (fld ls k 2 ≤ t) && succB ks (fld ls k 0) (fld ls k 1) (fld ls k 2) (fld ls k 3)
def noNext (ks ls : List (List Int)) (key t : Int) (k : Nat) : Bool := !isNext ks ls key t k
def nextI (ks ls : List (List Int)) (key t : Int) : Int := match (List.range ls.length).find? (isNext ks ls key t) with | some k => fld ls k 1 | none => 0
theorem nextI_hit {ks ls : List (List Int)} {key t : Int} {k : Nat} (h : AG (noNext ks ls key t) k) (hk : k < ls.length) (e : isNext ks ls key t k = true) : fld ls k 1 = nextI ks ls key t := by
  have hf : (List.range ls.length).find? (isNext ks ls key t) = some k := by
    rw [List.find?_range_eq_some]
    exact ⟨e, by simpa using hk, fun j hj => h j hj⟩
  unfold nextI; rw [hf]
theorem nextI_miss {ks ls : List (List Int)} {key t : Int} (h : AG (noNext ks ls key t) ls.length) : 0 = nextI ks ls key t := by
  have hf : (List.range ls.length).find? (isNext ks ls key t) = none := by
    rw [List.find?_range_eq_none]
    exact fun j hj => h j hj
  unfold nextI; rw [hf]

theorem implCheckSuccession_any {B : Nat} {ks : List (List Int)} {v : Value} (a0 a1 a2 a3 : Int) (w : World) (h : Sl B w 5 v ks) (hB : B ≤ w.heap.size) :
    Calls Try.prog 30 #[v, .agg #[iv a0, iv a1, iv a2, iv a3]] w (Ret (.bool (succB ks a0 a1 a2 a3)) w) := by
  rcases findI_range 0 a0 ks with hf | ⟨i, hi, hf, -⟩
  · exact ret_cast (by simp [succB, hf]) (implCheckSuccession_any_no a0 a1 a2 a3 w h hB (.inl hf))
  · rcases findI_range 0 a1 ks with hf2 | ⟨k, hk, hf2, -⟩
    · exact ret_cast (by simp [succB, hf2]) (implCheckSuccession_any_no a0 a1 a2 a3 w h hB (.inr (.inl hf2)))
    · cases hne : (a0 == a1)
      · cases how : (fld ks i 1 == fld ks k 1)
        · exact ret_cast (by simp [succB, hf, hf2, how]) (implCheckSuccession_any_no a0 a1 a2 a3 w h hB (.inr (.inr (.inr (.inl ⟨i, k, hf, hf2, how⟩)))))
        · cases ht : timeB a2
          · exact ret_cast (by simp [succB, ht]) (implCheckSuccession_any_no a0 a1 a2 a3 w h hB (.inr (.inr (.inr (.inr ht)))))
          · exact ret_cast (by simp [succB, hf, hf2, hne, how, ht]) (implCheckSuccession_any_yes a0 a1 a2 a3 w h hB i hi hf k hk hf2 hne how ht)
      · exact ret_cast (by simp [succB, hne]) (implCheckSuccession_any_no a0 a1 a2 a3 w h hB (.inr (.inr (.inl hne))))
set_option maxHeartbeats 4000000 in
theorem implNextKey_any {B : Nat} {ks ls : List (List Int)} {v u : Value} (key t : Int) (w : World) (h : Sl B w 5 v ks) (g : Sl B w 4 u ls) (hB : B ≤ w.heap.size) :
    Calls Try.prog 55 #[v, u, iv key, iv t] w (Ret (iv (nextI ks ls key t)) w) := by
  obtain ⟨A, c, rfl, hc1, hc2, -, hcell⟩ := g
  have HC := hid hcell
  have HV := hid h
  clear hcell h
  go_enter Try.func55, Try.ntmps55
  go_wp2
  go_loopw [13] (fun i wr => ∃ k : Nat, k ≤ ls.length ∧ i = .int .i64 k ∧ AG (noNext ks ls key t) k ∧ Below w.heap.size w wr) (fun i _ => ls.length - (intOf i).toNat)
  case atStart => exact ⟨0, Nat.zero_le _, rfl, AG_zero _, Below.refl _ _⟩
  case round =>
    obtain ⟨k, hk, rfl, hg, hb⟩ := hrel
    have HG := hid hg
    clear hg
    by_cases hlt : k < ls.length
    · obtain ⟨b, off, rfl, hbB, hcc⟩ := HC.out (by omega)
      have c0 := cell_at hb hbB hB (hcc k 0 hlt (by omega))
      have c1 := cell_at hb hbB hB (hcc k 1 hlt (by omega))
      have c2 := cell_at hb hbB hB (hcc k 2 hlt (by omega))
      have c3 := cell_at hb hbB hB (hcc k 3 hlt (by omega))
      rw [Nat.add_zero] at c0
      have hbl : b < wr.heap.size := by have := hb.size; omega
      have HBL := hid (hb.alloc hb.size (.cells #[iv (fld ls k 0), iv (fld ls k 1), iv (fld ls k 2), iv (fld ls k 3)] 47))
      clear HC hcc hb
      cases h0 : (fld ls k 0 == key)
      · have HT := hid (AG_succ HG.out (show noNext ks ls key t k = true by simp [noNext, isNext, h0]))
        clear HG
        go_wp2
        go_roundw
        case rel => exact ⟨k + 1, by omega, by go_num, HT.out, HBL.out⟩
        case measure => simp [intOf]; omega
      · by_cases h2 : fld ls k 2 ≤ t
        · cases hs : succB ks (fld ls k 0) (fld ls k 1) (fld ls k 2) (fld ls k 3)
          · have HT := hid (AG_succ HG.out (show noNext ks ls key t k = true by simp [noNext, isNext, hs]))
            have HSB := hid hs
            clear HG hs
            go_wp2_with fail
            refine (ret_cast (y := .bool false) (by rw [HSB.out]) (implCheckSuccession_any _ _ _ _ _ (HV.out.below HBL.out hB) (Nat.le_trans hB HBL.out.size))).mono ?_
            rintro e w1 ⟨rfl, hb1⟩
            have HB1 := hid (below_step HBL.out hb1)
            clear hb1
            go_wp2
            go_roundw
            case rel => exact ⟨k + 1, by omega, by go_num, HT.out, HB1.out⟩
            case measure => simp [intOf]; omega
          · have HT := hid (nextI_hit HG.out hlt (show isNext ks ls key t k = true by simp [isNext, h0, h2, hs]))
            have HSB := hid hs
            clear HG hs
            go_wp2_with fail
            refine (ret_cast (y := .bool true) (by rw [HSB.out]) (implCheckSuccession_any _ _ _ _ _ (HV.out.below HBL.out hB) (Nat.le_trans hB HBL.out.size))).mono ?_
            rintro e w1 ⟨rfl, hb1⟩
            have HB1 := hid (below_step HBL.out hb1)
            have e1 := (hb1.cell (p := ⟨wr.heap.size, 1, none⟩) (by simp)).trans (show _ = some (iv (fld ls k 1)) by simp [go_sem])
            clear hb1
            go_wp2
            go_ret
            exact ⟨ret_int HT.out, HB1.out⟩
        · have HT := hid (AG_succ HG.out (show noNext ks ls key t k = true by simp [noNext, isNext, h2]))
          clear HG
          go_wp2
          go_roundw
          case rel => exact ⟨k + 1, by omega, by go_num, HT.out, HBL.out⟩
          case measure => simp [intOf]; omega
    · obtain rfl : k = ls.length := by omega
      have HT := hid (nextI_miss HG.out)
      have HB := hid hb
      clear hb HG
      go_wp2
      go_ret
      exact ⟨ret_int HT.out, HB.out⟩
theorem specCheckSuccession_any {B : Nat} {ks : List (List Int)} {v : Value} (a0 a1 a2 a3 : Int) (w : World) (h : Sl B w 5 v ks) (hB : B ≤ w.heap.size) :
    Calls Try.prog 28 #[v, .agg #[iv a0, iv a1, iv a2, iv a3]] w (Ret (.bool (succB ks a0 a1 a2 a3)) w) := by
  rcases findI_range 0 a0 ks with hf | ⟨i, hi, hf, -⟩
  · exact ret_cast (by simp [succB, hf]) (specCheckSuccession_any_no a0 a1 a2 a3 w h hB (.inl hf))
  · rcases findI_range 0 a1 ks with hf2 | ⟨k, hk, hf2, -⟩
    · exact ret_cast (by simp [succB, hf2]) (specCheckSuccession_any_no a0 a1 a2 a3 w h hB (.inr (.inl hf2)))
    · cases hne : (a0 == a1)
      · cases how : (fld ks i 1 == fld ks k 1)
        · exact ret_cast (by simp [succB, hf, hf2, how]) (specCheckSuccession_any_no a0 a1 a2 a3 w h hB (.inr (.inr (.inr (.inl ⟨i, k, hf, hf2, how⟩)))))
        · cases ht : timeB a2
          · exact ret_cast (by simp [succB, ht]) (specCheckSuccession_any_no a0 a1 a2 a3 w h hB (.inr (.inr (.inr (.inr ht)))))
          · exact ret_cast (by simp [succB, hf, hf2, hne, how, ht]) (specCheckSuccession_any_yes a0 a1 a2 a3 w h hB i hi hf k hk hf2 hne how ht)
      · exact ret_cast (by simp [succB, hne]) (specCheckSuccession_any_no a0 a1 a2 a3 w h hB (.inr (.inr (.inl hne))))
set_option maxHeartbeats 4000000 in
theorem specNextKey_any {B : Nat} {ks ls : List (List Int)} {v u : Value} (key t : Int) (w : World) (h : Sl B w 5 v ks) (g : Sl B w 4 u ls) (hB : B ≤ w.heap.size) :
    Calls Try.prog 53 #[v, u, iv key, iv t] w (Ret (iv (nextI ks ls key t)) w) := by
  obtain ⟨A, c, rfl, hc1, hc2, -, hcell⟩ := g
  have HC := hid hcell
  have HV := hid h
  clear hcell h
  go_enter Try.func53, Try.ntmps53
  go_wp2
  go_loopw [9] (fun i wr => ∃ k : Nat, k ≤ ls.length ∧ i = .int .i64 k ∧ AG (noNext ks ls key t) k ∧ Below w.heap.size w wr) (fun i _ => ls.length - (intOf i).toNat)
  case atStart => exact ⟨0, Nat.zero_le _, rfl, AG_zero _, Below.refl _ _⟩
  case round =>
    obtain ⟨k, hk, rfl, hg, hb⟩ := hrel
    have HG := hid hg
    clear hg
    by_cases hlt : k < ls.length
    · obtain ⟨b, off, rfl, hbB, hcc⟩ := HC.out (by omega)
      have c0 := cell_at hb hbB hB (hcc k 0 hlt (by omega))
      have c1 := cell_at hb hbB hB (hcc k 1 hlt (by omega))
      have c2 := cell_at hb hbB hB (hcc k 2 hlt (by omega))
      have c3 := cell_at hb hbB hB (hcc k 3 hlt (by omega))
      rw [Nat.add_zero] at c0
      have hbl : b < wr.heap.size := by have := hb.size; omega
      have HBL := hid hb
      clear HC hcc hb
      cases h0 : (fld ls k 0 == key)
      · have HT := hid (AG_succ HG.out (show noNext ks ls key t k = true by simp [noNext, isNext, h0]))
        clear HG
        go_wp2
        go_roundw
        case rel => exact ⟨k + 1, by omega, by go_num, HT.out, HBL.out⟩
        case measure => simp [intOf]; omega
      · by_cases h2 : fld ls k 2 ≤ t
        · cases hs : succB ks (fld ls k 0) (fld ls k 1) (fld ls k 2) (fld ls k 3)
          · have HT := hid (AG_succ HG.out (show noNext ks ls key t k = true by simp [noNext, isNext, hs]))
            have HSB := hid hs
            clear HG hs
            go_wp2_with fail
            refine (ret_cast (y := .bool false) (by rw [HSB.out]) (specCheckSuccession_any _ _ _ _ _ (HV.out.below HBL.out hB) (Nat.le_trans hB HBL.out.size))).mono ?_
            rintro e w1 ⟨rfl, hb1⟩
            have HB1 := hid (below_step HBL.out hb1)
            clear hb1
            go_wp2
            go_roundw
            case rel => exact ⟨k + 1, by omega, by go_num, HT.out, HB1.out⟩
            case measure => simp [intOf]; omega
          · have HT := hid (nextI_hit HG.out hlt (show isNext ks ls key t k = true by simp [isNext, h0, h2, hs]))
            have HSB := hid hs
            clear HG hs
            go_wp2_with fail
            refine (ret_cast (y := .bool true) (by rw [HSB.out]) (specCheckSuccession_any _ _ _ _ _ (HV.out.below HBL.out hB) (Nat.le_trans hB HBL.out.size))).mono ?_
            rintro e w1 ⟨rfl, hb1⟩
            have HB1 := hid (below_step HBL.out hb1)
            have e1 := (hb1.cell (p := ⟨b, off + k * 4 + 1, none⟩) hbl).trans c1
            clear hb1
            go_wp2
            go_ret
            exact ⟨ret_int HT.out, HB1.out⟩
        · have HT := hid (AG_succ HG.out (show noNext ks ls key t k = true by simp [noNext, isNext, h2]))
          clear HG
          go_wp2
          go_roundw
          case rel => exact ⟨k + 1, by omega, by go_num, HT.out, HBL.out⟩
          case measure => simp [intOf]; omega
    · obtain rfl : k = ls.length := by omega
      have HT := hid (nextI_miss HG.out)
      have HB := hid hb
      clear hb HG
      go_wp2
      go_ret
      exact ⟨ret_int HT.out, HB.out⟩
end Go.Proofs.Ytjacbpmkdlngaaa
