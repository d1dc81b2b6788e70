/- PartDigest of the program and of the reference: the digest of the salt and the text's bytes. Condition: no more than 2^30 bytes. -/
import Derived.Test.YtkdpfbodmfjkkaaRows
import Derived.Test.YtkdpfbodmfjkkaaBase
import Derived.Test.YtkdpfbodmfjkkaaPlain
import Derived.Test.YtkdpfbodmfjkkaaAppend
import Derived.Test.YtkdpfbodmfjkkaaCol
import Derived.Test.YtkdpfbodmfjkkaaDigest
import Derived.Test.YtkdpfbodmfjkkaaStr
namespace Go.Proofs.Ytkdpfbodmfjkkaa
open Go.RowKit

def partI (m : Int) (s : ByteArray) (z : Int) : Int := digestI m (z :: strI s)
theorem take_snocI {us : List Int} {k : Nat} (h : k < us.length) : us.take (k + 1) = us.take k ++ [nth us k] := by
  rw [List.take_add_one, nth_get h]; rfl
set_option maxRecDepth 16000 in
set_option maxHeartbeats 4000000 in
theorem implbytesOf_any {B : Nat} {us : List Int} {v : Value} (w : World) (h : Su B w v us) (hB : B ≤ w.heap.size) (hn : us.length ≤ 1099511627776) :
    Calls Try.prog 176 #[v] w (RetOwn 3 1 us.length (us.map (Value.int .i64)) w) := by
  obtain ⟨A, c, rfl, hcell⟩ := h
  have HC := hid hcell
  clear hcell
  go_enter Try.func176, Try.ntmps176
  go_wp2
  go_loopw [3, 8] (fun l i wr => ∃ k : Nat, k ≤ us.length ∧ i = .int .i64 k ∧ wr.ownsRow w.heap.size 3 1 l k ((us.take k).map (Value.int .i64)) ∧ Below w.heap.size w wr) (fun _ i _ => us.length - (intOf i).toNat)
  case atStart => exact ⟨0, Nat.zero_le _, rfl, World.ownsRow_nil _ _ _ _, Below.refl _ _⟩
  case round =>
    obtain ⟨k, hk, rfl, how, hb⟩ := hrel
    have HOW := hid how
    have HBL := hid hb
    by_cases hlt : k < us.length
    · obtain ⟨b, off, rfl, hbB, hcc⟩ := HC.out (by omega)
      obtain ⟨⟨hu0, hu1⟩, hu⟩ := hcc k hlt
      have c0 := cell_at hb hbB hB hu
      have HT := hid (take_snocI hlt)
      generalize nth us k = u at hu0 hu1 c0 HT
      clear HC hcc hb how hu
      go_wp2_with (first | (at_builtin; refine wpList_append_src _ rfl _ _ 23 rfl w.heap.size 3 Try.underlying23 Try.infoI rfl (by decide) _ _ k 1 _ [iv u] rfl rfl (HOW.out.alloc _) (Src.lit (cs := #[iv u]) (m := 1) (size := 1) (heap_new_at wr _ (by simp)) rfl (by simp [Value.oneCell']) 1) (by unfold maxLen; omega) (by omega) (Nat.le_trans HBL.out.size (by simp; try omega)) ?_; intro v1 w1 hown1 hg1; have HO1 := hid hown1; have HB1 := hid (below_grown (HBL.out.alloc HBL.out.size _) (HOW.out.alloc _) hg1 (Nat.le_refl _) (Nat.le_trans HBL.out.size (by simp; try omega))); clear hown1 hg1) | go_in)
      go_roundw
      case rel => exact ⟨k + 1, by omega, by go_num, by rw [HT.out, List.map_append]; exact HO1.out, HB1.out⟩
      case measure => simp [intOf]; omega
    · obtain rfl : k = us.length := by omega
      have HO : Hid (wr.ownsRow w.heap.size 3 1 _ us.length (us.map (Value.int .i64))) := hid (by rw [List.take_length] at how; exact how)
      clear how hb HC HOW
      go_wp2
      go_ret
      exact ⟨_, rfl, Own.of HO.out, HBL.out⟩
set_option maxRecDepth 16000 in
set_option maxHeartbeats 4000000 in
theorem implPartDigest_any (m z : Int) (s : ByteArray) (w : World) (hs : s.size ≤ 1073741824) :
    Calls Try.prog 142 #[iv m, .string s, iv z] w (Ret (iv (partI m s z)) w) := by
  obtain ⟨v, w1, hrun, hsu, hb1⟩ := Su.made (P := Try.prog) 9 41 5 s Try.underlying9 Try.underlying41 Try.underlying5 (w.alloc (.cells #[iv z] 3))
  have HO0 := hid (World.ownsRow_lit (base := w.heap.size) (e := 3) (size := 1) w #[iv z] 1 (Nat.le_refl _) (by decide) rfl)
  have HO1 := hid (ownsRow_below HO0.out hb1 (fun g hg => (HO0.out.lt g hg).2))
  have HB1 := hid (below_step (below_alloc w (.cells #[iv z] 3)) hb1)
  have HSU := hid hsu
  have hsl := strI_length s
  have hsl9 : (strI s).length ≤ 1073741824 := by omega
  clear hsu hb1 HO0 hsl
  go_enter Try.func142, Try.ntmps142
  go_wp2_with fail
  refine (implbytesOf_any _ HSU.out (Nat.le_refl _) (by omega)).mono ?_
  rintro e w2 ⟨v2, rfl, ho2, hb2⟩
  have HO2 := hid (ownsRow_below HO1.out hb2 (fun g hg => (HO1.out.lt g hg).2))
  have HX2 := hid (Own.si ho2)
  have HB2 := hid (below_step HB1.out hb2)
  clear hrun ho2 hb2 HO1 HB1 HSU
  go_wp2_with (first | (at_builtin; refine wpList_append_src _ rfl _ _ 23 rfl w.heap.size 3 Try.underlying23 Try.infoI rfl (by decide) _ _ 1 (strI s).length [iv z] _ rfl rfl HO2.out HX2.out.src (by unfold maxLen; omega) (by omega) HB2.out.size ?_; intro v3 w3 hown3 hg3; have HO3 : Hid (w3.ownsRow w.heap.size 3 1 v3 (z :: strI s).length ((z :: strI s).map (Value.int .i64))) := hid (by simpa [Nat.add_comm] using hown3); have HB3 := hid (below_grown HB2.out HO2.out hg3 (Nat.le_refl _) HB2.out.size); clear hown3 hg3) | fail)
  refine (implDigestOf_any (zs := z :: strI s) _ _ (Own.si (Own.of HO3.out)) (Nat.le_refl _) (by simp; omega)).mono ?_
  rintro e w4 ⟨rfl, hb4⟩
  have HB4 := hid (below_step HB3.out hb4)
  clear hb4
  go_wp2
  go_ret
  exact ⟨rfl, HB4.out⟩
set_option maxRecDepth 16000 in
set_option maxHeartbeats 4000000 in
theorem specPartDigest_any (m z : Int) (s : ByteArray) (w : World) (hs : s.size ≤ 1073741824) :
    Calls Try.prog 193 #[iv m, .string s, iv z] w (Ret (iv (partI m s z)) w) := by
  have hsl := strI_length s
  have HLEN := hid hsl
  clear hsl
  go_enter Try.func193, Try.ntmps193
  go_wp2
  go_loopw [7, 8] (fun l i wr => ∃ k : Nat, k ≤ s.size ∧ i = .int .i64 k ∧ wr.ownsRow w.heap.size 3 1 l (k + 1) ((z :: (strI s).take k).map (Value.int .i64)) ∧ Below w.heap.size w wr) (fun _ i _ => s.size - (intOf i).toNat)
  case atStart => exact ⟨0, Nat.zero_le _, rfl, World.ownsRow_lit (base := w.heap.size) (e := 3) (size := 1) w #[iv z] 1 (Nat.le_refl _) (by decide) rfl, below_alloc _ _⟩
  case round =>
    obtain ⟨k, hk, rfl, how, hb⟩ := hrel
    have HOW := hid how
    have HBL := hid hb
    clear how hb
    by_cases hlt : k < s.size
    · obtain ⟨hu0, hu1⟩ := strI_byte s hlt
      have HT := hid (strI_take s hlt)
      obtain ⟨u, hu⟩ : ∃ u : Int, u = wrap64 (s[k].toNat : Int) := ⟨_, rfl⟩
      have HU := hid hu
      rw [strI_wrap s hlt] at hu
      rw [← hu] at hu0 hu1 HT
      have hi0 : (0 : Int) ≤ (k : Int) := Int.natCast_nonneg _
      have hi1 : (k : Int) < (s.size : Int) := by omega
      clear hu
      go_wp2_with (first | (at_builtin; rw [← HU.out]; refine wpList_append_src _ rfl _ _ 23 rfl w.heap.size 3 Try.underlying23 Try.infoI rfl (by decide) _ _ (k + 1) 1 _ [iv u] rfl rfl (HOW.out.alloc _) (Src.lit (cs := #[iv u]) (m := 1) (size := 1) (heap_new_at wr _ (by simp)) rfl (by simp [Value.oneCell']) 1) (by unfold maxLen; omega) (by omega) (Nat.le_trans HBL.out.size (by simp; try omega)) ?_; intro v1 w1 hown1 hg1; have HO1 := hid hown1; have HB1 := hid (below_grown (HBL.out.alloc HBL.out.size _) (HOW.out.alloc _) hg1 (Nat.le_refl _) (Nat.le_trans HBL.out.size (by simp; try omega))); clear hown1 hg1) | fail)
      go_roundw
      case rel => exact ⟨k + 1, by omega, by go_num, by rw [HT.out, List.map_cons, List.map_append]; exact HO1.out, HB1.out⟩
      case measure => simp [intOf]; omega
    · obtain rfl : k = s.size := by omega
      have h9 := HOW.out
      rw [strI_all, ← HLEN.out, ← List.length_cons (a := z)] at h9
      have HO := hid h9
      clear h9 HOW
      go_wp2_with fail
      refine (specDigestOf_any (zs := z :: strI s) _ _ (Own.si (Own.of HO.out)) (Nat.le_refl _) (by rw [List.length_cons, HLEN.out]; omega)).mono ?_
      rintro e w4 ⟨rfl, hb4⟩
      have HB4 := hid (below_step HBL.out hb4)
      clear hb4
      go_wp2
      go_ret
      exact ⟨rfl, HB4.out⟩
end Go.Proofs.Ytkdpfbodmfjkkaa
