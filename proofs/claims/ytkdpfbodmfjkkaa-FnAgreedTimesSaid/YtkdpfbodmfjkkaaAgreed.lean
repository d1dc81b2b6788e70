/- AgreedSpan of the program and of the reference: the first and the last time that enough spans have. Condition: no more than 2^40 spans. -/
import Derived.Test.YtkdpfbodmfjkkaaRows
import Derived.Test.YtkdpfbodmfjkkaaPlain
import Derived.Test.YtkdpfbodmfjkkaaPlainAgreed
import Derived.Test.YtkdpfbodmfjkkaaChkSpan
import Derived.Test.YtkdpfbodmfjkkaaCount
import Derived.Test.YtkdpfbodmfjkkaaMeet
import Derived.Test.YtkdpfbodmfjkkaaAreAuthorities
namespace Go.Proofs.Ytkdpfbodmfjkkaa
open Go.RowKit

theorem curV_no {ks : List (List Int)} {l : Int} {k : Nat} (h : firT ks l k < 0) : spanV 0 0 false = spanV (curL ks l k) (curR ks l k) (curB ks l k) := by simp [curL, curR, curB, h]
theorem curV_yes {ks : List (List Int)} {l x y : Int} {k : Nat} (h : 0 ≤ firT ks l k) (hx : x = firT ks l k) (hy : y = lasT ks l k) : spanV x y true = spanV (curL ks l k) (curR ks l k) (curB ks l k) := by
  subst hx hy
  have h' : ¬ firT ks l k < 0 := by omega
  simp [curL, curR, curB, h']
theorem cur_no {ks : List (List Int)} {l : Int} {k : Nat} (h : supB ks k l = false) : curL ks l (k + 1) = curL ks l k ∧ curR ks l (k + 1) = curR ks l k ∧ curB ks l (k + 1) = curB ks l k := by
  simp [curL, curR, curB, firT, lasT, h]
theorem cur_first {ks : List (List Int)} {l : Int} {k : Nat} (h : supB ks k l = true) (hb : curB ks l k = false) : curL ks l (k + 1) = k ∧ curR ks l (k + 1) = k ∧ curB ks l (k + 1) = true := by
  have h1 : firT ks l k < 0 := by simpa [curB] using hb
  have e : firT ks l (k + 1) = k := by simp only [firT]; rw [if_pos ⟨h1, h⟩]
  have e2 : lasT ks l (k + 1) = k := by simp only [lasT]; rw [if_pos h]
  have h2 : ¬ ((k : Int) < 0) := by omega
  simp [curL, curR, curB, e, e2, h2]
theorem cur_next {ks : List (List Int)} {l : Int} {k : Nat} (h : supB ks k l = true) (hb : curB ks l k = true) : curL ks l (k + 1) = curL ks l k ∧ curR ks l (k + 1) = k ∧ curB ks l (k + 1) = true := by
  have h1 : ¬ firT ks l k < 0 := by simpa [curB] using hb
  have e : firT ks l (k + 1) = firT ks l k := by simp only [firT]; rw [if_neg (fun hh => h1 hh.1)]
  have e2 : lasT ks l (k + 1) = k := by simp only [lasT]; rw [if_pos h]
  simp [curL, curR, curB, e, e2, h1]

/-- The blocks of the result and of the variable s in the walk of the program's AgreedSpan. -/
def AgC (w wr : World) (x y : Int) : Prop :=
  w.heap.size + 2 ≤ wr.heap.size ∧ wr.cell? ⟨w.heap.size, 0, none⟩ = some (iv 0) ∧ wr.cell? ⟨w.heap.size, 1, none⟩ = some (iv 0) ∧ wr.cell? ⟨w.heap.size + 1, 0, none⟩ = some (iv x) ∧ wr.cell? ⟨w.heap.size + 1, 1, none⟩ = some (iv y) ∧
  wr.frozen? ⟨w.heap.size, 0, none⟩ = false ∧ wr.frozen? ⟨w.heap.size, 1, none⟩ = false ∧ wr.frozen? ⟨w.heap.size + 1, 0, none⟩ = false ∧ wr.frozen? ⟨w.heap.size + 1, 1, none⟩ = false
theorem AgC.below {w wr w1 : World} {x y : Int} (h : AgC w wr x y) (hb : Below wr.heap.size wr w1) : AgC w w1 x y := by
  obtain ⟨hz, r0, r1, s0, s1, f0, f1, f2, f3⟩ := h
  obtain ⟨hc, hf⟩ := bcell hb
  have h1 : w.heap.size < wr.heap.size := by omega
  have h2 : w.heap.size + 1 < wr.heap.size := by omega
  exact ⟨Nat.le_trans hz hb.size, (hc _ _ h1).trans r0, (hc _ _ h1).trans r1, (hc _ _ h2).trans s0, (hc _ _ h2).trans s1, (hf _ _ h1).trans f0, (hf _ _ h1).trans f1, (hf _ _ h2).trans f2, (hf _ _ h2).trans f3⟩
theorem AgC.start (w : World) (T : TypeId) : AgC w ((w.alloc (.cells #[iv 0, iv 0] T)).alloc (.cells #[iv 0, iv 0] T)) 0 0 := by
  refine ⟨by simp, ?_, ?_, ?_, ?_, ?_, ?_, ?_, ?_⟩ <;> simp [go_sem]
theorem AgC.set0 {w wr : World} {x y : Int} (h : AgC w wr x y) (u : Int) : AgC w (wr.setCell ⟨w.heap.size + 1, 0, none⟩ (iv u)) u y := by
  obtain ⟨hz, r0, r1, s0, s1, f0, f1, f2, f3⟩ := h
  refine ⟨by simpa using hz, ?_, ?_, ?_, ?_, ?_, ?_, ?_, ?_⟩ <;> simp [go_sem, r0, r1, s0, s1, f0, f1, f2, f3]
theorem AgC.set1 {w wr : World} {x y : Int} (h : AgC w wr x y) (u : Int) : AgC w (wr.setCell ⟨w.heap.size + 1, 1, none⟩ (iv u)) x u := by
  obtain ⟨hz, r0, r1, s0, s1, f0, f1, f2, f3⟩ := h
  refine ⟨by simpa using hz, ?_, ?_, ?_, ?_, ?_, ?_, ?_, ?_⟩ <;> simp [go_sem, r0, r1, s0, s1, f0, f1, f2, f3]

set_option maxHeartbeats 4000000 in
theorem implAgreedSpan_any {B : Nat} {ks : List (List Int)} {v : Value} (l : Int) (w : World) (h : Sl B w 2 v ks) (hB : B ≤ w.heap.size) :
    Calls Try.prog 28 #[v, iv l] w (Ret (spanV (agL ks l) (agR ks l) (agB ks l)) w) := by
  have HV := hid h
  clear h
  have HT := hid (show spanV (curL ks l 10001) (curR ks l 10001) (curB ks l 10001) = spanV (agL ks l) (agR ks l) (agB ks l) from rfl)
  have HA0 := hid (AgC.start w 47)
  go_enter Try.func28, Try.ntmps28
  go_wp2
  go_loopw [7, 8] (fun fd t wr => ∃ k : Nat, k ≤ 10001 ∧ t = .int .i64 k ∧ fd = .bool (curB ks l k) ∧ Below w.heap.size w wr ∧ AgC w wr (curL ks l k) (curR ks l k)) (fun _ t _ => 10001 - (intOf t).toNat)
  case atStart => exact ⟨0, by omega, rfl, rfl, (below_alloc _ _).alloc (by simp) _, HA0.out⟩
  case round =>
    obtain ⟨k, hk, rfl, rfl, hb, hag⟩ := hrel
    have HB := hid hb
    have HA := hid hag
    clear hb hag
    by_cases hlt : k < 10001
    · have hk2 : (k : Int) ≤ 10000 := by omega
      have hk3 : (0 : Int) ≤ (k : Int) := Int.natCast_nonneg _
      go_wp2_with fail
      refine (implIsSupported_any _ _ _ (HV.out.below HB.out hB) (Nat.le_trans hB HB.out.size)).mono ?_
      rintro e w1 ⟨rfl, hb1⟩
      have HB1 := hid (below_step HB.out hb1)
      have HA1 := hid (HA.out.below hb1)
      clear hb1 HB HA
      obtain ⟨hz, r0, r1, s0, s1, f0, f1, f2, f3⟩ := HA1.out
      clear r0 r1 f0 f1
      cases hs : supB ks (k : Int) l
      · have HC := hid (cur_no hs)
        clear hs s0 s1 f2 f3
        go_wp2
        go_roundw
        case rel => exact ⟨k + 1, by omega, by go_num, by rw [HC.out.2.2], HB1.out, by rw [HC.out.1, HC.out.2.1]; exact HA1.out⟩
        case measure => simp [intOf]; omega
      · cases hc : curB ks l k
        · have HC := hid (cur_first hs hc)
          have HA2 := hid ((HA1.out.set0 k).set1 k)
          have HB2 := hid ((HB1.out.setCell (p := ⟨w.heap.size + 1, 0, none⟩) (by simp) (iv k)).setCell (p := ⟨w.heap.size + 1, 1, none⟩) (by simp) (iv k))
          clear hs hc HA1 HB1
          go_wp2
          go_roundw
          case rel => exact ⟨k + 1, by omega, by go_num, by rw [HC.out.2.2], HB2.out, by rw [HC.out.1, HC.out.2.1]; exact HA2.out⟩
          case measure => simp [intOf]; omega
        · have HC := hid (cur_next hs hc)
          have HA2 := hid (HA1.out.set1 k)
          have HB2 := hid (HB1.out.setCell (p := ⟨w.heap.size + 1, 1, none⟩) (by simp) (iv k))
          clear hs hc HA1 HB1
          go_wp2
          go_roundw
          case rel => exact ⟨k + 1, by omega, by go_num, by rw [HC.out.2.2], HB2.out, by rw [HC.out.1, HC.out.2.1]; exact HA2.out⟩
          case measure => simp [intOf]; omega
    · obtain rfl : k = 10001 := by omega
      obtain ⟨hz, r0, r1, s0, s1, f0, f1, f2, f3⟩ := HA.out
      clear HA HA0
      go_wp2
      refine bodyPost_ret (v := spanV (curL ks l 10001) (curR ks l 10001) (curB ks l 10001)) (by simp [results, Try.results28, go_sem, r0, r1]) rfl ⟨ret_congr HT.out, ?_⟩
      have h9 := HB.out
      repeat (first | exact h9 | refine Below.setCell ?_ (by simp) _)

theorem fir_out {ks : List (List Int)} {l : Int} (k : Nat) (h : ¬ (0 ≤ l ∧ l ≤ (ks.length : Int) - 1)) : firT ks l k < 0 := by
  rcases firT_spec ks l k with ⟨h1, _, _⟩ | ⟨a, b, _, _, _, _, h5, _⟩
  · omega
  · rw [supB_out h] at h5; cases h5
theorem sf_no0 {ks : List (List Int)} {l : Int} {k : Nat} (h : spanB (fld ks k 0) (fld ks k 1) = false) : sfT ks l (k + 1) = sfT ks l k ∧ stT ks l (k + 1) = stT ks l k := by simp [sfT, stT, h]
theorem sf_no1 {ks : List (List Int)} {l : Int} {k : Nat} (h : supB ks (fld ks k 0) l = false) : sfT ks l (k + 1) = sfT ks l k := by simp [sfT, h]
theorem sf_no2 {ks : List (List Int)} {l : Int} {k : Nat} (h : 0 ≤ sfT ks l k) (h2 : sfT ks l k ≤ fld ks k 0) : sfT ks l (k + 1) = sfT ks l k := by
  simp only [sfT]
  rw [if_neg (fun hh => by have := hh.2.2; omega)]
theorem sf_yes {ks : List (List Int)} {l : Int} {k : Nat} (h : spanB (fld ks k 0) (fld ks k 1) = true) (h1 : supB ks (fld ks k 0) l = true) (h2 : sfT ks l k < 0 ∨ fld ks k 0 < sfT ks l k) : sfT ks l (k + 1) = fld ks k 0 := by
  simp only [sfT]
  rw [if_pos ⟨h, h1, h2⟩]
theorem st_no {ks : List (List Int)} {l : Int} {k : Nat} (h : supB ks (fld ks k 1) l = false) : stT ks l (k + 1) = stT ks l k := by simp [stT, h]
theorem st_yes {ks : List (List Int)} {l : Int} {k : Nat} (h : spanB (fld ks k 0) (fld ks k 1) = true) (h1 : supB ks (fld ks k 1) l = true) : stT ks l (k + 1) = max (stT ks l k) (fld ks k 1) := by
  simp only [stT]
  rw [if_pos ⟨h, h1⟩, mx_max]
theorem ag_end_no {ks : List (List Int)} {l : Int} (h : sfT ks l ks.length < 0) : firT ks l 10001 < 0 := by
  rcases agreed_same ks l with h1 | h1 <;> omega
theorem ag_end_yes {ks : List (List Int)} {l : Int} (h : 0 ≤ sfT ks l ks.length) : 0 ≤ firT ks l 10001 ∧ sfT ks l ks.length = firT ks l 10001 ∧ stT ks l ks.length = lasT ks l 10001 := by
  rcases agreed_same ks l with h1 | h1
  · omega
  · exact h1


end Go.Proofs.Ytkdpfbodmfjkkaa
