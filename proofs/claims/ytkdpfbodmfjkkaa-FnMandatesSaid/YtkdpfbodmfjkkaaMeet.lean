/- MakeSpan and MeetSpans of the program and of the reference return what the plain functions say. No condition. -/
import Derived.Test.YtkdpfbodmfjkkaaRows
import Derived.Test.YtkdpfbodmfjkkaaPlain
import Derived.Test.YtkdpfbodmfjkkaaChkSpan
namespace Go.Proofs.Ytkdpfbodmfjkkaa
open Go.RowKit

def mkB (f t : Int) : Bool := decide (max f 0 ≤ min t 10000)
def mkL (f t : Int) : Int := if mkB f t then max f 0 else 0
def mkR (f t : Int) : Int := if mkB f t then min t 10000 else 0
def meetB (a0 a1 b0 b1 : Int) : Bool := spanB a0 a1 && spanB b0 b1 && decide (max a0 b0 ≤ min a1 b1)
def meetL (a0 a1 b0 b1 : Int) : Int := if meetB a0 a1 b0 b1 then max a0 b0 else 0
def meetR (a0 a1 b0 b1 : Int) : Int := if meetB a0 a1 b0 b1 then min a1 b1 else 0
abbrev spanV (x y : Int) (b : Bool) : Value := .tuple #[.agg #[iv x, iv y], .bool b]
theorem spanV_no {b : Bool} (h : b = false) (x y : Int) : spanV 0 0 false = spanV (if b then x else 0) (if b then y else 0) b := by subst h; rfl
theorem spanV_yes {b : Bool} (h : b = true) {x y x' y' : Int} (hx : x' = x) (hy : y' = y) : spanV x' y' true = spanV (if b then x else 0) (if b then y else 0) b := by subst h hx hy; rfl
theorem meetB_of {a0 a1 b0 b1 : Int} {c : Bool} (h1 : spanB a0 a1 = true) (h2 : spanB b0 b1 = true) (h3 : spanB (max a0 b0) (min a1 b1) = c) : meetB a0 a1 b0 b1 = c := by
  rw [← h3, meetB, h1, h2, Bool.true_and, Bool.true_and, Bool.eq_iff_iff, decide_eq_true_iff, spanB_iff]
  rw [spanB_iff] at h1 h2
  omega
theorem meetB_mk {a0 a1 b0 b1 : Int} (h1 : spanB a0 a1 = true) (h2 : spanB b0 b1 = true) : mkB (max a0 b0) (min a1 b1) = meetB a0 a1 b0 b1 ∧ mkL (max a0 b0) (min a1 b1) = meetL a0 a1 b0 b1 ∧ mkR (max a0 b0) (min a1 b1) = meetR a0 a1 b0 b1 := by
  have h : mkB (max a0 b0) (min a1 b1) = meetB a0 a1 b0 b1 := by
    rw [meetB, h1, h2, Bool.true_and, Bool.true_and, mkB, Bool.eq_iff_iff, decide_eq_true_iff, decide_eq_true_iff]
    rw [spanB_iff] at h1 h2
    omega
  refine ⟨h, ?_, ?_⟩
  · rw [mkL, meetL, h]
    rw [spanB_iff] at h1 h2
    split <;> omega
  · rw [mkR, meetR, h]
    rw [spanB_iff] at h1 h2
    split <;> omega
theorem mkB_of {f t : Int} {c : Bool} (_h : f ≤ t) (h3 : spanB (max f 0) (min t 10000) = c) : mkB f t = c := by
  rw [← h3, mkB, Bool.eq_iff_iff, decide_eq_true_iff, spanB_iff]
  omega
theorem mkB_not {f t : Int} (h : t < f) : mkB f t = false := by
  rw [mkB, decide_eq_false_iff_not]
  omega

set_option maxHeartbeats 400000 in
theorem specMax_same (a b : Int) (w : World) : Calls Try.prog 198 #[iv a, iv b] w fun e w' => e = .returned (iv (max a b)) ∧ w' = w := by
  by_cases h : a < b
  · have HM := hid (Int.max_eq_right (Int.le_of_lt h))
    go_enter Try.func198, Try.ntmps198
    go_wp2
    go_ret
    exact ⟨ret_int HM.out.symm, rfl⟩
  · have HM := hid (Int.max_eq_left (show b ≤ a by omega))
    go_enter Try.func198, Try.ntmps198
    go_wp2
    go_ret
    exact ⟨ret_int HM.out.symm, rfl⟩
set_option maxHeartbeats 400000 in
theorem specMin_same (a b : Int) (w : World) : Calls Try.prog 200 #[iv a, iv b] w fun e w' => e = .returned (iv (min a b)) ∧ w' = w := by
  by_cases h : b < a
  · have HM := hid (Int.min_eq_right (Int.le_of_lt h))
    go_enter Try.func200, Try.ntmps200
    go_wp2
    go_ret
    exact ⟨ret_int HM.out.symm, rfl⟩
  · have HM := hid (Int.min_eq_left (show a ≤ b by omega))
    go_enter Try.func200, Try.ntmps200
    go_wp2
    go_ret
    exact ⟨ret_int HM.out.symm, rfl⟩


set_option maxHeartbeats 1000000 in
theorem implMakeSpan_any (f t : Int) (w : World) :
    Calls Try.prog 136 #[iv f, iv t] w (Ret (spanV (mkL f t) (mkR f t) (mkB f t)) w) := by
  have HI : Hid (∀ (x y : Int) (W : World), Calls Try.prog 31 #[.agg #[iv x, iv y]] W (Ret (.bool (spanB x y)) W)) := hid implIsSpan_any
  by_cases g0 : 0 ≤ f
  · have e0 : max f 0 = f := by omega
    by_cases g1 : t ≤ 10000
    · have e1 : min t 10000 = t := by omega
      by_cases h : t < f
      · have HT := hid (spanV_no (mkB_not h) (max f 0) (min t 10000))
        clear e0 e1
        go_enter Try.func136, Try.ntmps136
        go_wp2
        refine bodyPost_ret (v := spanV 0 0 false) (by simp [results, Try.results136, go_sem]) rfl ⟨ret_congr HT.out, ?_⟩
        repeat (first | exact Below.refl _ _ | refine Below.setCell ?_ (by simp) _ | refine Below.alloc ?_ (by simp <;> omega) _)
      have h' : f ≤ t := by omega
      clear h
      cases hx : spanB f t
      · have HT := hid (spanV_no (mkB_of h' (by rw [e0, e1]; exact hx)) (max f 0) (min t 10000))
        clear e0 e1
        go_enter Try.func136, Try.ntmps136
        go_wp2_with fail
        refine (HI.out _ _ _).mono ?_
        rintro e w1 ⟨rfl, hb1⟩
        rw [hx]
        clear hx
        obtain ⟨hc, hf⟩ := bcell hb1
        have d0 : w1.cell? ⟨w.heap.size, 0, none⟩ = some (iv 0) := (hc _ _ (by simp <;> omega)).trans (by simp [go_sem])
        have fd0 : w1.frozen? ⟨w.heap.size, 0, none⟩ = false := (hf _ _ (by simp <;> omega)).trans (by simp [go_sem])
        have s0 : w1.cell? ⟨w.heap.size + 1, 0, none⟩ = some (iv f) := (hc _ _ (by simp <;> omega)).trans (by simp [go_sem])
        have d1 : w1.cell? ⟨w.heap.size, 1, none⟩ = some (iv 0) := (hc _ _ (by simp <;> omega)).trans (by simp [go_sem])
        have fd1 : w1.frozen? ⟨w.heap.size, 1, none⟩ = false := (hf _ _ (by simp <;> omega)).trans (by simp [go_sem])
        have s1 : w1.cell? ⟨w.heap.size + 1, 1, none⟩ = some (iv t) := (hc _ _ (by simp <;> omega)).trans (by simp [go_sem])
        clear hc hf
        have hz : w.heap.size + 2 ≤ w1.heap.size := by have := hb1.size; simp at this; omega
        go_wp2
        refine bodyPost_ret (v := spanV 0 0 false) (by simp [results, Try.results136, go_sem, d0, d1]) rfl ⟨ret_congr HT.out, ?_⟩
        have h1 := below_step ((below_alloc w _).alloc (by simp) _) hb1
        repeat (first | exact h1 | refine Below.setCell ?_ (by simp) _)
      · have HT := hid (spanV_yes (mkB_of h' (by rw [e0, e1]; exact hx)) e0.symm e1.symm)
        clear e0 e1
        go_enter Try.func136, Try.ntmps136
        go_wp2_with fail
        refine (HI.out _ _ _).mono ?_
        rintro e w1 ⟨rfl, hb1⟩
        rw [hx]
        clear hx
        obtain ⟨hc, hf⟩ := bcell hb1
        have d0 : w1.cell? ⟨w.heap.size, 0, none⟩ = some (iv 0) := (hc _ _ (by simp <;> omega)).trans (by simp [go_sem])
        have fd0 : w1.frozen? ⟨w.heap.size, 0, none⟩ = false := (hf _ _ (by simp <;> omega)).trans (by simp [go_sem])
        have s0 : w1.cell? ⟨w.heap.size + 1, 0, none⟩ = some (iv f) := (hc _ _ (by simp <;> omega)).trans (by simp [go_sem])
        have d1 : w1.cell? ⟨w.heap.size, 1, none⟩ = some (iv 0) := (hc _ _ (by simp <;> omega)).trans (by simp [go_sem])
        have fd1 : w1.frozen? ⟨w.heap.size, 1, none⟩ = false := (hf _ _ (by simp <;> omega)).trans (by simp [go_sem])
        have s1 : w1.cell? ⟨w.heap.size + 1, 1, none⟩ = some (iv t) := (hc _ _ (by simp <;> omega)).trans (by simp [go_sem])
        clear hc hf
        have hz : w.heap.size + 2 ≤ w1.heap.size := by have := hb1.size; simp at this; omega
        go_wp2
        refine bodyPost_ret (v := spanV f t true) (by simp [results, Try.results136, go_sem, d0, d1]) rfl ⟨ret_congr HT.out, ?_⟩
        have h1 := below_step ((below_alloc w _).alloc (by simp) _) hb1
        repeat (first | exact h1 | refine Below.setCell ?_ (by simp) _)
    · have e1 : min t 10000 = 10000 := by omega
      replace g1 : 10000 < t := by omega
      by_cases h : t < f
      · have HT := hid (spanV_no (mkB_not h) (max f 0) (min t 10000))
        clear e0 e1
        go_enter Try.func136, Try.ntmps136
        go_wp2
        refine bodyPost_ret (v := spanV 0 0 false) (by simp [results, Try.results136, go_sem]) rfl ⟨ret_congr HT.out, ?_⟩
        repeat (first | exact Below.refl _ _ | refine Below.setCell ?_ (by simp) _ | refine Below.alloc ?_ (by simp <;> omega) _)
      have h' : f ≤ t := by omega
      clear h
      cases hx : spanB f 10000
      · have HT := hid (spanV_no (mkB_of h' (by rw [e0, e1]; exact hx)) (max f 0) (min t 10000))
        clear e0 e1
        go_enter Try.func136, Try.ntmps136
        go_wp2_with fail
        refine (HI.out _ _ _).mono ?_
        rintro e w1 ⟨rfl, hb1⟩
        rw [hx]
        clear hx
        obtain ⟨hc, hf⟩ := bcell hb1
        have d0 : w1.cell? ⟨w.heap.size, 0, none⟩ = some (iv 0) := (hc _ _ (by simp <;> omega)).trans (by simp [go_sem])
        have fd0 : w1.frozen? ⟨w.heap.size, 0, none⟩ = false := (hf _ _ (by simp <;> omega)).trans (by simp [go_sem])
        have s0 : w1.cell? ⟨w.heap.size + 1, 0, none⟩ = some (iv f) := (hc _ _ (by simp <;> omega)).trans (by simp [go_sem])
        have d1 : w1.cell? ⟨w.heap.size, 1, none⟩ = some (iv 0) := (hc _ _ (by simp <;> omega)).trans (by simp [go_sem])
        have fd1 : w1.frozen? ⟨w.heap.size, 1, none⟩ = false := (hf _ _ (by simp <;> omega)).trans (by simp [go_sem])
        have s1 : w1.cell? ⟨w.heap.size + 1, 1, none⟩ = some (iv 10000) := (hc _ _ (by simp <;> omega)).trans (by simp [go_sem])
        clear hc hf
        have hz : w.heap.size + 2 ≤ w1.heap.size := by have := hb1.size; simp at this; omega
        go_wp2
        refine bodyPost_ret (v := spanV 0 0 false) (by simp [results, Try.results136, go_sem, d0, d1]) rfl ⟨ret_congr HT.out, ?_⟩
        have h1 := below_step ((below_alloc w _).alloc (by simp) _) hb1
        repeat (first | exact h1 | refine Below.setCell ?_ (by simp) _)
      · have HT := hid (spanV_yes (mkB_of h' (by rw [e0, e1]; exact hx)) e0.symm e1.symm)
        clear e0 e1
        go_enter Try.func136, Try.ntmps136
        go_wp2_with fail
        refine (HI.out _ _ _).mono ?_
        rintro e w1 ⟨rfl, hb1⟩
        rw [hx]
        clear hx
        obtain ⟨hc, hf⟩ := bcell hb1
        have d0 : w1.cell? ⟨w.heap.size, 0, none⟩ = some (iv 0) := (hc _ _ (by simp <;> omega)).trans (by simp [go_sem])
        have fd0 : w1.frozen? ⟨w.heap.size, 0, none⟩ = false := (hf _ _ (by simp <;> omega)).trans (by simp [go_sem])
        have s0 : w1.cell? ⟨w.heap.size + 1, 0, none⟩ = some (iv f) := (hc _ _ (by simp <;> omega)).trans (by simp [go_sem])
        have d1 : w1.cell? ⟨w.heap.size, 1, none⟩ = some (iv 0) := (hc _ _ (by simp <;> omega)).trans (by simp [go_sem])
        have fd1 : w1.frozen? ⟨w.heap.size, 1, none⟩ = false := (hf _ _ (by simp <;> omega)).trans (by simp [go_sem])
        have s1 : w1.cell? ⟨w.heap.size + 1, 1, none⟩ = some (iv 10000) := (hc _ _ (by simp <;> omega)).trans (by simp [go_sem])
        clear hc hf
        have hz : w.heap.size + 2 ≤ w1.heap.size := by have := hb1.size; simp at this; omega
        go_wp2
        refine bodyPost_ret (v := spanV f 10000 true) (by simp [results, Try.results136, go_sem, d0, d1]) rfl ⟨ret_congr HT.out, ?_⟩
        have h1 := below_step ((below_alloc w _).alloc (by simp) _) hb1
        repeat (first | exact h1 | refine Below.setCell ?_ (by simp) _)
  · have e0 : max f 0 = 0 := by omega
    replace g0 : f < 0 := by omega
    by_cases g1 : t ≤ 10000
    · have e1 : min t 10000 = t := by omega
      by_cases h : t < f
      · have HT := hid (spanV_no (mkB_not h) (max f 0) (min t 10000))
        clear e0 e1
        go_enter Try.func136, Try.ntmps136
        go_wp2
        refine bodyPost_ret (v := spanV 0 0 false) (by simp [results, Try.results136, go_sem]) rfl ⟨ret_congr HT.out, ?_⟩
        repeat (first | exact Below.refl _ _ | refine Below.setCell ?_ (by simp) _ | refine Below.alloc ?_ (by simp <;> omega) _)
      have h' : f ≤ t := by omega
      clear h
      cases hx : spanB 0 t
      · have HT := hid (spanV_no (mkB_of h' (by rw [e0, e1]; exact hx)) (max f 0) (min t 10000))
        clear e0 e1
        go_enter Try.func136, Try.ntmps136
        go_wp2_with fail
        refine (HI.out _ _ _).mono ?_
        rintro e w1 ⟨rfl, hb1⟩
        rw [hx]
        clear hx
        obtain ⟨hc, hf⟩ := bcell hb1
        have d0 : w1.cell? ⟨w.heap.size, 0, none⟩ = some (iv 0) := (hc _ _ (by simp <;> omega)).trans (by simp [go_sem])
        have fd0 : w1.frozen? ⟨w.heap.size, 0, none⟩ = false := (hf _ _ (by simp <;> omega)).trans (by simp [go_sem])
        have s0 : w1.cell? ⟨w.heap.size + 1, 0, none⟩ = some (iv 0) := (hc _ _ (by simp <;> omega)).trans (by simp [go_sem])
        have d1 : w1.cell? ⟨w.heap.size, 1, none⟩ = some (iv 0) := (hc _ _ (by simp <;> omega)).trans (by simp [go_sem])
        have fd1 : w1.frozen? ⟨w.heap.size, 1, none⟩ = false := (hf _ _ (by simp <;> omega)).trans (by simp [go_sem])
        have s1 : w1.cell? ⟨w.heap.size + 1, 1, none⟩ = some (iv t) := (hc _ _ (by simp <;> omega)).trans (by simp [go_sem])
        clear hc hf
        have hz : w.heap.size + 2 ≤ w1.heap.size := by have := hb1.size; simp at this; omega
        go_wp2
        refine bodyPost_ret (v := spanV 0 0 false) (by simp [results, Try.results136, go_sem, d0, d1]) rfl ⟨ret_congr HT.out, ?_⟩
        have h1 := below_step ((below_alloc w _).alloc (by simp) _) hb1
        repeat (first | exact h1 | refine Below.setCell ?_ (by simp) _)
      · have HT := hid (spanV_yes (mkB_of h' (by rw [e0, e1]; exact hx)) e0.symm e1.symm)
        clear e0 e1
        go_enter Try.func136, Try.ntmps136
        go_wp2_with fail
        refine (HI.out _ _ _).mono ?_
        rintro e w1 ⟨rfl, hb1⟩
        rw [hx]
        clear hx
        obtain ⟨hc, hf⟩ := bcell hb1
        have d0 : w1.cell? ⟨w.heap.size, 0, none⟩ = some (iv 0) := (hc _ _ (by simp <;> omega)).trans (by simp [go_sem])
        have fd0 : w1.frozen? ⟨w.heap.size, 0, none⟩ = false := (hf _ _ (by simp <;> omega)).trans (by simp [go_sem])
        have s0 : w1.cell? ⟨w.heap.size + 1, 0, none⟩ = some (iv 0) := (hc _ _ (by simp <;> omega)).trans (by simp [go_sem])
        have d1 : w1.cell? ⟨w.heap.size, 1, none⟩ = some (iv 0) := (hc _ _ (by simp <;> omega)).trans (by simp [go_sem])
        have fd1 : w1.frozen? ⟨w.heap.size, 1, none⟩ = false := (hf _ _ (by simp <;> omega)).trans (by simp [go_sem])
        have s1 : w1.cell? ⟨w.heap.size + 1, 1, none⟩ = some (iv t) := (hc _ _ (by simp <;> omega)).trans (by simp [go_sem])
        clear hc hf
        have hz : w.heap.size + 2 ≤ w1.heap.size := by have := hb1.size; simp at this; omega
        go_wp2
        refine bodyPost_ret (v := spanV 0 t true) (by simp [results, Try.results136, go_sem, d0, d1]) rfl ⟨ret_congr HT.out, ?_⟩
        have h1 := below_step ((below_alloc w _).alloc (by simp) _) hb1
        repeat (first | exact h1 | refine Below.setCell ?_ (by simp) _)
    · have e1 : min t 10000 = 10000 := by omega
      replace g1 : 10000 < t := by omega
      by_cases h : t < f
      · exfalso; omega
      have h' : f ≤ t := by omega
      clear h
      cases hx : spanB 0 10000
      · have HT := hid (spanV_no (mkB_of h' (by rw [e0, e1]; exact hx)) (max f 0) (min t 10000))
        clear e0 e1
        go_enter Try.func136, Try.ntmps136
        go_wp2_with fail
        refine (HI.out _ _ _).mono ?_
        rintro e w1 ⟨rfl, hb1⟩
        rw [hx]
        clear hx
        obtain ⟨hc, hf⟩ := bcell hb1
        have d0 : w1.cell? ⟨w.heap.size, 0, none⟩ = some (iv 0) := (hc _ _ (by simp <;> omega)).trans (by simp [go_sem])
        have fd0 : w1.frozen? ⟨w.heap.size, 0, none⟩ = false := (hf _ _ (by simp <;> omega)).trans (by simp [go_sem])
        have s0 : w1.cell? ⟨w.heap.size + 1, 0, none⟩ = some (iv 0) := (hc _ _ (by simp <;> omega)).trans (by simp [go_sem])
        have d1 : w1.cell? ⟨w.heap.size, 1, none⟩ = some (iv 0) := (hc _ _ (by simp <;> omega)).trans (by simp [go_sem])
        have fd1 : w1.frozen? ⟨w.heap.size, 1, none⟩ = false := (hf _ _ (by simp <;> omega)).trans (by simp [go_sem])
        have s1 : w1.cell? ⟨w.heap.size + 1, 1, none⟩ = some (iv 10000) := (hc _ _ (by simp <;> omega)).trans (by simp [go_sem])
        clear hc hf
        have hz : w.heap.size + 2 ≤ w1.heap.size := by have := hb1.size; simp at this; omega
        go_wp2
        refine bodyPost_ret (v := spanV 0 0 false) (by simp [results, Try.results136, go_sem, d0, d1]) rfl ⟨ret_congr HT.out, ?_⟩
        have h1 := below_step ((below_alloc w _).alloc (by simp) _) hb1
        repeat (first | exact h1 | refine Below.setCell ?_ (by simp) _)
      · have HT := hid (spanV_yes (mkB_of h' (by rw [e0, e1]; exact hx)) e0.symm e1.symm)
        clear e0 e1
        go_enter Try.func136, Try.ntmps136
        go_wp2_with fail
        refine (HI.out _ _ _).mono ?_
        rintro e w1 ⟨rfl, hb1⟩
        rw [hx]
        clear hx
        obtain ⟨hc, hf⟩ := bcell hb1
        have d0 : w1.cell? ⟨w.heap.size, 0, none⟩ = some (iv 0) := (hc _ _ (by simp <;> omega)).trans (by simp [go_sem])
        have fd0 : w1.frozen? ⟨w.heap.size, 0, none⟩ = false := (hf _ _ (by simp <;> omega)).trans (by simp [go_sem])
        have s0 : w1.cell? ⟨w.heap.size + 1, 0, none⟩ = some (iv 0) := (hc _ _ (by simp <;> omega)).trans (by simp [go_sem])
        have d1 : w1.cell? ⟨w.heap.size, 1, none⟩ = some (iv 0) := (hc _ _ (by simp <;> omega)).trans (by simp [go_sem])
        have fd1 : w1.frozen? ⟨w.heap.size, 1, none⟩ = false := (hf _ _ (by simp <;> omega)).trans (by simp [go_sem])
        have s1 : w1.cell? ⟨w.heap.size + 1, 1, none⟩ = some (iv 10000) := (hc _ _ (by simp <;> omega)).trans (by simp [go_sem])
        clear hc hf
        have hz : w.heap.size + 2 ≤ w1.heap.size := by have := hb1.size; simp at this; omega
        go_wp2
        refine bodyPost_ret (v := spanV 0 10000 true) (by simp [results, Try.results136, go_sem, d0, d1]) rfl ⟨ret_congr HT.out, ?_⟩
        have h1 := below_step ((below_alloc w _).alloc (by simp) _) hb1
        repeat (first | exact h1 | refine Below.setCell ?_ (by simp) _)
set_option maxHeartbeats 4000000 in
theorem implMeetSpans_any (a0 a1 b0 b1 : Int) (w : World) :
    Calls Try.prog 34 #[.agg #[iv a0, iv a1], .agg #[iv b0, iv b1]] w (Ret (spanV (meetL a0 a1 b0 b1) (meetR a0 a1 b0 b1) (meetB a0 a1 b0 b1)) w) := by
  have HI : Hid (∀ (x y : Int) (W : World), Calls Try.prog 31 #[.agg #[iv x, iv y]] W (Ret (.bool (spanB x y)) W)) := hid implIsSpan_any
  by_cases g0 : b0 ≤ a0
  · have e0 : max a0 b0 = a0 := by omega
    by_cases g1 : a1 ≤ b1
    · have e1 : min a1 b1 = a1 := by omega
      have h0 : Hid (Below w.heap.size w ((((w.alloc (.cells #[iv a0, iv a1] 47)).alloc (.cells #[iv b0, iv b1] 47)).alloc (.cells #[iv 0, iv 0] 47)).alloc (.cells #[iv a0, iv a1] 47))) := hid ((((below_alloc w _).alloc (by simp) _).alloc (by simp <;> omega) _).alloc (by simp <;> omega) _)
      cases h1 : spanB a0 a1
      · skip
        have HT := hid (spanV_no (b := meetB a0 a1 b0 b1) (by simp [meetB, h1]) (max a0 b0) (min a1 b1))
        clear e0 e1
        go_enter Try.func34, Try.ntmps34
        go_wp2_with fail
        refine (HI.out _ _ _).mono ?_
        rintro e w1 ⟨rfl, hb1⟩
        rw [h1]
        clear h1
        obtain ⟨hc, hf⟩ := bcell hb1
        have d0 : w1.cell? ⟨w.heap.size + 2, 0, none⟩ = some (iv 0) := (hc _ _ (by simp <;> omega)).trans (by simp [go_sem])
        have fd0 : w1.frozen? ⟨w.heap.size + 2, 0, none⟩ = false := (hf _ _ (by simp <;> omega)).trans (by simp [go_sem])
        have s0 : w1.cell? ⟨w.heap.size + 3, 0, none⟩ = some (iv a0) := (hc _ _ (by simp <;> omega)).trans (by simp [go_sem])
        have d1 : w1.cell? ⟨w.heap.size + 2, 1, none⟩ = some (iv 0) := (hc _ _ (by simp <;> omega)).trans (by simp [go_sem])
        have fd1 : w1.frozen? ⟨w.heap.size + 2, 1, none⟩ = false := (hf _ _ (by simp <;> omega)).trans (by simp [go_sem])
        have s1 : w1.cell? ⟨w.heap.size + 3, 1, none⟩ = some (iv a1) := (hc _ _ (by simp <;> omega)).trans (by simp [go_sem])
        clear hc hf
        have hz : w.heap.size + 4 ≤ w1.heap.size := by have := hb1.size; simp at this; omega
        go_wp2
        refine bodyPost_ret (v := spanV 0 0 false) (by simp [results, Try.results34, go_sem, d0, d1]) rfl ⟨ret_congr HT.out, ?_⟩
        have h9 := below_step h0.out hb1
        repeat (first | exact h9 | refine Below.setCell ?_ (by simp <;> omega) _)
      · cases h2 : spanB b0 b1
        · skip
          have HT := hid (spanV_no (b := meetB a0 a1 b0 b1) (by simp [meetB, h2]) (max a0 b0) (min a1 b1))
          clear e0 e1
          go_enter Try.func34, Try.ntmps34
          go_wp2_with fail
          refine (HI.out _ _ _).mono ?_
          rintro e w1 ⟨rfl, hb1⟩
          rw [h1]
          clear h1
          obtain ⟨hc, hf⟩ := bcell hb1
          go_wp2_with fail
          clear hc hf
          refine (HI.out _ _ _).mono ?_
          rintro e w2 ⟨rfl, hb2⟩
          rw [h2]
          clear h2
          replace hb2 := below_step hb1 hb2
          clear hb1
          obtain ⟨hc, hf⟩ := bcell hb2
          have d0 : w2.cell? ⟨w.heap.size + 2, 0, none⟩ = some (iv 0) := (hc _ _ (by simp <;> omega)).trans (by simp [go_sem])
          have fd0 : w2.frozen? ⟨w.heap.size + 2, 0, none⟩ = false := (hf _ _ (by simp <;> omega)).trans (by simp [go_sem])
          have s0 : w2.cell? ⟨w.heap.size + 3, 0, none⟩ = some (iv a0) := (hc _ _ (by simp <;> omega)).trans (by simp [go_sem])
          have d1 : w2.cell? ⟨w.heap.size + 2, 1, none⟩ = some (iv 0) := (hc _ _ (by simp <;> omega)).trans (by simp [go_sem])
          have fd1 : w2.frozen? ⟨w.heap.size + 2, 1, none⟩ = false := (hf _ _ (by simp <;> omega)).trans (by simp [go_sem])
          have s1 : w2.cell? ⟨w.heap.size + 3, 1, none⟩ = some (iv a1) := (hc _ _ (by simp <;> omega)).trans (by simp [go_sem])
          clear hc hf
          have hz : w.heap.size + 4 ≤ w2.heap.size := by have := hb2.size; simp at this; omega
          go_wp2
          refine bodyPost_ret (v := spanV 0 0 false) (by simp [results, Try.results34, go_sem, d0, d1]) rfl ⟨ret_congr HT.out, ?_⟩
          have h9 := below_step h0.out hb2
          repeat (first | exact h9 | refine Below.setCell ?_ (by simp <;> omega) _)
        · cases h3 : spanB a0 a1
          · skip
            have HT := hid (spanV_no (b := meetB a0 a1 b0 b1) (meetB_of h1 h2 (by rw [e0, e1]; exact h3)) (max a0 b0) (min a1 b1))
            clear e0 e1
            go_enter Try.func34, Try.ntmps34
            go_wp2_with fail
            refine (HI.out _ _ _).mono ?_
            rintro e w1 ⟨rfl, hb1⟩
            rw [h1]
            clear h1
            obtain ⟨hc, hf⟩ := bcell hb1
            go_wp2_with fail
            clear hc hf
            refine (HI.out _ _ _).mono ?_
            rintro e w2 ⟨rfl, hb2⟩
            rw [h2]
            clear h2
            replace hb2 := below_step hb1 hb2
            clear hb1
            obtain ⟨hc, hf⟩ := bcell hb2
            go_wp2_with fail
            clear hc hf
            refine (HI.out _ _ _).mono ?_
            rintro e w3 ⟨rfl, hb3⟩
            rw [h3]
            clear h3
            replace hb3 := below_step hb2 hb3
            clear hb2
            obtain ⟨hc, hf⟩ := bcell hb3
            have d0 : w3.cell? ⟨w.heap.size + 2, 0, none⟩ = some (iv 0) := (hc _ _ (by simp <;> omega)).trans (by simp [go_sem])
            have fd0 : w3.frozen? ⟨w.heap.size + 2, 0, none⟩ = false := (hf _ _ (by simp <;> omega)).trans (by simp [go_sem])
            have s0 : w3.cell? ⟨w.heap.size + 3, 0, none⟩ = some (iv a0) := (hc _ _ (by simp <;> omega)).trans (by simp [go_sem])
            have d1 : w3.cell? ⟨w.heap.size + 2, 1, none⟩ = some (iv 0) := (hc _ _ (by simp <;> omega)).trans (by simp [go_sem])
            have fd1 : w3.frozen? ⟨w.heap.size + 2, 1, none⟩ = false := (hf _ _ (by simp <;> omega)).trans (by simp [go_sem])
            have s1 : w3.cell? ⟨w.heap.size + 3, 1, none⟩ = some (iv a1) := (hc _ _ (by simp <;> omega)).trans (by simp [go_sem])
            clear hc hf
            have hz : w.heap.size + 4 ≤ w3.heap.size := by have := hb3.size; simp at this; omega
            go_wp2
            refine bodyPost_ret (v := spanV 0 0 false) (by simp [results, Try.results34, go_sem, d0, d1]) rfl ⟨ret_congr HT.out, ?_⟩
            have h9 := below_step h0.out hb3
            repeat (first | exact h9 | refine Below.setCell ?_ (by simp <;> omega) _)
          · skip
            have HT := hid (spanV_yes (b := meetB a0 a1 b0 b1) (meetB_of h1 h2 (by rw [e0, e1]; exact h3)) e0.symm e1.symm)
            clear e0 e1
            go_enter Try.func34, Try.ntmps34
            go_wp2_with fail
            refine (HI.out _ _ _).mono ?_
            rintro e w1 ⟨rfl, hb1⟩
            rw [h1]
            clear h1
            obtain ⟨hc, hf⟩ := bcell hb1
            go_wp2_with fail
            clear hc hf
            refine (HI.out _ _ _).mono ?_
            rintro e w2 ⟨rfl, hb2⟩
            rw [h2]
            clear h2
            replace hb2 := below_step hb1 hb2
            clear hb1
            obtain ⟨hc, hf⟩ := bcell hb2
            go_wp2_with fail
            clear hc hf
            refine (HI.out _ _ _).mono ?_
            rintro e w3 ⟨rfl, hb3⟩
            rw [h3]
            clear h3
            replace hb3 := below_step hb2 hb3
            clear hb2
            obtain ⟨hc, hf⟩ := bcell hb3
            have d0 : w3.cell? ⟨w.heap.size + 2, 0, none⟩ = some (iv 0) := (hc _ _ (by simp <;> omega)).trans (by simp [go_sem])
            have fd0 : w3.frozen? ⟨w.heap.size + 2, 0, none⟩ = false := (hf _ _ (by simp <;> omega)).trans (by simp [go_sem])
            have s0 : w3.cell? ⟨w.heap.size + 3, 0, none⟩ = some (iv a0) := (hc _ _ (by simp <;> omega)).trans (by simp [go_sem])
            have d1 : w3.cell? ⟨w.heap.size + 2, 1, none⟩ = some (iv 0) := (hc _ _ (by simp <;> omega)).trans (by simp [go_sem])
            have fd1 : w3.frozen? ⟨w.heap.size + 2, 1, none⟩ = false := (hf _ _ (by simp <;> omega)).trans (by simp [go_sem])
            have s1 : w3.cell? ⟨w.heap.size + 3, 1, none⟩ = some (iv a1) := (hc _ _ (by simp <;> omega)).trans (by simp [go_sem])
            clear hc hf
            have hz : w.heap.size + 4 ≤ w3.heap.size := by have := hb3.size; simp at this; omega
            go_wp2
            refine bodyPost_ret (v := spanV a0 a1 true) (by simp [results, Try.results34, go_sem, d0, d1]) rfl ⟨ret_congr HT.out, ?_⟩
            have h9 := below_step h0.out hb3
            repeat (first | exact h9 | refine Below.setCell ?_ (by simp <;> omega) _)
    · have e1 : min a1 b1 = b1 := by omega
      replace g1 : b1 < a1 := by omega
      have h0 : Hid (Below w.heap.size w ((((w.alloc (.cells #[iv a0, iv a1] 47)).alloc (.cells #[iv b0, iv b1] 47)).alloc (.cells #[iv 0, iv 0] 47)).alloc (.cells #[iv a0, iv b1] 47))) := hid ((((below_alloc w _).alloc (by simp) _).alloc (by simp <;> omega) _).alloc (by simp <;> omega) _)
      cases h1 : spanB a0 a1
      · skip
        have HT := hid (spanV_no (b := meetB a0 a1 b0 b1) (by simp [meetB, h1]) (max a0 b0) (min a1 b1))
        clear e0 e1
        go_enter Try.func34, Try.ntmps34
        go_wp2_with fail
        refine (HI.out _ _ _).mono ?_
        rintro e w1 ⟨rfl, hb1⟩
        rw [h1]
        clear h1
        obtain ⟨hc, hf⟩ := bcell hb1
        have d0 : w1.cell? ⟨w.heap.size + 2, 0, none⟩ = some (iv 0) := (hc _ _ (by simp <;> omega)).trans (by simp [go_sem])
        have fd0 : w1.frozen? ⟨w.heap.size + 2, 0, none⟩ = false := (hf _ _ (by simp <;> omega)).trans (by simp [go_sem])
        have s0 : w1.cell? ⟨w.heap.size + 3, 0, none⟩ = some (iv a0) := (hc _ _ (by simp <;> omega)).trans (by simp [go_sem])
        have d1 : w1.cell? ⟨w.heap.size + 2, 1, none⟩ = some (iv 0) := (hc _ _ (by simp <;> omega)).trans (by simp [go_sem])
        have fd1 : w1.frozen? ⟨w.heap.size + 2, 1, none⟩ = false := (hf _ _ (by simp <;> omega)).trans (by simp [go_sem])
        have s1 : w1.cell? ⟨w.heap.size + 3, 1, none⟩ = some (iv b1) := (hc _ _ (by simp <;> omega)).trans (by simp [go_sem])
        clear hc hf
        have hz : w.heap.size + 4 ≤ w1.heap.size := by have := hb1.size; simp at this; omega
        go_wp2
        refine bodyPost_ret (v := spanV 0 0 false) (by simp [results, Try.results34, go_sem, d0, d1]) rfl ⟨ret_congr HT.out, ?_⟩
        have h9 := below_step h0.out hb1
        repeat (first | exact h9 | refine Below.setCell ?_ (by simp <;> omega) _)
      · cases h2 : spanB b0 b1
        · skip
          have HT := hid (spanV_no (b := meetB a0 a1 b0 b1) (by simp [meetB, h2]) (max a0 b0) (min a1 b1))
          clear e0 e1
          go_enter Try.func34, Try.ntmps34
          go_wp2_with fail
          refine (HI.out _ _ _).mono ?_
          rintro e w1 ⟨rfl, hb1⟩
          rw [h1]
          clear h1
          obtain ⟨hc, hf⟩ := bcell hb1
          go_wp2_with fail
          clear hc hf
          refine (HI.out _ _ _).mono ?_
          rintro e w2 ⟨rfl, hb2⟩
          rw [h2]
          clear h2
          replace hb2 := below_step hb1 hb2
          clear hb1
          obtain ⟨hc, hf⟩ := bcell hb2
          have d0 : w2.cell? ⟨w.heap.size + 2, 0, none⟩ = some (iv 0) := (hc _ _ (by simp <;> omega)).trans (by simp [go_sem])
          have fd0 : w2.frozen? ⟨w.heap.size + 2, 0, none⟩ = false := (hf _ _ (by simp <;> omega)).trans (by simp [go_sem])
          have s0 : w2.cell? ⟨w.heap.size + 3, 0, none⟩ = some (iv a0) := (hc _ _ (by simp <;> omega)).trans (by simp [go_sem])
          have d1 : w2.cell? ⟨w.heap.size + 2, 1, none⟩ = some (iv 0) := (hc _ _ (by simp <;> omega)).trans (by simp [go_sem])
          have fd1 : w2.frozen? ⟨w.heap.size + 2, 1, none⟩ = false := (hf _ _ (by simp <;> omega)).trans (by simp [go_sem])
          have s1 : w2.cell? ⟨w.heap.size + 3, 1, none⟩ = some (iv b1) := (hc _ _ (by simp <;> omega)).trans (by simp [go_sem])
          clear hc hf
          have hz : w.heap.size + 4 ≤ w2.heap.size := by have := hb2.size; simp at this; omega
          go_wp2
          refine bodyPost_ret (v := spanV 0 0 false) (by simp [results, Try.results34, go_sem, d0, d1]) rfl ⟨ret_congr HT.out, ?_⟩
          have h9 := below_step h0.out hb2
          repeat (first | exact h9 | refine Below.setCell ?_ (by simp <;> omega) _)
        · cases h3 : spanB a0 b1
          · skip
            have HT := hid (spanV_no (b := meetB a0 a1 b0 b1) (meetB_of h1 h2 (by rw [e0, e1]; exact h3)) (max a0 b0) (min a1 b1))
            clear e0 e1
            go_enter Try.func34, Try.ntmps34
            go_wp2_with fail
            refine (HI.out _ _ _).mono ?_
            rintro e w1 ⟨rfl, hb1⟩
            rw [h1]
            clear h1
            obtain ⟨hc, hf⟩ := bcell hb1
            go_wp2_with fail
            clear hc hf
            refine (HI.out _ _ _).mono ?_
            rintro e w2 ⟨rfl, hb2⟩
            rw [h2]
            clear h2
            replace hb2 := below_step hb1 hb2
            clear hb1
            obtain ⟨hc, hf⟩ := bcell hb2
            go_wp2_with fail
            clear hc hf
            refine (HI.out _ _ _).mono ?_
            rintro e w3 ⟨rfl, hb3⟩
            rw [h3]
            clear h3
            replace hb3 := below_step hb2 hb3
            clear hb2
            obtain ⟨hc, hf⟩ := bcell hb3
            have d0 : w3.cell? ⟨w.heap.size + 2, 0, none⟩ = some (iv 0) := (hc _ _ (by simp <;> omega)).trans (by simp [go_sem])
            have fd0 : w3.frozen? ⟨w.heap.size + 2, 0, none⟩ = false := (hf _ _ (by simp <;> omega)).trans (by simp [go_sem])
            have s0 : w3.cell? ⟨w.heap.size + 3, 0, none⟩ = some (iv a0) := (hc _ _ (by simp <;> omega)).trans (by simp [go_sem])
            have d1 : w3.cell? ⟨w.heap.size + 2, 1, none⟩ = some (iv 0) := (hc _ _ (by simp <;> omega)).trans (by simp [go_sem])
            have fd1 : w3.frozen? ⟨w.heap.size + 2, 1, none⟩ = false := (hf _ _ (by simp <;> omega)).trans (by simp [go_sem])
            have s1 : w3.cell? ⟨w.heap.size + 3, 1, none⟩ = some (iv b1) := (hc _ _ (by simp <;> omega)).trans (by simp [go_sem])
            clear hc hf
            have hz : w.heap.size + 4 ≤ w3.heap.size := by have := hb3.size; simp at this; omega
            go_wp2
            refine bodyPost_ret (v := spanV 0 0 false) (by simp [results, Try.results34, go_sem, d0, d1]) rfl ⟨ret_congr HT.out, ?_⟩
            have h9 := below_step h0.out hb3
            repeat (first | exact h9 | refine Below.setCell ?_ (by simp <;> omega) _)
          · skip
            have HT := hid (spanV_yes (b := meetB a0 a1 b0 b1) (meetB_of h1 h2 (by rw [e0, e1]; exact h3)) e0.symm e1.symm)
            clear e0 e1
            go_enter Try.func34, Try.ntmps34
            go_wp2_with fail
            refine (HI.out _ _ _).mono ?_
            rintro e w1 ⟨rfl, hb1⟩
            rw [h1]
            clear h1
            obtain ⟨hc, hf⟩ := bcell hb1
            go_wp2_with fail
            clear hc hf
            refine (HI.out _ _ _).mono ?_
            rintro e w2 ⟨rfl, hb2⟩
            rw [h2]
            clear h2
            replace hb2 := below_step hb1 hb2
            clear hb1
            obtain ⟨hc, hf⟩ := bcell hb2
            go_wp2_with fail
            clear hc hf
            refine (HI.out _ _ _).mono ?_
            rintro e w3 ⟨rfl, hb3⟩
            rw [h3]
            clear h3
            replace hb3 := below_step hb2 hb3
            clear hb2
            obtain ⟨hc, hf⟩ := bcell hb3
            have d0 : w3.cell? ⟨w.heap.size + 2, 0, none⟩ = some (iv 0) := (hc _ _ (by simp <;> omega)).trans (by simp [go_sem])
            have fd0 : w3.frozen? ⟨w.heap.size + 2, 0, none⟩ = false := (hf _ _ (by simp <;> omega)).trans (by simp [go_sem])
            have s0 : w3.cell? ⟨w.heap.size + 3, 0, none⟩ = some (iv a0) := (hc _ _ (by simp <;> omega)).trans (by simp [go_sem])
            have d1 : w3.cell? ⟨w.heap.size + 2, 1, none⟩ = some (iv 0) := (hc _ _ (by simp <;> omega)).trans (by simp [go_sem])
            have fd1 : w3.frozen? ⟨w.heap.size + 2, 1, none⟩ = false := (hf _ _ (by simp <;> omega)).trans (by simp [go_sem])
            have s1 : w3.cell? ⟨w.heap.size + 3, 1, none⟩ = some (iv b1) := (hc _ _ (by simp <;> omega)).trans (by simp [go_sem])
            clear hc hf
            have hz : w.heap.size + 4 ≤ w3.heap.size := by have := hb3.size; simp at this; omega
            go_wp2
            refine bodyPost_ret (v := spanV a0 b1 true) (by simp [results, Try.results34, go_sem, d0, d1]) rfl ⟨ret_congr HT.out, ?_⟩
            have h9 := below_step h0.out hb3
            repeat (first | exact h9 | refine Below.setCell ?_ (by simp <;> omega) _)
  · have e0 : max a0 b0 = b0 := by omega
    replace g0 : a0 < b0 := by omega
    by_cases g1 : a1 ≤ b1
    · have e1 : min a1 b1 = a1 := by omega
      have h0 : Hid (Below w.heap.size w ((((w.alloc (.cells #[iv a0, iv a1] 47)).alloc (.cells #[iv b0, iv b1] 47)).alloc (.cells #[iv 0, iv 0] 47)).alloc (.cells #[iv b0, iv a1] 47))) := hid ((((below_alloc w _).alloc (by simp) _).alloc (by simp <;> omega) _).alloc (by simp <;> omega) _)
      cases h1 : spanB a0 a1
      · skip
        have HT := hid (spanV_no (b := meetB a0 a1 b0 b1) (by simp [meetB, h1]) (max a0 b0) (min a1 b1))
        clear e0 e1
        go_enter Try.func34, Try.ntmps34
        go_wp2_with fail
        refine (HI.out _ _ _).mono ?_
        rintro e w1 ⟨rfl, hb1⟩
        rw [h1]
        clear h1
        obtain ⟨hc, hf⟩ := bcell hb1
        have d0 : w1.cell? ⟨w.heap.size + 2, 0, none⟩ = some (iv 0) := (hc _ _ (by simp <;> omega)).trans (by simp [go_sem])
        have fd0 : w1.frozen? ⟨w.heap.size + 2, 0, none⟩ = false := (hf _ _ (by simp <;> omega)).trans (by simp [go_sem])
        have s0 : w1.cell? ⟨w.heap.size + 3, 0, none⟩ = some (iv b0) := (hc _ _ (by simp <;> omega)).trans (by simp [go_sem])
        have d1 : w1.cell? ⟨w.heap.size + 2, 1, none⟩ = some (iv 0) := (hc _ _ (by simp <;> omega)).trans (by simp [go_sem])
        have fd1 : w1.frozen? ⟨w.heap.size + 2, 1, none⟩ = false := (hf _ _ (by simp <;> omega)).trans (by simp [go_sem])
        have s1 : w1.cell? ⟨w.heap.size + 3, 1, none⟩ = some (iv a1) := (hc _ _ (by simp <;> omega)).trans (by simp [go_sem])
        clear hc hf
        have hz : w.heap.size + 4 ≤ w1.heap.size := by have := hb1.size; simp at this; omega
        go_wp2
        refine bodyPost_ret (v := spanV 0 0 false) (by simp [results, Try.results34, go_sem, d0, d1]) rfl ⟨ret_congr HT.out, ?_⟩
        have h9 := below_step h0.out hb1
        repeat (first | exact h9 | refine Below.setCell ?_ (by simp <;> omega) _)
      · cases h2 : spanB b0 b1
        · skip
          have HT := hid (spanV_no (b := meetB a0 a1 b0 b1) (by simp [meetB, h2]) (max a0 b0) (min a1 b1))
          clear e0 e1
          go_enter Try.func34, Try.ntmps34
          go_wp2_with fail
          refine (HI.out _ _ _).mono ?_
          rintro e w1 ⟨rfl, hb1⟩
          rw [h1]
          clear h1
          obtain ⟨hc, hf⟩ := bcell hb1
          go_wp2_with fail
          clear hc hf
          refine (HI.out _ _ _).mono ?_
          rintro e w2 ⟨rfl, hb2⟩
          rw [h2]
          clear h2
          replace hb2 := below_step hb1 hb2
          clear hb1
          obtain ⟨hc, hf⟩ := bcell hb2
          have d0 : w2.cell? ⟨w.heap.size + 2, 0, none⟩ = some (iv 0) := (hc _ _ (by simp <;> omega)).trans (by simp [go_sem])
          have fd0 : w2.frozen? ⟨w.heap.size + 2, 0, none⟩ = false := (hf _ _ (by simp <;> omega)).trans (by simp [go_sem])
          have s0 : w2.cell? ⟨w.heap.size + 3, 0, none⟩ = some (iv b0) := (hc _ _ (by simp <;> omega)).trans (by simp [go_sem])
          have d1 : w2.cell? ⟨w.heap.size + 2, 1, none⟩ = some (iv 0) := (hc _ _ (by simp <;> omega)).trans (by simp [go_sem])
          have fd1 : w2.frozen? ⟨w.heap.size + 2, 1, none⟩ = false := (hf _ _ (by simp <;> omega)).trans (by simp [go_sem])
          have s1 : w2.cell? ⟨w.heap.size + 3, 1, none⟩ = some (iv a1) := (hc _ _ (by simp <;> omega)).trans (by simp [go_sem])
          clear hc hf
          have hz : w.heap.size + 4 ≤ w2.heap.size := by have := hb2.size; simp at this; omega
          go_wp2
          refine bodyPost_ret (v := spanV 0 0 false) (by simp [results, Try.results34, go_sem, d0, d1]) rfl ⟨ret_congr HT.out, ?_⟩
          have h9 := below_step h0.out hb2
          repeat (first | exact h9 | refine Below.setCell ?_ (by simp <;> omega) _)
        · cases h3 : spanB b0 a1
          · skip
            have HT := hid (spanV_no (b := meetB a0 a1 b0 b1) (meetB_of h1 h2 (by rw [e0, e1]; exact h3)) (max a0 b0) (min a1 b1))
            clear e0 e1
            go_enter Try.func34, Try.ntmps34
            go_wp2_with fail
            refine (HI.out _ _ _).mono ?_
            rintro e w1 ⟨rfl, hb1⟩
            rw [h1]
            clear h1
            obtain ⟨hc, hf⟩ := bcell hb1
            go_wp2_with fail
            clear hc hf
            refine (HI.out _ _ _).mono ?_
            rintro e w2 ⟨rfl, hb2⟩
            rw [h2]
            clear h2
            replace hb2 := below_step hb1 hb2
            clear hb1
            obtain ⟨hc, hf⟩ := bcell hb2
            go_wp2_with fail
            clear hc hf
            refine (HI.out _ _ _).mono ?_
            rintro e w3 ⟨rfl, hb3⟩
            rw [h3]
            clear h3
            replace hb3 := below_step hb2 hb3
            clear hb2
            obtain ⟨hc, hf⟩ := bcell hb3
            have d0 : w3.cell? ⟨w.heap.size + 2, 0, none⟩ = some (iv 0) := (hc _ _ (by simp <;> omega)).trans (by simp [go_sem])
            have fd0 : w3.frozen? ⟨w.heap.size + 2, 0, none⟩ = false := (hf _ _ (by simp <;> omega)).trans (by simp [go_sem])
            have s0 : w3.cell? ⟨w.heap.size + 3, 0, none⟩ = some (iv b0) := (hc _ _ (by simp <;> omega)).trans (by simp [go_sem])
            have d1 : w3.cell? ⟨w.heap.size + 2, 1, none⟩ = some (iv 0) := (hc _ _ (by simp <;> omega)).trans (by simp [go_sem])
            have fd1 : w3.frozen? ⟨w.heap.size + 2, 1, none⟩ = false := (hf _ _ (by simp <;> omega)).trans (by simp [go_sem])
            have s1 : w3.cell? ⟨w.heap.size + 3, 1, none⟩ = some (iv a1) := (hc _ _ (by simp <;> omega)).trans (by simp [go_sem])
            clear hc hf
            have hz : w.heap.size + 4 ≤ w3.heap.size := by have := hb3.size; simp at this; omega
            go_wp2
            refine bodyPost_ret (v := spanV 0 0 false) (by simp [results, Try.results34, go_sem, d0, d1]) rfl ⟨ret_congr HT.out, ?_⟩
            have h9 := below_step h0.out hb3
            repeat (first | exact h9 | refine Below.setCell ?_ (by simp <;> omega) _)
          · skip
            have HT := hid (spanV_yes (b := meetB a0 a1 b0 b1) (meetB_of h1 h2 (by rw [e0, e1]; exact h3)) e0.symm e1.symm)
            clear e0 e1
            go_enter Try.func34, Try.ntmps34
            go_wp2_with fail
            refine (HI.out _ _ _).mono ?_
            rintro e w1 ⟨rfl, hb1⟩
            rw [h1]
            clear h1
            obtain ⟨hc, hf⟩ := bcell hb1
            go_wp2_with fail
            clear hc hf
            refine (HI.out _ _ _).mono ?_
            rintro e w2 ⟨rfl, hb2⟩
            rw [h2]
            clear h2
            replace hb2 := below_step hb1 hb2
            clear hb1
            obtain ⟨hc, hf⟩ := bcell hb2
            go_wp2_with fail
            clear hc hf
            refine (HI.out _ _ _).mono ?_
            rintro e w3 ⟨rfl, hb3⟩
            rw [h3]
            clear h3
            replace hb3 := below_step hb2 hb3
            clear hb2
            obtain ⟨hc, hf⟩ := bcell hb3
            have d0 : w3.cell? ⟨w.heap.size + 2, 0, none⟩ = some (iv 0) := (hc _ _ (by simp <;> omega)).trans (by simp [go_sem])
            have fd0 : w3.frozen? ⟨w.heap.size + 2, 0, none⟩ = false := (hf _ _ (by simp <;> omega)).trans (by simp [go_sem])
            have s0 : w3.cell? ⟨w.heap.size + 3, 0, none⟩ = some (iv b0) := (hc _ _ (by simp <;> omega)).trans (by simp [go_sem])
            have d1 : w3.cell? ⟨w.heap.size + 2, 1, none⟩ = some (iv 0) := (hc _ _ (by simp <;> omega)).trans (by simp [go_sem])
            have fd1 : w3.frozen? ⟨w.heap.size + 2, 1, none⟩ = false := (hf _ _ (by simp <;> omega)).trans (by simp [go_sem])
            have s1 : w3.cell? ⟨w.heap.size + 3, 1, none⟩ = some (iv a1) := (hc _ _ (by simp <;> omega)).trans (by simp [go_sem])
            clear hc hf
            have hz : w.heap.size + 4 ≤ w3.heap.size := by have := hb3.size; simp at this; omega
            go_wp2
            refine bodyPost_ret (v := spanV b0 a1 true) (by simp [results, Try.results34, go_sem, d0, d1]) rfl ⟨ret_congr HT.out, ?_⟩
            have h9 := below_step h0.out hb3
            repeat (first | exact h9 | refine Below.setCell ?_ (by simp <;> omega) _)
    · have e1 : min a1 b1 = b1 := by omega
      replace g1 : b1 < a1 := by omega
      have h0 : Hid (Below w.heap.size w ((((w.alloc (.cells #[iv a0, iv a1] 47)).alloc (.cells #[iv b0, iv b1] 47)).alloc (.cells #[iv 0, iv 0] 47)).alloc (.cells #[iv b0, iv b1] 47))) := hid ((((below_alloc w _).alloc (by simp) _).alloc (by simp <;> omega) _).alloc (by simp <;> omega) _)
      cases h1 : spanB a0 a1
      · skip
        have HT := hid (spanV_no (b := meetB a0 a1 b0 b1) (by simp [meetB, h1]) (max a0 b0) (min a1 b1))
        clear e0 e1
        go_enter Try.func34, Try.ntmps34
        go_wp2_with fail
        refine (HI.out _ _ _).mono ?_
        rintro e w1 ⟨rfl, hb1⟩
        rw [h1]
        clear h1
        obtain ⟨hc, hf⟩ := bcell hb1
        have d0 : w1.cell? ⟨w.heap.size + 2, 0, none⟩ = some (iv 0) := (hc _ _ (by simp <;> omega)).trans (by simp [go_sem])
        have fd0 : w1.frozen? ⟨w.heap.size + 2, 0, none⟩ = false := (hf _ _ (by simp <;> omega)).trans (by simp [go_sem])
        have s0 : w1.cell? ⟨w.heap.size + 3, 0, none⟩ = some (iv b0) := (hc _ _ (by simp <;> omega)).trans (by simp [go_sem])
        have d1 : w1.cell? ⟨w.heap.size + 2, 1, none⟩ = some (iv 0) := (hc _ _ (by simp <;> omega)).trans (by simp [go_sem])
        have fd1 : w1.frozen? ⟨w.heap.size + 2, 1, none⟩ = false := (hf _ _ (by simp <;> omega)).trans (by simp [go_sem])
        have s1 : w1.cell? ⟨w.heap.size + 3, 1, none⟩ = some (iv b1) := (hc _ _ (by simp <;> omega)).trans (by simp [go_sem])
        clear hc hf
        have hz : w.heap.size + 4 ≤ w1.heap.size := by have := hb1.size; simp at this; omega
        go_wp2
        refine bodyPost_ret (v := spanV 0 0 false) (by simp [results, Try.results34, go_sem, d0, d1]) rfl ⟨ret_congr HT.out, ?_⟩
        have h9 := below_step h0.out hb1
        repeat (first | exact h9 | refine Below.setCell ?_ (by simp <;> omega) _)
      · cases h2 : spanB b0 b1
        · skip
          have HT := hid (spanV_no (b := meetB a0 a1 b0 b1) (by simp [meetB, h2]) (max a0 b0) (min a1 b1))
          clear e0 e1
          go_enter Try.func34, Try.ntmps34
          go_wp2_with fail
          refine (HI.out _ _ _).mono ?_
          rintro e w1 ⟨rfl, hb1⟩
          rw [h1]
          clear h1
          obtain ⟨hc, hf⟩ := bcell hb1
          go_wp2_with fail
          clear hc hf
          refine (HI.out _ _ _).mono ?_
          rintro e w2 ⟨rfl, hb2⟩
          rw [h2]
          clear h2
          replace hb2 := below_step hb1 hb2
          clear hb1
          obtain ⟨hc, hf⟩ := bcell hb2
          have d0 : w2.cell? ⟨w.heap.size + 2, 0, none⟩ = some (iv 0) := (hc _ _ (by simp <;> omega)).trans (by simp [go_sem])
          have fd0 : w2.frozen? ⟨w.heap.size + 2, 0, none⟩ = false := (hf _ _ (by simp <;> omega)).trans (by simp [go_sem])
          have s0 : w2.cell? ⟨w.heap.size + 3, 0, none⟩ = some (iv b0) := (hc _ _ (by simp <;> omega)).trans (by simp [go_sem])
          have d1 : w2.cell? ⟨w.heap.size + 2, 1, none⟩ = some (iv 0) := (hc _ _ (by simp <;> omega)).trans (by simp [go_sem])
          have fd1 : w2.frozen? ⟨w.heap.size + 2, 1, none⟩ = false := (hf _ _ (by simp <;> omega)).trans (by simp [go_sem])
          have s1 : w2.cell? ⟨w.heap.size + 3, 1, none⟩ = some (iv b1) := (hc _ _ (by simp <;> omega)).trans (by simp [go_sem])
          clear hc hf
          have hz : w.heap.size + 4 ≤ w2.heap.size := by have := hb2.size; simp at this; omega
          go_wp2
          refine bodyPost_ret (v := spanV 0 0 false) (by simp [results, Try.results34, go_sem, d0, d1]) rfl ⟨ret_congr HT.out, ?_⟩
          have h9 := below_step h0.out hb2
          repeat (first | exact h9 | refine Below.setCell ?_ (by simp <;> omega) _)
        · cases h3 : spanB b0 b1
          · skip
            have HT := hid (spanV_no (b := meetB a0 a1 b0 b1) (meetB_of h1 h2 (by rw [e0, e1]; exact h3)) (max a0 b0) (min a1 b1))
            clear e0 e1
            go_enter Try.func34, Try.ntmps34
            go_wp2_with fail
            refine (HI.out _ _ _).mono ?_
            rintro e w1 ⟨rfl, hb1⟩
            rw [h1]
            clear h1
            obtain ⟨hc, hf⟩ := bcell hb1
            go_wp2_with fail
            clear hc hf
            refine (HI.out _ _ _).mono ?_
            rintro e w2 ⟨rfl, hb2⟩
            rw [h2]
            clear h2
            replace hb2 := below_step hb1 hb2
            clear hb1
            obtain ⟨hc, hf⟩ := bcell hb2
            go_wp2_with fail
            clear hc hf
            refine (HI.out _ _ _).mono ?_
            rintro e w3 ⟨rfl, hb3⟩
            rw [h3]
            clear h3
            replace hb3 := below_step hb2 hb3
            clear hb2
            obtain ⟨hc, hf⟩ := bcell hb3
            have d0 : w3.cell? ⟨w.heap.size + 2, 0, none⟩ = some (iv 0) := (hc _ _ (by simp <;> omega)).trans (by simp [go_sem])
            have fd0 : w3.frozen? ⟨w.heap.size + 2, 0, none⟩ = false := (hf _ _ (by simp <;> omega)).trans (by simp [go_sem])
            have s0 : w3.cell? ⟨w.heap.size + 3, 0, none⟩ = some (iv b0) := (hc _ _ (by simp <;> omega)).trans (by simp [go_sem])
            have d1 : w3.cell? ⟨w.heap.size + 2, 1, none⟩ = some (iv 0) := (hc _ _ (by simp <;> omega)).trans (by simp [go_sem])
            have fd1 : w3.frozen? ⟨w.heap.size + 2, 1, none⟩ = false := (hf _ _ (by simp <;> omega)).trans (by simp [go_sem])
            have s1 : w3.cell? ⟨w.heap.size + 3, 1, none⟩ = some (iv b1) := (hc _ _ (by simp <;> omega)).trans (by simp [go_sem])
            clear hc hf
            have hz : w.heap.size + 4 ≤ w3.heap.size := by have := hb3.size; simp at this; omega
            go_wp2
            refine bodyPost_ret (v := spanV 0 0 false) (by simp [results, Try.results34, go_sem, d0, d1]) rfl ⟨ret_congr HT.out, ?_⟩
            have h9 := below_step h0.out hb3
            repeat (first | exact h9 | refine Below.setCell ?_ (by simp <;> omega) _)
          · skip
            have HT := hid (spanV_yes (b := meetB a0 a1 b0 b1) (meetB_of h1 h2 (by rw [e0, e1]; exact h3)) e0.symm e1.symm)
            clear e0 e1
            go_enter Try.func34, Try.ntmps34
            go_wp2_with fail
            refine (HI.out _ _ _).mono ?_
            rintro e w1 ⟨rfl, hb1⟩
            rw [h1]
            clear h1
            obtain ⟨hc, hf⟩ := bcell hb1
            go_wp2_with fail
            clear hc hf
            refine (HI.out _ _ _).mono ?_
            rintro e w2 ⟨rfl, hb2⟩
            rw [h2]
            clear h2
            replace hb2 := below_step hb1 hb2
            clear hb1
            obtain ⟨hc, hf⟩ := bcell hb2
            go_wp2_with fail
            clear hc hf
            refine (HI.out _ _ _).mono ?_
            rintro e w3 ⟨rfl, hb3⟩
            rw [h3]
            clear h3
            replace hb3 := below_step hb2 hb3
            clear hb2
            obtain ⟨hc, hf⟩ := bcell hb3
            have d0 : w3.cell? ⟨w.heap.size + 2, 0, none⟩ = some (iv 0) := (hc _ _ (by simp <;> omega)).trans (by simp [go_sem])
            have fd0 : w3.frozen? ⟨w.heap.size + 2, 0, none⟩ = false := (hf _ _ (by simp <;> omega)).trans (by simp [go_sem])
            have s0 : w3.cell? ⟨w.heap.size + 3, 0, none⟩ = some (iv b0) := (hc _ _ (by simp <;> omega)).trans (by simp [go_sem])
            have d1 : w3.cell? ⟨w.heap.size + 2, 1, none⟩ = some (iv 0) := (hc _ _ (by simp <;> omega)).trans (by simp [go_sem])
            have fd1 : w3.frozen? ⟨w.heap.size + 2, 1, none⟩ = false := (hf _ _ (by simp <;> omega)).trans (by simp [go_sem])
            have s1 : w3.cell? ⟨w.heap.size + 3, 1, none⟩ = some (iv b1) := (hc _ _ (by simp <;> omega)).trans (by simp [go_sem])
            clear hc hf
            have hz : w.heap.size + 4 ≤ w3.heap.size := by have := hb3.size; simp at this; omega
            go_wp2
            refine bodyPost_ret (v := spanV b0 b1 true) (by simp [results, Try.results34, go_sem, d0, d1]) rfl ⟨ret_congr HT.out, ?_⟩
            have h9 := below_step h0.out hb3
            repeat (first | exact h9 | refine Below.setCell ?_ (by simp <;> omega) _)
end Go.Proofs.Ytkdpfbodmfjkkaa
