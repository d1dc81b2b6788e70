/- MakeSpan and MeetSpans of the program and of the reference return what the plain functions say. No condition. -/
import Derived.Test.YtcfealjfanoegaaRows
import Derived.Test.YtcfealjfanoegaaPlain
import Derived.Test.YtcfealjfanoegaaChkSpan
namespace Go.Proofs.Ytcfealjfanoegaa
open Go.RowKit

def mkB (f t : Int) : Bool := decide (max f 0 ≤ min t 10000)
def mkL (f t : Int) : Int := if mkB f t then max f 0 else 0
def mkR (f t : Int) : Int := if mkB f t then min t 10000 else 0
def meetB (a0 a1 b0 b1 : Int) : Bool := spanB a0 a1 && spanB b0 b1 && decide (max a0 b0 ≤ min a1 b1)
def meetL (a0 a1 b0 b1 : Int) : Int := if meetB a0 a1 b0 b1 then max a0 b0 else 0
def meetR (a0 a1 b0 b1 : Int) : Int := if meetB a0 a1 b0 b1 then min a1 b1 else 0
abbrev spanV (x y : Int) (b : Bool) : Value := .tuple #[.agg #[iv x, iv y], .bool b]
theorem spanV_no {b : Bool} (h : b = false) (x y : Int) : spanV 0 0 false = spanV (if b then x else 0) (if b then y else 0) b := by subst h; rfl
theorem spanV_yes {b : Bool} (h : b = true) {x y x' y' : Int} (hx : x' = x) (hy : y' = y) : spanV x' y' true = spanV (if b then x else 0) (if b then y else 0) b := by subst h hx hy; rfl
theorem meetB_of {a0 a1 b0 b1 : Int} {c : Bool} (h1 : spanB a0 a1 = true) (h2 : spanB b0 b1 = true) (h3 : spanB (max a0 b0) (min a1 b1) = c) : meetB a0 a1 b0 b1 = c := by
  rw [← h3, meetB, h1, h2, Bool.true_and, Bool.true_and, Bool.eq_iff_iff, decide_eq_true_iff, spanB_iff]
  rw [spanB_iff] at h1 h2
  omega
theorem meetB_mk {a0 a1 b0 b1 : Int} (h1 : spanB a0 a1 = true) (h2 : spanB b0 b1 = true) : mkB (max a0 b0) (min a1 b1) = meetB a0 a1 b0 b1 ∧ mkL (max a0 b0) (min a1 b1) = meetL a0 a1 b0 b1 ∧ mkR (max a0 b0) (min a1 b1) = meetR a0 a1 b0 b1 := by
  have h : mkB (max a0 b0) (min a1 b1) = meetB a0 a1 b0 b1 := by
    rw [meetB, h1, h2, Bool.true_and, Bool.true_and, mkB, Bool.eq_iff_iff, decide_eq_true_iff, decide_eq_true_iff]
    rw [spanB_iff] at h1 h2
    omega
  refine ⟨h, ?_, ?_⟩
  · rw [mkL, meetL, h]
    rw [spanB_iff] at h1 h2
    split <;> omega
  · rw [mkR, meetR, h]
    rw [spanB_iff] at h1 h2
    split <;> omega
theorem mkB_of {f t : Int} {c : Bool} (_h : f ≤ t) (h3 : spanB (max f 0) (min t 10000) = c) : mkB f t = c := by
  rw [← h3, mkB, Bool.eq_iff_iff, decide_eq_true_iff, spanB_iff]
  omega
theorem mkB_not {f t : Int} (h : t < f) : mkB f t = false := by
  rw [mkB, decide_eq_false_iff_not]
  omega

set_option maxHeartbeats 400000 in
theorem specMax_same (a b : Int) (w : World) : Calls Try.prog 85 #[iv a, iv b] w fun e w' => e = .returned (iv (max a b)) ∧ w' = w := by
  by_cases h : a < b
  · have HM := hid (Int.max_eq_right (Int.le_of_lt h))
    go_enter Try.func85, Try.ntmps85
    go_wp2
    go_ret
    exact ⟨ret_int HM.out.symm, rfl⟩
  · have HM := hid (Int.max_eq_left (show b ≤ a by omega))
    go_enter Try.func85, Try.ntmps85
    go_wp2
    go_ret
    exact ⟨ret_int HM.out.symm, rfl⟩
set_option maxHeartbeats 400000 in
theorem specMin_same (a b : Int) (w : World) : Calls Try.prog 138 #[iv a, iv b] w fun e w' => e = .returned (iv (min a b)) ∧ w' = w := by
  by_cases h : b < a
  · have HM := hid (Int.min_eq_right (Int.le_of_lt h))
    go_enter Try.func138, Try.ntmps138
    go_wp2
    go_ret
    exact ⟨ret_int HM.out.symm, rfl⟩
  · have HM := hid (Int.min_eq_left (show a ≤ b by omega))
    go_enter Try.func138, Try.ntmps138
    go_wp2
    go_ret
    exact ⟨ret_int HM.out.symm, rfl⟩


set_option maxHeartbeats 1000000 in
theorem implMakeSpan_any (f t : Int) (w : World) :
    Calls Try.prog 97 #[iv f, iv t] w (Ret (spanV (mkL f t) (mkR f t) (mkB f t)) w) := by
  have HI : Hid (∀ (x y : Int) (W : World), Calls Try.prog 113 #[.agg #[iv x, iv y]] W (Ret (.bool (spanB x y)) W)) := hid implIsSpan_any
  by_cases g0 : 0 ≤ f
  · have e0 : max f 0 = f := by omega
    by_cases g1 : t ≤ 10000
    · have e1 : min t 10000 = t := by omega
      by_cases h : t < f
      · have HT := hid (spanV_no (mkB_not h) (max f 0) (min t 10000))
        clear e0 e1
        go_enter Try.func97, Try.ntmps97
        go_wp2
        refine bodyPost_ret (v := spanV 0 0 false) (by simp [results, Try.results97, go_sem]) rfl ⟨ret_congr HT.out, ?_⟩
        repeat (first | exact Below.refl _ _ | refine Below.setCell ?_ (by simp) _ | refine Below.alloc ?_ (by simp <;> omega) _)
      have h' : f ≤ t := by omega
      clear h
      cases hx : spanB f t
      · have HT := hid (spanV_no (mkB_of h' (by rw [e0, e1]; exact hx)) (max f 0) (min t 10000))
        clear e0 e1
        go_enter Try.func97, Try.ntmps97
        go_wp2_with fail
        refine (HI.out _ _ _).mono ?_
        rintro e w1 ⟨rfl, hb1⟩
        rw [hx]
        clear hx
        obtain ⟨hc, hf⟩ := bcell hb1
        have d0 : w1.cell? ⟨w.heap.size, 0, none⟩ = some (iv 0) := (hc _ _ (by simp <;> omega)).trans (by simp [go_sem])
        have fd0 : w1.frozen? ⟨w.heap.size, 0, none⟩ = false := (hf _ _ (by simp <;> omega)).trans (by simp [go_sem])
        have s0 : w1.cell? ⟨w.heap.size + 1, 0, none⟩ = some (iv f) := (hc _ _ (by simp <;> omega)).trans (by simp [go_sem])
        have d1 : w1.cell? ⟨w.heap.size, 1, none⟩ = some (iv 0) := (hc _ _ (by simp <;> omega)).trans (by simp [go_sem])
        have fd1 : w1.frozen? ⟨w.heap.size, 1, none⟩ = false := (hf _ _ (by simp <;> omega)).trans (by simp [go_sem])
        have s1 : w1.cell? ⟨w.heap.size + 1, 1, none⟩ = some (iv t) := (hc _ _ (by simp <;> omega)).trans (by simp [go_sem])
        clear hc hf
        have hz : w.heap.size + 2 ≤ w1.heap.size := by have := hb1.size; simp at this; omega
        go_wp2
        refine bodyPost_ret (v := spanV 0 0 false) (by simp [results, Try.results97, go_sem, d0, d1]) rfl ⟨ret_congr HT.out, ?_⟩
        have h1 := below_step ((below_alloc w _).alloc (by simp) _) hb1
        repeat (first | exact h1 | refine Below.setCell ?_ (by simp) _)
      · have HT := hid (spanV_yes (mkB_of h' (by rw [e0, e1]; exact hx)) e0.symm e1.symm)
        clear e0 e1
        go_enter Try.func97, Try.ntmps97
        go_wp2_with fail
        refine (HI.out _ _ _).mono ?_
        rintro e w1 ⟨rfl, hb1⟩
        rw [hx]
        clear hx
        obtain ⟨hc, hf⟩ := bcell hb1
        have d0 : w1.cell? ⟨w.heap.size, 0, none⟩ = some (iv 0) := (hc _ _ (by simp <;> omega)).trans (by simp [go_sem])
        have fd0 : w1.frozen? ⟨w.heap.size, 0, none⟩ = false := (hf _ _ (by simp <;> omega)).trans (by simp [go_sem])
        have s0 : w1.cell? ⟨w.heap.size + 1, 0, none⟩ = some (iv f) := (hc _ _ (by simp <;> omega)).trans (by simp [go_sem])
        have d1 : w1.cell? ⟨w.heap.size, 1, none⟩ = some (iv 0) := (hc _ _ (by simp <;> omega)).trans (by simp [go_sem])
        have fd1 : w1.frozen? ⟨w.heap.size, 1, none⟩ = false := (hf _ _ (by simp <;> omega)).trans (by simp [go_sem])
        have s1 : w1.cell? ⟨w.heap.size + 1, 1, none⟩ = some (iv t) := (hc _ _ (by simp <;> omega)).trans (by simp [go_sem])
        clear hc hf
        have hz : w.heap.size + 2 ≤ w1.heap.size := by have := hb1.size; simp at this; omega
        go_wp2
        refine bodyPost_ret (v := spanV f t true) (by simp [results, Try.results97, go_sem, d0, d1]) rfl ⟨ret_congr HT.out, ?_⟩
        have h1 := below_step ((below_alloc w _).alloc (by simp) _) hb1
        repeat (first | exact h1 | refine Below.setCell ?_ (by simp) _)
    · have e1 : min t 10000 = 10000 := by omega
      replace g1 : 10000 < t := by omega
      by_cases h : t < f
      · have HT := hid (spanV_no (mkB_not h) (max f 0) (min t 10000))
        clear e0 e1
        go_enter Try.func97, Try.ntmps97
        go_wp2
        refine bodyPost_ret (v := spanV 0 0 false) (by simp [results, Try.results97, go_sem]) rfl ⟨ret_congr HT.out, ?_⟩
        repeat (first | exact Below.refl _ _ | refine Below.setCell ?_ (by simp) _ | refine Below.alloc ?_ (by simp <;> omega) _)
      have h' : f ≤ t := by omega
      clear h
      cases hx : spanB f 10000
      · have HT := hid (spanV_no (mkB_of h' (by rw [e0, e1]; exact hx)) (max f 0) (min t 10000))
        clear e0 e1
        go_enter Try.func97, Try.ntmps97
        go_wp2_with fail
        refine (HI.out _ _ _).mono ?_
        rintro e w1 ⟨rfl, hb1⟩
        rw [hx]
        clear hx
        obtain ⟨hc, hf⟩ := bcell hb1
        have d0 : w1.cell? ⟨w.heap.size, 0, none⟩ = some (iv 0) := (hc _ _ (by simp <;> omega)).trans (by simp [go_sem])
        have fd0 : w1.frozen? ⟨w.heap.size, 0, none⟩ = false := (hf _ _ (by simp <;> omega)).trans (by simp [go_sem])
        have s0 : w1.cell? ⟨w.heap.size + 1, 0, none⟩ = some (iv f) := (hc _ _ (by simp <;> omega)).trans (by simp [go_sem])
        have d1 : w1.cell? ⟨w.heap.size, 1, none⟩ = some (iv 0) := (hc _ _ (by simp <;> omega)).trans (by simp [go_sem])
        have fd1 : w1.frozen? ⟨w.heap.size, 1, none⟩ = false := (hf _ _ (by simp <;> omega)).trans (by simp [go_sem])
        have s1 : w1.cell? ⟨w.heap.size + 1, 1, none⟩ = some (iv 10000) := (hc _ _ (by simp <;> omega)).trans (by simp [go_sem])
        clear hc hf
        have hz : w.heap.size + 2 ≤ w1.heap.size := by have := hb1.size; simp at this; omega
        go_wp2
        refine bodyPost_ret (v := spanV 0 0 false) (by simp [results, Try.results97, go_sem, d0, d1]) rfl ⟨ret_congr HT.out, ?_⟩
        have h1 := below_step ((below_alloc w _).alloc (by simp) _) hb1
        repeat (first | exact h1 | refine Below.setCell ?_ (by simp) _)
      · have HT := hid (spanV_yes (mkB_of h' (by rw [e0, e1]; exact hx)) e0.symm e1.symm)
        clear e0 e1
        go_enter Try.func97, Try.ntmps97
        go_wp2_with fail
        refine (HI.out _ _ _).mono ?_
        rintro e w1 ⟨rfl, hb1⟩
        rw [hx]
        clear hx
        obtain ⟨hc, hf⟩ := bcell hb1
        have d0 : w1.cell? ⟨w.heap.size, 0, none⟩ = some (iv 0) := (hc _ _ (by simp <;> omega)).trans (by simp [go_sem])
        have fd0 : w1.frozen? ⟨w.heap.size, 0, none⟩ = false := (hf _ _ (by simp <;> omega)).trans (by simp [go_sem])
        have s0 : w1.cell? ⟨w.heap.size + 1, 0, none⟩ = some (iv f) := (hc _ _ (by simp <;> omega)).trans (by simp [go_sem])
        have d1 : w1.cell? ⟨w.heap.size, 1, none⟩ = some (iv 0) := (hc _ _ (by simp <;> omega)).trans (by simp [go_sem])
        have fd1 : w1.frozen? ⟨w.heap.size, 1, none⟩ = false := (hf _ _ (by simp <;> omega)).trans (by simp [go_sem])
        have s1 : w1.cell? ⟨w.heap.size + 1, 1, none⟩ = some (iv 10000) := (hc _ _ (by simp <;> omega)).trans (by simp [go_sem])
        clear hc hf
        have hz : w.heap.size + 2 ≤ w1.heap.size := by have := hb1.size; simp at this; omega
        go_wp2
        refine bodyPost_ret (v := spanV f 10000 true) (by simp [results, Try.results97, go_sem, d0, d1]) rfl ⟨ret_congr HT.out, ?_⟩
        have h1 := below_step ((below_alloc w _).alloc (by simp) _) hb1
        repeat (first | exact h1 | refine Below.setCell ?_ (by simp) _)
  · have e0 : max f 0 = 0 := by omega
    replace g0 : f < 0 := by omega
    by_cases g1 : t ≤ 10000
    · have e1 : min t 10000 = t := by omega
      by_cases h : t < f
      · have HT := hid (spanV_no (mkB_not h) (max f 0) (min t 10000))
        clear e0 e1
        go_enter Try.func97, Try.ntmps97
        go_wp2
        refine bodyPost_ret (v := spanV 0 0 false) (by simp [results, Try.results97, go_sem]) rfl ⟨ret_congr HT.out, ?_⟩
        repeat (first | exact Below.refl _ _ | refine Below.setCell ?_ (by simp) _ | refine Below.alloc ?_ (by simp <;> omega) _)
      have h' : f ≤ t := by omega
      clear h
      cases hx : spanB 0 t
      · have HT := hid (spanV_no (mkB_of h' (by rw [e0, e1]; exact hx)) (max f 0) (min t 10000))
        clear e0 e1
        go_enter Try.func97, Try.ntmps97
        go_wp2_with fail
        refine (HI.out _ _ _).mono ?_
        rintro e w1 ⟨rfl, hb1⟩
        rw [hx]
        clear hx
        obtain ⟨hc, hf⟩ := bcell hb1
        have d0 : w1.cell? ⟨w.heap.size, 0, none⟩ = some (iv 0) := (hc _ _ (by simp <;> omega)).trans (by simp [go_sem])
        have fd0 : w1.frozen? ⟨w.heap.size, 0, none⟩ = false := (hf _ _ (by simp <;> omega)).trans (by simp [go_sem])
        have s0 : w1.cell? ⟨w.heap.size + 1, 0, none⟩ = some (iv 0) := (hc _ _ (by simp <;> omega)).trans (by simp [go_sem])
        have d1 : w1.cell? ⟨w.heap.size, 1, none⟩ = some (iv 0) := (hc _ _ (by simp <;> omega)).trans (by simp [go_sem])
        have fd1 : w1.frozen? ⟨w.heap.size, 1, none⟩ = false := (hf _ _ (by simp <;> omega)).trans (by simp [go_sem])
        have s1 : w1.cell? ⟨w.heap.size + 1, 1, none⟩ = some (iv t) := (hc _ _ (by simp <;> omega)).trans (by simp [go_sem])
        clear hc hf
        have hz : w.heap.size + 2 ≤ w1.heap.size := by have := hb1.size; simp at this; omega
        go_wp2
        refine bodyPost_ret (v := spanV 0 0 false) (by simp [results, Try.results97, go_sem, d0, d1]) rfl ⟨ret_congr HT.out, ?_⟩
        have h1 := below_step ((below_alloc w _).alloc (by simp) _) hb1
        repeat (first | exact h1 | refine Below.setCell ?_ (by simp) _)
      · have HT := hid (spanV_yes (mkB_of h' (by rw [e0, e1]; exact hx)) e0.symm e1.symm)
        clear e0 e1
        go_enter Try.func97, Try.ntmps97
        go_wp2_with fail
        refine (HI.out _ _ _).mono ?_
        rintro e w1 ⟨rfl, hb1⟩
        rw [hx]
        clear hx
        obtain ⟨hc, hf⟩ := bcell hb1
        have d0 : w1.cell? ⟨w.heap.size, 0, none⟩ = some (iv 0) := (hc _ _ (by simp <;> omega)).trans (by simp [go_sem])
        have fd0 : w1.frozen? ⟨w.heap.size, 0, none⟩ = false := (hf _ _ (by simp <;> omega)).trans (by simp [go_sem])
        have s0 : w1.cell? ⟨w.heap.size + 1, 0, none⟩ = some (iv 0) := (hc _ _ (by simp <;> omega)).trans (by simp [go_sem])
        have d1 : w1.cell? ⟨w.heap.size, 1, none⟩ = some (iv 0) := (hc _ _ (by simp <;> omega)).trans (by simp [go_sem])
        have fd1 : w1.frozen? ⟨w.heap.size, 1, none⟩ = false := (hf _ _ (by simp <;> omega)).trans (by simp [go_sem])
        have s1 : w1.cell? ⟨w.heap.size + 1, 1, none⟩ = some (iv t) := (hc _ _ (by simp <;> omega)).trans (by simp [go_sem])
        clear hc hf
        have hz : w.heap.size + 2 ≤ w1.heap.size := by have := hb1.size; simp at this; omega
        go_wp2
        refine bodyPost_ret (v := spanV 0 t true) (by simp [results, Try.results97, go_sem, d0, d1]) rfl ⟨ret_congr HT.out, ?_⟩
        have h1 := below_step ((below_alloc w _).alloc (by simp) _) hb1
        repeat (first | exact h1 | refine Below.setCell ?_ (by simp) _)
    · have e1 : min t 10000 = 10000 := by omega
      replace g1 : 10000 < t := by omega
      by_cases h : t < f
      · exfalso; omega
      have h' : f ≤ t := by omega
      clear h
      cases hx : spanB 0 10000
      · have HT := hid (spanV_no (mkB_of h' (by rw [e0, e1]; exact hx)) (max f 0) (min t 10000))
        clear e0 e1
        go_enter Try.func97, Try.ntmps97
        go_wp2_with fail
        refine (HI.out _ _ _).mono ?_
        rintro e w1 ⟨rfl, hb1⟩
        rw [hx]
        clear hx
        obtain ⟨hc, hf⟩ := bcell hb1
        have d0 : w1.cell? ⟨w.heap.size, 0, none⟩ = some (iv 0) := (hc _ _ (by simp <;> omega)).trans (by simp [go_sem])
        have fd0 : w1.frozen? ⟨w.heap.size, 0, none⟩ = false := (hf _ _ (by simp <;> omega)).trans (by simp [go_sem])
        have s0 : w1.cell? ⟨w.heap.size + 1, 0, none⟩ = some (iv 0) := (hc _ _ (by simp <;> omega)).trans (by simp [go_sem])
        have d1 : w1.cell? ⟨w.heap.size, 1, none⟩ = some (iv 0) := (hc _ _ (by simp <;> omega)).trans (by simp [go_sem])
        have fd1 : w1.frozen? ⟨w.heap.size, 1, none⟩ = false := (hf _ _ (by simp <;> omega)).trans (by simp [go_sem])
        have s1 : w1.cell? ⟨w.heap.size + 1, 1, none⟩ = some (iv 10000) := (hc _ _ (by simp <;> omega)).trans (by simp [go_sem])
        clear hc hf
        have hz : w.heap.size + 2 ≤ w1.heap.size := by have := hb1.size; simp at this; omega
        go_wp2
        refine bodyPost_ret (v := spanV 0 0 false) (by simp [results, Try.results97, go_sem, d0, d1]) rfl ⟨ret_congr HT.out, ?_⟩
        have h1 := below_step ((below_alloc w _).alloc (by simp) _) hb1
        repeat (first | exact h1 | refine Below.setCell ?_ (by simp) _)
      · have HT := hid (spanV_yes (mkB_of h' (by rw [e0, e1]; exact hx)) e0.symm e1.symm)
        clear e0 e1
        go_enter Try.func97, Try.ntmps97
        go_wp2_with fail
        refine (HI.out _ _ _).mono ?_
        rintro e w1 ⟨rfl, hb1⟩
        rw [hx]
        clear hx
        obtain ⟨hc, hf⟩ := bcell hb1
        have d0 : w1.cell? ⟨w.heap.size, 0, none⟩ = some (iv 0) := (hc _ _ (by simp <;> omega)).trans (by simp [go_sem])
        have fd0 : w1.frozen? ⟨w.heap.size, 0, none⟩ = false := (hf _ _ (by simp <;> omega)).trans (by simp [go_sem])
        have s0 : w1.cell? ⟨w.heap.size + 1, 0, none⟩ = some (iv 0) := (hc _ _ (by simp <;> omega)).trans (by simp [go_sem])
        have d1 : w1.cell? ⟨w.heap.size, 1, none⟩ = some (iv 0) := (hc _ _ (by simp <;> omega)).trans (by simp [go_sem])
        have fd1 : w1.frozen? ⟨w.heap.size, 1, none⟩ = false := (hf _ _ (by simp <;> omega)).trans (by simp [go_sem])
        have s1 : w1.cell? ⟨w.heap.size + 1, 1, none⟩ = some (iv 10000) := (hc _ _ (by simp <;> omega)).trans (by simp [go_sem])
        clear hc hf
        have hz : w.heap.size + 2 ≤ w1.heap.size := by have := hb1.size; simp at this; omega
        go_wp2
        refine bodyPost_ret (v := spanV 0 10000 true) (by simp [results, Try.results97, go_sem, d0, d1]) rfl ⟨ret_congr HT.out, ?_⟩
        have h1 := below_step ((below_alloc w _).alloc (by simp) _) hb1
        repeat (first | exact h1 | refine Below.setCell ?_ (by simp) _)
set_option maxHeartbeats 1000000 in
theorem specMakeSpan_any (f t : Int) (w : World) :
    Calls Try.prog 93 #[iv f, iv t] w (Ret (spanV (mkL f t) (mkR f t) (mkB f t)) w) := by
  have e1 : max 0 f = max f 0 := by omega
  have e2 : min 10000 t = min t 10000 := by omega
  have HI : Hid (∀ W : World, Calls Try.prog 85 #[iv 0, iv f] W fun e w' => e = .returned (iv (max f 0)) ∧ w' = W) := hid fun W => by rw [← e1]; exact specMax_same _ _ W
  have HJ : Hid (∀ W : World, Calls Try.prog 138 #[iv 10000, iv t] W fun e w' => e = .returned (iv (min t 10000)) ∧ w' = W) := hid fun W => by rw [← e2]; exact specMin_same _ _ W
  clear e1 e2
  by_cases h : max f 0 ≤ min t 10000
  · have HT := hid (spanV_yes (b := mkB f t) (x := max f 0) (y := min t 10000) (by simpa [mkB] using h) rfl rfl)
    have hd : decide (min t 10000 < max f 0) = false := by simpa using h
    clear h
    go_enter Try.func93, Try.ntmps93
    go_wp2_with fail
    refine (HI.out _).mono ?_
    rintro e w1 ⟨rfl, rfl⟩
    go_wp2_with fail
    refine (HJ.out _).mono ?_
    rintro e w1 ⟨rfl, rfl⟩
    go_wp2
    refine bodyPost_ret (v := spanV (max f 0) (min t 10000) true) (by simp [results, Try.results93, go_sem]) rfl ⟨ret_congr HT.out, ?_⟩
    repeat (first | exact Below.refl _ _ | refine Below.setCell ?_ (by simp) _ | refine Below.alloc ?_ (by simp <;> omega) _)
  · have HT := hid (spanV_no (b := mkB f t) (by simpa [mkB] using h) (max f 0) (min t 10000))
    have hd : decide (min t 10000 < max f 0) = true := by simpa using h
    clear h
    go_enter Try.func93, Try.ntmps93
    go_wp2_with fail
    refine (HI.out _).mono ?_
    rintro e w1 ⟨rfl, rfl⟩
    go_wp2_with fail
    refine (HJ.out _).mono ?_
    rintro e w1 ⟨rfl, rfl⟩
    go_wp2
    refine bodyPost_ret (v := spanV 0 0 false) (by simp [results, Try.results93, go_sem]) rfl ⟨ret_congr HT.out, ?_⟩
    repeat (first | exact Below.refl _ _ | refine Below.setCell ?_ (by simp) _ | refine Below.alloc ?_ (by simp <;> omega) _)
set_option maxHeartbeats 4000000 in
theorem implMeetSpans_any (a0 a1 b0 b1 : Int) (w : World) :
    Calls Try.prog 106 #[.agg #[iv a0, iv a1], .agg #[iv b0, iv b1]] w (Ret (spanV (meetL a0 a1 b0 b1) (meetR a0 a1 b0 b1) (meetB a0 a1 b0 b1)) w) := by
  have HI : Hid (∀ (x y : Int) (W : World), Calls Try.prog 113 #[.agg #[iv x, iv y]] W (Ret (.bool (spanB x y)) W)) := hid implIsSpan_any
  by_cases g0 : b0 ≤ a0
  · have e0 : max a0 b0 = a0 := by omega
    by_cases g1 : a1 ≤ b1
    · have e1 : min a1 b1 = a1 := by omega
      have h0 : Hid (Below w.heap.size w ((((w.alloc (.cells #[iv a0, iv a1] 55)).alloc (.cells #[iv b0, iv b1] 55)).alloc (.cells #[iv 0, iv 0] 55)).alloc (.cells #[iv a0, iv a1] 55))) := hid ((((below_alloc w _).alloc (by simp) _).alloc (by simp <;> omega) _).alloc (by simp <;> omega) _)
      cases h1 : spanB a0 a1
      · skip
        have HT := hid (spanV_no (b := meetB a0 a1 b0 b1) (by simp [meetB, h1]) (max a0 b0) (min a1 b1))
        clear e0 e1
        go_enter Try.func106, Try.ntmps106
        go_wp2_with fail
        refine (HI.out _ _ _).mono ?_
        rintro e w1 ⟨rfl, hb1⟩
        rw [h1]
        clear h1
        obtain ⟨hc, hf⟩ := bcell hb1
        have d0 : w1.cell? ⟨w.heap.size + 2, 0, none⟩ = some (iv 0) := (hc _ _ (by simp <;> omega)).trans (by simp [go_sem])
        have fd0 : w1.frozen? ⟨w.heap.size + 2, 0, none⟩ = false := (hf _ _ (by simp <;> omega)).trans (by simp [go_sem])
        have s0 : w1.cell? ⟨w.heap.size + 3, 0, none⟩ = some (iv a0) := (hc _ _ (by simp <;> omega)).trans (by simp [go_sem])
        have d1 : w1.cell? ⟨w.heap.size + 2, 1, none⟩ = some (iv 0) := (hc _ _ (by simp <;> omega)).trans (by simp [go_sem])
        have fd1 : w1.frozen? ⟨w.heap.size + 2, 1, none⟩ = false := (hf _ _ (by simp <;> omega)).trans (by simp [go_sem])
        have s1 : w1.cell? ⟨w.heap.size + 3, 1, none⟩ = some (iv a1) := (hc _ _ (by simp <;> omega)).trans (by simp [go_sem])
        clear hc hf
        have hz : w.heap.size + 4 ≤ w1.heap.size := by have := hb1.size; simp at this; omega
        go_wp2
        refine bodyPost_ret (v := spanV 0 0 false) (by simp [results, Try.results106, go_sem, d0, d1]) rfl ⟨ret_congr HT.out, ?_⟩
        have h9 := below_step h0.out hb1
        repeat (first | exact h9 | refine Below.setCell ?_ (by simp <;> omega) _)
      · cases h2 : spanB b0 b1
        · skip
          have HT := hid (spanV_no (b := meetB a0 a1 b0 b1) (by simp [meetB, h2]) (max a0 b0) (min a1 b1))
          clear e0 e1
          go_enter Try.func106, Try.ntmps106
          go_wp2_with fail
          refine (HI.out _ _ _).mono ?_
          rintro e w1 ⟨rfl, hb1⟩
          rw [h1]
          clear h1
          obtain ⟨hc, hf⟩ := bcell hb1
          go_wp2_with fail
          clear hc hf
          refine (HI.out _ _ _).mono ?_
          rintro e w2 ⟨rfl, hb2⟩
          rw [h2]
          clear h2
          replace hb2 := below_step hb1 hb2
          clear hb1
          obtain ⟨hc, hf⟩ := bcell hb2
          have d0 : w2.cell? ⟨w.heap.size + 2, 0, none⟩ = some (iv 0) := (hc _ _ (by simp <;> omega)).trans (by simp [go_sem])
          have fd0 : w2.frozen? ⟨w.heap.size + 2, 0, none⟩ = false := (hf _ _ (by simp <;> omega)).trans (by simp [go_sem])
          have s0 : w2.cell? ⟨w.heap.size + 3, 0, none⟩ = some (iv a0) := (hc _ _ (by simp <;> omega)).trans (by simp [go_sem])
          have d1 : w2.cell? ⟨w.heap.size + 2, 1, none⟩ = some (iv 0) := (hc _ _ (by simp <;> omega)).trans (by simp [go_sem])
          have fd1 : w2.frozen? ⟨w.heap.size + 2, 1, none⟩ = false := (hf _ _ (by simp <;> omega)).trans (by simp [go_sem])
          have s1 : w2.cell? ⟨w.heap.size + 3, 1, none⟩ = some (iv a1) := (hc _ _ (by simp <;> omega)).trans (by simp [go_sem])
          clear hc hf
          have hz : w.heap.size + 4 ≤ w2.heap.size := by have := hb2.size; simp at this; omega
          go_wp2
          refine bodyPost_ret (v := spanV 0 0 false) (by simp [results, Try.results106, go_sem, d0, d1]) rfl ⟨ret_congr HT.out, ?_⟩
          have h9 := below_step h0.out hb2
          repeat (first | exact h9 | refine Below.setCell ?_ (by simp <;> omega) _)
        · cases h3 : spanB a0 a1
          · skip
            have HT := hid (spanV_no (b := meetB a0 a1 b0 b1) (meetB_of h1 h2 (by rw [e0, e1]; exact h3)) (max a0 b0) (min a1 b1))
            clear e0 e1
            go_enter Try.func106, Try.ntmps106
            go_wp2_with fail
            refine (HI.out _ _ _).mono ?_
            rintro e w1 ⟨rfl, hb1⟩
            rw [h1]
            clear h1
            obtain ⟨hc, hf⟩ := bcell hb1
            go_wp2_with fail
            clear hc hf
            refine (HI.out _ _ _).mono ?_
            rintro e w2 ⟨rfl, hb2⟩
            rw [h2]
            clear h2
            replace hb2 := below_step hb1 hb2
            clear hb1
            obtain ⟨hc, hf⟩ := bcell hb2
            go_wp2_with fail
            clear hc hf
            refine (HI.out _ _ _).mono ?_
            rintro e w3 ⟨rfl, hb3⟩
            rw [h3]
            clear h3
            replace hb3 := below_step hb2 hb3
            clear hb2
            obtain ⟨hc, hf⟩ := bcell hb3
            have d0 : w3.cell? ⟨w.heap.size + 2, 0, none⟩ = some (iv 0) := (hc _ _ (by simp <;> omega)).trans (by simp [go_sem])
            have fd0 : w3.frozen? ⟨w.heap.size + 2, 0, none⟩ = false := (hf _ _ (by simp <;> omega)).trans (by simp [go_sem])
            have s0 : w3.cell? ⟨w.heap.size + 3, 0, none⟩ = some (iv a0) := (hc _ _ (by simp <;> omega)).trans (by simp [go_sem])
            have d1 : w3.cell? ⟨w.heap.size + 2, 1, none⟩ = some (iv 0) := (hc _ _ (by simp <;> omega)).trans (by simp [go_sem])
            have fd1 : w3.frozen? ⟨w.heap.size + 2, 1, none⟩ = false := (hf _ _ (by simp <;> omega)).trans (by simp [go_sem])
            have s1 : w3.cell? ⟨w.heap.size + 3, 1, none⟩ = some (iv a1) := (hc _ _ (by simp <;> omega)).trans (by simp [go_sem])
            clear hc hf
            have hz : w.heap.size + 4 ≤ w3.heap.size := by have := hb3.size; simp at this; omega
            go_wp2
            refine bodyPost_ret (v := spanV 0 0 false) (by simp [results, Try.results106, go_sem, d0, d1]) rfl ⟨ret_congr HT.out, ?_⟩
            have h9 := below_step h0.out hb3
            repeat (first | exact h9 | refine Below.setCell ?_ (by simp <;> omega) _)
          · skip
            have HT := hid (spanV_yes (b := meetB a0 a1 b0 b1) (meetB_of h1 h2 (by rw [e0, e1]; exact h3)) e0.symm e1.symm)
            clear e0 e1
            go_enter Try.func106, Try.ntmps106
            go_wp2_with fail
            refine (HI.out _ _ _).mono ?_
            rintro e w1 ⟨rfl, hb1⟩
            rw [h1]
            clear h1
            obtain ⟨hc, hf⟩ := bcell hb1
            go_wp2_with fail
            clear hc hf
            refine (HI.out _ _ _).mono ?_
            rintro e w2 ⟨rfl, hb2⟩
            rw [h2]
            clear h2
            replace hb2 := below_step hb1 hb2
            clear hb1
            obtain ⟨hc, hf⟩ := bcell hb2
            go_wp2_with fail
            clear hc hf
            refine (HI.out _ _ _).mono ?_
            rintro e w3 ⟨rfl, hb3⟩
            rw [h3]
            clear h3
            replace hb3 := below_step hb2 hb3
            clear hb2
            obtain ⟨hc, hf⟩ := bcell hb3
            have d0 : w3.cell? ⟨w.heap.size + 2, 0, none⟩ = some (iv 0) := (hc _ _ (by simp <;> omega)).trans (by simp [go_sem])
            have fd0 : w3.frozen? ⟨w.heap.size + 2, 0, none⟩ = false := (hf _ _ (by simp <;> omega)).trans (by simp [go_sem])
            have s0 : w3.cell? ⟨w.heap.size + 3, 0, none⟩ = some (iv a0) := (hc _ _ (by simp <;> omega)).trans (by simp [go_sem])
            have d1 : w3.cell? ⟨w.heap.size + 2, 1, none⟩ = some (iv 0) := (hc _ _ (by simp <;> omega)).trans (by simp [go_sem])
            have fd1 : w3.frozen? ⟨w.heap.size + 2, 1, none⟩ = false := (hf _ _ (by simp <;> omega)).trans (by simp [go_sem])
            have s1 : w3.cell? ⟨w.heap.size + 3, 1, none⟩ = some (iv a1) := (hc _ _ (by simp <;> omega)).trans (by simp [go_sem])
            clear hc hf
            have hz : w.heap.size + 4 ≤ w3.heap.size := by have := hb3.size; simp at this; omega
            go_wp2
            refine bodyPost_ret (v := spanV a0 a1 true) (by simp [results, Try.results106, go_sem, d0, d1]) rfl ⟨ret_congr HT.out, ?_⟩
            have h9 := below_step h0.out hb3
            repeat (first | exact h9 | refine Below.setCell ?_ (by simp <;> omega) _)
    · have e1 : min a1 b1 = b1 := by omega
      replace g1 : b1 < a1 := by omega
      have h0 : Hid (Below w.heap.size w ((((w.alloc (.cells #[iv a0, iv a1] 55)).alloc (.cells #[iv b0, iv b1] 55)).alloc (.cells #[iv 0, iv 0] 55)).alloc (.cells #[iv a0, iv b1] 55))) := hid ((((below_alloc w _).alloc (by simp) _).alloc (by simp <;> omega) _).alloc (by simp <;> omega) _)
      cases h1 : spanB a0 a1
      · skip
        have HT := hid (spanV_no (b := meetB a0 a1 b0 b1) (by simp [meetB, h1]) (max a0 b0) (min a1 b1))
        clear e0 e1
        go_enter Try.func106, Try.ntmps106
        go_wp2_with fail
        refine (HI.out _ _ _).mono ?_
        rintro e w1 ⟨rfl, hb1⟩
        rw [h1]
        clear h1
        obtain ⟨hc, hf⟩ := bcell hb1
        have d0 : w1.cell? ⟨w.heap.size + 2, 0, none⟩ = some (iv 0) := (hc _ _ (by simp <;> omega)).trans (by simp [go_sem])
        have fd0 : w1.frozen? ⟨w.heap.size + 2, 0, none⟩ = false := (hf _ _ (by simp <;> omega)).trans (by simp [go_sem])
        have s0 : w1.cell? ⟨w.heap.size + 3, 0, none⟩ = some (iv a0) := (hc _ _ (by simp <;> omega)).trans (by simp [go_sem])
        have d1 : w1.cell? ⟨w.heap.size + 2, 1, none⟩ = some (iv 0) := (hc _ _ (by simp <;> omega)).trans (by simp [go_sem])
        have fd1 : w1.frozen? ⟨w.heap.size + 2, 1, none⟩ = false := (hf _ _ (by simp <;> omega)).trans (by simp [go_sem])
        have s1 : w1.cell? ⟨w.heap.size + 3, 1, none⟩ = some (iv b1) := (hc _ _ (by simp <;> omega)).trans (by simp [go_sem])
        clear hc hf
        have hz : w.heap.size + 4 ≤ w1.heap.size := by have := hb1.size; simp at this; omega
        go_wp2
        refine bodyPost_ret (v := spanV 0 0 false) (by simp [results, Try.results106, go_sem, d0, d1]) rfl ⟨ret_congr HT.out, ?_⟩
        have h9 := below_step h0.out hb1
        repeat (first | exact h9 | refine Below.setCell ?_ (by simp <;> omega) _)
      · cases h2 : spanB b0 b1
        · skip
          have HT := hid (spanV_no (b := meetB a0 a1 b0 b1) (by simp [meetB, h2]) (max a0 b0) (min a1 b1))
          clear e0 e1
          go_enter Try.func106, Try.ntmps106
          go_wp2_with fail
          refine (HI.out _ _ _).mono ?_
          rintro e w1 ⟨rfl, hb1⟩
          rw [h1]
          clear h1
          obtain ⟨hc, hf⟩ := bcell hb1
          go_wp2_with fail
          clear hc hf
          refine (HI.out _ _ _).mono ?_
          rintro e w2 ⟨rfl, hb2⟩
          rw [h2]
          clear h2
          replace hb2 := below_step hb1 hb2
          clear hb1
          obtain ⟨hc, hf⟩ := bcell hb2
          have d0 : w2.cell? ⟨w.heap.size + 2, 0, none⟩ = some (iv 0) := (hc _ _ (by simp <;> omega)).trans (by simp [go_sem])
          have fd0 : w2.frozen? ⟨w.heap.size + 2, 0, none⟩ = false := (hf _ _ (by simp <;> omega)).trans (by simp [go_sem])
          have s0 : w2.cell? ⟨w.heap.size + 3, 0, none⟩ = some (iv a0) := (hc _ _ (by simp <;> omega)).trans (by simp [go_sem])
          have d1 : w2.cell? ⟨w.heap.size + 2, 1, none⟩ = some (iv 0) := (hc _ _ (by simp <;> omega)).trans (by simp [go_sem])
          have fd1 : w2.frozen? ⟨w.heap.size + 2, 1, none⟩ = false := (hf _ _ (by simp <;> omega)).trans (by simp [go_sem])
          have s1 : w2.cell? ⟨w.heap.size + 3, 1, none⟩ = some (iv b1) := (hc _ _ (by simp <;> omega)).trans (by simp [go_sem])
          clear hc hf
          have hz : w.heap.size + 4 ≤ w2.heap.size := by have := hb2.size; simp at this; omega
          go_wp2
          refine bodyPost_ret (v := spanV 0 0 false) (by simp [results, Try.results106, go_sem, d0, d1]) rfl ⟨ret_congr HT.out, ?_⟩
          have h9 := below_step h0.out hb2
          repeat (first | exact h9 | refine Below.setCell ?_ (by simp <;> omega) _)
        · cases h3 : spanB a0 b1
          · skip
            have HT := hid (spanV_no (b := meetB a0 a1 b0 b1) (meetB_of h1 h2 (by rw [e0, e1]; exact h3)) (max a0 b0) (min a1 b1))
            clear e0 e1
            go_enter Try.func106, Try.ntmps106
            go_wp2_with fail
            refine (HI.out _ _ _).mono ?_
            rintro e w1 ⟨rfl, hb1⟩
            rw [h1]
            clear h1
            obtain ⟨hc, hf⟩ := bcell hb1
            go_wp2_with fail
            clear hc hf
            refine (HI.out _ _ _).mono ?_
            rintro e w2 ⟨rfl, hb2⟩
            rw [h2]
            clear h2
            replace hb2 := below_step hb1 hb2
            clear hb1
            obtain ⟨hc, hf⟩ := bcell hb2
            go_wp2_with fail
            clear hc hf
            refine (HI.out _ _ _).mono ?_
            rintro e w3 ⟨rfl, hb3⟩
            rw [h3]
            clear h3
            replace hb3 := below_step hb2 hb3
            clear hb2
            obtain ⟨hc, hf⟩ := bcell hb3
            have d0 : w3.cell? ⟨w.heap.size + 2, 0, none⟩ = some (iv 0) := (hc _ _ (by simp <;> omega)).trans (by simp [go_sem])
            have fd0 : w3.frozen? ⟨w.heap.size + 2, 0, none⟩ = false := (hf _ _ (by simp <;> omega)).trans (by simp [go_sem])
            have s0 : w3.cell? ⟨w.heap.size + 3, 0, none⟩ = some (iv a0) := (hc _ _ (by simp <;> omega)).trans (by simp [go_sem])
            have d1 : w3.cell? ⟨w.heap.size + 2, 1, none⟩ = some (iv 0) := (hc _ _ (by simp <;> omega)).trans (by simp [go_sem])
            have fd1 : w3.frozen? ⟨w.heap.size + 2, 1, none⟩ = false := (hf _ _ (by simp <;> omega)).trans (by simp [go_sem])
            have s1 : w3.cell? ⟨w.heap.size + 3, 1, none⟩ = some (iv b1) := (hc _ _ (by simp <;> omega)).trans (by simp [go_sem])
            clear hc hf
            have hz : w.heap.size + 4 ≤ w3.heap.size := by have := hb3.size; simp at this; omega
            go_wp2
            refine bodyPost_ret (v := spanV 0 0 false) (by simp [results, Try.results106, go_sem, d0, d1]) rfl ⟨ret_congr HT.out, ?_⟩
            have h9 := below_step h0.out hb3
            repeat (first | exact h9 | refine Below.setCell ?_ (by simp <;> omega) _)
          · skip
            have HT := hid (spanV_yes (b := meetB a0 a1 b0 b1) (meetB_of h1 h2 (by rw [e0, e1]; exact h3)) e0.symm e1.symm)
            clear e0 e1
            go_enter Try.func106, Try.ntmps106
            go_wp2_with fail
            refine (HI.out _ _ _).mono ?_
            rintro e w1 ⟨rfl, hb1⟩
            rw [h1]
            clear h1
            obtain ⟨hc, hf⟩ := bcell hb1
            go_wp2_with fail
            clear hc hf
            refine (HI.out _ _ _).mono ?_
            rintro e w2 ⟨rfl, hb2⟩
            rw [h2]
            clear h2
            replace hb2 := below_step hb1 hb2
            clear hb1
            obtain ⟨hc, hf⟩ := bcell hb2
            go_wp2_with fail
            clear hc hf
            refine (HI.out _ _ _).mono ?_
            rintro e w3 ⟨rfl, hb3⟩
            rw [h3]
            clear h3
            replace hb3 := below_step hb2 hb3
            clear hb2
            obtain ⟨hc, hf⟩ := bcell hb3
            have d0 : w3.cell? ⟨w.heap.size + 2, 0, none⟩ = some (iv 0) := (hc _ _ (by simp <;> omega)).trans (by simp [go_sem])
            have fd0 : w3.frozen? ⟨w.heap.size + 2, 0, none⟩ = false := (hf _ _ (by simp <;> omega)).trans (by simp [go_sem])
            have s0 : w3.cell? ⟨w.heap.size + 3, 0, none⟩ = some (iv a0) := (hc _ _ (by simp <;> omega)).trans (by simp [go_sem])
            have d1 : w3.cell? ⟨w.heap.size + 2, 1, none⟩ = some (iv 0) := (hc _ _ (by simp <;> omega)).trans (by simp [go_sem])
            have fd1 : w3.frozen? ⟨w.heap.size + 2, 1, none⟩ = false := (hf _ _ (by simp <;> omega)).trans (by simp [go_sem])
            have s1 : w3.cell? ⟨w.heap.size + 3, 1, none⟩ = some (iv b1) := (hc _ _ (by simp <;> omega)).trans (by simp [go_sem])
            clear hc hf
            have hz : w.heap.size + 4 ≤ w3.heap.size := by have := hb3.size; simp at this; omega
            go_wp2
            refine bodyPost_ret (v := spanV a0 b1 true) (by simp [results, Try.results106, go_sem, d0, d1]) rfl ⟨ret_congr HT.out, ?_⟩
            have h9 := below_step h0.out hb3
            repeat (first | exact h9 | refine Below.setCell ?_ (by simp <;> omega) _)
  · have e0 : max a0 b0 = b0 := by omega
    replace g0 : a0 < b0 := by omega
    by_cases g1 : a1 ≤ b1
    · have e1 : min a1 b1 = a1 := by omega
      have h0 : Hid (Below w.heap.size w ((((w.alloc (.cells #[iv a0, iv a1] 55)).alloc (.cells #[iv b0, iv b1] 55)).alloc (.cells #[iv 0, iv 0] 55)).alloc (.cells #[iv b0, iv a1] 55))) := hid ((((below_alloc w _).alloc (by simp) _).alloc (by simp <;> omega) _).alloc (by simp <;> omega) _)
      cases h1 : spanB a0 a1
      · skip
        have HT := hid (spanV_no (b := meetB a0 a1 b0 b1) (by simp [meetB, h1]) (max a0 b0) (min a1 b1))
        clear e0 e1
        go_enter Try.func106, Try.ntmps106
        go_wp2_with fail
        refine (HI.out _ _ _).mono ?_
        rintro e w1 ⟨rfl, hb1⟩
        rw [h1]
        clear h1
        obtain ⟨hc, hf⟩ := bcell hb1
        have d0 : w1.cell? ⟨w.heap.size + 2, 0, none⟩ = some (iv 0) := (hc _ _ (by simp <;> omega)).trans (by simp [go_sem])
        have fd0 : w1.frozen? ⟨w.heap.size + 2, 0, none⟩ = false := (hf _ _ (by simp <;> omega)).trans (by simp [go_sem])
        have s0 : w1.cell? ⟨w.heap.size + 3, 0, none⟩ = some (iv b0) := (hc _ _ (by simp <;> omega)).trans (by simp [go_sem])
        have d1 : w1.cell? ⟨w.heap.size + 2, 1, none⟩ = some (iv 0) := (hc _ _ (by simp <;> omega)).trans (by simp [go_sem])
        have fd1 : w1.frozen? ⟨w.heap.size + 2, 1, none⟩ = false := (hf _ _ (by simp <;> omega)).trans (by simp [go_sem])
        have s1 : w1.cell? ⟨w.heap.size + 3, 1, none⟩ = some (iv a1) := (hc _ _ (by simp <;> omega)).trans (by simp [go_sem])
        clear hc hf
        have hz : w.heap.size + 4 ≤ w1.heap.size := by have := hb1.size; simp at this; omega
        go_wp2
        refine bodyPost_ret (v := spanV 0 0 false) (by simp [results, Try.results106, go_sem, d0, d1]) rfl ⟨ret_congr HT.out, ?_⟩
        have h9 := below_step h0.out hb1
        repeat (first | exact h9 | refine Below.setCell ?_ (by simp <;> omega) _)
      · cases h2 : spanB b0 b1
        · skip
          have HT := hid (spanV_no (b := meetB a0 a1 b0 b1) (by simp [meetB, h2]) (max a0 b0) (min a1 b1))
          clear e0 e1
          go_enter Try.func106, Try.ntmps106
          go_wp2_with fail
          refine (HI.out _ _ _).mono ?_
          rintro e w1 ⟨rfl, hb1⟩
          rw [h1]
          clear h1
          obtain ⟨hc, hf⟩ := bcell hb1
          go_wp2_with fail
          clear hc hf
          refine (HI.out _ _ _).mono ?_
          rintro e w2 ⟨rfl, hb2⟩
          rw [h2]
          clear h2
          replace hb2 := below_step hb1 hb2
          clear hb1
          obtain ⟨hc, hf⟩ := bcell hb2
          have d0 : w2.cell? ⟨w.heap.size + 2, 0, none⟩ = some (iv 0) := (hc _ _ (by simp <;> omega)).trans (by simp [go_sem])
          have fd0 : w2.frozen? ⟨w.heap.size + 2, 0, none⟩ = false := (hf _ _ (by simp <;> omega)).trans (by simp [go_sem])
          have s0 : w2.cell? ⟨w.heap.size + 3, 0, none⟩ = some (iv b0) := (hc _ _ (by simp <;> omega)).trans (by simp [go_sem])
          have d1 : w2.cell? ⟨w.heap.size + 2, 1, none⟩ = some (iv 0) := (hc _ _ (by simp <;> omega)).trans (by simp [go_sem])
          have fd1 : w2.frozen? ⟨w.heap.size + 2, 1, none⟩ = false := (hf _ _ (by simp <;> omega)).trans (by simp [go_sem])
          have s1 : w2.cell? ⟨w.heap.size + 3, 1, none⟩ = some (iv a1) := (hc _ _ (by simp <;> omega)).trans (by simp [go_sem])
          clear hc hf
          have hz : w.heap.size + 4 ≤ w2.heap.size := by have := hb2.size; simp at this; omega
          go_wp2
          refine bodyPost_ret (v := spanV 0 0 false) (by simp [results, Try.results106, go_sem, d0, d1]) rfl ⟨ret_congr HT.out, ?_⟩
          have h9 := below_step h0.out hb2
          repeat (first | exact h9 | refine Below.setCell ?_ (by simp <;> omega) _)
        · cases h3 : spanB b0 a1
          · skip
            have HT := hid (spanV_no (b := meetB a0 a1 b0 b1) (meetB_of h1 h2 (by rw [e0, e1]; exact h3)) (max a0 b0) (min a1 b1))
            clear e0 e1
            go_enter Try.func106, Try.ntmps106
            go_wp2_with fail
            refine (HI.out _ _ _).mono ?_
            rintro e w1 ⟨rfl, hb1⟩
            rw [h1]
            clear h1
            obtain ⟨hc, hf⟩ := bcell hb1
            go_wp2_with fail
            clear hc hf
            refine (HI.out _ _ _).mono ?_
            rintro e w2 ⟨rfl, hb2⟩
            rw [h2]
            clear h2
            replace hb2 := below_step hb1 hb2
            clear hb1
            obtain ⟨hc, hf⟩ := bcell hb2
            go_wp2_with fail
            clear hc hf
            refine (HI.out _ _ _).mono ?_
            rintro e w3 ⟨rfl, hb3⟩
            rw [h3]
            clear h3
            replace hb3 := below_step hb2 hb3
            clear hb2
            obtain ⟨hc, hf⟩ := bcell hb3
            have d0 : w3.cell? ⟨w.heap.size + 2, 0, none⟩ = some (iv 0) := (hc _ _ (by simp <;> omega)).trans (by simp [go_sem])
            have fd0 : w3.frozen? ⟨w.heap.size + 2, 0, none⟩ = false := (hf _ _ (by simp <;> omega)).trans (by simp [go_sem])
            have s0 : w3.cell? ⟨w.heap.size + 3, 0, none⟩ = some (iv b0) := (hc _ _ (by simp <;> omega)).trans (by simp [go_sem])
            have d1 : w3.cell? ⟨w.heap.size + 2, 1, none⟩ = some (iv 0) := (hc _ _ (by simp <;> omega)).trans (by simp [go_sem])
            have fd1 : w3.frozen? ⟨w.heap.size + 2, 1, none⟩ = false := (hf _ _ (by simp <;> omega)).trans (by simp [go_sem])
            have s1 : w3.cell? ⟨w.heap.size + 3, 1, none⟩ = some (iv a1) := (hc _ _ (by simp <;> omega)).trans (by simp [go_sem])
            clear hc hf
            have hz : w.heap.size + 4 ≤ w3.heap.size := by have := hb3.size; simp at this; omega
            go_wp2
            refine bodyPost_ret (v := spanV 0 0 false) (by simp [results, Try.results106, go_sem, d0, d1]) rfl ⟨ret_congr HT.out, ?_⟩
            have h9 := below_step h0.out hb3
            repeat (first | exact h9 | refine Below.setCell ?_ (by simp <;> omega) _)
          · skip
            have HT := hid (spanV_yes (b := meetB a0 a1 b0 b1) (meetB_of h1 h2 (by rw [e0, e1]; exact h3)) e0.symm e1.symm)
            clear e0 e1
            go_enter Try.func106, Try.ntmps106
            go_wp2_with fail
            refine (HI.out _ _ _).mono ?_
            rintro e w1 ⟨rfl, hb1⟩
            rw [h1]
            clear h1
            obtain ⟨hc, hf⟩ := bcell hb1
            go_wp2_with fail
            clear hc hf
            refine (HI.out _ _ _).mono ?_
            rintro e w2 ⟨rfl, hb2⟩
            rw [h2]
            clear h2
            replace hb2 := below_step hb1 hb2
            clear hb1
            obtain ⟨hc, hf⟩ := bcell hb2
            go_wp2_with fail
            clear hc hf
            refine (HI.out _ _ _).mono ?_
            rintro e w3 ⟨rfl, hb3⟩
            rw [h3]
            clear h3
            replace hb3 := below_step hb2 hb3
            clear hb2
            obtain ⟨hc, hf⟩ := bcell hb3
            have d0 : w3.cell? ⟨w.heap.size + 2, 0, none⟩ = some (iv 0) := (hc _ _ (by simp <;> omega)).trans (by simp [go_sem])
            have fd0 : w3.frozen? ⟨w.heap.size + 2, 0, none⟩ = false := (hf _ _ (by simp <;> omega)).trans (by simp [go_sem])
            have s0 : w3.cell? ⟨w.heap.size + 3, 0, none⟩ = some (iv b0) := (hc _ _ (by simp <;> omega)).trans (by simp [go_sem])
            have d1 : w3.cell? ⟨w.heap.size + 2, 1, none⟩ = some (iv 0) := (hc _ _ (by simp <;> omega)).trans (by simp [go_sem])
            have fd1 : w3.frozen? ⟨w.heap.size + 2, 1, none⟩ = false := (hf _ _ (by simp <;> omega)).trans (by simp [go_sem])
            have s1 : w3.cell? ⟨w.heap.size + 3, 1, none⟩ = some (iv a1) := (hc _ _ (by simp <;> omega)).trans (by simp [go_sem])
            clear hc hf
            have hz : w.heap.size + 4 ≤ w3.heap.size := by have := hb3.size; simp at this; omega
            go_wp2
            refine bodyPost_ret (v := spanV b0 a1 true) (by simp [results, Try.results106, go_sem, d0, d1]) rfl ⟨ret_congr HT.out, ?_⟩
            have h9 := below_step h0.out hb3
            repeat (first | exact h9 | refine Below.setCell ?_ (by simp <;> omega) _)
    · have e1 : min a1 b1 = b1 := by omega
      replace g1 : b1 < a1 := by omega
      have h0 : Hid (Below w.heap.size w ((((w.alloc (.cells #[iv a0, iv a1] 55)).alloc (.cells #[iv b0, iv b1] 55)).alloc (.cells #[iv 0, iv 0] 55)).alloc (.cells #[iv b0, iv b1] 55))) := hid ((((below_alloc w _).alloc (by simp) _).alloc (by simp <;> omega) _).alloc (by simp <;> omega) _)
      cases h1 : spanB a0 a1
      · skip
        have HT := hid (spanV_no (b := meetB a0 a1 b0 b1) (by simp [meetB, h1]) (max a0 b0) (min a1 b1))
        clear e0 e1
        go_enter Try.func106, Try.ntmps106
        go_wp2_with fail
        refine (HI.out _ _ _).mono ?_
        rintro e w1 ⟨rfl, hb1⟩
        rw [h1]
        clear h1
        obtain ⟨hc, hf⟩ := bcell hb1
        have d0 : w1.cell? ⟨w.heap.size + 2, 0, none⟩ = some (iv 0) := (hc _ _ (by simp <;> omega)).trans (by simp [go_sem])
        have fd0 : w1.frozen? ⟨w.heap.size + 2, 0, none⟩ = false := (hf _ _ (by simp <;> omega)).trans (by simp [go_sem])
        have s0 : w1.cell? ⟨w.heap.size + 3, 0, none⟩ = some (iv b0) := (hc _ _ (by simp <;> omega)).trans (by simp [go_sem])
        have d1 : w1.cell? ⟨w.heap.size + 2, 1, none⟩ = some (iv 0) := (hc _ _ (by simp <;> omega)).trans (by simp [go_sem])
        have fd1 : w1.frozen? ⟨w.heap.size + 2, 1, none⟩ = false := (hf _ _ (by simp <;> omega)).trans (by simp [go_sem])
        have s1 : w1.cell? ⟨w.heap.size + 3, 1, none⟩ = some (iv b1) := (hc _ _ (by simp <;> omega)).trans (by simp [go_sem])
        clear hc hf
        have hz : w.heap.size + 4 ≤ w1.heap.size := by have := hb1.size; simp at this; omega
        go_wp2
        refine bodyPost_ret (v := spanV 0 0 false) (by simp [results, Try.results106, go_sem, d0, d1]) rfl ⟨ret_congr HT.out, ?_⟩
        have h9 := below_step h0.out hb1
        repeat (first | exact h9 | refine Below.setCell ?_ (by simp <;> omega) _)
      · cases h2 : spanB b0 b1
        · skip
          have HT := hid (spanV_no (b := meetB a0 a1 b0 b1) (by simp [meetB, h2]) (max a0 b0) (min a1 b1))
          clear e0 e1
          go_enter Try.func106, Try.ntmps106
          go_wp2_with fail
          refine (HI.out _ _ _).mono ?_
          rintro e w1 ⟨rfl, hb1⟩
          rw [h1]
          clear h1
          obtain ⟨hc, hf⟩ := bcell hb1
          go_wp2_with fail
          clear hc hf
          refine (HI.out _ _ _).mono ?_
          rintro e w2 ⟨rfl, hb2⟩
          rw [h2]
          clear h2
          replace hb2 := below_step hb1 hb2
          clear hb1
          obtain ⟨hc, hf⟩ := bcell hb2
          have d0 : w2.cell? ⟨w.heap.size + 2, 0, none⟩ = some (iv 0) := (hc _ _ (by simp <;> omega)).trans (by simp [go_sem])
          have fd0 : w2.frozen? ⟨w.heap.size + 2, 0, none⟩ = false := (hf _ _ (by simp <;> omega)).trans (by simp [go_sem])
          have s0 : w2.cell? ⟨w.heap.size + 3, 0, none⟩ = some (iv b0) := (hc _ _ (by simp <;> omega)).trans (by simp [go_sem])
          have d1 : w2.cell? ⟨w.heap.size + 2, 1, none⟩ = some (iv 0) := (hc _ _ (by simp <;> omega)).trans (by simp [go_sem])
          have fd1 : w2.frozen? ⟨w.heap.size + 2, 1, none⟩ = false := (hf _ _ (by simp <;> omega)).trans (by simp [go_sem])
          have s1 : w2.cell? ⟨w.heap.size + 3, 1, none⟩ = some (iv b1) := (hc _ _ (by simp <;> omega)).trans (by simp [go_sem])
          clear hc hf
          have hz : w.heap.size + 4 ≤ w2.heap.size := by have := hb2.size; simp at this; omega
          go_wp2
          refine bodyPost_ret (v := spanV 0 0 false) (by simp [results, Try.results106, go_sem, d0, d1]) rfl ⟨ret_congr HT.out, ?_⟩
          have h9 := below_step h0.out hb2
          repeat (first | exact h9 | refine Below.setCell ?_ (by simp <;> omega) _)
        · cases h3 : spanB b0 b1
          · skip
            have HT := hid (spanV_no (b := meetB a0 a1 b0 b1) (meetB_of h1 h2 (by rw [e0, e1]; exact h3)) (max a0 b0) (min a1 b1))
            clear e0 e1
            go_enter Try.func106, Try.ntmps106
            go_wp2_with fail
            refine (HI.out _ _ _).mono ?_
            rintro e w1 ⟨rfl, hb1⟩
            rw [h1]
            clear h1
            obtain ⟨hc, hf⟩ := bcell hb1
            go_wp2_with fail
            clear hc hf
            refine (HI.out _ _ _).mono ?_
            rintro e w2 ⟨rfl, hb2⟩
            rw [h2]
            clear h2
            replace hb2 := below_step hb1 hb2
            clear hb1
            obtain ⟨hc, hf⟩ := bcell hb2
            go_wp2_with fail
            clear hc hf
            refine (HI.out _ _ _).mono ?_
            rintro e w3 ⟨rfl, hb3⟩
            rw [h3]
            clear h3
            replace hb3 := below_step hb2 hb3
            clear hb2
            obtain ⟨hc, hf⟩ := bcell hb3
            have d0 : w3.cell? ⟨w.heap.size + 2, 0, none⟩ = some (iv 0) := (hc _ _ (by simp <;> omega)).trans (by simp [go_sem])
            have fd0 : w3.frozen? ⟨w.heap.size + 2, 0, none⟩ = false := (hf _ _ (by simp <;> omega)).trans (by simp [go_sem])
            have s0 : w3.cell? ⟨w.heap.size + 3, 0, none⟩ = some (iv b0) := (hc _ _ (by simp <;> omega)).trans (by simp [go_sem])
            have d1 : w3.cell? ⟨w.heap.size + 2, 1, none⟩ = some (iv 0) := (hc _ _ (by simp <;> omega)).trans (by simp [go_sem])
            have fd1 : w3.frozen? ⟨w.heap.size + 2, 1, none⟩ = false := (hf _ _ (by simp <;> omega)).trans (by simp [go_sem])
            have s1 : w3.cell? ⟨w.heap.size + 3, 1, none⟩ = some (iv b1) := (hc _ _ (by simp <;> omega)).trans (by simp [go_sem])
            clear hc hf
            have hz : w.heap.size + 4 ≤ w3.heap.size := by have := hb3.size; simp at this; omega
            go_wp2
            refine bodyPost_ret (v := spanV 0 0 false) (by simp [results, Try.results106, go_sem, d0, d1]) rfl ⟨ret_congr HT.out, ?_⟩
            have h9 := below_step h0.out hb3
            repeat (first | exact h9 | refine Below.setCell ?_ (by simp <;> omega) _)
          · skip
            have HT := hid (spanV_yes (b := meetB a0 a1 b0 b1) (meetB_of h1 h2 (by rw [e0, e1]; exact h3)) e0.symm e1.symm)
            clear e0 e1
            go_enter Try.func106, Try.ntmps106
            go_wp2_with fail
            refine (HI.out _ _ _).mono ?_
            rintro e w1 ⟨rfl, hb1⟩
            rw [h1]
            clear h1
            obtain ⟨hc, hf⟩ := bcell hb1
            go_wp2_with fail
            clear hc hf
            refine (HI.out _ _ _).mono ?_
            rintro e w2 ⟨rfl, hb2⟩
            rw [h2]
            clear h2
            replace hb2 := below_step hb1 hb2
            clear hb1
            obtain ⟨hc, hf⟩ := bcell hb2
            go_wp2_with fail
            clear hc hf
            refine (HI.out _ _ _).mono ?_
            rintro e w3 ⟨rfl, hb3⟩
            rw [h3]
            clear h3
            replace hb3 := below_step hb2 hb3
            clear hb2
            obtain ⟨hc, hf⟩ := bcell hb3
            have d0 : w3.cell? ⟨w.heap.size + 2, 0, none⟩ = some (iv 0) := (hc _ _ (by simp <;> omega)).trans (by simp [go_sem])
            have fd0 : w3.frozen? ⟨w.heap.size + 2, 0, none⟩ = false := (hf _ _ (by simp <;> omega)).trans (by simp [go_sem])
            have s0 : w3.cell? ⟨w.heap.size + 3, 0, none⟩ = some (iv b0) := (hc _ _ (by simp <;> omega)).trans (by simp [go_sem])
            have d1 : w3.cell? ⟨w.heap.size + 2, 1, none⟩ = some (iv 0) := (hc _ _ (by simp <;> omega)).trans (by simp [go_sem])
            have fd1 : w3.frozen? ⟨w.heap.size + 2, 1, none⟩ = false := (hf _ _ (by simp <;> omega)).trans (by simp [go_sem])
            have s1 : w3.cell? ⟨w.heap.size + 3, 1, none⟩ = some (iv b1) := (hc _ _ (by simp <;> omega)).trans (by simp [go_sem])
            clear hc hf
            have hz : w.heap.size + 4 ≤ w3.heap.size := by have := hb3.size; simp at this; omega
            go_wp2
            refine bodyPost_ret (v := spanV b0 b1 true) (by simp [results, Try.results106, go_sem, d0, d1]) rfl ⟨ret_congr HT.out, ?_⟩
            have h9 := below_step h0.out hb3
            repeat (first | exact h9 | refine Below.setCell ?_ (by simp <;> omega) _)
set_option maxHeartbeats 2000000 in
theorem specMeetSpans_any (a0 a1 b0 b1 : Int) (w : World) :
    Calls Try.prog 105 #[.agg #[iv a0, iv a1], .agg #[iv b0, iv b1]] w (Ret (spanV (meetL a0 a1 b0 b1) (meetR a0 a1 b0 b1) (meetB a0 a1 b0 b1)) w) := by
  have h0 : Hid (Below w.heap.size w (((w.alloc (.cells #[iv a0, iv a1] 55)).alloc (.cells #[iv b0, iv b1] 55)).alloc (.cells #[iv 0, iv 0] 55))) := hid (((below_alloc w _).alloc (by simp) _).alloc (by simp <;> omega) _)
  have HI : Hid (∀ (x y : Int) (W : World), Calls Try.prog 88 #[.agg #[iv x, iv y]] W (Ret (.bool (spanB x y)) W)) := hid specIsSpan_any
  cases h1 : spanB a0 a1
  · have HT := hid (spanV_no (b := meetB a0 a1 b0 b1) (by simp [meetB, h1]) (max a0 b0) (min a1 b1))
    go_enter Try.func105, Try.ntmps105
    go_wp2_with fail
    refine (HI.out _ _ _).mono ?_
    rintro e w1 ⟨rfl, hb1⟩
    obtain ⟨hc, hf⟩ := bcell hb1
    have d0 : w1.cell? ⟨w.heap.size + 2, 0, none⟩ = some (iv 0) := (hc _ _ (by simp <;> omega)).trans (by simp [go_sem])
    have fd0 : w1.frozen? ⟨w.heap.size + 2, 0, none⟩ = false := (hf _ _ (by simp <;> omega)).trans (by simp [go_sem])
    have d1 : w1.cell? ⟨w.heap.size + 2, 1, none⟩ = some (iv 0) := (hc _ _ (by simp <;> omega)).trans (by simp [go_sem])
    have fd1 : w1.frozen? ⟨w.heap.size + 2, 1, none⟩ = false := (hf _ _ (by simp <;> omega)).trans (by simp [go_sem])
    clear hc hf
    have hz : w.heap.size + 3 ≤ w1.heap.size := by have := hb1.size; simp at this; omega
    go_wp2
    refine bodyPost_ret (v := spanV 0 0 false) (by simp [results, Try.results105, go_sem, d0, d1]) rfl ⟨ret_congr HT.out, ?_⟩
    have h2 := below_step h0.out hb1
    repeat (first | exact h2 | refine Below.setCell ?_ (by simp <;> omega) _)
  · cases h2 : spanB b0 b1
    · have HT := hid (spanV_no (b := meetB a0 a1 b0 b1) (by simp [meetB, h2]) (max a0 b0) (min a1 b1))
      go_enter Try.func105, Try.ntmps105
      go_wp2_with fail
      refine (HI.out _ _ _).mono ?_
      rintro e w1 ⟨rfl, hb1⟩
      obtain ⟨hc, hf⟩ := bcell hb1
      go_wp2_with fail
      clear hc hf
      refine (HI.out _ _ _).mono ?_
      rintro e w2 ⟨rfl, hb2⟩
      replace hb2 := below_step hb1 hb2
      clear hb1
      obtain ⟨hc, hf⟩ := bcell hb2
      have d0 : w2.cell? ⟨w.heap.size + 2, 0, none⟩ = some (iv 0) := (hc _ _ (by simp <;> omega)).trans (by simp [go_sem])
      have fd0 : w2.frozen? ⟨w.heap.size + 2, 0, none⟩ = false := (hf _ _ (by simp <;> omega)).trans (by simp [go_sem])
      have d1 : w2.cell? ⟨w.heap.size + 2, 1, none⟩ = some (iv 0) := (hc _ _ (by simp <;> omega)).trans (by simp [go_sem])
      have fd1 : w2.frozen? ⟨w.heap.size + 2, 1, none⟩ = false := (hf _ _ (by simp <;> omega)).trans (by simp [go_sem])
      clear hc hf
      have hz : w.heap.size + 3 ≤ w2.heap.size := by have := hb2.size; simp at this; omega
      go_wp2
      refine bodyPost_ret (v := spanV 0 0 false) (by simp [results, Try.results105, go_sem, d0, d1]) rfl ⟨ret_congr HT.out, ?_⟩
      have h3 := below_step h0.out hb2
      repeat (first | exact h3 | refine Below.setCell ?_ (by simp <;> omega) _)
    · have HT := hid (meetB_mk h1 h2)
      have HK : Hid (∀ W : World, Calls Try.prog 93 #[iv (max a0 b0), iv (min a1 b1)] W (Ret (spanV (meetL a0 a1 b0 b1) (meetR a0 a1 b0 b1) (meetB a0 a1 b0 b1)) W)) := hid fun W => by rw [← HT.out.1, ← HT.out.2.1, ← HT.out.2.2]; exact specMakeSpan_any _ _ W
      go_enter Try.func105, Try.ntmps105
      go_wp2_with fail
      refine (HI.out _ _ _).mono ?_
      rintro e w1 ⟨rfl, hb1⟩
      obtain ⟨hc, hf⟩ := bcell hb1
      go_wp2_with fail
      clear hc hf
      refine (HI.out _ _ _).mono ?_
      rintro e w2 ⟨rfl, hb2⟩
      replace hb2 := below_step hb1 hb2
      clear hb1
      have HS : Hid (∀ w' : World, Below w2.heap.size w2 w' → (w'.cell? ⟨w.heap.size, 0, none⟩ = some (iv a0) ∧ w'.cell? ⟨w.heap.size, 1, none⟩ = some (iv a1) ∧ w'.cell? ⟨w.heap.size + 1, 0, none⟩ = some (iv b0) ∧ w'.cell? ⟨w.heap.size + 1, 1, none⟩ = some (iv b1) ∧ w'.cell? ⟨w.heap.size + 2, 0, none⟩ = some (iv 0) ∧ w'.cell? ⟨w.heap.size + 2, 1, none⟩ = some (iv 0) ∧ w'.frozen? ⟨w.heap.size + 2, 0, none⟩ = false ∧ w'.frozen? ⟨w.heap.size + 2, 1, none⟩ = false)) := hid fun w' hx => by
        obtain ⟨hc, hf⟩ := bcell (below_step hb2 hx)
        have hz := hb2.size
        simp at hz
        refine ⟨?_, ?_, ?_, ?_, ?_, ?_, ?_, ?_⟩
        all_goals (first | exact (hc _ _ (by simp <;> omega)).trans (by simp [go_sem]) | exact (hf _ _ (by simp <;> omega)).trans (by simp [go_sem]))
      have HT2 : Hid (∀ w' : World, Below w2.heap.size w2 w' → (w'.cell? ⟨w.heap.size, 0, none⟩ = some (iv a0) ∧ w'.cell? ⟨w.heap.size, 1, none⟩ = some (iv a1) ∧ w'.cell? ⟨w.heap.size + 1, 0, none⟩ = some (iv b0) ∧ w'.cell? ⟨w.heap.size + 1, 1, none⟩ = some (iv b1))) := hid fun w' hx => ⟨(HS.out w' hx).1, (HS.out w' hx).2.1, (HS.out w' hx).2.2.1, (HS.out w' hx).2.2.2.1⟩
      have h3 := hid (below_step h0.out hb2)
      have hz : w.heap.size + 3 ≤ w2.heap.size := by have := hb2.size; simp at this; omega
      have hr := Below.refl w2.heap.size w2
      clear hb2
      have HF : Hid (∀ (W : World) (x y u : Value) (b k : Nat), b ≠ w.heap.size + 1 + 1 → W.cell? ⟨b, k, none⟩ = some u → ((W.setCell ⟨w.heap.size + 1 + 1, 0, none⟩ x).setCell ⟨w.heap.size + 1 + 1, 1, none⟩ y).cell? ⟨b, k, none⟩ = some u) := hid fun W x y u b k hb hu =>
        (World.cell?_setCell_far _ _ _ _ (Ne.symm hb)).trans ((World.cell?_setCell_far _ _ _ _ (Ne.symm hb)).trans hu)
      have n0 : w.heap.size ≠ w.heap.size + 1 + 1 := by omega
      have n1 : w.heap.size + 1 ≠ w.heap.size + 1 + 1 := by omega
      have N := hid (And.intro n0 n1)
      clear n0 n1
      go_wp2_with fail
      go_region_held3 (fun w' => w'.cell? ⟨w.heap.size, 0, none⟩ = some (iv a0) ∧ w'.cell? ⟨w.heap.size, 1, none⟩ = some (iv a1) ∧ w'.cell? ⟨w.heap.size + 1, 0, none⟩ = some (iv b0) ∧ w'.cell? ⟨w.heap.size + 1, 1, none⟩ = some (iv b1)) (first | with_reducible exact HT2.out _ hr.drew | with_reducible exact HT2.out _ HZ3.out | (refine ⟨HF.out _ _ _ _ _ _ N.out.1 (HT2.out _ HZ3.out).1, HF.out _ _ _ _ _ _ N.out.1 (HT2.out _ HZ3.out).2.1, HF.out _ _ _ _ _ _ N.out.2 (HT2.out _ HZ3.out).2.2.1, HF.out _ _ _ _ _ _ N.out.2 (HT2.out _ HZ3.out).2.2.2⟩) | go_keep)
        (first | (go_at_call 85; refine (specMax_same _ _ _).mono ?_; rintro e wm ⟨rfl, rfl⟩) | (go_at_call 138; refine (specMin_same _ _ _).mono ?_; rintro e wm ⟨rfl, rfl⟩) | (go_at_call 93; refine (HK.out _).mono ?_; rintro e w3 ⟨rfl, hb3⟩; have HZ3 := hid (below_step hr.drew hb3); obtain ⟨-, -, -, -, d0, d1, fd0, fd1⟩ := HS.out _ HZ3.out))
      go_wp2
      refine bodyPost_ret (v := spanV (meetL a0 a1 b0 b1) (meetR a0 a1 b0 b1) (meetB a0 a1 b0 b1)) (by simp [results, Try.results105, go_sem, d0, d1]) rfl ⟨rfl, ?_⟩
      have h4 := below_step h3.out HZ3.out
      repeat (first | exact h4 | refine Below.setCell ?_ (by simp <;> omega) _)
end Go.Proofs.Ytcfealjfanoegaa
