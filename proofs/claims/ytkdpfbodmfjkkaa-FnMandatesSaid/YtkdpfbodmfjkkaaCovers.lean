/- IsInside and CoversSpan of the program and of the reference return what the plain functions say. Condition: the list is no longer than 2^40. -/
import Derived.Test.YtkdpfbodmfjkkaaRows
import Derived.Test.YtkdpfbodmfjkkaaPlain
import Derived.Test.YtkdpfbodmfjkkaaPlainJoin
import Derived.Test.YtkdpfbodmfjkkaaChkSpan
import Derived.Test.YtkdpfbodmfjkkaaJoin
namespace Go.Proofs.Ytkdpfbodmfjkkaa
open Go.RowKit

def insideB (a0 a1 b0 b1 : Int) : Bool := spanB a0 a1 && spanB b0 b1 && decide (b0 ≤ a0) && decide (a1 ≤ b1)
def outB (js : List (List Int)) (x y : Int) (j : Nat) : Bool := !insideB x y (fld js j 0) (fld js j 1)
def covB (js : List (List Int)) (x y : Int) : Bool := !(List.range js.length).all (outB js x y)
theorem cov_yes {js : List (List Int)} {x y : Int} {j : Nat} (hj : j < js.length) (h : insideB x y (fld js j 0) (fld js j 1) = true) : true = covB js x y := by
  have : (List.range js.length).all (outB js x y) = false := by
    cases hx : (List.range js.length).all (outB js x y) with
    | false => rfl
    | true => rw [List.all_eq_true] at hx; have := hx j (List.mem_range.2 hj); rw [outB, h] at this; cases this
  simp [covB, this]
theorem cov_no {js : List (List Int)} {x y : Int} (h : AG (outB js x y) js.length) : false = covB js x y := by
  have : (List.range js.length).all (outB js x y) = true := by
    rw [List.all_eq_true]
    intro i hi
    exact h i (List.mem_range.1 hi)
  simp [covB, this]
theorem cov_bad {js : List (List Int)} {x y : Int} (h : spanB x y = false) : covB js x y = false := by
  rw [← cov_no (fun i _ => by simp [outB, insideB, h])]

set_option maxHeartbeats 2000000 in
theorem implIsInside_any (a0 a1 b0 b1 : Int) (w : World) :
    Calls Try.prog 153 #[.agg #[iv a0, iv a1], .agg #[iv b0, iv b1]] w (Ret (.bool (insideB a0 a1 b0 b1)) w) := by
  have H0 : Hid (Below w.heap.size w ((w.alloc (.cells #[iv a0, iv a1] 47)).alloc (.cells #[iv b0, iv b1] 47))) := hid ((below_alloc _ _).alloc (by simp) _)
  have HI : Hid (∀ (x y : Int) (W : World), Calls Try.prog 31 #[.agg #[iv x, iv y]] W (Ret (.bool (spanB x y)) W)) := hid implIsSpan_any
  cases h1 : spanB a0 a1
  · skip
    have HT := hid (show false = insideB a0 a1 b0 b1 by simp [insideB, h1])
    go_enter Try.func153, Try.ntmps153
    go_wp2_with fail
    refine (HI.out _ _ _).mono ?_
    rintro e w1 ⟨rfl, hb1⟩
    rw [h1]
    clear h1
    obtain ⟨hc, -⟩ := bcell hb1
    go_wp2
    go_ret
    exact ⟨ret_bool HT.out, below_step H0.out hb1⟩
  · cases h2 : spanB b0 b1
    · skip
      have HT := hid (show false = insideB a0 a1 b0 b1 by simp [insideB, h2])
      go_enter Try.func153, Try.ntmps153
      go_wp2_with fail
      refine (HI.out _ _ _).mono ?_
      rintro e w1 ⟨rfl, hb1⟩
      rw [h1]
      clear h1
      obtain ⟨hc, -⟩ := bcell hb1
      go_wp2_with fail
      clear hc
      refine (HI.out _ _ _).mono ?_
      rintro e w2 ⟨rfl, hb2⟩
      rw [h2]
      clear h2
      replace hb2 := below_step hb1 hb2
      clear hb1
      obtain ⟨hc, -⟩ := bcell hb2
      go_wp2
      go_ret
      exact ⟨ret_bool HT.out, below_step H0.out hb2⟩
    · by_cases h3 : b0 ≤ a0
      · by_cases h4 : a1 ≤ b1
        · skip
          have HT := hid (show true = insideB a0 a1 b0 b1 by simp [insideB, h1, h2, h3, h4])
          go_enter Try.func153, Try.ntmps153
          go_wp2_with fail
          refine (HI.out _ _ _).mono ?_
          rintro e w1 ⟨rfl, hb1⟩
          rw [h1]
          clear h1
          obtain ⟨hc, -⟩ := bcell hb1
          go_wp2_with fail
          clear hc
          refine (HI.out _ _ _).mono ?_
          rintro e w2 ⟨rfl, hb2⟩
          rw [h2]
          clear h2
          replace hb2 := below_step hb1 hb2
          clear hb1
          obtain ⟨hc, -⟩ := bcell hb2
          go_wp2
          go_ret
          exact ⟨ret_bool HT.out, below_step H0.out hb2⟩
        · have h4p : b1 < a1 := by omega
          have h4d : decide (a1 ≤ b1) = false := by simpa using h4
          have HT := hid (show false = insideB a0 a1 b0 b1 by simp [insideB, h4])
          go_enter Try.func153, Try.ntmps153
          go_wp2_with fail
          refine (HI.out _ _ _).mono ?_
          rintro e w1 ⟨rfl, hb1⟩
          rw [h1]
          clear h1
          obtain ⟨hc, -⟩ := bcell hb1
          go_wp2_with fail
          clear hc
          refine (HI.out _ _ _).mono ?_
          rintro e w2 ⟨rfl, hb2⟩
          rw [h2]
          clear h2
          replace hb2 := below_step hb1 hb2
          clear hb1
          obtain ⟨hc, -⟩ := bcell hb2
          go_wp2
          go_ret
          exact ⟨ret_bool HT.out, below_step H0.out hb2⟩
      · have h3p : a0 < b0 := by omega
        have HT := hid (show false = insideB a0 a1 b0 b1 by simp [insideB, h3])
        go_enter Try.func153, Try.ntmps153
        go_wp2_with fail
        refine (HI.out _ _ _).mono ?_
        rintro e w1 ⟨rfl, hb1⟩
        rw [h1]
        clear h1
        obtain ⟨hc, -⟩ := bcell hb1
        go_wp2_with fail
        clear hc
        refine (HI.out _ _ _).mono ?_
        rintro e w2 ⟨rfl, hb2⟩
        rw [h2]
        clear h2
        replace hb2 := below_step hb1 hb2
        clear hb1
        obtain ⟨hc, -⟩ := bcell hb2
        go_wp2
        go_ret
        exact ⟨ret_bool HT.out, below_step H0.out hb2⟩

set_option maxHeartbeats 4000000 in
theorem implCoversSpan_any {B : Nat} {ls : List (List Int)} {v : Value} (a0 a1 : Int) (w : World) (h : Sl B w 2 v ls) (hB : B ≤ w.heap.size) (hn : ls.length ≤ 1099511627776) :
    Calls Try.prog 87 #[v, .agg #[iv a0, iv a1]] w (Ret (.bool (covB (joinT ls ls.length) a0 a1)) w) := by
  have HV := hid (h.below (below_alloc w (.cells #[iv a0, iv a1] 47)) hB)
  have HQ : Hid (∀ wr : World, Below (w.alloc (.cells #[iv a0, iv a1] 47)).heap.size (w.alloc (.cells #[iv a0, iv a1] 47)) wr → (wr.cell? ⟨w.heap.size, 0, none⟩ = some (iv a0) ∧ wr.cell? ⟨w.heap.size, 1, none⟩ = some (iv a1))) := hid fun wr hx => ⟨(hx.cell (p := ⟨w.heap.size, 0, none⟩) (by simp)).trans (by simp [go_sem]), (hx.cell (p := ⟨w.heap.size, 1, none⟩) (by simp)).trans (by simp [go_sem])⟩
  have HI : Hid (∀ (x0 x1 y0 y1 : Int) (W : World), Calls Try.prog 153 #[.agg #[iv x0, iv x1], .agg #[iv y0, iv y1]] W (Ret (.bool (insideB x0 x1 y0 y1)) W)) := hid implIsInside_any
  clear h
  go_enter Try.func87, Try.ntmps87
  go_wp2_with fail
  refine (implJoinAll_any _ HV.out (Nat.le_trans hB (below_alloc _ _).size) hn).mono ?_
  rintro e w1 ⟨o1, rfl, ho1, hb1⟩
  have HJ := hid (ho1.sl (join_facts ls ls.length).1)
  have HB1 := hid hb1
  obtain ⟨js, hjs⟩ : ∃ js, js = joinT ls ls.length := ⟨_, rfl⟩
  rw [← hjs] at HJ
  have HJS := hid hjs
  clear hjs ho1 hb1
  obtain ⟨A, c, rfl, hc1, hc2, -, hcell⟩ := HJ.out
  have HC := hid hcell
  clear hcell HJ
  go_wp2
  go_loopw [10] (fun i wr => ∃ k : Nat, k ≤ js.length ∧ i = .int .i64 k ∧ AG (outB js a0 a1) k ∧ Below w1.heap.size w1 wr) (fun i _ => js.length - (intOf i).toNat)
  case atStart => exact ⟨0, Nat.zero_le _, rfl, AG_zero _, Below.refl _ _⟩
  case round =>
    obtain ⟨k, hk, rfl, hg, hb⟩ := hrel
    have HG := hid hg
    have HB := hid hb
    obtain ⟨q0, q1⟩ := HQ.out _ (below_step HB1.out hb)
    clear hg
    by_cases hlt : k < js.length
    rotate_left
    · obtain rfl : k = js.length := by omega
      have HT := hid (show false = covB (joinT ls ls.length) a0 a1 by rw [← HJS.out]; exact cov_no HG.out)
      clear hb HG HC
      go_wp2
      go_ret
      exact ⟨ret_bool HT.out, below_step (below_alloc _ _) (below_step HB1.out HB.out)⟩
    obtain ⟨b, off, rfl, hbB, hcc⟩ := HC.out (by omega)
    have c0 := cell_at hb hbB (Nat.le_refl _) (hcc k 0 hlt (by omega))
    have c1 := cell_at hb hbB (Nat.le_refl _) (hcc k 1 hlt (by omega))
    rw [Nat.add_zero] at c0
    have hi0 : (0 : Int) ≤ (k : Int) := Int.natCast_nonneg _
    have hi1 : (k : Int) < (js.length : Int) := by omega
    have hqw : w.heap.size < wr.heap.size := below_size (below_step HB1.out hb)
    have hbw : b < wr.heap.size := by have := hb.size; omega
    clear hcc HC hb
    cases hin : insideB a0 a1 (fld js k 0) (fld js k 1)
    · have HT := hid (AG_succ HG.out (show outB js a0 a1 k = true by simp [outB, hin]))
      clear HG
      go_wp2_with fail
      refine (HI.out _ _ _ _ _).mono ?_
      rintro e w2 ⟨rfl, hb2⟩
      rw [hin]
      have HB2 := hid (below_step (HB.out.alloc HB.out.size (.cells #[iv (fld js k 0), iv (fld js k 1)] 47)) hb2)
      clear hb2 hin c0 c1 q0 q1
      go_wp2
      go_roundw
      case rel => exact ⟨k + 1, by omega, by go_num, HT.out, HB2.out⟩
      case measure => simp [intOf]; omega
    · have HT := hid (show true = covB (joinT ls ls.length) a0 a1 by rw [← HJS.out]; exact cov_yes hlt hin)
      clear HG
      go_wp2_with fail
      refine (HI.out _ _ _ _ _).mono ?_
      rintro e w2 ⟨rfl, hb2⟩
      rw [hin]
      have HB2 := hid (below_step (HB.out.alloc HB.out.size (.cells #[iv (fld js k 0), iv (fld js k 1)] 47)) hb2)
      clear hb2 hin c0 c1 q0 q1
      go_wp2
      go_ret
      exact ⟨ret_bool HT.out, below_step (below_alloc _ _) (below_step HB1.out HB2.out)⟩

set_option maxHeartbeats 2000000 in
theorem specIsInside_any (a0 a1 b0 b1 : Int) (w : World) :
    Calls Try.prog 178 #[.agg #[iv a0, iv a1], .agg #[iv b0, iv b1]] w (Ret (.bool (insideB a0 a1 b0 b1)) w) := by
  have H0 : Hid (Below w.heap.size w ((w.alloc (.cells #[iv a0, iv a1] 47)).alloc (.cells #[iv b0, iv b1] 47))) := hid ((below_alloc _ _).alloc (by simp) _)
  have HI : Hid (∀ (x y : Int) (W : World), Calls Try.prog 146 #[.agg #[iv x, iv y]] W (Ret (.bool (spanB x y)) W)) := hid specIsSpan_any
  cases h1 : spanB a0 a1
  · skip
    have HT := hid (show false = insideB a0 a1 b0 b1 by simp [insideB, h1])
    go_enter Try.func178, Try.ntmps178
    go_wp2_with fail
    refine (HI.out _ _ _).mono ?_
    rintro e w1 ⟨rfl, hb1⟩
    rw [h1]
    clear h1
    obtain ⟨hc, -⟩ := bcell hb1
    go_wp2
    go_ret
    exact ⟨ret_bool HT.out, below_step H0.out hb1⟩
  · cases h2 : spanB b0 b1
    · skip
      have HT := hid (show false = insideB a0 a1 b0 b1 by simp [insideB, h2])
      go_enter Try.func178, Try.ntmps178
      go_wp2_with fail
      refine (HI.out _ _ _).mono ?_
      rintro e w1 ⟨rfl, hb1⟩
      rw [h1]
      clear h1
      obtain ⟨hc, -⟩ := bcell hb1
      go_wp2_with fail
      clear hc
      refine (HI.out _ _ _).mono ?_
      rintro e w2 ⟨rfl, hb2⟩
      rw [h2]
      clear h2
      replace hb2 := below_step hb1 hb2
      clear hb1
      obtain ⟨hc, -⟩ := bcell hb2
      go_wp2
      go_ret
      exact ⟨ret_bool HT.out, below_step H0.out hb2⟩
    · by_cases h3 : b0 ≤ a0
      · by_cases h4 : a1 ≤ b1
        · skip
          have HT := hid (show true = insideB a0 a1 b0 b1 by simp [insideB, h1, h2, h3, h4])
          go_enter Try.func178, Try.ntmps178
          go_wp2_with fail
          refine (HI.out _ _ _).mono ?_
          rintro e w1 ⟨rfl, hb1⟩
          rw [h1]
          clear h1
          obtain ⟨hc, -⟩ := bcell hb1
          go_wp2_with fail
          clear hc
          refine (HI.out _ _ _).mono ?_
          rintro e w2 ⟨rfl, hb2⟩
          rw [h2]
          clear h2
          replace hb2 := below_step hb1 hb2
          clear hb1
          obtain ⟨hc, -⟩ := bcell hb2
          go_wp2
          go_ret
          exact ⟨ret_bool HT.out, below_step H0.out hb2⟩
        · have h4p : b1 < a1 := by omega
          have h4d : decide (a1 ≤ b1) = false := by simpa using h4
          have HT := hid (show false = insideB a0 a1 b0 b1 by simp [insideB, h4])
          go_enter Try.func178, Try.ntmps178
          go_wp2_with fail
          refine (HI.out _ _ _).mono ?_
          rintro e w1 ⟨rfl, hb1⟩
          rw [h1]
          clear h1
          obtain ⟨hc, -⟩ := bcell hb1
          go_wp2_with fail
          clear hc
          refine (HI.out _ _ _).mono ?_
          rintro e w2 ⟨rfl, hb2⟩
          rw [h2]
          clear h2
          replace hb2 := below_step hb1 hb2
          clear hb1
          obtain ⟨hc, -⟩ := bcell hb2
          go_wp2
          go_ret
          exact ⟨ret_bool HT.out, below_step H0.out hb2⟩
      · have h3p : a0 < b0 := by omega
        have HT := hid (show false = insideB a0 a1 b0 b1 by simp [insideB, h3])
        go_enter Try.func178, Try.ntmps178
        go_wp2_with fail
        refine (HI.out _ _ _).mono ?_
        rintro e w1 ⟨rfl, hb1⟩
        rw [h1]
        clear h1
        obtain ⟨hc, -⟩ := bcell hb1
        go_wp2_with fail
        clear hc
        refine (HI.out _ _ _).mono ?_
        rintro e w2 ⟨rfl, hb2⟩
        rw [h2]
        clear h2
        replace hb2 := below_step hb1 hb2
        clear hb1
        obtain ⟨hc, -⟩ := bcell hb2
        go_wp2
        go_ret
        exact ⟨ret_bool HT.out, below_step H0.out hb2⟩

set_option maxHeartbeats 4000000 in
theorem specCoversSpan_any {B : Nat} {ls : List (List Int)} {v : Value} (a0 a1 : Int) (w : World) (h : Sl B w 2 v ls) (hB : B ≤ w.heap.size) (hn : ls.length ≤ 1099511627776) :
    Calls Try.prog 147 #[v, .agg #[iv a0, iv a1]] w (Ret (.bool (covB (joinT ls ls.length) a0 a1)) w) := by
  have HV := hid (h.below (below_alloc w (.cells #[iv a0, iv a1] 47)) hB)
  have HQ : Hid (∀ wr : World, Below (w.alloc (.cells #[iv a0, iv a1] 47)).heap.size (w.alloc (.cells #[iv a0, iv a1] 47)) wr → (wr.cell? ⟨w.heap.size, 0, none⟩ = some (iv a0) ∧ wr.cell? ⟨w.heap.size, 1, none⟩ = some (iv a1))) := hid fun wr hx => ⟨(hx.cell (p := ⟨w.heap.size, 0, none⟩) (by simp)).trans (by simp [go_sem]), (hx.cell (p := ⟨w.heap.size, 1, none⟩) (by simp)).trans (by simp [go_sem])⟩
  have HI : Hid (∀ (x0 x1 y0 y1 : Int) (W : World), Calls Try.prog 178 #[.agg #[iv x0, iv x1], .agg #[iv y0, iv y1]] W (Ret (.bool (insideB x0 x1 y0 y1)) W)) := hid specIsInside_any
  clear h
  go_enter Try.func147, Try.ntmps147
  go_wp2_with fail
  refine (specJoinAll_any _ HV.out (Nat.le_trans hB (below_alloc _ _).size) hn).mono ?_
  rintro e w1 ⟨o1, rfl, ho1, hb1⟩
  have HJ := hid (ho1.sl (join_facts ls ls.length).1)
  have HB1 := hid hb1
  obtain ⟨js, hjs⟩ : ∃ js, js = joinT ls ls.length := ⟨_, rfl⟩
  rw [← hjs] at HJ
  have HJS := hid hjs
  clear hjs ho1 hb1
  obtain ⟨A, c, rfl, hc1, hc2, -, hcell⟩ := HJ.out
  have HC := hid hcell
  clear hcell HJ
  go_wp2
  go_loopw [6] (fun i wr => ∃ k : Nat, k ≤ js.length ∧ i = .int .i64 k ∧ AG (outB js a0 a1) k ∧ Below w1.heap.size w1 wr) (fun i _ => js.length - (intOf i).toNat)
  case atStart => exact ⟨0, Nat.zero_le _, rfl, AG_zero _, Below.refl _ _⟩
  case round =>
    obtain ⟨k, hk, rfl, hg, hb⟩ := hrel
    have HG := hid hg
    have HB := hid hb
    obtain ⟨q0, q1⟩ := HQ.out _ (below_step HB1.out hb)
    clear hg
    by_cases hlt : k < js.length
    rotate_left
    · obtain rfl : k = js.length := by omega
      have HT := hid (show false = covB (joinT ls ls.length) a0 a1 by rw [← HJS.out]; exact cov_no HG.out)
      clear hb HG HC
      go_wp2
      go_ret
      exact ⟨ret_bool HT.out, below_step (below_alloc _ _) (below_step HB1.out HB.out)⟩
    obtain ⟨b, off, rfl, hbB, hcc⟩ := HC.out (by omega)
    have c0 := cell_at hb hbB (Nat.le_refl _) (hcc k 0 hlt (by omega))
    have c1 := cell_at hb hbB (Nat.le_refl _) (hcc k 1 hlt (by omega))
    rw [Nat.add_zero] at c0
    have hi0 : (0 : Int) ≤ (k : Int) := Int.natCast_nonneg _
    have hi1 : (k : Int) < (js.length : Int) := by omega
    have hqw : w.heap.size < wr.heap.size := below_size (below_step HB1.out hb)
    have hbw : b < wr.heap.size := by have := hb.size; omega
    clear hcc HC hb
    cases hin : insideB a0 a1 (fld js k 0) (fld js k 1)
    · have HT := hid (AG_succ HG.out (show outB js a0 a1 k = true by simp [outB, hin]))
      clear HG
      have HS : Hid (∀ w' : World, Below wr.heap.size wr w' → (w'.cell? ⟨w.heap.size, 0, none⟩ = some (iv a0) ∧ w'.cell? ⟨w.heap.size, 1, none⟩ = some (iv a1) ∧ w'.cell? ⟨b, off + k * 2, none⟩ = some (iv (fld js k 0)) ∧ w'.cell? ⟨b, off + k * 2 + 1, none⟩ = some (iv (fld js k 1)))) := hid fun w' hx => ⟨(hx.cell (p := ⟨w.heap.size, 0, none⟩) hqw).trans q0, (hx.cell (p := ⟨w.heap.size, 1, none⟩) hqw).trans q1, (hx.cell (p := ⟨b, off + k * 2, none⟩) hbw).trans c0, (hx.cell (p := ⟨b, off + k * 2 + 1, none⟩) hbw).trans c1⟩
      have hrf := Below.refl wr.heap.size wr
      have HIN : Hid (∀ W : World, Calls Try.prog 178 #[.agg #[iv a0, iv a1], .agg #[iv (fld js k 0), iv (fld js k 1)]] W (Ret (.bool false) W)) := hid fun W => by rw [← hin]; exact HI.out _ _ _ _ W
      clear hin
      go_wp2_with fail
      go_region_held3 (fun w' => w'.cell? ⟨w.heap.size, 0, none⟩ = some (iv a0) ∧ w'.cell? ⟨w.heap.size, 1, none⟩ = some (iv a1) ∧ w'.cell? ⟨b, off + k * 2, none⟩ = some (iv (fld js k 0)) ∧ w'.cell? ⟨b, off + k * 2 + 1, none⟩ = some (iv (fld js k 1))) (first | with_reducible exact HS.out _ hrf.drew | with_reducible exact HS.out _ HZ1.out | go_keep)
        (first | (go_at_call 178; refine (HIN.out _).mono ?_; rintro e w2 ⟨rfl, hb2⟩; have HZ1 := hid (below_step hrf.drew hb2)))
      have HB2 := hid (below_step HB.out HZ1.out)
      clear HZ1 c0 c1 q0 q1 hrf HS
      go_wp2
      go_roundw
      case rel => exact ⟨k + 1, by omega, by go_num, HT.out, HB2.out⟩
      case measure => simp [intOf]; omega
    · have HT := hid (show true = covB (joinT ls ls.length) a0 a1 by rw [← HJS.out]; exact cov_yes hlt hin)
      clear HG
      have HS : Hid (∀ w' : World, Below wr.heap.size wr w' → (w'.cell? ⟨w.heap.size, 0, none⟩ = some (iv a0) ∧ w'.cell? ⟨w.heap.size, 1, none⟩ = some (iv a1) ∧ w'.cell? ⟨b, off + k * 2, none⟩ = some (iv (fld js k 0)) ∧ w'.cell? ⟨b, off + k * 2 + 1, none⟩ = some (iv (fld js k 1)))) := hid fun w' hx => ⟨(hx.cell (p := ⟨w.heap.size, 0, none⟩) hqw).trans q0, (hx.cell (p := ⟨w.heap.size, 1, none⟩) hqw).trans q1, (hx.cell (p := ⟨b, off + k * 2, none⟩) hbw).trans c0, (hx.cell (p := ⟨b, off + k * 2 + 1, none⟩) hbw).trans c1⟩
      have hrf := Below.refl wr.heap.size wr
      have HIN : Hid (∀ W : World, Calls Try.prog 178 #[.agg #[iv a0, iv a1], .agg #[iv (fld js k 0), iv (fld js k 1)]] W (Ret (.bool true) W)) := hid fun W => by rw [← hin]; exact HI.out _ _ _ _ W
      clear hin
      go_wp2_with fail
      go_region_held3 (fun w' => w'.cell? ⟨w.heap.size, 0, none⟩ = some (iv a0) ∧ w'.cell? ⟨w.heap.size, 1, none⟩ = some (iv a1) ∧ w'.cell? ⟨b, off + k * 2, none⟩ = some (iv (fld js k 0)) ∧ w'.cell? ⟨b, off + k * 2 + 1, none⟩ = some (iv (fld js k 1))) (first | with_reducible exact HS.out _ hrf.drew | with_reducible exact HS.out _ HZ1.out | go_keep)
        (first | (go_at_call 178; refine (HIN.out _).mono ?_; rintro e w2 ⟨rfl, hb2⟩; have HZ1 := hid (below_step hrf.drew hb2)))
      have HB2 := hid (below_step HB.out HZ1.out)
      clear HZ1 c0 c1 q0 q1 hrf HS
      go_wp2
      go_ret
      exact ⟨ret_bool HT.out, below_step (below_alloc _ _) (below_step HB1.out HB2.out)⟩

end Go.Proofs.Ytkdpfbodmfjkkaa
