/- AreAuthorities of the program and of the reference return what the plain function says. No condition. -/
import Derived.Test.YtgplnokohchepaaRows
import Derived.Test.YtgplnokohchepaaPlain
namespace Go.Proofs.Ytgplnokohchepaa
open Go.RowKit

set_option maxHeartbeats 400000 in
theorem implIn_any (n lo hi : Int) (w : World) :
    Calls Try.prog 61 #[iv n, iv lo, iv hi] w fun e w' => e = .returned (.bool (inR n lo hi)) ∧ w' = w := by
  go_enter Try.func61, Try.ntmps61
  go_wp2
  all_goals
    go_ret
    exact ⟨ret_bool (by rw [Bool.eq_iff_iff, inR_iff]; first | (simp only [decide_eq_true_eq]; omega) | (simp only [Bool.false_eq_true, false_iff]; omega) | (simp; omega)), rfl⟩

set_option maxHeartbeats 4000000 in
theorem implAreAuthorities_any {B : Nat} {ks : List (List Int)} {v : Value} (w : World) (h : Sl B w 3 v ks) (hB : B ≤ w.heap.size) :
    Calls Try.prog 21 #[v] w (Ret (.bool (areB (goodAuth ks) ks.length 6)) w) := by
  obtain ⟨A, c, rfl, hc1, hc2, -, hcell⟩ := h
  have HC := hid hcell
  clear hcell
  go_enter Try.func21, Try.ntmps21
  go_wp2
  go_loopw [7] (fun i wr => ∃ k : Nat, k ≤ ks.length ∧ i = .int .i64 k ∧ AG (goodAuth ks) k ∧ Below w.heap.size w wr) (fun i _ => ks.length - (intOf i).toNat)
  case atStart => exact ⟨0, Nat.zero_le _, rfl, AG_zero _, Below.refl _ _⟩
  case round =>
    obtain ⟨k, hk, rfl, hg, hb⟩ := hrel
    have HG := hid hg
    clear hg
    by_cases hlt : k < ks.length
    · obtain ⟨b, off, rfl, hbB, hcc⟩ := HC.out (by omega)
      have c0 := cell_at hb hbB hB (hcc k 0 hlt (by omega))
      have c1 := cell_at hb hbB hB (hcc k 1 hlt (by omega))
      have c2 := cell_at hb hbB hB (hcc k 2 hlt (by omega))
      rw [Nat.add_zero] at c0
      have hi0 : (0 : Int) ≤ (k : Int) := Int.natCast_nonneg _
      have hi1 : (k : Int) < (ks.length : Int) := by omega
      have HB := hid (below_drewN (hb.alloc hb.size (.cells #[iv (fld ks k 0), iv (fld ks k 1), iv (fld ks k 2)] 79)))
      have hbw : b < wr.heap.size := by have := hb.size; omega
      have hp : 0 < k → wr.cell? ⟨b, off + (k - 1) * 3, none⟩ = some (iv (fld ks (k - 1) 0)) := fun hk0 => by
        have := cell_at hb hbB hB (hcc (k - 1) 0 (by omega) (by omega))
        rwa [Nat.add_zero] at this
      clear HC hcc hb
      cases h1 : inR (fld ks k 0) 0 99
      · clear hp
        have HT := hid (areB_bad (mx := 6) hlt (show goodAuth ks k = false by simp [goodAuth, h1]))
        clear HG
        go_wp2
        go_quiet ((go_at_call 61; exact Calls.quiet_of_same (implIn_any _ _ _ _)))
        go_wp2
        go_ret
        exact ⟨ret_bool HT.out, HB.out _⟩
      · cases h2 : inR (fld ks k 1) 1 99
        · clear hp
          have HT := hid (areB_bad (mx := 6) hlt (show goodAuth ks k = false by simp [goodAuth, h2]))
          clear HG
          go_wp2
          go_quiet ((go_at_call 61; exact Calls.quiet_of_same (implIn_any _ _ _ _)))
          go_wp2
          go_ret
          exact ⟨ret_bool HT.out, HB.out _⟩
        · cases h3 : inR (fld ks k 2) 0 100
          · clear hp
            have HT := hid (areB_bad (mx := 6) hlt (show goodAuth ks k = false by simp [goodAuth, h3]))
            clear HG
            go_wp2
            go_quiet ((go_at_call 61; exact Calls.quiet_of_same (implIn_any _ _ _ _)))
            go_wp2
            go_ret
            exact ⟨ret_bool HT.out, HB.out _⟩
          · by_cases hk0 : 0 < k
            · have d0 := hp hk0
              have hk1 : (0 : Int) < (k : Int) := by omega
              have hj0 : (0 : Int) ≤ (k : Int) - 1 := by omega
              have hj1 : (k : Int) - 1 < (ks.length : Int) := by omega
              have hj2 : ((k : Int) - 1).toNat = k - 1 := by omega
              have hj3 : IntKind.i64.wrap ((k : Int) - 1) = (k : Int) - 1 := IntWalk.i64_in _ (by omega)
              clear hp
              by_cases hr : fld ks k 0 ≤ fld ks (k - 1) 0
              · have hr' : decide (fld ks k 0 ≤ fld ks (k - 1) 0) = true := by simpa using hr
                have HT := hid (areB_bad (mx := 6) hlt (show goodAuth ks k = false by simp [goodAuth, risesB_no hk0 hr]))
                clear HG
                go_wp2
                go_quiet ((go_at_call 61; exact Calls.quiet_of_same (implIn_any _ _ _ _)))
                go_wp2
                go_ret
                exact ⟨ret_bool HT.out, HB.out _⟩
              · have hr' : decide (fld ks k 0 ≤ fld ks (k - 1) 0) = false := by simpa using hr
                have HT := hid (AG_succ HG.out (show goodAuth ks k = true by simp [goodAuth, h1, h2, h3, risesB_yes (show fld ks (k - 1) 0 < fld ks k 0 by omega)]))
                clear HG
                go_wp2
                go_quiet ((go_at_call 61; exact Calls.quiet_of_same (implIn_any _ _ _ _)))
                go_wp2
                go_roundw
                case rel => exact ⟨k + 1, by omega, by go_num, HT.out, HB.out _⟩
                case measure => simp [intOf]; omega
            · have hk1 : decide ((0 : Int) < (k : Int)) = false := by simp; omega
              clear hp
              have HT := hid (AG_succ HG.out (show goodAuth ks k = true by simp [goodAuth, h1, h2, h3, risesB_zero (ks := ks) (show k = 0 by omega)]))
              clear HG
              go_wp2
              go_quiet ((go_at_call 61; exact Calls.quiet_of_same (implIn_any _ _ _ _)))
              go_wp2
              go_roundw
              case rel => exact ⟨k + 1, by omega, by go_num, HT.out, HB.out _⟩
              case measure => simp [intOf]; omega
    · obtain rfl : k = ks.length := by omega
      have HT := hid (areB_end (mx := 6) HG.out)
      have HB := hid hb
      clear hb HG
      go_wp2
      go_ret
      exact ⟨ret_bool HT.out, HB.out⟩

set_option maxHeartbeats 400000 in
theorem specIn_any (n lo hi : Int) (w : World) :
    Calls Try.prog 60 #[iv n, iv lo, iv hi] w fun e w' => e = .returned (.bool (inR n lo hi)) ∧ w' = w := by
  go_enter Try.func60, Try.ntmps60
  go_wp2
  all_goals
    go_ret
    exact ⟨ret_bool (by rw [Bool.eq_iff_iff, inR_iff]; first | (simp only [decide_eq_true_eq]; omega) | (simp only [Bool.false_eq_true, false_iff]; omega) | (simp; omega)), rfl⟩

set_option maxHeartbeats 4000000 in
theorem specAreAuthorities_any {B : Nat} {ks : List (List Int)} {v : Value} (w : World) (h : Sl B w 3 v ks) (hB : B ≤ w.heap.size) :
    Calls Try.prog 20 #[v] w (Ret (.bool (areB (goodAuth ks) ks.length 6)) w) := by
  obtain ⟨A, c, rfl, hc1, hc2, -, hcell⟩ := h
  have HC := hid hcell
  clear hcell
  go_enter Try.func20, Try.ntmps20
  go_wp2
  go_loopw [3] (fun i wr => ∃ k : Nat, k ≤ ks.length ∧ i = .int .i64 k ∧ AG (goodAuth ks) k ∧ Below w.heap.size w wr) (fun i _ => ks.length - (intOf i).toNat)
  case atStart => exact ⟨0, Nat.zero_le _, rfl, AG_zero _, Below.refl _ _⟩
  case round =>
    obtain ⟨k, hk, rfl, hg, hb⟩ := hrel
    have HG := hid hg
    clear hg
    by_cases hlt : k < ks.length
    · obtain ⟨b, off, rfl, hbB, hcc⟩ := HC.out (by omega)
      have c0 := cell_at hb hbB hB (hcc k 0 hlt (by omega))
      have c1 := cell_at hb hbB hB (hcc k 1 hlt (by omega))
      have c2 := cell_at hb hbB hB (hcc k 2 hlt (by omega))
      rw [Nat.add_zero] at c0
      have hi0 : (0 : Int) ≤ (k : Int) := Int.natCast_nonneg _
      have hi1 : (k : Int) < (ks.length : Int) := by omega
      have HB := hid (below_drewN hb)
      have hbw : b < wr.heap.size := by have := hb.size; omega
      have hp : 0 < k → wr.cell? ⟨b, off + (k - 1) * 3, none⟩ = some (iv (fld ks (k - 1) 0)) := fun hk0 => by
        have := cell_at hb hbB hB (hcc (k - 1) 0 (by omega) (by omega))
        rwa [Nat.add_zero] at this
      clear HC hcc hb
      cases h1 : inR (fld ks k 0) 0 99
      · clear hp
        have HT := hid (areB_bad (mx := 6) hlt (show goodAuth ks k = false by simp [goodAuth, h1]))
        clear HG
        go_wp2
        go_quiet ((go_at_call 60; exact Calls.quiet_of_same (specIn_any _ _ _ _)))
        go_wp2
        go_ret
        exact ⟨ret_bool HT.out, HB.out _⟩
      · cases h2 : inR (fld ks k 1) 1 99
        · clear hp
          have HT := hid (areB_bad (mx := 6) hlt (show goodAuth ks k = false by simp [goodAuth, h2]))
          clear HG
          go_wp2
          go_quiet ((go_at_call 60; exact Calls.quiet_of_same (specIn_any _ _ _ _)))
          go_wp2
          go_ret
          exact ⟨ret_bool HT.out, HB.out _⟩
        · cases h3 : inR (fld ks k 2) 0 100
          · clear hp
            have HT := hid (areB_bad (mx := 6) hlt (show goodAuth ks k = false by simp [goodAuth, h3]))
            clear HG
            go_wp2
            go_quiet ((go_at_call 60; exact Calls.quiet_of_same (specIn_any _ _ _ _)))
            go_wp2
            go_ret
            exact ⟨ret_bool HT.out, HB.out _⟩
          · by_cases hk0 : 0 < k
            · have d0 := hp hk0
              have hk1 : (0 : Int) < (k : Int) := by omega
              have hj0 : (0 : Int) ≤ (k : Int) - 1 := by omega
              have hj1 : (k : Int) - 1 < (ks.length : Int) := by omega
              have hj2 : ((k : Int) - 1).toNat = k - 1 := by omega
              have hj3 : IntKind.i64.wrap ((k : Int) - 1) = (k : Int) - 1 := IntWalk.i64_in _ (by omega)
              clear hp
              by_cases hr : fld ks k 0 ≤ fld ks (k - 1) 0
              · have hr' : decide (fld ks k 0 ≤ fld ks (k - 1) 0) = true := by simpa using hr
                have HT := hid (areB_bad (mx := 6) hlt (show goodAuth ks k = false by simp [goodAuth, risesB_no hk0 hr]))
                clear HG
                go_wp2
                go_quiet ((go_at_call 60; exact Calls.quiet_of_same (specIn_any _ _ _ _)))
                go_wp2
                go_ret
                exact ⟨ret_bool HT.out, HB.out _⟩
              · have hr' : decide (fld ks k 0 ≤ fld ks (k - 1) 0) = false := by simpa using hr
                have HT := hid (AG_succ HG.out (show goodAuth ks k = true by simp [goodAuth, h1, h2, h3, risesB_yes (show fld ks (k - 1) 0 < fld ks k 0 by omega)]))
                clear HG
                go_wp2
                go_quiet ((go_at_call 60; exact Calls.quiet_of_same (specIn_any _ _ _ _)))
                go_wp2
                go_roundw
                case rel => exact ⟨k + 1, by omega, by go_num, HT.out, HB.out _⟩
                case measure => simp [intOf]; omega
            · have hk1 : decide ((0 : Int) < (k : Int)) = false := by simp; omega
              clear hp
              have HT := hid (AG_succ HG.out (show goodAuth ks k = true by simp [goodAuth, h1, h2, h3, risesB_zero (ks := ks) (show k = 0 by omega)]))
              clear HG
              go_wp2
              go_quiet ((go_at_call 60; exact Calls.quiet_of_same (specIn_any _ _ _ _)))
              go_wp2
              go_roundw
              case rel => exact ⟨k + 1, by omega, by go_num, HT.out, HB.out _⟩
              case measure => simp [intOf]; omega
    · obtain rfl : k = ks.length := by omega
      have HT := hid (areB_end (mx := 6) HG.out)
      have HB := hid hb
      clear hb HG
      go_wp2
      go_ret
      exact ⟨ret_bool HT.out, HB.out⟩

end Go.Proofs.Ytgplnokohchepaa
