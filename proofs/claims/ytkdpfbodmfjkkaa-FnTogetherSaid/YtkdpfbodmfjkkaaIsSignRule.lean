/- IsSignRule of the program and of the reference return what the plain function says. No condition. -/
import Derived.Test.YtkdpfbodmfjkkaaRows
import Derived.Test.YtkdpfbodmfjkkaaPlain
import Derived.Test.YtkdpfbodmfjkkaaHas
import Derived.Test.YtkdpfbodmfjkkaaAreAuthorities
namespace Go.Proofs.Ytkdpfbodmfjkkaa
open Go.RowKit

def goodOw (os : List Int) (k : Nat) : Bool := inR (nth os k) 0 99 && !hasB (nth os k) (os.take k)
def ruleB (os : List Int) : Bool := (List.range os.length).all (goodOw os) && inR os.length 1 4
theorem ruleB_bad {os : List Int} {k : Nat} (hk : k < os.length) (e : goodOw os k = false) : false = ruleB os := by
  have : (List.range os.length).all (goodOw os) = false := by
    cases hx : (List.range os.length).all (goodOw os) with
    | false => rfl
    | true => rw [List.all_eq_true] at hx; rw [hx k (List.mem_range.2 hk)] at e; cases e
  simp [ruleB, this]
theorem ruleB_end {os : List Int} (h : AG (goodOw os) os.length) : inR os.length 1 4 = ruleB os := by
  have : (List.range os.length).all (goodOw os) = true := by
    rw [List.all_eq_true]
    intro i hi
    exact h i (List.mem_range.1 hi)
  unfold ruleB
  rw [this, Bool.true_and]

set_option maxHeartbeats 4000000 in
theorem implIsSignRule_any {B : Nat} {os : List Int} {v : Value} (o : Bool) (w : World) (h : Si B w v os) (hB : B ≤ w.heap.size) :
    Calls Try.prog 92 #[.agg #[v, .bool o]] w (Ret (.bool (ruleB os)) w) := by
  have h1 : Si B (w.alloc (.cells #[v, .bool o] 33)) v os := h.below (below_alloc _ _) hB
  have HV := hid h1
  obtain ⟨A, c, rfl, hc1, hc2, -, hcell⟩ := h1
  have HC := hid hcell
  clear hcell h
  go_enter Try.func92, Try.ntmps92
  go_wp2
  go_loop [8] (fun i => ∃ k : Nat, k ≤ os.length ∧ i = .int .i64 k ∧ AG (goodOw os) k) (fun i => os.length - (intOf i).toNat)
  case atStart => exact ⟨0, Nat.zero_le _, rfl, AG_zero _⟩
  case round =>
    obtain ⟨k, hk, rfl, hg⟩ := hrel
    have HG := hid hg
    clear hg
    by_cases hlt : k < os.length
    · obtain ⟨b, off, rfl, hbB, hcc⟩ := HC.out (by omega)
      have c0 := hcc k hlt
      have hbw : b < w.heap.size := by omega
      have hi0 : (0 : Int) ≤ (k : Int) := Int.natCast_nonneg _
      have hi1 : (k : Int) ≤ (c : Int) := by omega
      have HV2 := hid (HV.out.take (k := k) (by omega))
      rw [World.cell?_alloc_past _ _ _ hbw] at c0
      clear HC hcc HV
      cases hx : inR (nth os k) 0 99
      · have HT := hid (ruleB_bad hlt (show goodOw os k = false by simp [goodOw, hx]))
        have HI : Hid (∀ W : World, Calls Try.prog 106 #[iv (nth os k), iv 0, iv 99] W fun e w' => e = .returned (.bool false) ∧ w' = W) := hid fun W => by rw [← hx]; exact implIn_any _ _ _ W
        clear hx HG
        go_wp2_with (go_at_call 106; refine (HI.out _).mono ?_; rintro e w' ⟨rfl, rfl⟩)
        go_ret
        exact ⟨ret_bool HT.out, below_alloc _ _⟩
      · have HI : Hid (∀ W : World, Calls Try.prog 106 #[iv (nth os k), iv 0, iv 99] W fun e w' => e = .returned (.bool true) ∧ w' = W) := hid fun W => by rw [← hx]; exact implIn_any _ _ _ W
        cases hy : hasB (nth os k) (os.take k)
        · have HT := hid (AG_succ HG.out (show goodOw os k = true by simp [goodOw, hx, hy]))
          have HJ := hid (implhasInt_any (nth os k) _ HV2.out)
          rw [hy] at HJ
          clear hx hy HG
          go_wp2_with (first | (go_at_call 106; refine (HI.out _).mono ?_; rintro e w' ⟨rfl, rfl⟩) | (go_at_call 156; refine HJ.out.mono ?_; rintro e w' ⟨rfl, rfl⟩))
          go_round
          case rel => exact ⟨k + 1, by omega, by go_num, HT.out⟩
          case measure => simp [intOf]; omega
        · have HT := hid (ruleB_bad hlt (show goodOw os k = false by simp [goodOw, hx, hy]))
          have HJ := hid (implhasInt_any (nth os k) _ HV2.out)
          rw [hy] at HJ
          clear hx hy HG
          go_wp2_with (first | (go_at_call 106; refine (HI.out _).mono ?_; rintro e w' ⟨rfl, rfl⟩) | (go_at_call 156; refine HJ.out.mono ?_; rintro e w' ⟨rfl, rfl⟩))
          go_ret
          exact ⟨ret_bool HT.out, below_alloc _ _⟩
    · obtain rfl : k = os.length := by omega
      have HT := hid (ruleB_end HG.out)
      clear HG HC HV
      go_wp2_with (go_at_call 106; refine (implIn_any _ _ _ _).mono ?_; rintro e w' ⟨rfl, rfl⟩)
      go_ret
      exact ⟨ret_bool HT.out, below_alloc _ _⟩
set_option maxHeartbeats 4000000 in
theorem specIsSignRule_any {B : Nat} {os : List Int} {v : Value} (o : Bool) (w : World) (h : Si B w v os) (hB : B ≤ w.heap.size) :
    Calls Try.prog 94 #[.agg #[v, .bool o]] w (Ret (.bool (ruleB os)) w) := by
  have h1 : Si w.heap.size (w.alloc (.cells #[v, .bool o] 33)) v os := (h.mono hB).below (below_alloc _ _) (Nat.le_refl _)
  have HV := hid h1
  obtain ⟨A, c, rfl, hc1, hc2, -, hcell⟩ := h1
  have HC := hid hcell
  clear hcell h
  have HS : Hid (∀ w' : World, Below (w.alloc (.cells #[.slice A os.length c, .bool o] 33)).heap.size (w.alloc (.cells #[.slice A os.length c, .bool o] 33)) w' → (w'.cell? ⟨w.heap.size, 0, none⟩ = some (.slice A os.length c))) := hid fun w' hx => (hx.cell (p := ⟨w.heap.size, 0, none⟩) (by simp)).trans (by simp [go_sem])
  go_enter Try.func94, Try.ntmps94
  go_wp2
  go_loopw [3] (fun i wr => ∃ k : Nat, k ≤ os.length ∧ i = .int .i64 k ∧ AG (goodOw os) k ∧ Below (w.alloc (.cells #[.slice A os.length c, .bool o] 33)).heap.size (w.alloc (.cells #[.slice A os.length c, .bool o] 33)) wr) (fun i _ => os.length - (intOf i).toNat)
  case atStart => exact ⟨0, Nat.zero_le _, rfl, AG_zero _, Below.refl _ _⟩
  case round =>
    obtain ⟨k, hk, rfl, hg, hb⟩ := hrel
    have HG := hid hg
    have HB := hid hb
    have hs := HS.out _ hb
    clear hg hb
    by_cases hlt : k < os.length
    · obtain ⟨b, off, rfl, hbB, hcc⟩ := HC.out (by omega)
      have c0 := (HB.out.cell (p := ⟨b, off + k, none⟩) (by simp; omega)).trans (hcc k hlt)
      have hi0 : (0 : Int) ≤ (k : Int) := Int.natCast_nonneg _
      have hi1 : (k : Int) < (os.length : Int) := by omega
      have hi2 : (k : Int) ≤ (c : Int) := by omega
      have hzw : w.heap.size ≤ wr.heap.size := by have := HB.out.size; simp at this; omega
      have HV2 := hid ((HV.out.take (k := k) (by omega)).below HB.out (by simp))
      clear HC hcc HV
      cases hx : inR (nth os k) 0 99
      · have HT := hid (ruleB_bad hlt (show goodOw os k = false by simp [goodOw, hx]))
        have HI : Hid (∀ W : World, Calls Try.prog 157 #[iv (nth os k), iv 0, iv 99] W fun e w' => e = .returned (.bool false) ∧ w' = W) := hid fun W => by rw [← hx]; exact specIn_any _ _ _ W
        clear hx HG
        go_wp2_with fail
        go_quiet ((go_at_call 157; exact Calls.quiet_of_same (HI.out _)))
        go_wp2
        go_ret
        exact ⟨ret_bool HT.out, below_step (below_alloc _ _) (below_drewN HB.out _)⟩
      · have HI : Hid (∀ W : World, Calls Try.prog 157 #[iv (nth os k), iv 0, iv 99] W fun e w' => e = .returned (.bool true) ∧ w' = W) := hid fun W => by rw [← hx]; exact specIn_any _ _ _ W
        cases hy : hasB (nth os k) (os.take k)
        · have HT := hid (AG_succ HG.out (show goodOw os k = true by simp [goodOw, hx, hy]))
          have HJ : Hid (∀ n, Calls Try.prog 158 #[.slice (some ⟨b, off, none⟩) k c, iv (nth os k)] (wr.drewN n) fun e w' => e = .returned (.bool false) ∧ w' = wr.drewN n) := hid fun n => by rw [← hy]; exact specl7Has_any _ _ (HV2.out.below (below_drewN (Below.refl wr.heap.size wr) n) hzw)
          clear hx hy HG
          go_wp2_with fail
          go_quiet (first | (go_at_call 157; exact Calls.quiet_of_same (HI.out _)) | (go_at_call 158; exact Calls.quiet_of_same (HJ.out _)))
          go_wp2
          go_roundw
          case rel => exact ⟨k + 1, by omega, by go_num, HT.out, below_drewN HB.out _⟩
          case measure => simp [intOf]; omega
        · have HT := hid (ruleB_bad hlt (show goodOw os k = false by simp [goodOw, hx, hy]))
          have HJ : Hid (∀ n, Calls Try.prog 158 #[.slice (some ⟨b, off, none⟩) k c, iv (nth os k)] (wr.drewN n) fun e w' => e = .returned (.bool true) ∧ w' = wr.drewN n) := hid fun n => by rw [← hy]; exact specl7Has_any _ _ (HV2.out.below (below_drewN (Below.refl wr.heap.size wr) n) hzw)
          clear hx hy HG
          go_wp2_with fail
          go_quiet (first | (go_at_call 157; exact Calls.quiet_of_same (HI.out _)) | (go_at_call 158; exact Calls.quiet_of_same (HJ.out _)))
          go_wp2
          go_ret
          exact ⟨ret_bool HT.out, below_step (below_alloc _ _) (below_drewN HB.out _)⟩
    · obtain rfl : k = os.length := by omega
      have HT := hid (ruleB_end HG.out)
      clear HG HC HV
      go_wp2_with (go_at_call 157; refine (specIn_any _ _ _ _).mono ?_; rintro e w' ⟨rfl, rfl⟩)
      go_ret
      exact ⟨ret_bool HT.out, below_step (below_alloc _ _) HB.out⟩
end Go.Proofs.Ytkdpfbodmfjkkaa
