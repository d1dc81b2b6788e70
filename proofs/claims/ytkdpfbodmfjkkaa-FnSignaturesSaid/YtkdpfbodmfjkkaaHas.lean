/- indexOf, hasInt and the reference's l7Has: where a number stands in a list, and whether it does. No condition. -/
import Derived.Test.YtkdpfbodmfjkkaaRows
import Derived.Test.YtkdpfbodmfjkkaaBase
namespace Go.Proofs.Ytkdpfbodmfjkkaa
open Go.RowKit

def NZ (num : Int) (zs : List Int) (k : Nat) : Prop := ∀ i, i < k → nth zs i ≠ num
def idxI (num : Int) (zs : List Int) : Int := match zs.findIdx? (fun r => r == num) with | some i => i | none => -1
def hasB (num : Int) (zs : List Int) : Bool := decide (0 ≤ idxI num zs)
theorem NZ_zero (num zs) : NZ num zs 0 := fun _ h => absurd h (by omega)
theorem NZ_succ {num zs k} (h : NZ num zs k) (e : (nth zs k == num) = false) : NZ num zs (k + 1) := fun i hi => by
  by_cases hh : i = k
  · rw [hh]; simpa using e
  · exact h i (by omega)
theorem idxI_hit {num zs k} (h : NZ num zs k) (hk : k < zs.length) (e : (nth zs k == num) = true) : idxI num zs = k := by
  have : zs.findIdx? (fun r => r == num) = some k := by
    rw [List.findIdx?_eq_some_iff_getElem]
    refine ⟨hk, ?_, fun i hi => ?_⟩
    · simpa [nth, List.getD, List.getElem?_eq_getElem hk] using e
    · have h1 := h i hi
      have hi' : i < zs.length := by omega
      simpa [nth, List.getD, List.getElem?_eq_getElem hi'] using h1
  unfold idxI; rw [this]
theorem idxI_miss {num zs k} (h : NZ num zs k) (hk : zs.length ≤ k) : idxI num zs = -1 := by
  have : zs.findIdx? (fun r => r == num) = none := by
    rw [List.findIdx?_eq_none_iff]
    intro r hr
    obtain ⟨i, hi, rfl⟩ := List.getElem_of_mem hr
    have h1 := h i (by omega)
    simpa [nth, List.getD, List.getElem?_eq_getElem hi] using h1
  unfold idxI; rw [this]
theorem idxI_range (num zs) : idxI num zs = -1 ∨ ∃ k : Nat, k < zs.length ∧ idxI num zs = k ∧ nth zs k = num := by
  unfold idxI
  cases h : zs.findIdx? (fun r => r == num) with
  | none => exact .inl rfl
  | some k =>
    rw [List.findIdx?_eq_some_iff_getElem] at h
    obtain ⟨hk, h1, _⟩ := h
    exact .inr ⟨k, hk, rfl, by simpa [nth, List.getD, List.getElem?_eq_getElem hk] using h1⟩
theorem hasB_hit {num zs k} (h : NZ num zs k) (hk : k < zs.length) (e : (nth zs k == num) = true) : true = hasB num zs := by
  rw [hasB, idxI_hit h hk e]; simp
theorem hasB_miss {num zs k} (h : NZ num zs k) (hk : zs.length ≤ k) : false = hasB num zs := by
  rw [hasB, idxI_miss h hk]; simp
/-- The first k numbers of a slice. -/
theorem Si.take {B : Nat} {w : World} {a : Addr} {zs : List Int} {n c : Nat} (h : Si B w (.slice (some a) n c) zs) {k : Nat} (hk : k ≤ n) : Si B w (.slice (some a) k c) (zs.take k) := by
  obtain ⟨A, c', hv, h1, h2, h0, h3⟩ := h
  simp only [Value.slice.injEq] at hv
  obtain ⟨rfl, rfl, rfl⟩ := hv
  have hl : (zs.take k).length = k := by rw [List.length_take]; omega
  refine ⟨some a, c, by rw [hl], by omega, h2, (fun h => by cases h), fun hn => ?_⟩
  obtain ⟨b, off, hA, hlt, hc⟩ := h3 (by omega)
  refine ⟨b, off, hA, hlt, fun j hj => ?_⟩
  rw [hc j (by omega)]
  simp [nth, List.getD, show j < k by omega]

set_option maxHeartbeats 1000000 in
theorem implindexOf_any {B : Nat} {zs : List Int} {v : Value} (num : Int) (w : World) (h : Si B w v zs) :
    Calls Try.prog 154 #[v, iv num] w fun e w' => e = .returned (iv (idxI num zs)) ∧ w' = w := by
  obtain ⟨A, c, rfl, hc1, hc2, -, hcell⟩ := h
  have HC := hid hcell
  clear hcell
  go_enter Try.func154, Try.ntmps154
  go_wp2
  go_loop [9] (fun i => ∃ k : Nat, k ≤ zs.length ∧ i = .int .i64 k ∧ NZ num zs k) (fun i => zs.length - (intOf i).toNat)
  case atStart => exact ⟨0, Nat.zero_le _, rfl, NZ_zero _ _⟩
  case round =>
    obtain ⟨k, hk, rfl, hg⟩ := hrel
    have HG := hid hg
    clear hg
    by_cases hlt : k < zs.length
    · obtain ⟨b, off, rfl, hbB, hcc⟩ := HC.out (by omega)
      have c0 := hcc k hlt
      clear HC hcc
      cases h0 : (nth zs k == num)
      · have HT := hid (NZ_succ HG.out h0)
        clear HG
        go_wp2
        go_round
        case rel => exact ⟨k + 1, by omega, by go_num, HT.out⟩
        case measure => simp [intOf]; omega
      · have HT := hid (idxI_hit HG.out hlt h0)
        clear HG
        go_wp2
        go_ret
        exact ⟨ret_int HT.out.symm, rfl⟩
    · have HT := hid (idxI_miss HG.out (by omega))
      clear HG HC
      go_wp2
      go_ret
      exact ⟨ret_int HT.out.symm, rfl⟩
set_option maxHeartbeats 1000000 in
theorem implhasInt_any {B : Nat} {zs : List Int} {v : Value} (num : Int) (w : World) (h : Si B w v zs) :
    Calls Try.prog 156 #[v, iv num] w fun e w' => e = .returned (.bool (hasB num zs)) ∧ w' = w := by
  go_enter Try.func156, Try.ntmps156
  go_wp2_with fail
  refine (implindexOf_any num _ h).mono ?_
  rintro e w' ⟨rfl, rfl⟩
  go_wp2
  go_ret
  exact ⟨rfl, rfl⟩
set_option maxHeartbeats 1000000 in
theorem specl7Has_any {B : Nat} {zs : List Int} {v : Value} (num : Int) (w : World) (h : Si B w v zs) :
    Calls Try.prog 158 #[v, iv num] w fun e w' => e = .returned (.bool (hasB num zs)) ∧ w' = w := by
  obtain ⟨A, c, rfl, hc1, hc2, -, hcell⟩ := h
  have HC := hid hcell
  clear hcell
  go_enter Try.func158, Try.ntmps158
  go_wp2
  go_loop [5] (fun i => ∃ k : Nat, k ≤ zs.length ∧ i = .int .i64 k ∧ NZ num zs k) (fun i => zs.length - (intOf i).toNat)
  case atStart => exact ⟨0, Nat.zero_le _, rfl, NZ_zero _ _⟩
  case round =>
    obtain ⟨k, hk, rfl, hg⟩ := hrel
    have HG := hid hg
    clear hg
    by_cases hlt : k < zs.length
    · obtain ⟨b, off, rfl, hbB, hcc⟩ := HC.out (by omega)
      have c0 := hcc k hlt
      clear HC hcc
      cases h0 : (nth zs k == num)
      · have HT := hid (NZ_succ HG.out h0)
        clear HG
        go_wp2
        go_round
        case rel => exact ⟨k + 1, by omega, by go_num, HT.out⟩
        case measure => simp [intOf]; omega
      · have HT := hid (hasB_hit HG.out hlt h0)
        clear HG
        go_wp2
        go_ret
        exact ⟨ret_bool HT.out, rfl⟩
    · have HT := hid (hasB_miss HG.out (by omega))
      clear HG HC
      go_wp2
      go_ret
      exact ⟨ret_bool HT.out, rfl⟩
end Go.Proofs.Ytkdpfbodmfjkkaa
