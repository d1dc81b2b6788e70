/- The laws' argument, a slice of bytes: how it is opened; their helpers big and contains. No condition. -/
import Derived.Test.YtkdpfbodmfjkkaaRows
import Derived.Test.YtkdpfbodmfjkkaaBase
import Derived.Test.YtkdpfbodmfjkkaaOpen
import Derived.Test.YtkdpfbodmfjkkaaHas
import Derived.Test.YtkdpfbodmfjkkaaDraw
namespace Go.Proofs.Ytkdpfbodmfjkkaa
open Go.ChangeShapes Go.WideShapes Go.ChangeAt Go.RowKit Go.Deep
section
variable {H : Type} {enc : TypeId × Value → H} {P : Program} {w : World} {base : Nat} {spare : Nat → Bool} {held : Bool}
theorem open_bytes {t e : TypeId} {v : Value} {d : DataW H} {p : List MemPlace} {r : Reach} {b0 : Nat} (ht : P.underlying t = some (.slice e)) (he : P.underlying e = some (.int .u8)) (hC : P.cellsOf e = 1)
    (hv : Value.okWide P w r b0 t v) (h : DataW.Trod enc P w base spare held t v d p) : ∃ n : Nat, Bytes w.heap.size w v n := by
  obtain ⟨a0, len0, cap0, rfl⟩ := okWide_slice ht hv
  obtain ⟨fuel, hf⟩ := h
  rcases open_ints ht he hC hf with ⟨hcs, _⟩ | ⟨a, len, cap, zs, hcs, _, hl, hm, hzl, _, hcell, hwf⟩
  · simp [Value.cells] at hcs
    obtain ⟨rfl, rfl, rfl⟩ := hcs
    exact ⟨0, none, 0, rfl, by simp, by omega, fun h => by omega⟩
  · simp [Value.cells] at hcs
    obtain ⟨rfl, rfl, rfl⟩ := hcs
    have hlm : len0 ≤ zs.length := by rw [hzl]; split <;> omega
    refine ⟨len0, some a, cap0, rfl, hl, by unfold maxLen at hm; omega, fun hpos => ?_⟩
    obtain ⟨b, off, rfl, hc⟩ := ints_at hcell (by omega)
    refine ⟨b, off, rfl, (World.block_lt_of_cell? w _ (hc 0 (by omega))), fun k hk => ?_⟩
    have hk' : k < zs.length := by omega
    have hw := hwf zs[k] (List.getElem_mem hk')
    have hcc := hc k hk'
    rw [show zs.getD k 0 = zs[k] by simp [List.getD, List.getElem?_eq_getElem hk']] at hcc
    refine ⟨zs[k], ?_, ?_, hcc⟩
    · simp [Lit.wf, IntKind.min, IntKind.max, IntKind.signed, IntKind.bits] at hw; omega
    · simp [Lit.wf, IntKind.min, IntKind.max, IntKind.signed, IntKind.bits] at hw; omega
end
set_option maxHeartbeats 400000 in
theorem big_no {A : Option Addr} {n c : Nat} (w : World) (h : n ≤ 1048576) :
    Calls Try.prog 26 #[.slice A n c] w fun e w' => e = .returned (.bool false) ∧ w' = w := by
  have h' : decide ((1048576 : Int) < (n : Int)) = false := by simp; omega
  have h2 : (n : Int) ≤ 1048576 := by omega
  clear h
  go_enter Try.func26, Try.ntmps26
  go_wp2
  go_ret
  exact ⟨rfl, rfl⟩
set_option maxHeartbeats 400000 in
theorem big_yes {A : Option Addr} {n c : Nat} (w : World) (h : ¬ n ≤ 1048576) (hn : n ≤ 9223372036854775807) :
    Calls Try.prog 26 #[.slice A n c] w fun e w' => e = .returned (.bool true) ∧ w' = w := by
  have h' : decide ((1048576 : Int) < (n : Int)) = true := by simp; omega
  have h2 : (1048576 : Int) < (n : Int) := by omega
  clear h
  go_enter Try.func26, Try.ntmps26
  go_wp2
  go_ret
  exact ⟨rfl, rfl⟩
set_option maxHeartbeats 1000000 in
theorem contains_any {B : Nat} {zs : List Int} {v : Value} (num : Int) (w : World) (h : Si B w v zs) :
    Calls Try.prog 35 #[v, iv num] w fun e w' => e = .returned (.bool (hasB num zs)) ∧ w' = w := by
  obtain ⟨A, c, rfl, hc1, hc2, -, hcell⟩ := h
  have HC := hid hcell
  clear hcell
  go_enter Try.func35, Try.ntmps35
  go_wp2
  go_loop [5] (fun i => ∃ k : Nat, k ≤ zs.length ∧ i = .int .i64 k ∧ NZ num zs k) (fun i => zs.length - (intOf i).toNat)
  case atStart => exact ⟨0, Nat.zero_le _, rfl, NZ_zero _ _⟩
  case round =>
    obtain ⟨k, hk, rfl, hg⟩ := hrel
    have HG := hid hg
    clear hg
    by_cases hlt : k < zs.length
    · obtain ⟨b, off, rfl, hbB, hcc⟩ := HC.out (by omega)
      have c0 := hcc k hlt
      clear HC hcc
      cases h0 : (nth zs k == num)
      · have HT := hid (NZ_succ HG.out h0)
        clear HG
        go_wp2
        go_round
        case rel => exact ⟨k + 1, by omega, by go_num, HT.out⟩
        case measure => simp [intOf]; omega
      · have HT := hid (hasB_hit HG.out hlt h0)
        clear HG
        go_wp2
        go_ret
        exact ⟨ret_bool HT.out, rfl⟩
    · have HT := hid (hasB_miss HG.out (by omega))
      clear HG HC
      go_wp2
      go_ret
      exact ⟨ret_bool HT.out, rfl⟩
end Go.Proofs.Ytkdpfbodmfjkkaa
