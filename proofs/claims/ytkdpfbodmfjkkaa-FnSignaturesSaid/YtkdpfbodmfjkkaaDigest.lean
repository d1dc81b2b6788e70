/- DigestOf of the program and of the reference: the hash of 7, the method and the numbers. Condition: no more than 2^40 numbers. -/
import Derived.Test.YtkdpfbodmfjkkaaRows
import Derived.Test.YtkdpfbodmfjkkaaPlain
import Derived.Test.YtkdpfbodmfjkkaaAppend
import Derived.Test.YtkdpfbodmfjkkaaCrypto
namespace Go.Proofs.Ytkdpfbodmfjkkaa
open Go.RowKit

def digestI (m : Int) (zs : List Int) : Int := hashI (7 :: m :: zs)

set_option maxHeartbeats 1000000 in
theorem implDigestOf_any {B : Nat} {zs : List Int} {v : Value} (m : Int) (w : World) (hv : Si B w v zs) (hB : B ≤ w.heap.size) (hn : zs.length ≤ 1099511627776) :
    Calls Try.prog 143 #[iv m, v] w (Ret (iv (digestI m zs)) w) := by
  have HV := hid hv
  clear hv
  go_enter Try.func143, Try.ntmps143
  have hown0 := World.ownsRow_lit (base := w.heap.size) (e := 3) (size := 1) w #[iv 7, iv m] 2 (Nat.le_refl _) (by decide) rfl
  have hb0 := below_alloc w (.cells #[iv 7, iv m] 3)
  have hsrc0 := (HV.out.below hb0 hB).src
  have HO := hid hown0
  have HS := hid hsrc0
  have HB := hid hb0
  clear hown0 hsrc0 hb0
  go_wp2_with (first | (at_builtin; refine wpList_append_src _ rfl _ _ 23 rfl w.heap.size 3 Try.underlying23 Try.infoI rfl (by decide) _ _ _ _ _ _ rfl rfl HO.out HS.out (by unfold maxLen; omega) (by omega) (by simp) ?_; intro v1 w1 hown1 hg1; have HO1 := hid hown1; have HG1 := hid hg1; clear hown1 hg1))
  have hown : w1.ownsRow w.heap.size 3 1 v1 (7 :: m :: zs).length ((7 :: m :: zs).map (Value.int .i64)) := by
    have h := HO1.out
    simpa [Nat.add_comm, Nat.add_left_comm] using h
  have hb1 : Below w.heap.size w w1 := below_grown HB.out HO.out HG1.out (Nat.le_refl _) (by simp)
  refine (implHash_any _ (Own.si (Own.of hown))).mono ?_
  rintro e w3 ⟨rfl, rfl⟩
  go_wp2
  go_ret
  exact ⟨rfl, hb1⟩
set_option maxHeartbeats 1000000 in
theorem specDigestOf_any {B : Nat} {zs : List Int} {v : Value} (m : Int) (w : World) (hv : Si B w v zs) (hB : B ≤ w.heap.size) (hn : zs.length ≤ 1099511627776) :
    Calls Try.prog 159 #[iv m, v] w (Ret (iv (digestI m zs)) w) := by
  have HV := hid hv
  clear hv
  go_enter Try.func159, Try.ntmps159
  have hown0 := World.ownsRow_lit (base := w.heap.size) (e := 3) (size := 1) w #[iv 7, iv m] 2 (Nat.le_refl _) (by decide) rfl
  have hb0 := below_alloc w (.cells #[iv 7, iv m] 3)
  have hsrc0 := (HV.out.below hb0 hB).src
  have HO := hid hown0
  have HS := hid hsrc0
  have HB := hid hb0
  clear hown0 hsrc0 hb0
  go_wp2_with (first | (at_builtin; refine wpList_append_src _ rfl _ _ 23 rfl w.heap.size 3 Try.underlying23 Try.infoI rfl (by decide) _ _ _ _ _ _ rfl rfl HO.out HS.out (by unfold maxLen; omega) (by omega) (by simp) ?_; intro v1 w1 hown1 hg1; have HO1 := hid hown1; have HG1 := hid hg1; clear hown1 hg1))
  have hown : w1.ownsRow w.heap.size 3 1 v1 (7 :: m :: zs).length ((7 :: m :: zs).map (Value.int .i64)) := by
    have h := HO1.out
    simpa [Nat.add_comm, Nat.add_left_comm] using h
  have hb1 : Below w.heap.size w w1 := below_grown HB.out HO.out HG1.out (Nat.le_refl _) (by simp)
  refine (specHash_any _ (Own.si (Own.of hown))).mono ?_
  rintro e w3 ⟨rfl, rfl⟩
  go_wp2
  go_ret
  exact ⟨rfl, hb1⟩
end Go.Proofs.Ytkdpfbodmfjkkaa
