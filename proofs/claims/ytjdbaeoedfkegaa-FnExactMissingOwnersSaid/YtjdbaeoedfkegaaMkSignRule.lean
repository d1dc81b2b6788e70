/- The laws' marking of a SignRule: its array is marked, nothing else is written. -/
import Derived.Test.YtjdbaeoedfkegaaRows
import Derived.Test.YtjdbaeoedfkegaaBase
import Derived.Test.YtjdbaeoedfkegaaApart
import Derived.Test.YtjdbaeoedfkegaaMkInt
namespace Go.Proofs.Ytjdbaeoedfkegaa
open Go.RowKit

set_option maxHeartbeats 1000000 in
theorem markSignRule_apart {E lo hi : Nat} {n : Nat} {xs : List Value} {v : Value} (o : Bool) (w : World) (k0 : Int) (h0 : 0 ≤ k0) (h1 : k0 ≤ 4611686018427387904) (hn : n ≤ 1099511627776)
    (hv : Own w E 1 v lo hi n xs) (hh : hi ≤ w.heap.size) (hl : lo ≤ w.heap.size) :
    Calls Try.prog 51 #[.agg #[v, .bool o], iv k0] w fun e w' => e = .returned (iv (k0 + n)) ∧ Own w' E 1 v lo hi n ((marks k0 n).map (Value.int .i64)) ∧ Below lo w w' ∧ Kept hi w w' := by
  have HV := hid hv
  clear hv
  have HO := hid (HV.out.below (below_alloc w (.cells #[v, .bool o] 75)) hh)
  have HK := hid (Kept.alloc hi w (.cells #[v, .bool o] 75))
  go_enter Try.func51, Try.ntmps51
  go_wp2_with fail
  refine (markIntS_apart _ _ h0 h1 hn HO.out).mono ?_
  rintro e w1 ⟨rfl, ho, hb, hap⟩
  have HO1 := hid ho
  have HB1 := hid ((((Below.refl lo w).alloc hl (.cells #[v, .bool o] 75))).trans hb)
  have HK1 := hid (HK.out.apart hap)
  clear ho hb hap
  go_wp2
  go_ret
  exact ⟨rfl, HO1.out, HB1.out, HK1.out⟩
end Go.Proofs.Ytjdbaeoedfkegaa
