/- The laws' helpers on SignRule: they copy, compare, count, mark. No condition beyond sizes. -/
import Derived.Test.YtkdpfbodmfjkkaaRows
import Derived.Test.YtkdpfbodmfjkkaaBase
import Derived.Test.YtkdpfbodmfjkkaaApart
import Derived.Test.YtkdpfbodmfjkkaaHelpI
namespace Go.Proofs.Ytkdpfbodmfjkkaa
open Go.RowKit

/-- The call returned a struct of a slice of its own and a bool; what was in memory stands. -/
def RetRule (n : Nat) (xs : List Value) (o : Bool) (w : World) (e : Ending) (w' : World) : Prop :=
  ∃ v, e = .returned (.agg #[v, .bool o]) ∧ Own w' 3 1 v w.heap.size w'.heap.size n xs ∧ Below w.heap.size w w'
set_option maxHeartbeats 1000000 in
theorem toSignRule_any {B : Nat} {zs : List Int} {v : Value} (o : Bool) (w : World) (hv : Si B w v zs) (hB : B ≤ w.heap.size) (hn : zs.length ≤ 1048576) :
    Calls Try.prog 20 #[.agg #[v, .bool o]] w (RetRule zs.length (zs.map (Value.int .i64)) o w) := by
  have HV := hid hv
  clear hv
  go_enter Try.func20, Try.ntmps20
  go_wp2_with fail
  refine (toIntS_any (B := B) _ (HV.out.below (((below_alloc w _).alloc (by simp) _).alloc (by simp <;> omega) _) hB) (by simp; omega) hn).mono ?_
  rintro e w1 ⟨x, rfl, ho, hb⟩
  obtain ⟨A1, c1, rfl⟩ := ownsRow_form ho.1
  obtain ⟨hc, hf⟩ := bcell hb
  have hz : w.heap.size + 3 ≤ w1.heap.size := by have := hb.size; simp at this; omega
  have HO := hid ho
  have HB := hid hb
  clear hb ho
  go_wp2
  refine bodyPost_ret (v := .agg #[.slice A1 zs.length c1, .bool o]) (by simp [results, Try.results20, go_sem, hc]) rfl ⟨_, rfl, ?_, ?_⟩
  · have h1 := HO.out.mono (lo' := w.heap.size + 3) (hi' := w1.heap.size) (by simp) (Nat.le_refl _)
    refine (h1.apart (hi0 := w.heap.size + 3) ?_ (Nat.le_refl _)).mono (by omega) (by simp)
    repeat (first | exact Apart.refl _ _ | refine Apart.setCell ?_ (by simp) _)
  · have h1 := (((below_alloc w _).alloc (by simp) _).alloc (by simp <;> omega) _).trans (HB.out.mono (by simp <;> omega))
    repeat (first | exact h1 | refine Below.setCell ?_ (by simp <;> omega) _)

set_option maxHeartbeats 400000 in
theorem szSignRule_ok {A : Option Addr} {n c : Nat} (o : Bool) (left : Int) (w : World) (h0 : 0 ≤ left) (h1 : left ≤ 1048576) (hn : (n : Int) ≤ left) :
    Calls Try.prog 16 #[.agg #[.slice A n c, .bool o], iv left] w (Ret (iv (left - n)) w) := by
  go_enter Try.func16, Try.ntmps16
  go_wp2_with fail
  refine (szIntS_ok _ _ h0 h1 hn).mono ?_
  rintro e w' ⟨rfl, rfl⟩
  go_wp2
  go_ret
  exact ⟨rfl, below_alloc _ _⟩
set_option maxHeartbeats 400000 in
theorem szSignRule_no {A : Option Addr} {n c : Nat} (o : Bool) (left : Int) (w : World) (h0 : 0 ≤ left) (h1 : left ≤ 1048576) (hn : left < (n : Int)) (hn2 : (n : Int) ≤ 9223372036854775807) :
    Calls Try.prog 16 #[.agg #[.slice A n c, .bool o], iv left] w (Ret (iv (-1)) w) := by
  go_enter Try.func16, Try.ntmps16
  go_wp2_with fail
  refine (szIntS_no _ _ h0 h1 hn hn2).mono ?_
  rintro e w' ⟨rfl, rfl⟩
  go_wp2
  go_ret
  exact ⟨rfl, below_alloc _ _⟩

set_option maxHeartbeats 1000000 in
theorem eqSignRule_any {B : Nat} {zs : List Int} {u v : Value} (o : Bool) (w : World) (hu : Si B w u zs) (hv : Si B w v zs) (hB : B ≤ w.heap.size) :
    Calls Try.prog 24 #[.agg #[u, .bool o], .agg #[v, .bool o]] w (Ret (.bool true) w) := by
  have HU := hid hu
  have HV := hid hv
  clear hu hv
  go_enter Try.func24, Try.ntmps24
  go_wp2_with fail
  refine (eqIntS_any (B := B) _ (HU.out.below ((below_alloc w _).alloc (by simp) _) hB) (HV.out.below ((below_alloc w _).alloc (by simp) _) hB) (by simp; omega)).mono ?_
  rintro e w1 ⟨rfl, hb⟩
  obtain ⟨hc, hf⟩ := bcell hb
  have HB := hid hb
  clear hb
  go_wp2
  all_goals
    go_ret
    exact ⟨by first | rfl | (cases o <;> simp_all), below_step ((below_alloc w _).alloc (by simp) _) HB.out⟩

end Go.Proofs.Ytkdpfbodmfjkkaa
