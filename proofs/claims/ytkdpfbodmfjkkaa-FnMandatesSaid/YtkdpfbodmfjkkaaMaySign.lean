/- MaySignFor of the program and of the reference return what the plain function says. Condition: no more than 2^40 mandates. -/
import Derived.Test.YtkdpfbodmfjkkaaRows
import Derived.Test.YtkdpfbodmfjkkaaPlain
import Derived.Test.YtkdpfbodmfjkkaaCovers
import Derived.Test.YtkdpfbodmfjkkaaMandSpans
namespace Go.Proofs.Ytkdpfbodmfjkkaa
open Go.RowKit

def mayB (ks ls : List (List Int)) (o p x y : Int) : Bool := if o = 0 then spanB x y else covB (joinT (manS ks ls o p) (manS ks ls o p).length) x y
theorem may_zero {ks ls : List (List Int)} {p x y : Int} {b : Bool} (h : spanB x y = b) : b = mayB ks ls 0 p x y := by simp [mayB, h]
theorem may_bad {ks ls : List (List Int)} {p x y : Int} (h : spanB x y = false) : covB (joinT (manS ks ls 0 p) (manS ks ls 0 p).length) x y = mayB ks ls 0 p x y := by rw [← may_zero h]; exact cov_bad h
theorem may_other {ks ls : List (List Int)} {o p x y : Int} (h : o ≠ 0) : covB (joinT (manS ks ls o p) (manS ks ls o p).length) x y = mayB ks ls o p x y := by simp [mayB, h]

set_option maxRecDepth 4000 in
set_option maxHeartbeats 8000000 in
theorem implMaySignFor_any {B : Nat} {ks ls : List (List Int)} {v u : Value} (o p a0 a1 : Int) (w : World) (h : Sl B w 5 v ks) (g : Sl B w 6 u ls) (hB : B ≤ w.heap.size) (hn : ls.length ≤ 1099511627776) :
    Calls Try.prog 81 #[v, u, iv o, iv p, .agg #[iv a0, iv a1]] w (Ret (.bool (mayB ks ls o p a0 a1)) w) := by
  have HV := hid (And.intro h g)
  have H0 : Hid (Below w.heap.size w (w.alloc (.cells #[iv a0, iv a1] 47))) := hid (below_alloc _ _)
  have HX := Below.refl (w.alloc (.cells #[iv a0, iv a1] 47)).heap.size (w.alloc (.cells #[iv a0, iv a1] 47))
  have HS : Hid (∀ w' : World, Below (w.alloc (.cells #[iv a0, iv a1] 47)).heap.size (w.alloc (.cells #[iv a0, iv a1] 47)) w' → (w'.cell? ⟨w.heap.size, 0, none⟩ = some (iv a0) ∧ w'.cell? ⟨w.heap.size, 1, none⟩ = some (iv a1))) := hid fun w' hx => ⟨(hx.cell (p := ⟨w.heap.size, 0, none⟩) (by simp)).trans (by simp [go_sem]), (hx.cell (p := ⟨w.heap.size, 1, none⟩) (by simp)).trans (by simp [go_sem])⟩
  obtain ⟨-, hml⟩ := manS_facts ks ls o p
  clear h g
  by_cases ho : o = 0
  · subst ho
    cases hs : spanB a0 a1
    · have HT := hid (may_bad (ks := ks) (ls := ls) (p := p) hs)
      have HI : Hid (∀ W : World, Calls Try.prog 31 #[.agg #[iv a0, iv a1]] W (Ret (.bool false) W)) := hid fun W => by rw [← hs]; exact implIsSpan_any _ _ W
      clear hs
      go_enter Try.func81, Try.ntmps81
      go_wp2_with fail
      go_region_held3 (fun w' => w'.cell? ⟨w.heap.size, 0, none⟩ = some (iv a0) ∧ w'.cell? ⟨w.heap.size, 1, none⟩ = some (iv a1)) (first | with_reducible exact HS.out _ HX.drew | with_reducible exact HS.out _ HZ1.out | with_reducible exact HS.out _ HZ2.out | with_reducible exact HS.out _ HZ3.out | go_keep)
        (first | (go_at_call 31; refine (HI.out _).mono ?_; rintro e w1 ⟨rfl, hb1⟩; have HZ1 := hid (below_step HX.drew hb1); clear hb1) | (go_at_call 83; refine (implMandateSpans_any _ _ _ (HV.out.1.below (below_step H0.out HZ1.out) hB) (HV.out.2.below (below_step H0.out HZ1.out) hB) (Nat.le_trans hB (below_step H0.out HZ1.out).size) hn).mono ?_; rintro e w2 ⟨o2, rfl, ho2, hb2⟩; have HZ2 := hid (below_step HZ1.out hb2); have HM := hid (ho2.sl (manS_facts _ _ _ _).1); clear hb2 ho2) | (go_at_call 87; refine (implCoversSpan_any _ _ _ HM.out (Nat.le_refl _) (by omega)).mono ?_; rintro e w3 ⟨rfl, hb3⟩; have HZ3 := hid (below_step HZ2.out hb3); clear hb3))
      go_wp2
      go_ret
      exact ⟨ret_bool HT.out, below_step H0.out HZ3.out⟩
    · have HT := hid (may_zero (ks := ks) (ls := ls) (p := p) hs)
      have HI : Hid (∀ W : World, Calls Try.prog 31 #[.agg #[iv a0, iv a1]] W (Ret (.bool true) W)) := hid fun W => by rw [← hs]; exact implIsSpan_any _ _ W
      clear hs
      go_enter Try.func81, Try.ntmps81
      go_wp2_with fail
      refine wp_region_held_drew (S := fun w' => w'.cell? ⟨w.heap.size, 0, none⟩ = some (iv a0) ∧ w'.cell? ⟨w.heap.size, 1, none⟩ = some (iv a1)) (by kernel_rfl) (HS.out _ HX.drew) (fun hSx => ?_)
      refine wpAnyH_take (i := 0) (v := .int .i64 0) rfl (by kernel_rfl) (by kernel_rfl) (by kernel_rfl) (fun _ _ _ h => h) (Or.inl ⟨by rfl, fun wq hSw => by go_simp⟩) hSx ?_
      try simp [Act.put]
      refine wpAnyH_take (i := 1) (v := .bool true) rfl (by kernel_rfl) (by kernel_rfl) (by kernel_rfl) (fun _ _ _ h => h) (Or.inl ⟨by rfl, fun wq hSw => by go_simp⟩) hSx ?_
      try simp [Act.put]
      refine wpAnyH_take (i := 2) (v := .bool true) rfl (by kernel_rfl) (by kernel_rfl) (by kernel_rfl) (fun _ _ _ h => h) (Or.inl ⟨by rfl, fun wq hSw => by go_simp⟩) hSx ?_
      try simp [Act.put]
      refine wpAnyH_take (i := 3) (v := .agg #[iv a0, iv a1]) rfl (by kernel_rfl) (by kernel_rfl) (by kernel_rfl) (fun _ _ _ h => h) (Or.inl ⟨by rfl, fun wq hSw => by go_simp⟩) hSx ?_
      try simp [Act.put]
      clear hSx
      refine wpAnyH_ready (rs := [4]) (by kernel_rfl) (by simp) ?_
      refine AllReadyH.cons rfl (fun K hK => ?_) AllReadyH.nil
      go_simp
      go_wp2_with ((go_at_call 31; refine (HI.out _).mono ?_; rintro e w1 ⟨rfl, hb1⟩; have HZ1 := hid (below_step HX.drew hb1); clear hb1))
      refine hK _ _ (by simpa using HS.out _ HZ1.out) (fun hSx => ?_)
      clear hK K
      try simp [Act.put]
      refine wpAnyH_take (i := 5) (v := .bool true) rfl (by kernel_rfl) (by kernel_rfl) (by kernel_rfl) (fun _ _ _ h => h) (Or.inl ⟨by rfl, fun wq hSw => by go_simp⟩) hSx ?_
      try simp [Act.put]
      refine wpAnyH_take (i := 6) (v := .bool true) rfl (by kernel_rfl) (by kernel_rfl) (by kernel_rfl) (fun _ _ _ h => h) (Or.inl ⟨by rfl, fun wq hSw => by go_simp⟩) hSx ?_
      try simp [Act.put]
      refine wpAnyH_take (i := 7) (v := undef) rfl (by kernel_rfl) (by kernel_rfl) (by kernel_rfl) (fun _ _ _ h => h) (Or.inr ⟨by rfl, rfl⟩) hSx ?_
      try simp [Act.put]
      refine wpAnyH_take (i := 8) (v := undef) rfl (by kernel_rfl) (by kernel_rfl) (by kernel_rfl) (fun _ _ _ h => h) (Or.inr ⟨by rfl, rfl⟩) hSx ?_
      try simp [Act.put]
      refine wpAnyH_take (i := 9) (v := undef) rfl (by kernel_rfl) (by kernel_rfl) (by kernel_rfl) (fun _ _ _ h => h) (Or.inr ⟨by rfl, rfl⟩) hSx ?_
      try simp [Act.put]
      refine wpAnyH_take (i := 10) (v := undef) rfl (by kernel_rfl) (by kernel_rfl) (by kernel_rfl) (fun _ _ _ h => h) (Or.inr ⟨by rfl, rfl⟩) hSx ?_
      try simp [Act.put]
      refine wpAnyH_take (i := 11) (v := undef) rfl (by kernel_rfl) (by kernel_rfl) (by kernel_rfl) (fun _ _ _ h => h) (Or.inr ⟨by rfl, rfl⟩) hSx ?_
      try simp [Act.put]
      refine wpAnyH_take (i := 12) (v := undef) rfl (by kernel_rfl) (by kernel_rfl) (by kernel_rfl) (fun _ _ _ h => h) (Or.inr ⟨by rfl, rfl⟩) hSx ?_
      try simp [Act.put]
      refine wpAnyH_take (i := 13) (v := undef) rfl (by kernel_rfl) (by kernel_rfl) (by kernel_rfl) (fun _ _ _ h => h) (Or.inr ⟨by rfl, rfl⟩) hSx ?_
      try simp [Act.put]
      refine wpAnyH_take (i := 14) (v := .bool true) rfl (by kernel_rfl) (by kernel_rfl) (by kernel_rfl) (fun _ _ _ h => h) (Or.inl ⟨by rfl, fun wq hSw => by go_simp⟩) hSx ?_
      try simp [Act.put]
      refine wpAnyH_take (i := 15) (v := .bool true) rfl (by kernel_rfl) (by kernel_rfl) (by kernel_rfl) (fun _ _ _ h => h) (Or.inl ⟨by rfl, fun wq hSw => by go_simp⟩) hSx ?_
      try simp [Act.put]
      refine wpAnyH_done (by kernel_rfl) ?_ _
      go_wp2
      go_ret
      exact ⟨ret_bool HT.out, below_step H0.out HZ1.out⟩
  · have HT := hid (may_other (ks := ks) (ls := ls) (p := p) (x := a0) (y := a1) ho)
    have hd : (o == 0) = false := by rw [beq_eq_false_iff_ne]; exact ho
    clear ho
    go_enter Try.func81, Try.ntmps81
    go_wp2_with fail
    refine wp_region_held_drew (S := fun w' => w'.cell? ⟨w.heap.size, 0, none⟩ = some (iv a0) ∧ w'.cell? ⟨w.heap.size, 1, none⟩ = some (iv a1)) (by kernel_rfl) (HS.out _ HX.drew) (fun hSx => ?_)
    refine wpAnyH_take (i := 0) (v := iv o) rfl (by kernel_rfl) (by kernel_rfl) (by kernel_rfl) (fun _ _ _ h => h) (Or.inl ⟨by rfl, fun wq hSw => by go_simp⟩) hSx ?_
    try simp [Act.put]
    refine wpAnyH_take (i := 1) (v := .bool false) rfl (by kernel_rfl) (by kernel_rfl) (by kernel_rfl) (fun _ _ _ h => h) (Or.inl ⟨by rfl, fun wq hSw => by go_simp⟩) hSx ?_
    try simp [Act.put]
    refine wpAnyH_take (i := 2) (v := .bool false) rfl (by kernel_rfl) (by kernel_rfl) (by kernel_rfl) (fun _ _ _ h => h) (Or.inl ⟨by rfl, fun wq hSw => by go_simp⟩) hSx ?_
    try simp [Act.put]
    refine wpAnyH_take (i := 3) (v := undef) rfl (by kernel_rfl) (by kernel_rfl) (by kernel_rfl) (fun _ _ _ h => h) (Or.inr ⟨by rfl, rfl⟩) hSx ?_
    try simp [Act.put]
    refine wpAnyH_take (i := 4) (v := undef) rfl (by kernel_rfl) (by kernel_rfl) (by kernel_rfl) (fun _ _ _ h => h) (Or.inr ⟨by rfl, rfl⟩) hSx ?_
    try simp [Act.put]
    refine wpAnyH_take (i := 5) (v := .bool false) rfl (by kernel_rfl) (by kernel_rfl) (by kernel_rfl) (fun _ _ _ h => h) (Or.inl ⟨by rfl, fun wq hSw => by go_simp⟩) hSx ?_
    try simp [Act.put]
    refine wpAnyH_take (i := 6) (v := .bool false) rfl (by kernel_rfl) (by kernel_rfl) (by kernel_rfl) (fun _ _ _ h => h) (Or.inl ⟨by rfl, fun wq hSw => by go_simp⟩) hSx ?_
    try simp [Act.put]
    refine wpAnyH_take (i := 7) (v := v) rfl (by kernel_rfl) (by kernel_rfl) (by kernel_rfl) (fun _ _ _ h => h) (Or.inl ⟨by rfl, fun wq hSw => by go_simp⟩) hSx ?_
    try simp [Act.put]
    refine wpAnyH_take (i := 8) (v := u) rfl (by kernel_rfl) (by kernel_rfl) (by kernel_rfl) (fun _ _ _ h => h) (Or.inl ⟨by rfl, fun wq hSw => by go_simp⟩) hSx ?_
    try simp [Act.put]
    refine wpAnyH_take (i := 9) (v := iv o) rfl (by kernel_rfl) (by kernel_rfl) (by kernel_rfl) (fun _ _ _ h => h) (Or.inl ⟨by rfl, fun wq hSw => by go_simp⟩) hSx ?_
    try simp [Act.put]
    refine wpAnyH_take (i := 10) (v := iv p) rfl (by kernel_rfl) (by kernel_rfl) (by kernel_rfl) (fun _ _ _ h => h) (Or.inl ⟨by rfl, fun wq hSw => by go_simp⟩) hSx ?_
    try simp [Act.put]
    refine wpAnyH_take (i := 12) (v := .agg #[iv a0, iv a1]) rfl (by kernel_rfl) (by kernel_rfl) (by kernel_rfl) (fun _ _ _ h => h) (Or.inl ⟨by rfl, fun wq hSw => by go_simp⟩) hSx ?_
    try simp [Act.put]
    clear hSx
    refine wpAnyH_ready (rs := [11]) (by kernel_rfl) (by simp) ?_
    refine AllReadyH.cons rfl (fun K hK => ?_) AllReadyH.nil
    go_simp
    go_wp2_with ((go_at_call 83; refine (implMandateSpans_any _ _ _ (HV.out.1.below (below_step H0.out HX.drew) hB) (HV.out.2.below (below_step H0.out HX.drew) hB) (Nat.le_trans hB (below_step H0.out HX.drew).size) hn).mono ?_; rintro e w2 ⟨o2, rfl, ho2, hb2⟩; have HZ2 := hid (below_step HX.drew hb2); have HM := hid (ho2.sl (manS_facts _ _ _ _).1); clear hb2 ho2))
    refine hK _ _ (by simpa using HS.out _ HZ2.out) (fun hSx => ?_)
    clear hK K
    try simp [Act.put]
    clear hSx
    refine wpAnyH_ready (rs := [13]) (by kernel_rfl) (by simp) ?_
    refine AllReadyH.cons rfl (fun K hK => ?_) AllReadyH.nil
    go_simp
    go_wp2_with ((go_at_call 87; refine (implCoversSpan_any _ _ _ HM.out (Nat.le_refl _) (by omega)).mono ?_; rintro e w3 ⟨rfl, hb3⟩; have HZ3 := hid (below_step HZ2.out hb3); clear hb3))
    refine hK _ _ (by simpa using HS.out _ HZ3.out) (fun hSx => ?_)
    clear hK K
    try simp [Act.put]
    refine wpAnyH_take (i := 14) (v := .bool (covB (joinT (manS ks ls o p) (manS ks ls o p).length) a0 a1)) rfl (by kernel_rfl) (by kernel_rfl) (by kernel_rfl) (fun _ _ _ h => h) (Or.inl ⟨by rfl, fun wq hSw => by go_simp⟩) hSx ?_
    try simp [Act.put]
    refine wpAnyH_take (i := 15) (v := .bool (covB (joinT (manS ks ls o p) (manS ks ls o p).length) a0 a1)) rfl (by kernel_rfl) (by kernel_rfl) (by kernel_rfl) (fun _ _ _ h => h) (Or.inl ⟨by rfl, fun wq hSw => by go_simp⟩) hSx ?_
    try simp [Act.put]
    refine wpAnyH_done (by kernel_rfl) ?_ _
    go_wp2
    go_ret
    exact ⟨ret_bool HT.out, below_step H0.out HZ3.out⟩

set_option maxRecDepth 4000 in
set_option maxHeartbeats 8000000 in
theorem specMaySignFor_any {B : Nat} {ks ls : List (List Int)} {v u : Value} (o p a0 a1 : Int) (w : World) (h : Sl B w 5 v ks) (g : Sl B w 6 u ls) (hB : B ≤ w.heap.size) (hn : ls.length ≤ 1099511627776) :
    Calls Try.prog 82 #[v, u, iv o, iv p, .agg #[iv a0, iv a1]] w (Ret (.bool (mayB ks ls o p a0 a1)) w) := by
  have HV := hid (And.intro h g)
  have H0 : Hid (Below w.heap.size w (w.alloc (.cells #[iv a0, iv a1] 47))) := hid (below_alloc _ _)
  have HX := Below.refl (w.alloc (.cells #[iv a0, iv a1] 47)).heap.size (w.alloc (.cells #[iv a0, iv a1] 47))
  have HS : Hid (∀ w' : World, Below (w.alloc (.cells #[iv a0, iv a1] 47)).heap.size (w.alloc (.cells #[iv a0, iv a1] 47)) w' → (w'.cell? ⟨w.heap.size, 0, none⟩ = some (iv a0) ∧ w'.cell? ⟨w.heap.size, 1, none⟩ = some (iv a1))) := hid fun w' hx => ⟨(hx.cell (p := ⟨w.heap.size, 0, none⟩) (by simp)).trans (by simp [go_sem]), (hx.cell (p := ⟨w.heap.size, 1, none⟩) (by simp)).trans (by simp [go_sem])⟩
  obtain ⟨-, hml⟩ := manS_facts ks ls o p
  clear h g
  by_cases ho : o = 0
  · subst ho
    cases hs : spanB a0 a1
    · have HT := hid (may_zero (ks := ks) (ls := ls) (p := p) hs)
      have HI : Hid (∀ W : World, Calls Try.prog 146 #[.agg #[iv a0, iv a1]] W (Ret (.bool false) W)) := hid fun W => by rw [← hs]; exact specIsSpan_any _ _ W
      clear hs
      go_enter Try.func82, Try.ntmps82
      go_wp2_with fail
      refine (HI.out _).mono ?_
      rintro e w1 ⟨rfl, hb1⟩
      have HZ1 := hid hb1
      clear hb1
      go_wp2
      go_ret
      exact ⟨ret_bool HT.out, below_step H0.out HZ1.out⟩
    · have HT := hid (may_zero (ks := ks) (ls := ls) (p := p) hs)
      have HI : Hid (∀ W : World, Calls Try.prog 146 #[.agg #[iv a0, iv a1]] W (Ret (.bool true) W)) := hid fun W => by rw [← hs]; exact specIsSpan_any _ _ W
      clear hs
      go_enter Try.func82, Try.ntmps82
      go_wp2_with fail
      refine (HI.out _).mono ?_
      rintro e w1 ⟨rfl, hb1⟩
      have HZ1 := hid hb1
      clear hb1
      go_wp2
      go_ret
      exact ⟨ret_bool HT.out, below_step H0.out HZ1.out⟩
  · have HT := hid (may_other (ks := ks) (ls := ls) (p := p) (x := a0) (y := a1) ho)
    have hd : (o == 0) = false := by rw [beq_eq_false_iff_ne]; exact ho
    clear ho
    go_enter Try.func82, Try.ntmps82
    go_wp2_with fail
    go_region_held3 (fun w' => w'.cell? ⟨w.heap.size, 0, none⟩ = some (iv a0) ∧ w'.cell? ⟨w.heap.size, 1, none⟩ = some (iv a1)) (first | with_reducible exact HS.out _ HX.drew | with_reducible exact HS.out _ HZ2.out | with_reducible exact HS.out _ HZ3.out | go_keep)
      (first | (go_at_call 148; refine (specMandateSpans_any _ _ _ (HV.out.1.below (below_step H0.out HX.drew) hB) (HV.out.2.below (below_step H0.out HX.drew) hB) (Nat.le_trans hB (below_step H0.out HX.drew).size) hn).mono ?_; rintro e w2 ⟨o2, rfl, ho2, hb2⟩; have HZ2 := hid (below_step HX.drew hb2); have HM := hid (ho2.sl (manS_facts _ _ _ _).1); clear hb2 ho2) | (go_at_call 147; refine (specCoversSpan_any _ _ _ HM.out (Nat.le_refl _) (by omega)).mono ?_; rintro e w3 ⟨rfl, hb3⟩; have HZ3 := hid (below_step HZ2.out hb3); clear hb3))
    go_wp2
    go_ret
    exact ⟨ret_bool HT.out, below_step H0.out HZ3.out⟩

end Go.Proofs.Ytkdpfbodmfjkkaa
