/- Mod, Hash, KeyedHash, MarkWith and DigestOf, of the program and of the reference, return what the plain functions say. Conditions: the lists are no longer than 2^40. -/
import Derived.Test.YtkdpfbodmfjkkaaRows
import Derived.Test.YtkdpfbodmfjkkaaPlain
import Derived.Test.YtkdpfbodmfjkkaaAppend
namespace Go.Proofs.Ytkdpfbodmfjkkaa
open Go.RowKit

theorem Try.infoI : (Try.prog.info? 3).map (fun i => (i.zero, i.size, i.bytes)) = some (some (iv 0), 1, 8) := by kernel_rfl


set_option maxHeartbeats 400000 in
theorem implModP_any (v : Int) (w : World) :
    Calls Try.prog 184 #[iv v, iv 2147483647] w fun e w' => e = .returned (iv (modP v)) ∧ w = w' := by
  obtain ⟨hb1, hb2⟩ := tmod_bd v
  go_enter Try.func184, Try.ntmps184
  go_wp2
  go_ret
  exact ⟨ret_int (tmod_modP v), rfl⟩
set_option maxHeartbeats 400000 in
theorem implHash_any {B : Nat} {zs : List Int} {v : Value} (w : World) (hv : Si B w v zs) :
    Calls Try.prog 166 #[v] w fun e w' => e = .returned (iv (hashI zs)) ∧ w = w' := by
  obtain ⟨A, c, rfl, hc1, hc2, -, hA⟩ := hv
  have HA := hid hA
  clear hA
  go_enter Try.func166, Try.ntmps166
  go_wp2
  go_loop [3, 8] (fun h i => ∃ k : Nat, k ≤ zs.length ∧ i = .int .i64 k ∧ h = .int .i64 (hashI (zs.take k))) (fun _ i => zs.length - (intOf i).toNat)
  case atStart => exact ⟨0, Nat.zero_le _, rfl, rfl⟩
  case round =>
    obtain ⟨k, hk, rfl, rfl⟩ := hrel
    by_cases hlt : k < zs.length
    · obtain ⟨b, off, rfl, hbB, hcc⟩ := HA.out (by omega)
      have c0 := hcc k hlt
      obtain ⟨hb1, hb2⟩ := hashI_bd (zs.take k)
      obtain ⟨hm1, hm2⟩ := modP_bd (nth zs k)
      have HT := hid (hashI_take hlt)
      clear HA hcc
      go_wp2_with (first | (go_at_call 184; refine (implModP_any _ _).mono ?_; rintro e w' ⟨rfl, rfl⟩) | go_in)
      go_round
      case rel => exact ⟨k + 1, by omega, by go_num, by rw [HT.out]⟩
      case measure => simp [intOf]; omega
    · obtain rfl : k = zs.length := by omega
      go_wp2
      go_ret
      first | exact ⟨ret_int (hashI_full zs), rfl⟩ | exact ⟨rfl, rfl⟩
set_option maxHeartbeats 1000000 in
theorem implKeyedHash_any {B : Nat} {zs : List Int} {v : Value} (key : Int) (w : World) (hv : Si B w v zs) (hB : B ≤ w.heap.size) (hn : zs.length ≤ 1099511627776) :
    Calls Try.prog 115 #[iv key, v] w (Ret (iv (keyedHash key zs)) w) := by
  have HV := hid hv
  clear hv
  go_enter Try.func115, Try.ntmps115
  have hown0 := World.ownsRow_lit (base := w.heap.size) (e := 3) (size := 1) w #[iv key] 1 (Nat.le_refl _) (by decide) rfl
  have hb0 := below_alloc w (.cells #[iv key] 3)
  have hsrc0 := (HV.out.below hb0 hB).src
  have HO := hid hown0
  have HS := hid hsrc0
  have HB := hid hb0
  clear hown0 hsrc0 hb0
  go_wp2_with (first | (at_builtin; refine wpList_append_src _ rfl _ _ 23 rfl w.heap.size 3 Try.underlying23 Try.infoI rfl (by decide) _ _ _ _ _ _ rfl rfl (HO1.out.alloc _) (Src.lit (cs := #[iv key]) (m := 1) (size := 1) (heap_alloc_new w1 _) rfl (by simp [Value.oneCell']) 1) (by unfold maxLen; omega) (by omega) (by simp; have := HG1.out.size; simp at this; omega) ?_; intro v2 w2 hown2 hg2; have HO2 := hid hown2; have HG2 := hid hg2; clear hown2 hg2) | (at_builtin; refine wpList_append_src _ rfl _ _ 23 rfl w.heap.size 3 Try.underlying23 Try.infoI rfl (by decide) _ _ _ _ _ _ rfl rfl HO.out HS.out (by unfold maxLen; omega) (by omega) (by simp) ?_; intro v1 w1 hown1 hg1; have HO1 := hid hown1; have HG1 := hid hg1; clear hown1 hg1))
  have hown : w2.ownsRow w.heap.size 3 1 v2 (key :: zs ++ [key]).length ((key :: zs ++ [key]).map (Value.int .i64)) := by
    have h := HO2.out
    simpa [Nat.add_comm, Nat.add_left_comm] using h
  have hb1 : Below w.heap.size w w1 := below_grown HB.out HO.out HG1.out (Nat.le_refl _) (by simp)
  have hb2 : Below w.heap.size w w2 := below_grown (hb1.alloc hb1.size _) (HO1.out.alloc _) HG2.out (Nat.le_refl _) (by have := hb1.size; simp; omega)
  refine (implHash_any _ (Own.si (Own.of hown))).mono ?_
  rintro e w3 ⟨rfl, rfl⟩
  go_wp2
  go_ret
  exact ⟨rfl, hb2⟩
set_option maxRecDepth 8000 in
set_option maxHeartbeats 1000000 in
theorem implMarkWith_any {B : Nat} {zs : List Int} {v : Value} (a0 a1 a2 a3 a4 : Int) (w : World) (hv : Si B w v zs) (hB : B ≤ w.heap.size) (hn : zs.length ≤ 1073741824) :
    Calls Try.prog 39 #[.agg #[iv a0, iv a1, iv a2, iv a3, iv a4], v] w (Ret (iv (markW a2 a4 zs)) w) := by
  have hown0 : ((w.alloc (.cells #[iv a0, iv a1, iv a2, iv a3, iv a4] 64)).alloc (.cells #[iv a2] 3)).ownsRow (w.heap.size + 1) 3 1 (.slice (some ⟨w.heap.size + 1, 0, none⟩) 1 1) 1 [iv a2] := by
    simpa using World.ownsRow_lit (base := w.heap.size + 1) (e := 3) (size := 1) (w.alloc (.cells #[iv a0, iv a1, iv a2, iv a3, iv a4] 64)) #[iv a2] 1 (by simp) (by decide) rfl
  have hb0 := (below_alloc w (.cells #[iv a0, iv a1, iv a2, iv a3, iv a4] 64)).alloc (by simp) (.cells #[iv a2] 3)
  have hsrc0 := (hv.below hb0 hB).src
  have HO := hid hown0.drew
  have HS0 := hid (Src.drew hsrc0)
  have hBb : Below (w.heap.size + 1) (w.alloc (.cells #[iv a0, iv a1, iv a2, iv a3, iv a4] 64)) ((w.alloc (.cells #[iv a0, iv a1, iv a2, iv a3, iv a4] 64)).alloc (.cells #[iv a2] 3)) := (Below.refl _ _).alloc (by simp) _
  have HBB := hid hBb
  have HS : Hid (∀ w' : World, Below (w.heap.size + 1) (w.alloc (.cells #[iv a0, iv a1, iv a2, iv a3, iv a4] 64)) w' → (w'.cell? ⟨w.heap.size, 2, none⟩ = some (iv a2) ∧ w'.cell? ⟨w.heap.size, 4, none⟩ = some (iv a4) ∧ Below (w.heap.size + 1) (w.alloc (.cells #[iv a0, iv a1, iv a2, iv a3, iv a4] 64)) w')) :=
    hid fun w' hx => ⟨(hx.cell (p := ⟨w.heap.size, 2, none⟩) (by show w.heap.size < _; omega)).trans (by simp [go_sem]), (hx.cell (p := ⟨w.heap.size, 4, none⟩) (by show w.heap.size < _; omega)).trans (by simp [go_sem]), hx⟩
  clear hown0 hb0 hsrc0 hBb hv
  go_enter Try.func39, Try.ntmps39
  go_wp2_with fail
  go_region_held3 (fun w' => w'.cell? ⟨w.heap.size, 2, none⟩ = some (iv a2) ∧ w'.cell? ⟨w.heap.size, 4, none⟩ = some (iv a4) ∧ Below (w.heap.size + 1) (w.alloc (.cells #[iv a0, iv a1, iv a2, iv a3, iv a4] 64)) w')
    (first | exact HS.out _ (Below.refl _ _).drew | exact HS.out _ HBB.out.drew | exact HS.out _ HB1.out | exact HS.out _ HB2.out | go_keep)
    (first | (refine step_append_src _ (by rfl) _ _ 23 (by rfl) (w.heap.size + 1) 3 Try.underlying23 Try.infoI rfl (by decide) (.slice (some ⟨w.heap.size + 1, 0, none⟩) 1 1) v 1 zs.length [iv a2] (zs.map (Value.int .i64)) (by rfl) (by rfl) HO.out HS0.out (by unfold maxLen; omega) (by omega) (by simp) ?_; intro v1 w1 hown1 hg1; have HO1 := hid hown1; have HB1 := hid (below_grown HBB.out.drew HO.out hg1 (Nat.le_refl _) (by simp)); clear hown1 hg1) | (go_at_call 115; refine (implKeyedHash_any (zs := a2 :: zs) _ _ (Own.si (Own.of (by simpa [Nat.add_comm] using HO1.out))) (Nat.le_refl _) (by simp; omega)).mono ?_; rintro e w2 ⟨rfl, hb2⟩; have HB2 := hid (HB1.out.trans (hb2.mono (by have := HB1.out.size; simpa using this))); clear hb2))
  go_wp2
  go_ret
  exact ⟨rfl, (below_alloc _ _).trans (HB2.out.mono (by omega))⟩

set_option maxHeartbeats 400000 in
theorem specModP_any (v : Int) (w : World) :
    Calls Try.prog 194 #[iv v, iv 2147483647] w fun e w' => e = .returned (iv (modP v)) ∧ w = w' := by
  obtain ⟨hb1, hb2⟩ := tmod_bd v
  go_enter Try.func194, Try.ntmps194
  go_wp2
  go_ret
  exact ⟨ret_int (tmod_modP v), rfl⟩
set_option maxHeartbeats 400000 in
theorem specHash_any {B : Nat} {zs : List Int} {v : Value} (w : World) (hv : Si B w v zs) :
    Calls Try.prog 183 #[v] w fun e w' => e = .returned (iv (hashI zs)) ∧ w = w' := by
  obtain ⟨A, c, rfl, hc1, hc2, -, hA⟩ := hv
  have HA := hid hA
  clear hA
  go_enter Try.func183, Try.ntmps183
  go_wp2
  go_loop [3, 4] (fun h i => ∃ k : Nat, k ≤ zs.length ∧ i = .int .i64 k ∧ h = .int .i64 (hashI (zs.take k))) (fun _ i => zs.length - (intOf i).toNat)
  case atStart => exact ⟨0, Nat.zero_le _, rfl, rfl⟩
  case round =>
    obtain ⟨k, hk, rfl, rfl⟩ := hrel
    by_cases hlt : k < zs.length
    · obtain ⟨b, off, rfl, hbB, hcc⟩ := HA.out (by omega)
      have c0 := hcc k hlt
      obtain ⟨hb1, hb2⟩ := hashI_bd (zs.take k)
      obtain ⟨hm1, hm2⟩ := modP_bd (nth zs k)
      have HT := hid (hashI_take hlt)
      clear HA hcc
      go_wp2_with (first | (go_at_call 194; refine (specModP_any _ _).mono ?_; rintro e w' ⟨rfl, rfl⟩) | go_in)
      go_round
      case rel => exact ⟨k + 1, by omega, by go_num, by rw [HT.out]⟩
      case measure => simp [intOf]; omega
    · obtain rfl : k = zs.length := by omega
      go_wp2
      go_ret
      first | exact ⟨ret_int (hashI_full zs), rfl⟩ | exact ⟨rfl, rfl⟩
set_option maxHeartbeats 1000000 in
theorem specKeyedHash_any {B : Nat} {zs : List Int} {v : Value} (key : Int) (w : World) (hv : Si B w v zs) (hB : B ≤ w.heap.size) (hn : zs.length ≤ 1099511627776) :
    Calls Try.prog 165 #[iv key, v] w (Ret (iv (keyedHash key zs)) w) := by
  have HV := hid hv
  clear hv
  go_enter Try.func165, Try.ntmps165
  have hown0 := World.ownsRow_lit (base := w.heap.size) (e := 3) (size := 1) w #[iv key] 1 (Nat.le_refl _) (by decide) rfl
  have hb0 := below_alloc w (.cells #[iv key] 3)
  have hsrc0 := (HV.out.below hb0 hB).src
  have HO := hid hown0
  have HS := hid hsrc0
  have HB := hid hb0
  clear hown0 hsrc0 hb0
  go_wp2_with (first | (at_builtin; refine wpList_append_src _ rfl _ _ 23 rfl w.heap.size 3 Try.underlying23 Try.infoI rfl (by decide) _ _ _ _ _ _ rfl rfl (HO1.out.alloc _) (Src.lit (cs := #[iv key]) (m := 1) (size := 1) (heap_alloc_new w1 _) rfl (by simp [Value.oneCell']) 1) (by unfold maxLen; omega) (by omega) (by simp; have := HG1.out.size; simp at this; omega) ?_; intro v2 w2 hown2 hg2; have HO2 := hid hown2; have HG2 := hid hg2; clear hown2 hg2) | (at_builtin; refine wpList_append_src _ rfl _ _ 23 rfl w.heap.size 3 Try.underlying23 Try.infoI rfl (by decide) _ _ _ _ _ _ rfl rfl HO.out HS.out (by unfold maxLen; omega) (by omega) (by simp) ?_; intro v1 w1 hown1 hg1; have HO1 := hid hown1; have HG1 := hid hg1; clear hown1 hg1))
  have hown : w2.ownsRow w.heap.size 3 1 v2 (key :: zs ++ [key]).length ((key :: zs ++ [key]).map (Value.int .i64)) := by
    have h := HO2.out
    simpa [Nat.add_comm, Nat.add_left_comm] using h
  have hb1 : Below w.heap.size w w1 := below_grown HB.out HO.out HG1.out (Nat.le_refl _) (by simp)
  have hb2 : Below w.heap.size w w2 := below_grown (hb1.alloc hb1.size _) (HO1.out.alloc _) HG2.out (Nat.le_refl _) (by have := hb1.size; simp; omega)
  refine (specHash_any _ (Own.si (Own.of hown))).mono ?_
  rintro e w3 ⟨rfl, rfl⟩
  go_wp2
  go_ret
  exact ⟨rfl, hb2⟩
set_option maxRecDepth 8000 in
set_option maxHeartbeats 1000000 in
theorem specMarkWith_any {B : Nat} {zs : List Int} {v : Value} (a0 a1 a2 a3 a4 : Int) (w : World) (hv : Si B w v zs) (hB : B ≤ w.heap.size) (hn : zs.length ≤ 1073741824) :
    Calls Try.prog 113 #[.agg #[iv a0, iv a1, iv a2, iv a3, iv a4], v] w (Ret (iv (markW a2 a4 zs)) w) := by
  have hown0 : ((w.alloc (.cells #[iv a0, iv a1, iv a2, iv a3, iv a4] 64)).alloc (.cells #[iv a2] 3)).ownsRow (w.heap.size + 1) 3 1 (.slice (some ⟨w.heap.size + 1, 0, none⟩) 1 1) 1 [iv a2] := by
    simpa using World.ownsRow_lit (base := w.heap.size + 1) (e := 3) (size := 1) (w.alloc (.cells #[iv a0, iv a1, iv a2, iv a3, iv a4] 64)) #[iv a2] 1 (by simp) (by decide) rfl
  have hb0 := (below_alloc w (.cells #[iv a0, iv a1, iv a2, iv a3, iv a4] 64)).alloc (by simp) (.cells #[iv a2] 3)
  have hsrc0 := (hv.below hb0 hB).src
  have HO := hid hown0.drew
  have HS0 := hid (Src.drew hsrc0)
  have hBb : Below (w.heap.size + 1) (w.alloc (.cells #[iv a0, iv a1, iv a2, iv a3, iv a4] 64)) ((w.alloc (.cells #[iv a0, iv a1, iv a2, iv a3, iv a4] 64)).alloc (.cells #[iv a2] 3)) := (Below.refl _ _).alloc (by simp) _
  have HBB := hid hBb
  have HS : Hid (∀ w' : World, Below (w.heap.size + 1) (w.alloc (.cells #[iv a0, iv a1, iv a2, iv a3, iv a4] 64)) w' → (w'.cell? ⟨w.heap.size, 2, none⟩ = some (iv a2) ∧ w'.cell? ⟨w.heap.size, 4, none⟩ = some (iv a4) ∧ Below (w.heap.size + 1) (w.alloc (.cells #[iv a0, iv a1, iv a2, iv a3, iv a4] 64)) w')) :=
    hid fun w' hx => ⟨(hx.cell (p := ⟨w.heap.size, 2, none⟩) (by show w.heap.size < _; omega)).trans (by simp [go_sem]), (hx.cell (p := ⟨w.heap.size, 4, none⟩) (by show w.heap.size < _; omega)).trans (by simp [go_sem]), hx⟩
  clear hown0 hb0 hsrc0 hBb hv
  go_enter Try.func113, Try.ntmps113
  go_wp2_with fail
  go_region_held3 (fun w' => w'.cell? ⟨w.heap.size, 2, none⟩ = some (iv a2) ∧ w'.cell? ⟨w.heap.size, 4, none⟩ = some (iv a4) ∧ Below (w.heap.size + 1) (w.alloc (.cells #[iv a0, iv a1, iv a2, iv a3, iv a4] 64)) w')
    (first | exact HS.out _ (Below.refl _ _).drew | exact HS.out _ HBB.out.drew | exact HS.out _ HB1.out | exact HS.out _ HB2.out | go_keep)
    (first | (refine step_append_src _ (by rfl) _ _ 23 (by rfl) (w.heap.size + 1) 3 Try.underlying23 Try.infoI rfl (by decide) (.slice (some ⟨w.heap.size + 1, 0, none⟩) 1 1) v 1 zs.length [iv a2] (zs.map (Value.int .i64)) (by rfl) (by rfl) HO.out HS0.out (by unfold maxLen; omega) (by omega) (by simp) ?_; intro v1 w1 hown1 hg1; have HO1 := hid hown1; have HB1 := hid (below_grown HBB.out.drew HO.out hg1 (Nat.le_refl _) (by simp)); clear hown1 hg1) | (go_at_call 165; refine (specKeyedHash_any (zs := a2 :: zs) _ _ (Own.si (Own.of (by simpa [Nat.add_comm] using HO1.out))) (Nat.le_refl _) (by simp; omega)).mono ?_; rintro e w2 ⟨rfl, hb2⟩; have HB2 := hid (HB1.out.trans (hb2.mono (by have := HB1.out.size; simpa using this))); clear hb2))
  go_wp2
  go_ret
  exact ⟨rfl, (below_alloc _ _).trans (HB2.out.mono (by omega))⟩
end Go.Proofs.Ytkdpfbodmfjkkaa
