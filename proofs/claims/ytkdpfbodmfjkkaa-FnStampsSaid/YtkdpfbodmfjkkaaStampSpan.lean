/- StampSpan of the program and of the reference: the span of times that a stamp leaves possible. No condition. -/
import Derived.Test.YtkdpfbodmfjkkaaRows
import Derived.Test.YtkdpfbodmfjkkaaPlain
import Derived.Test.YtkdpfbodmfjkkaaFindAuthority
import Derived.Test.YtkdpfbodmfjkkaaTimeSame
import Derived.Test.YtkdpfbodmfjkkaaMeet
namespace Go.Proofs.Ytkdpfbodmfjkkaa
open Go.RowKit

def ssE (ls : List (List Int)) (a0 : Int) : Int := fld ls (findI 0 a0 ls).toNat 2
def ssOk (ls : List (List Int)) (a0 a2 : Int) : Bool := decide (0 ≤ findI 0 a0 ls) && decide (0 ≤ ssE ls a0) && timeB a2
def ssB (ls : List (List Int)) (a0 a2 : Int) : Bool := ssOk ls a0 a2 && mkB (IntKind.i64.wrap (a2 - ssE ls a0)) (IntKind.i64.wrap (a2 + ssE ls a0))
def ssL (ls : List (List Int)) (a0 a2 : Int) : Int := if ssOk ls a0 a2 then mkL (IntKind.i64.wrap (a2 - ssE ls a0)) (IntKind.i64.wrap (a2 + ssE ls a0)) else 0
def ssR (ls : List (List Int)) (a0 a2 : Int) : Int := if ssOk ls a0 a2 then mkR (IntKind.i64.wrap (a2 - ssE ls a0)) (IntKind.i64.wrap (a2 + ssE ls a0)) else 0
theorem ss_no {ls : List (List Int)} {a0 a2 : Int} (h : ssOk ls a0 a2 = false) : spanV 0 0 false = spanV (ssL ls a0 a2) (ssR ls a0 a2) (ssB ls a0 a2) := by simp [ssL, ssR, ssB, h]
theorem ss_yes {ls : List (List Int)} {a0 a2 e : Int} (h : ssOk ls a0 a2 = true) (he : ssE ls a0 = e) : spanV (mkL (IntKind.i64.wrap (a2 - e)) (IntKind.i64.wrap (a2 + e))) (mkR (IntKind.i64.wrap (a2 - e)) (IntKind.i64.wrap (a2 + e))) (mkB (IntKind.i64.wrap (a2 - e)) (IntKind.i64.wrap (a2 + e))) = spanV (ssL ls a0 a2) (ssR ls a0 a2) (ssB ls a0 a2) := by subst he; simp [ssL, ssR, ssB, h]

set_option maxHeartbeats 4000000 in
theorem implStampSpan_any {B : Nat} {ls : List (List Int)} {v : Value} (a0 a1 a2 a3 a4 : Int) (w : World) (h : Sl B w 3 v ls) (hB : B ≤ w.heap.size) :
    Calls Try.prog 70 #[v, .agg #[iv a0, iv a1, iv a2, iv a3, iv a4]] w (Ret (spanV (ssL ls a0 a2) (ssR ls a0 a2) (ssB ls a0 a2)) w) := by
  have H0 : Hid (Below w.heap.size w ((w.alloc (.cells #[iv a0, iv a1, iv a2, iv a3, iv a4] 101)).alloc (.cells #[iv 0, iv 0] 47))) := hid ((below_alloc w _).alloc (by simp) _)
  have hB1 : B ≤ ((w.alloc (.cells #[iv a0, iv a1, iv a2, iv a3, iv a4] 101)).alloc (.cells #[iv 0, iv 0] 47)).heap.size := by simp; omega
  have h1 : Sl B ((w.alloc (.cells #[iv a0, iv a1, iv a2, iv a3, iv a4] 101)).alloc (.cells #[iv 0, iv 0] 47)) 3 v ls := h.below H0.out hB
  have HI : Hid (∀ (t : Int) (W : World), Calls Try.prog 107 #[iv t] W fun e w' => e = .returned (.bool (timeB t)) ∧ w' = W) := hid implisTime_same
  clear h
  rcases findI_range 0 a0 ls with hf | ⟨i, hi, hf, -⟩
  · have HT := hid (ss_no (ls := ls) (a0 := a0) (a2 := a2) (by simp [ssOk, hf]))
    go_enter Try.func70, Try.ntmps70
    go_wp2_with fail
    refine (implFindAuthority_any _ _ h1 hB1).mono ?_
    rintro e w1 ⟨rfl, hb1⟩
    rw [hf]
    obtain ⟨hc, hfz⟩ := bcell hb1
    have x2 : w1.cell? ⟨w.heap.size, 2, none⟩ = some (iv a2) := (hc _ _ (by simp <;> omega)).trans (by simp [go_sem])
    have d0 : w1.cell? ⟨w.heap.size + 1, 0, none⟩ = some (iv 0) := (hc _ _ (by simp <;> omega)).trans (by simp [go_sem])
    have fd0 : w1.frozen? ⟨w.heap.size + 1, 0, none⟩ = false := (hfz _ _ (by simp <;> omega)).trans (by simp [go_sem])
    have d1 : w1.cell? ⟨w.heap.size + 1, 1, none⟩ = some (iv 0) := (hc _ _ (by simp <;> omega)).trans (by simp [go_sem])
    have fd1 : w1.frozen? ⟨w.heap.size + 1, 1, none⟩ = false := (hfz _ _ (by simp <;> omega)).trans (by simp [go_sem])
    clear hc hfz
    clear hf
    go_wp2
    refine bodyPost_ret (v := spanV 0 0 false) (by simp [results, Try.results70, go_sem, d0, d1]) rfl ⟨ret_congr HT.out, ?_⟩
    have h9 := below_step H0.out hb1
    repeat (first | exact h9 | refine Below.setCell ?_ (by simp) _)
  by_cases he : fld ls i 2 < 0
  · have HT := hid (ss_no (ls := ls) (a0 := a0) (a2 := a2) (by simp [ssOk, ssE, hf]; intro; omega))
    go_enter Try.func70, Try.ntmps70
    go_wp2_with fail
    refine (implFindAuthority_any _ _ h1 hB1).mono ?_
    rintro e w1 ⟨rfl, hb1⟩
    rw [hf]
    obtain ⟨hc, hfz⟩ := bcell hb1
    have x2 : w1.cell? ⟨w.heap.size, 2, none⟩ = some (iv a2) := (hc _ _ (by simp <;> omega)).trans (by simp [go_sem])
    have d0 : w1.cell? ⟨w.heap.size + 1, 0, none⟩ = some (iv 0) := (hc _ _ (by simp <;> omega)).trans (by simp [go_sem])
    have fd0 : w1.frozen? ⟨w.heap.size + 1, 0, none⟩ = false := (hfz _ _ (by simp <;> omega)).trans (by simp [go_sem])
    have d1 : w1.cell? ⟨w.heap.size + 1, 1, none⟩ = some (iv 0) := (hc _ _ (by simp <;> omega)).trans (by simp [go_sem])
    have fd1 : w1.frozen? ⟨w.heap.size + 1, 1, none⟩ = false := (hfz _ _ (by simp <;> omega)).trans (by simp [go_sem])
    clear hc hfz
    obtain ⟨A, c, rfl, hc1, hc2, -, hcell⟩ := h1.below hb1 hB1
    obtain ⟨b, off, rfl, hbB, hcc⟩ := hcell (by omega)
    have c2 := hcc i 2 hi (by omega)
    have hi0 : (0 : Int) ≤ (i : Int) := Int.natCast_nonneg _
    have hi1 : (i : Int) < (ls.length : Int) := by omega
    clear hf h1 hcell hcc
    go_wp2
    refine bodyPost_ret (v := spanV 0 0 false) (by simp [results, Try.results70, go_sem, d0, d1]) rfl ⟨ret_congr HT.out, ?_⟩
    have h9 := below_step H0.out hb1
    repeat (first | exact h9 | refine Below.setCell ?_ (by simp) _)
  have he' : 0 ≤ fld ls i 2 := by omega
  clear he
  cases ht : timeB a2
  · have HT := hid (ss_no (ls := ls) (a0 := a0) (a2 := a2) (by simp [ssOk, ht]))
    replace HI : Hid (∀ W : World, Calls Try.prog 107 #[iv a2] W fun e w' => e = .returned (.bool false) ∧ w' = W) := hid fun W => by rw [← ht]; exact HI.out a2 W
    clear ht
    go_enter Try.func70, Try.ntmps70
    go_wp2_with fail
    refine (implFindAuthority_any _ _ h1 hB1).mono ?_
    rintro e w1 ⟨rfl, hb1⟩
    rw [hf]
    obtain ⟨hc, hfz⟩ := bcell hb1
    have x2 : w1.cell? ⟨w.heap.size, 2, none⟩ = some (iv a2) := (hc _ _ (by simp <;> omega)).trans (by simp [go_sem])
    have d0 : w1.cell? ⟨w.heap.size + 1, 0, none⟩ = some (iv 0) := (hc _ _ (by simp <;> omega)).trans (by simp [go_sem])
    have fd0 : w1.frozen? ⟨w.heap.size + 1, 0, none⟩ = false := (hfz _ _ (by simp <;> omega)).trans (by simp [go_sem])
    have d1 : w1.cell? ⟨w.heap.size + 1, 1, none⟩ = some (iv 0) := (hc _ _ (by simp <;> omega)).trans (by simp [go_sem])
    have fd1 : w1.frozen? ⟨w.heap.size + 1, 1, none⟩ = false := (hfz _ _ (by simp <;> omega)).trans (by simp [go_sem])
    clear hc hfz
    obtain ⟨A, c, rfl, hc1, hc2, -, hcell⟩ := h1.below hb1 hB1
    obtain ⟨b, off, rfl, hbB, hcc⟩ := hcell (by omega)
    have c2 := hcc i 2 hi (by omega)
    have hi0 : (0 : Int) ≤ (i : Int) := Int.natCast_nonneg _
    have hi1 : (i : Int) < (ls.length : Int) := by omega
    clear hf h1 hcell hcc
    go_wp2_with (go_at_call 107; refine (HI.out _).mono ?_; rintro e w' ⟨rfl, rfl⟩)
    refine bodyPost_ret (v := spanV 0 0 false) (by simp [results, Try.results70, go_sem, d0, d1]) rfl ⟨ret_congr HT.out, ?_⟩
    have h9 := below_step H0.out hb1
    repeat (first | exact h9 | refine Below.setCell ?_ (by simp) _)
  · have HT := hid (ss_yes (ls := ls) (a0 := a0) (a2 := a2) (e := fld ls i 2) (by simp [ssOk, ssE, hf, ht, he']) (by simp [ssE, hf]))
    replace HI : Hid (∀ W : World, Calls Try.prog 107 #[iv a2] W fun e w' => e = .returned (.bool true) ∧ w' = W) := hid fun W => by rw [← ht]; exact HI.out a2 W
    clear ht
    go_enter Try.func70, Try.ntmps70
    go_wp2_with fail
    refine (implFindAuthority_any _ _ h1 hB1).mono ?_
    rintro e w1 ⟨rfl, hb1⟩
    rw [hf]
    obtain ⟨hc, hfz⟩ := bcell hb1
    have x2 : w1.cell? ⟨w.heap.size, 2, none⟩ = some (iv a2) := (hc _ _ (by simp <;> omega)).trans (by simp [go_sem])
    have d0 : w1.cell? ⟨w.heap.size + 1, 0, none⟩ = some (iv 0) := (hc _ _ (by simp <;> omega)).trans (by simp [go_sem])
    have fd0 : w1.frozen? ⟨w.heap.size + 1, 0, none⟩ = false := (hfz _ _ (by simp <;> omega)).trans (by simp [go_sem])
    have d1 : w1.cell? ⟨w.heap.size + 1, 1, none⟩ = some (iv 0) := (hc _ _ (by simp <;> omega)).trans (by simp [go_sem])
    have fd1 : w1.frozen? ⟨w.heap.size + 1, 1, none⟩ = false := (hfz _ _ (by simp <;> omega)).trans (by simp [go_sem])
    clear hc hfz
    obtain ⟨A, c, rfl, hc1, hc2, -, hcell⟩ := h1.below hb1 hB1
    obtain ⟨b, off, rfl, hbB, hcc⟩ := hcell (by omega)
    have c2 := hcc i 2 hi (by omega)
    have hi0 : (0 : Int) ≤ (i : Int) := Int.natCast_nonneg _
    have hi1 : (i : Int) < (ls.length : Int) := by omega
    clear hf h1 hcell hcc
    have hr := Below.refl w1.heap.size w1
    have hbw : b < w1.heap.size := by have := hb1.size; omega
    have HS : Hid (∀ w' : World, Below w1.heap.size w1 w' → (w'.cell? ⟨b, off + i * 3 + 2, none⟩ = some (iv (fld ls i 2)) ∧ w'.cell? ⟨w.heap.size, 2, none⟩ = some (iv a2))) := hid fun w' hx => ⟨(hx.cell (p := ⟨b, off + i * 3 + 2, none⟩) hbw).trans c2, (hx.cell (p := ⟨w.heap.size, 2, none⟩) (by have := hb1.size; simp at this; show w.heap.size < _; omega)).trans x2⟩
    have HZ0 := hid (below_step H0.out hb1)
    have hz : w.heap.size + 2 ≤ w1.heap.size := by have := hb1.size; simp at this; omega
    have HD : Hid (∀ w' : World, Below w1.heap.size w1 w' → (w'.cell? ⟨w.heap.size + 1, 0, none⟩ = some (iv 0) ∧ w'.cell? ⟨w.heap.size + 1, 1, none⟩ = some (iv 0) ∧ w'.frozen? ⟨w.heap.size + 1, 0, none⟩ = false ∧ w'.frozen? ⟨w.heap.size + 1, 1, none⟩ = false)) := hid fun w' hx => ⟨(hx.cell (p := ⟨w.heap.size + 1, 0, none⟩) (by show w.heap.size + 1 < _; omega)).trans d0, (hx.cell (p := ⟨w.heap.size + 1, 1, none⟩) (by show w.heap.size + 1 < _; omega)).trans d1, (hx.frozen (p := ⟨w.heap.size + 1, 0, none⟩) (by show w.heap.size + 1 < _; omega)).trans fd0, (hx.frozen (p := ⟨w.heap.size + 1, 1, none⟩) (by show w.heap.size + 1 < _; omega)).trans fd1⟩
    have HF : Hid (∀ (W : World) (x y u : Value) (g k : Nat), g ≠ w.heap.size + 1 → W.cell? ⟨g, k, none⟩ = some u → ((W.setCell ⟨w.heap.size + 1, 0, none⟩ x).setCell ⟨w.heap.size + 1, 1, none⟩ y).cell? ⟨g, k, none⟩ = some u) := hid fun W x y u g k hg hu =>
      (World.cell?_setCell_far _ _ _ _ (Ne.symm hg)).trans ((World.cell?_setCell_far _ _ _ _ (Ne.symm hg)).trans hu)
    have N : Hid (b ≠ w.heap.size + 1 ∧ w.heap.size ≠ w.heap.size + 1) := hid ⟨by omega, by omega⟩
    clear d0 d1 fd0 fd1 hb1
    go_wp2_with (go_at_call 107; refine (HI.out _).mono ?_; rintro e w' ⟨rfl, rfl⟩)
    go_region_held3 (fun w' => w'.cell? ⟨b, off + i * 3 + 2, none⟩ = some (iv (fld ls i 2)) ∧ w'.cell? ⟨w.heap.size, 2, none⟩ = some (iv a2)) (first | with_reducible exact HS.out _ hr.drew | with_reducible exact HS.out _ HZ2.out | (refine ⟨HF.out _ _ _ _ _ _ N.out.1 (HS.out _ HZ2.out).1, HF.out _ _ _ _ _ _ N.out.2 (HS.out _ HZ2.out).2⟩) | go_keep)
      (first | (go_at_call 136; refine (implMakeSpan_any _ _ _).mono ?_; rintro e w2 ⟨rfl, hb2⟩; have HZ2 := hid (below_step hr.drew hb2); obtain ⟨d0, d1, fd0, fd1⟩ := HD.out _ HZ2.out))
    go_wp2
    refine bodyPost_ret (v := spanV (mkL (IntKind.i64.wrap (a2 - fld ls i 2)) (IntKind.i64.wrap (a2 + fld ls i 2))) (mkR (IntKind.i64.wrap (a2 - fld ls i 2)) (IntKind.i64.wrap (a2 + fld ls i 2))) (mkB (IntKind.i64.wrap (a2 - fld ls i 2)) (IntKind.i64.wrap (a2 + fld ls i 2)))) (by simp [results, Try.results70, go_sem, d0, d1]) rfl ⟨ret_congr HT.out, ?_⟩
    have h9 := below_step HZ0.out HZ2.out
    repeat (first | exact h9 | refine Below.setCell ?_ (by simp <;> omega) _)


end Go.Proofs.Ytkdpfbodmfjkkaa
