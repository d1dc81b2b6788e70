/- What the reference draws of texts and documents. Condition: the cursor stands over no more than 2^20 bytes. -/
import Derived.Test.YtkdpfbodmfjkkaaRows
import Derived.Test.YtkdpfbodmfjkkaaBase
import Derived.Test.YtkdpfbodmfjkkaaPlain
import Derived.Test.YtkdpfbodmfjkkaaAppend
import Derived.Test.YtkdpfbodmfjkkaaSlices
import Derived.Test.YtkdpfbodmfjkkaaApart
import Derived.Test.YtkdpfbodmfjkkaaDraw
import Derived.Test.YtkdpfbodmfjkkaaDrawSpan
import Derived.Test.YtkdpfbodmfjkkaaStr
import Derived.Test.YtkdpfbodmfjkkaaBlk
import Derived.Test.YtkdpfbodmfjkkaaDoc
import Derived.Test.YtkdpfbodmfjkkaaMakeDoc
namespace Go.Proofs.Ytkdpfbodmfjkkaa
open Go.ChangeShapes Go.WideShapes Go.ChangeAt Go.RowKit Go.Deep

/-- The call returned a string with Q; block g is a cursor still, and no other old block was written. -/
def CurStr (g : Nat) (Q : ByteArray → Prop) (w : World) (e : Ending) (w' : World) : Prop := ∃ s, e = .returned (.string s) ∧ Q s ∧ Kb g w w'
set_option maxHeartbeats 1000000 in
theorem l1Str_any {g B : Nat} {ps : List ByteArray} {v : Value} (w : World) (hc : Cur g w) (hv : Ss B w v ps) (hB : B ≤ w.heap.size) (hne : ∀ b off n c, v = .slice (some ⟨b, off, none⟩) n c → b ≠ g) (hl : 0 < ps.length) :
    Calls Try.prog 197 #[.pointer (some ⟨g, 0, none⟩), v] w (CurStr g (fun s => s ∈ ps) w) := by
  have HC := hid hc
  obtain ⟨A, c, rfl, hc1, hc2, -, hcell⟩ := hv
  obtain ⟨b, off, rfl, hbB, hcc⟩ := hcell hl
  have hbg := hne b off _ _ rfl
  have HCC := hid hcc
  have hlp : (0 : Int) < (ps.length : Int) := by omega
  clear hcell hcc hne hc
  go_enter Try.func197, Try.ntmps197
  go_wp2_with fail
  refine (l1Below_any _ _ HC.out).mono ?_
  rintro e w1 ⟨r, rfl, ⟨hr0, hr1, -⟩, hc1', hg1⟩
  have HC1 := hid hc1'
  have HG1 := hid hg1
  obtain ⟨k, rfl⟩ : ∃ k : Nat, r = k := ⟨r.toNat, by omega⟩
  have hk : k < ps.length := by have := hr1 hlp; omega
  have hkp : (k : Int) < (ps.length : Int) := by omega
  have c0 := (hg1.cell_far ⟨b, off + k, none⟩ (by show b < _; omega) (by intro e; injection e with e; exact hbg e)).trans (HCC.out k hk)
  clear hc1' hg1 hr1
  go_wp2
  go_ret
  exact ⟨_, rfl, by rw [nthS, List.getD, List.getElem?_eq_getElem hk]; exact List.getElem_mem hk, HC1.out, HG1.out⟩
/-- The texts that the reference draws from. -/
def texts : List ByteArray := [{ data := #[] }, { data := #[97] }, { data := #[98] }, { data := #[97, 98] }, { data := #[121, 101, 115] }, { data := #[110, 111] }, { data := #[111, 110, 101, 32, 104, 117, 110, 100, 114, 101, 100] }]
theorem texts_small : ∀ s ∈ texts, s.size ≤ 11 := by decide
set_option maxRecDepth 16000 in
set_option maxHeartbeats 2000000 in
theorem l6Text_any {g : Nat} (w : World) (hc : Cur g w) : Calls Try.prog 186 #[.pointer (some ⟨g, 0, none⟩)] w (CurStr g (fun s => s.size ≤ 11) w) := by
  have hg := hc.lt
  have HK := hid ((Kb.refl hc).alloc hg (.cells #[.string { data := #[] }, .string { data := #[97] }, .string { data := #[98] }, .string { data := #[97, 98] }, .string { data := #[121, 101, 115] }, .string { data := #[110, 111] }, .string { data := #[111, 110, 101, 32, 104, 117, 110, 100, 114, 101, 100] }] 9))
  have HL := hid (Own.ss (ps := texts) (Own.of (World.ownsRow_lit (base := w.heap.size) (e := 9) (size := 1) w #[.string { data := #[] }, .string { data := #[97] }, .string { data := #[98] }, .string { data := #[97, 98] }, .string { data := #[121, 101, 115] }, .string { data := #[110, 111] }, .string { data := #[111, 110, 101, 32, 104, 117, 110, 100, 114, 101, 100] }] 7 (Nat.le_refl _) (by decide) rfl)))
  clear hc
  go_enter Try.func186, Try.ntmps186
  go_wp2_with fail
  refine (l1Str_any _ HK.out.1 HL.out (Nat.le_refl _) (by intro b off n c h; simp only [Value.slice.injEq, Option.some.injEq, Addr.mk.injEq] at h; omega) (by decide)).mono ?_
  rintro e w1 ⟨s, rfl, hs, hk⟩
  have HS := hid (texts_small s hs)
  have HK1 := hid (HK.out.next hk)
  clear hs hk HL HK
  go_wp2
  go_ret
  exact ⟨_, rfl, HS.out, HK1.out⟩
/-- The call returned a good document of its own; block g is a cursor still, and no other old block was written. -/
def CurDoc (g : Nat) (w : World) (e : Ending) (w' : World) : Prop :=
  ∃ (t : Int) (ps : List ByteArray) (zs : List Int) (P S : Value) (mid : Nat), e = .returned (.agg #[iv t, P, S]) ∧ (0 ≤ t ∧ t ≤ 4) ∧ (1 ≤ ps.length ∧ ps.length ≤ 3) ∧ (∀ s ∈ ps, s.size ≤ 11) ∧ zs.length = ps.length ∧ (∀ z ∈ zs, SaltOk z) ∧ (w.heap.size ≤ mid ∧ mid ≤ w'.heap.size) ∧ Own w' 9 1 P w.heap.size mid ps.length (ps.map Value.string) ∧ Own w' 3 1 S mid w'.heap.size zs.length (zs.map (Value.int .i64)) ∧ Kb g w w'
theorem nthS_mem {ps : List ByteArray} {k : Nat} (h : k < ps.length) : nthS ps k ∈ ps := by rw [nthS, List.getD, List.getElem?_eq_getElem h]; exact List.getElem_mem h
set_option maxRecDepth 16000 in
set_option maxHeartbeats 8000000 in
theorem l6Draw_any {g : Nat} (w : World) (hc : Cur g w) : Calls Try.prog 175 #[.pointer (some ⟨g, 0, none⟩)] w (CurDoc g w) := by
  have hg := hc.lt
  have HK0 := hid (((Kb.refl hc).alloc hg (.cells #[iv 0, .slice none 0 0, .slice none 0 0] 113)).alloc hg (.cells #[] 9))
  have HR0 := hid ((Blk.new w #[iv 0, .slice none 0 0, .slice none 0 0] 113).alloc (.cells #[] 9))
  have HO0 := hid (World.ownsRow_lit (base := w.heap.size + 1) (e := 9) (size := 1) (w.alloc (.cells #[iv 0, .slice none 0 0, .slice none 0 0] 113)) #[] 0 (by simp) (by decide) rfl)
  rw [show (w.alloc (.cells #[iv 0, .slice none 0 0, .slice none 0 0] 113)).heap.size = w.heap.size + 1 by simp] at HO0
  clear hc
  go_enter Try.func175, Try.ntmps175
  go_wp2_with fail
  generalize (w.alloc (.cells #[iv 0, .slice none 0 0, .slice none 0 0] 113)).alloc (.cells #[] 9) = W0 at HK0 HR0 HO0 ⊢
  refine (l1Below_any _ _ HK0.out.1).mono ?_
  rintro e w1 ⟨r, rfl, ⟨hr0, hr1, -⟩, hc1, hg1⟩
  have HK1 := hid (HK0.out.next ⟨hc1, hg1⟩)
  have HR1 := hid (HR0.out.cur hg1 (by omega))
  have HO1 := hid ((Own.cur (Own.of HO0.out) hg1 (by omega) (Nat.le_refl _)).1)
  replace hr1 := hr1 (by omega)
  obtain ⟨m0, rfl⟩ : ∃ m : Nat, r = m := ⟨r.toNat, by omega⟩
  clear hc1 hg1 HO0 HK0 HR0
  go_wp2
  go_loopw [3, 4] (fun l i wr => ∃ (m : Nat) (ps : List ByteArray), i = .int .i64 m ∧ (1 ≤ ps.length + m ∧ ps.length + m ≤ 3) ∧ (∀ s ∈ ps, s.size ≤ 11) ∧ wr.ownsRow (w.heap.size + 1) 9 1 l ps.length (ps.map Value.string) ∧ Blk w.heap.size wr [iv 0, .slice none 0 0, .slice none 0 0] ∧ Kb g w wr) (fun _ i _ => (intOf i).toNat)
  case atStart => exact ⟨1 + m0, [], by simp, by simp; omega, (fun s hs => by cases hs), HO1.out, HR1.out, HK1.out⟩
  case round =>
    obtain ⟨m, ps, rfl, hm, h2, how, hr, hk⟩ := hrel
    have HOW := hid how
    have HK := hid hk
    have HR := hid hr
    have H2 := hid h2
    have hwr := hr.lt
    clear how hk h2 hr HO1 HK1 HR1
    by_cases hlt : 0 < m
    · have hm1 : (0 : Int) < (m : Int) := by omega
      go_wp2_with fail
      refine (l6Text_any _ HK.out.1).mono ?_
      rintro e w2 ⟨s, rfl, hs, hk2⟩
      have HO2 := hid ((Own.cur (Own.of HOW.out) hk2.2 (by omega) (Nat.le_refl _)).1)
      have HK2 := hid (HK.out.next hk2)
      have HR2 := hid (HR.out.cur hk2.2 (by omega))
      have HS := hid hs
      have hw2 := HR2.out.lt
      clear hk2 hs HOW HK HR
      go_wp2_with (first | (at_builtin; refine wpList_append_src _ rfl _ _ 111 rfl (w.heap.size + 1) 9 Try.underlying111 Try.infoStr1 rfl (by decide) _ _ ps.length 1 _ [.string s] rfl rfl (HO2.out.alloc _) (Src.lit (cs := #[.string s]) (m := 1) (size := 1) (heap_new_at w2 _ (by simp)) rfl (by simp [Value.oneCell']) 1) (by unfold maxLen; omega) (by omega) (by simp; omega) ?_; intro v1 w3 hown1 hg1; have HO3 := hid hown1; have HR3 := hid ((HR2.out.alloc _).grown hg1 (row_ne HO2.out (by omega))); have HK3 := hid ((HK2.out.alloc hg _).grown hg hg1 (fun k hk => by have := (HO2.out.lt k hk).1; omega)); clear hown1 hg1) | fail)
      go_roundw
      case rel => exact ⟨m - 1, ps ++ [s], by rw [show ((m - 1 : Nat) : Int) = (m : Int) - 1 by omega], by simp; omega, (by intro y hy; rcases List.mem_append.1 hy with h | h; exact H2.out y h; rw [List.mem_singleton.1 h]; exact HS.out), by rw [List.length_append, List.map_append]; exact HO3.out, HR3.out, HK3.out⟩
      case measure => simp [intOf]; omega
    · obtain rfl : m = 0 := by omega
      go_wp2_with fail
      refine (l1Below_any _ _ HK.out.1).mono ?_
      rintro e w2 ⟨t, rfl, ⟨t0, t1, -⟩, hc2, hg2⟩
      have HK2 := hid (HK.out.next ⟨hc2, hg2⟩)
      have HR2 := hid (HR.out.cur hg2 (by omega))
      have HO2 := hid (Own.cur (Own.of HOW.out) hg2 (by omega) (Nat.le_refl _))
      have hz2 := hg2.size
      replace t1 := t1 (by omega)
      clear hc2 hg2 HK HR HOW
      go_wp2_with fail
      refine (specMakeDocument_any t 11 w2 ((Own.ss HO2.out).mono hz2) (Nat.le_refl _) (by omega) (by omega) (by omega) (fun k hk => Nat.le_trans (H2.out _ (nthS_mem hk)) (by omega)) (by omega) (by omega)).mono ?_
      rintro e w3 ⟨P, S, zs, mid, rfl, hzl, hzs, ⟨hm0, hm1⟩, hp, hs, hb3⟩
      obtain ⟨GP, qp, rfl⟩ := ownsRow_form hp.1
      obtain ⟨GS, qs, rfl⟩ := ownsRow_form hs.1
      have HZS := hid hzs
      have HP3 := hid hp
      have HS3 := hid hs
      have HZL := hid hzl
      have HK3 := hid (HK2.out.via hg (hb3.mono (by omega)))
      have hzw := hb3.size
      have r0 := (HR2.out.below hb3).cell 0 rfl
      have r1 := (HR2.out.below hb3).cell 1 rfl
      have r2 := (HR2.out.below hb3).cell 2 rfl
      have fr0 := (HR2.out.below hb3).frozen 0 (by simp)
      have fr1 := (HR2.out.below hb3).frozen 1 (by simp)
      have fr2 := (HR2.out.below hb3).frozen 2 (by simp)
      have hr9 := (HR2.out.below hb3).lt
      have hne : w.heap.size ≠ w3.heap.size := by omega
      clear hzs hp hs hb3 HK2 HR2 HO2 hzl
      go_wp2
      refine bodyPost_ret (v := .agg #[iv t, .slice GP ps.length qp, .slice GS zs.length qs]) (by simp [results, Try.results175, go_sem, r0, r1, r2, hr9]) rfl ⟨t, ps, zs, _, _, mid, rfl, by omega, by omega, H2.out, HZL.out, HZS.out, ⟨by omega, by simp; omega⟩, ?_, ?_, ?_⟩
      · refine ((HP3.out.apart (hi0 := w.heap.size + 1) ?_ (by omega)).below (below_alloc _ _) (by simp; omega)).mono (by omega) (Nat.le_refl _)
        repeat (first | with_reducible exact Apart.refl _ _ | refine Apart.setCell ?_ (by simp) _)
      · refine ((HS3.out.apart (hi0 := w.heap.size + 1) ?_ (by omega)).below (below_alloc _ _) (by simp)).mono (by omega) (by simp)
        repeat (first | with_reducible exact Apart.refl _ _ | refine Apart.setCell ?_ (by simp) _)
      · have h9 := HK3.out
        have hle0 : w.heap.size ≤ w.heap.size := Nat.le_refl _
        refine Kb.alloc ?_ hg _
        repeat (first | with_reducible exact h9 | refine Kb.set ?_ hg hle0 _)
end Go.Proofs.Ytkdpfbodmfjkkaa
