/- What the reference draws of spans: a span, a number, a list of spans. Condition: the cursor stands over no more than 2^20 bytes. -/
import Derived.Test.YtkdpfbodmfjkkaaRows
import Derived.Test.YtkdpfbodmfjkkaaBase
import Derived.Test.YtkdpfbodmfjkkaaAppend
import Derived.Test.YtkdpfbodmfjkkaaSlices
import Derived.Test.YtkdpfbodmfjkkaaApart
import Derived.Test.YtkdpfbodmfjkkaaCol
import Derived.Test.YtkdpfbodmfjkkaaDraw
namespace Go.Proofs.Ytkdpfbodmfjkkaa
open Go.RowKit

theorem Try.infoSpan0 : (Try.prog.info? 47).map (fun i => (i.zero, i.size, i.bytes)) = some (some (.agg #[iv 0, iv 0]), 2, 16) := by kernel_rfl
/-- The cursor g stands, and of the old blocks only g was written. -/
def Kb (g : Nat) (w w' : World) : Prop := Cur g w' ∧ w.grownBy w' (some g)
theorem Cur.far {g : Nat} {w w' : World} (h : Cur g w) (hb : Below (g + 1) w w') : Cur g w' := by
  obtain ⟨v, n, i, x, h0, h1, h2, h3, h4, h5, h6, h7, h8⟩ := h
  obtain ⟨hc, hf⟩ := bcell hb
  have hg : g < g + 1 := by omega
  exact ⟨v, n, i, x, Nat.lt_of_lt_of_le h0 hb.size, h1.below hb (by omega), h2, h3, (hc _ _ hg).trans h4, (hc _ _ hg).trans h5, (hc _ _ hg).trans h6, (hf _ _ hg).trans h7, (hf _ _ hg).trans h8⟩
theorem Cur.lt {g : Nat} {w : World} (h : Cur g w) : g < w.heap.size := h.choose_spec.choose_spec.choose_spec.choose_spec.1
theorem Kb.refl {g : Nat} {w : World} (h : Cur g w) : Kb g w w := ⟨h, World.grownBy.refl _ _⟩
/-- A step that leaves all that was there when the call began, but the cursor. -/
theorem Kb.via {g : Nat} {w a b : World} (h : Kb g w a) (hg : g < w.heap.size) (hb : Below w.heap.size a b) : Kb g w b :=
  ⟨h.1.far (hb.mono (by omega)), ⟨hb.os.trans h.2.os, hb.tape.trans h.2.tape, hb.output.trans h.2.output, Nat.le_trans h.2.size hb.size, fun i hi hne => (hb.block i hi).trans (h.2.block i hi hne)⟩⟩
theorem Kb.alloc {g : Nat} {w a : World} (h : Kb g w a) (hg : g < w.heap.size) (o : Obj) : Kb g w (a.alloc o) := h.via hg ((Below.refl _ _).alloc h.2.size o)
theorem Kb.set {g : Nat} {w a : World} (h : Kb g w a) (hg : g < w.heap.size) {p : Addr} (hp : w.heap.size ≤ p.block) (u : Value) : Kb g w (a.setCell p u) := h.via hg ((Below.refl _ _).setCell hp u)
theorem Kb.next {g : Nat} {w a b : World} (h : Kb g w a) (h2 : Kb g a b) : Kb g w b := ⟨h2.1, h.2.trans h2.2⟩
theorem Kb.grown {g : Nat} {w a b : World} {row : Option Nat} (h : Kb g w a) (hg : g < w.heap.size) (h2 : a.grownBy b row) (hr : ∀ k, row = some k → w.heap.size ≤ k) : Kb g w b := h.via hg ((Below.refl w.heap.size a).grown h2 h.2.size hr)
theorem Box2.cur {q g : Nat} {w w1 : World} {x y : Int} (h : Box2 q w x y) (hg : w.grownBy w1 (some g)) (hne : q ≠ g) : Box2 q w1 x y := h.grown hg (by intro e; injection e with e; exact hne e)
def CurSpan (g : Nat) (w : World) (e : Ending) (w' : World) : Prop := ∃ x y, e = .returned (.agg #[iv x, iv y]) ∧ Kb g w w'

set_option maxHeartbeats 2000000 in
theorem l4Draw_any {g : Nat} (w : World) (hc : Cur g w) : Calls Try.prog 162 #[.pointer (some ⟨g, 0, none⟩)] w (CurSpan g w) := by
  have hg := hc.lt
  have HK0 := hid ((Kb.refl hc).alloc hg (.cells #[iv 0, iv 0] 47))
  have HX0 := hid (Box2.new w 0 0 47)
  clear hc
  go_enter Try.func162, Try.ntmps162
  go_wp2_with fail
  refine (l1Below_any _ _ HK0.out.1).mono ?_
  rintro e w1 ⟨f, rfl, ⟨hf0, hf1, -⟩, hc1, hg1⟩
  have HK1 := hid (HK0.out.next ⟨hc1, hg1⟩)
  have HX1 := hid (HX0.out.cur hg1 (by omega))
  replace hf1 := hf1 (by omega)
  clear hc1 hg1
  go_wp2_with fail
  refine (l1Below_any _ _ HK1.out.1).mono ?_
  rintro e w2 ⟨r, rfl, ⟨hr0, hr1, -⟩, hc2, hg2⟩
  have HK2 := hid (HK1.out.next ⟨hc2, hg2⟩)
  obtain ⟨x0, x1, x2, x3, x4⟩ := HX1.out.cur hg2 (by omega)
  replace hr1 := hr1 (by omega)
  clear hc2 hg2
  go_wp2
  refine bodyPost_ret (v := .agg #[iv f, iv (f + r)]) (by simp [results, Try.results162, go_sem, x1, x2]) rfl ⟨_, _, rfl, ?_⟩
  have h9 := HK2.out
  repeat (first | exact h9 | refine Kb.set ?_ hg (by simp) _)
set_option maxHeartbeats 2000000 in
theorem l4Raw_any {g : Nat} (w : World) (hc : Cur g w) : Calls Try.prog 163 #[.pointer (some ⟨g, 0, none⟩)] w (CurInt g (fun _ => True) w) := by
  have hg := hc.lt
  have HC := hid hc
  clear hc
  go_enter Try.func163, Try.ntmps163
  go_wp2_with fail
  refine (l1Once_any _ _ HC.out).mono ?_
  rintro e w1 ⟨b, rfl, hc1, hg1⟩
  have HK1 : Hid (Kb g w w1) := hid ⟨hc1, hg1⟩
  have hz := hc1.lt
  clear hc1 hg1
  cases b
  · go_wp2_with fail
    refine (l1Below_any _ _ HK1.out.1).mono ?_
    rintro e w2 ⟨r, rfl, -, hc2, hg2⟩
    have HK2 := hid (HK1.out.next ⟨hc2, hg2⟩)
    clear hc2 hg2
    go_wp2
    go_ret
    exact ⟨_, rfl, trivial, HK2.out.1, HK2.out.2⟩
  · have HL := hid ((Own.of (World.ownsRow_lit (base := w1.heap.size) (e := 3) (size := 1) w1 #[iv (-1), iv 0, iv 10000, iv 10001, iv 9223372036854775807, iv (-9223372036854775808)] 6 (Nat.le_refl _) (by decide) rfl)).si (zs := [-1, 0, 10000, 10001, 9223372036854775807, -9223372036854775808]))
    have HKA := hid (HK1.out.alloc hg (.cells #[iv (-1), iv 0, iv 10000, iv 10001, iv 9223372036854775807, iv (-9223372036854775808)] 3))
    go_wp2_with fail
    refine (l1Int_any _ HKA.out.1 HL.out (Nat.le_refl _) (by intro b off n c h; simp only [Value.slice.injEq, Option.some.injEq, Addr.mk.injEq] at h; omega) (by decide)).mono ?_
    rintro e w2 ⟨r, rfl, -, hc2, hg2⟩
    have HK2 := hid (HKA.out.next ⟨hc2, hg2⟩)
    clear hc2 hg2
    go_wp2
    go_ret
    exact ⟨_, rfl, trivial, HK2.out.1, HK2.out.2⟩
set_option maxHeartbeats 4000000 in
theorem l4Any_any {g : Nat} (w : World) (hc : Cur g w) : Calls Try.prog 108 #[.pointer (some ⟨g, 0, none⟩)] w (CurSpan g w) := by
  have hg := hc.lt
  have HK0 := hid ((Kb.refl hc).alloc hg (.cells #[iv 0, iv 0] 47))
  have HX0 := hid (Box2.new w 0 0 47)
  clear hc
  go_enter Try.func108, Try.ntmps108
  go_wp2_with fail
  refine (l4Draw_any _ HK0.out.1).mono ?_
  rintro e w1 ⟨x, y, rfl, hk1⟩
  have hz1 : w.heap.size < w1.heap.size := by have := hk1.2.size; simp at this; omega
  have HK1 := hid ((HK0.out.next hk1).alloc hg (.cells #[iv x, iv y] 47))
  have HX1 := hid ((HX0.out.cur hk1.2 (by omega)).below (below_alloc _ (.cells #[iv x, iv y] 47)))
  have HY1 := hid (Box2.new w1 x y 47)
  have hgz : g < w1.heap.size := by omega
  clear hk1
  go_wp2_with fail
  refine (l1Below_any _ _ HK1.out.1).mono ?_
  rintro e w2 ⟨r, rfl, -, hc2, hg2⟩
  have HK2 := hid (HK1.out.next ⟨hc2, hg2⟩)
  have HX2 := hid (HX1.out.cur hg2 (by omega))
  have HY2 := hid (HY1.out.cur hg2 (by omega))
  have hz2 : w1.heap.size < w2.heap.size := by have := hg2.size; simp at this; omega
  clear hc2 hg2
  by_cases h0 : r = 0
  · have e0 : (r == 0) = true := by rw [beq_iff_eq]; exact h0
    clear h0
    go_wp2_with fail
    refine (l4Raw_any _ HK2.out.1).mono ?_
    rintro e w3 ⟨q, rfl, -, hc3, hg3⟩
    have HK3 := hid (HK2.out.next ⟨hc3, hg3⟩)
    obtain ⟨a0, a1, a2, a3, a4⟩ := HX2.out.cur hg3 (by omega)
    obtain ⟨b0, b1, b2, b3, b4⟩ := HY2.out.cur hg3 (by omega)
    clear hc3 hg3
    have hne : w.heap.size ≠ w1.heap.size := by omega
    go_wp2
    refine bodyPost_ret (v := .agg #[iv q, iv y]) (by simp [results, Try.results108, go_sem, a1, a2]) rfl ⟨_, _, rfl, ?_⟩
    have h9 := HK3.out
    repeat (first | exact h9 | refine Kb.set ?_ hg (by simp <;> omega) _)
  · have e0 : (r == 0) = false := by rw [beq_eq_false_iff_ne]; exact h0
    clear h0
    by_cases h1 : r = 1
    · have e1 : (r == 1) = true := by rw [beq_iff_eq]; exact h1
      clear h1
      go_wp2_with fail
      refine (l4Raw_any _ HK2.out.1).mono ?_
      rintro e w3 ⟨q, rfl, -, hc3, hg3⟩
      have HK3 := hid (HK2.out.next ⟨hc3, hg3⟩)
      obtain ⟨a0, a1, a2, a3, a4⟩ := HX2.out.cur hg3 (by omega)
      obtain ⟨b0, b1, b2, b3, b4⟩ := HY2.out.cur hg3 (by omega)
      clear hc3 hg3
      have hne : w.heap.size ≠ w1.heap.size := by omega
      go_wp2
      refine bodyPost_ret (v := .agg #[iv x, iv q]) (by simp [results, Try.results108, go_sem, a1, a2]) rfl ⟨_, _, rfl, ?_⟩
      have h9 := HK3.out
      repeat (first | exact h9 | refine Kb.set ?_ hg (by simp <;> omega) _)
    · have e1 : (r == 1) = false := by rw [beq_eq_false_iff_ne]; exact h1
      clear h1
      obtain ⟨a0, a1, a2, a3, a4⟩ := HX2.out
      obtain ⟨b0, b1, b2, b3, b4⟩ := HY2.out
      have hne : w.heap.size ≠ w1.heap.size := by omega
      go_wp2
      refine bodyPost_ret (v := .agg #[iv x, iv y]) (by simp [results, Try.results108, go_sem, a1, a2]) rfl ⟨_, _, rfl, ?_⟩
      have h9 := HK2.out
      repeat (first | exact h9 | refine Kb.set ?_ hg (by simp <;> omega) _)
/-- The call returned a list of its own with rows of s numbers, no more than m of them. -/
def CurList (g E s m : Nat) (w : World) (e : Ending) (w' : World) : Prop :=
  ∃ (v : Value) (ks : List (List Int)), e = .returned v ∧ (∀ r ∈ ks, r.length = s) ∧ ks.length ≤ m ∧ Own w' E s v w.heap.size w'.heap.size ks.length (flat ks) ∧ Kb g w w'
set_option maxHeartbeats 4000000 in
theorem l4List_any {g : Nat} (w : World) (hc : Cur g w) : Calls Try.prog 103 #[.pointer (some ⟨g, 0, none⟩)] w (CurList g 47 2 4 w) := by
  have hg := hc.lt
  have HK0 := hid ((Kb.refl hc).alloc hg (.cells #[] 47))
  have HO0 := hid (World.ownsRow_lit (base := w.heap.size) (e := 47) (size := 2) w #[] 0 (Nat.le_refl _) (by decide) rfl)
  clear hc
  go_enter Try.func103, Try.ntmps103
  go_wp2_with fail
  refine (l1Below_any _ _ HK0.out.1).mono ?_
  rintro e w1 ⟨r, rfl, ⟨hr0, hr1, -⟩, hc1, hg1⟩
  have HK1 := hid (HK0.out.next ⟨hc1, hg1⟩)
  have HO1 := hid ((Own.cur (Own.of HO0.out) hg1 hg (Nat.le_refl _)).1)
  replace hr1 := hr1 (by omega)
  obtain ⟨m0, rfl⟩ : ∃ m : Nat, r = m := ⟨r.toNat, by omega⟩
  clear hc1 hg1 HO0 HK0
  go_wp2
  go_loopw [3, 4] (fun l i wr => ∃ (m : Nat) (ks : List (List Int)), i = .int .i64 m ∧ ks.length + m ≤ 4 ∧ (∀ r ∈ ks, r.length = 2) ∧ wr.ownsRow w.heap.size 47 2 l ks.length (flat ks) ∧ Kb g w wr) (fun _ i _ => (intOf i).toNat)
  case atStart => exact ⟨m0, [], rfl, by simp; omega, fun r hr => (by cases hr), HO1.out, HK1.out⟩
  case round =>
    obtain ⟨m, ks, rfl, hm, h2, how, hk⟩ := hrel
    have HOW := hid how
    have HK := hid hk
    have H2 := hid h2
    clear how hk h2
    by_cases hlt : 0 < m
    · have hm1 : (0 : Int) < (m : Int) := by omega
      go_wp2_with fail
      refine (l4Any_any _ HK.out.1).mono ?_
      rintro e w2 ⟨x, y, rfl, hk2⟩
      have HO2 := hid ((Own.cur (Own.of HOW.out) hk2.2 hg (Nat.le_refl _)).1)
      have HK2 := hid (HK.out.next hk2)
      clear hk2
      go_wp2_with (first | (at_builtin; refine wpList_append_src _ rfl _ _ 43 rfl w.heap.size 47 Try.underlying43 Try.infoSpan0 rfl (by decide) _ _ ks.length 1 _ [iv x, iv y] rfl rfl (HO2.out.alloc _) (Src.lit (cs := #[iv x, iv y]) (m := 1) (size := 2) (heap_new_at w2 _ (by simp)) rfl (by simp [Value.oneCell']) 1) (by unfold maxLen; omega) (by omega) ((HK2.out.alloc hg _).2.size) ?_; intro v1 w3 hown1 hg1; have HO3 := hid hown1; have HK3 := hid ((HK2.out.alloc hg _).grown hg hg1 (fun k hk => (HO2.out.lt k hk).1)); clear hown1 hg1) | fail)
      go_roundw
      case rel => exact ⟨m - 1, ks ++ [[x, y]], by rw [show ((m - 1 : Nat) : Int) = (m : Int) - 1 by omega], by simp; omega, (by intro r hr; rcases List.mem_append.1 hr with h | h; exact H2.out r h; simp at h; subst h; rfl), by rw [List.length_append, flat_append]; exact HO3.out, HK3.out⟩
      case measure => simp [intOf]; omega
    · obtain rfl : m = 0 := by omega
      go_wp2
      go_ret
      exact ⟨_, ks, rfl, H2.out, by omega, Own.of HOW.out, HK.out⟩
end Go.Proofs.Ytkdpfbodmfjkkaa
