/- The reference's cursor over the bytes of a draw, and what is drawn with it: numbers within bounds. Condition: no more than 2^20 bytes. -/
import Derived.Test.YtkdpfbodmfjkkaaRows
import Derived.Test.YtkdpfbodmfjkkaaBase
import Derived.Test.YtkdpfbodmfjkkaaApart
import Derived.Test.YtkdpfbodmfjkkaaSlices
import Derived.Laws.Bits128
namespace Go.Proofs.Ytkdpfbodmfjkkaa
open Go.RowKit

theorem and255 (n : Int) : bits .and .i64 n 255 = n % 256 := by
  have h255 : (BitVec.ofInt 64 255).toNat = 2 ^ 8 - 1 := by decide
  have key : (BitVec.ofInt 64 n &&& BitVec.ofInt 64 255).toNat = (n % ((2 ^ 64 : Nat) : Int)).toNat % 2 ^ 8 := by
    rw [BitVec.toNat_and, BitVec.toNat_ofInt, h255, Nat.and_two_pow_sub_one_eq_mod]
  show IntKind.i64.wrap ((BitVec.ofInt 64 n &&& BitVec.ofInt 64 255).toNat : Nat) = n % 256
  rw [key, IntKind.wrap_i64]
  omega
/-- The slice v holds n bytes, in blocks below B. -/
def Bytes (B : Nat) (w : World) (v : Value) (n : Nat) : Prop :=
  ∃ A c, v = .slice A n c ∧ n ≤ c ∧ c ≤ 9223372036854775807 ∧ (0 < n → ∃ b off, A = some ⟨b, off, none⟩ ∧ b < B ∧ ∀ k, k < n → ∃ u : Int, 0 ≤ u ∧ u ≤ 255 ∧ w.cell? ⟨b, off + k, none⟩ = some (.int .u8 u))
theorem Bytes.below {B B' : Nat} {w w' : World} {v : Value} {n : Nat} (h : Bytes B w v n) (hb : Below B' w w') (hB : B ≤ B') : Bytes B w' v n := by
  obtain ⟨A, c, hv, h1, h2, h3⟩ := h
  refine ⟨A, c, hv, h1, h2, fun hn => ?_⟩
  obtain ⟨b, off, hA, hlt, hc⟩ := h3 hn
  refine ⟨b, off, hA, hlt, fun k hk => ?_⟩
  obtain ⟨u, h4, h5, h6⟩ := hc k hk
  exact ⟨u, h4, h5, (hb.cell (p := ⟨b, off + k, none⟩) (by show b < _; omega)).trans h6⟩
theorem Bytes.mono {B B' : Nat} {w : World} {v : Value} {n : Nat} (h : Bytes B w v n) (hB : B ≤ B') : Bytes B' w v n := by
  obtain ⟨A, c, hv, h1, h2, h3⟩ := h
  refine ⟨A, c, hv, h1, h2, fun hn => ?_⟩
  obtain ⟨b, off, hA, hlt, hc⟩ := h3 hn
  exact ⟨b, off, hA, by omega, hc⟩
/-- Block g is a cursor: bytes, a place, a number. -/
def Cur (g : Nat) (w : World) : Prop := ∃ (v : Value) (n i : Nat) (h : Int), g < w.heap.size ∧ Bytes g w v n ∧ n ≤ 1048576 ∧ i ≤ 4611686018427387904 ∧ w.cell? ⟨g, 0, none⟩ = some v ∧ w.cell? ⟨g, 1, none⟩ = some (iv i) ∧ w.cell? ⟨g, 2, none⟩ = some (iv h) ∧ w.frozen? ⟨g, 1, none⟩ = false ∧ w.frozen? ⟨g, 2, none⟩ = false
theorem Bytes.set {g : Nat} {w : World} {v : Value} {n : Nat} (h : Bytes g w v n) (k : Nat) (u : Value) : Bytes g (w.setCell ⟨g, k, none⟩ u) v n :=
  h.below ((Below.refl g w).setCell (p := ⟨g, k, none⟩) (Nat.le_refl _) u) (Nat.le_refl _)
theorem Cur.set1 {g : Nat} {w : World} (h : Cur g w) {j : Nat} (hj : j ≤ 4611686018427387904) : Cur g (w.setCell ⟨g, 1, none⟩ (iv j)) := by
  obtain ⟨v, n, i, x, h0, h1, h2, h3, h4, h5, h6, h7, h8⟩ := h
  refine ⟨v, n, j, x, by simpa using h0, h1.set 1 _, h2, hj, ?_, ?_, ?_, ?_, ?_⟩ <;> simp [go_sem, h4, h5, h6, h7, h8]
theorem Cur.set2 {g : Nat} {w : World} (h : Cur g w) (y : Int) : Cur g (w.setCell ⟨g, 2, none⟩ (iv y)) := by
  obtain ⟨v, n, i, x, h0, h1, h2, h3, h4, h5, h6, h7, h8⟩ := h
  refine ⟨v, n, i, y, by simpa using h0, h1.set 2 _, h2, h3, ?_, ?_, ?_, ?_, ?_⟩ <;> simp [go_sem, h4, h5, h6, h7, h8]
theorem Cur.below {g : Nat} {w w' : World} (h : Cur g w) (hb : Below w.heap.size w w') : Cur g w' := by
  obtain ⟨v, n, i, x, h0, h1, h2, h3, h4, h5, h6, h7, h8⟩ := h
  obtain ⟨hc, hf⟩ := bcell hb
  exact ⟨v, n, i, x, Nat.lt_of_lt_of_le h0 hb.size, h1.below hb (Nat.le_of_lt h0), h2, h3, (hc _ _ h0).trans h4, (hc _ _ h0).trans h5, (hc _ _ h0).trans h6, (hf _ _ h0).trans h7, (hf _ _ h0).trans h8⟩
theorem Cur.drewN {g : Nat} {w : World} (h : Cur g w) (n : Nat) : Cur g (w.drewN n) := h.below (below_drewN (Below.refl _ _) n)
theorem Cur.drew {g : Nat} {w : World} (h : Cur g w) : Cur g w.drew := h.below (Below.refl _ _).drew
/-- The call returned a number with P; block g is a cursor still, and no other old block was written. -/
def CurInt (g : Nat) (P : Int → Prop) (w : World) (e : Ending) (w' : World) : Prop := ∃ r, e = .returned (iv r) ∧ P r ∧ Cur g w' ∧ w.grownBy w' (some g)
theorem grown_drewN {w w' : World} {row : Option Nat} (h : w.grownBy w' row) (n : Nat) : w.grownBy (w'.drewN n) row := ⟨h.os, h.tape, h.output, h.size, h.block⟩
theorem grown_set {w w' : World} {g : Nat} (h : w.grownBy w' (some g)) (k : Nat) (u : Value) : w.grownBy (w'.setCell ⟨g, k, none⟩ u) (some g) :=
  ⟨h.os, h.tape, h.output, by simpa using h.size, fun i hi hne => (Below.heap_setCell _ _ _ _ (fun e => hne (congrArg some e))).trans (h.block i hi hne)⟩
theorem grown_below {w a b : World} {g : Nat} (h : w.grownBy a (some g)) (h2 : Below a.heap.size a b) : w.grownBy b (some g) :=
  ⟨h2.os.trans h.os, h2.tape.trans h.tape, h2.output.trans h.output, Nat.le_trans h.size h2.size, fun i hi hne => (h2.block i (Nat.lt_of_lt_of_le hi h.size)).trans (h.block i hi hne)⟩
/-- What lies below the cursor stands. -/
theorem cur_stay {B : Nat} {a w w' : World} {g : Nat} (h : Below B a w) (hg : w.grownBy w' (some g)) (hB : B ≤ g) (hw : g < w.heap.size) : Below B a w' := h.grown hg (by omega) (fun k hk => by injection hk with hk; omega)
/-- An array above the cursor stands. -/
theorem Own.cur {w w' : World} {E s lo hi n g : Nat} {v : Value} {xs : List Value} (h : Own w E s v lo hi n xs) (hg : w.grownBy w' (some g)) (hl : g < lo) (hh : hi ≤ w.heap.size) : Own w' E s v lo hi n xs := by
  obtain ⟨⟨hn, h1⟩, h2⟩ := h
  refine ⟨⟨hn, ?_⟩, h2⟩
  rcases h1 with h1 | ⟨q, cap, cur, rfl, r0, r1, r2⟩
  · exact .inl h1
  · exact .inr ⟨q, cap, cur, rfl, r0, (hg.block q (by have := h2 q rfl; omega) (by intro e; injection e with e; omega)).trans r1, r2⟩

set_option maxHeartbeats 2000000 in
theorem l1Byte_any {g : Nat} (w : World) (hc : Cur g w) :
    Calls Try.prog 161 #[.pointer (some ⟨g, 0, none⟩)] w (CurInt g (fun r => 0 ≤ r ∧ r ≤ 255) w) := by
  have HC := hid hc
  obtain ⟨v, n, i, h, h0, -, h2, h3, h4, h5, h6, h7, h8⟩ := hc
  go_enter Try.func161, Try.ntmps161
  go_wp2
  go_quiet (fail)
  rename_i nq
  generalize wrap64 (wrap64 (h * 6364136223846793005) + 1442695040888963407) = X
  generalize hr : bits BinOp.and IntKind.i64 (bits BinOp.xor IntKind.i64 (X / 8589934592) (X / 140737488355328)) 255 = r
  have hr0 : 0 ≤ r ∧ r ≤ 255 := by rw [← hr, and255]; omega
  have HG1 : w.grownBy ((w.setCell ⟨g, 2, none⟩ (iv X)).drewN nq) (some g) := grown_drewN (grown_set (World.grownBy.refl w _) 2 _) nq
  have HC1 : Cur g ((w.setCell ⟨g, 2, none⟩ (iv X)).drewN nq) := (HC.out.set2 X).drewN nq
  generalize ((w.setCell ⟨g, 2, none⟩ (iv X)).drewN nq) = w1 at HG1 HC1 ⊢
  clear hr h2 h3 h4 h5 h6 h7 h8 HC h0
  obtain ⟨hr1, hr2⟩ := hr0
  have HCC := hid HC1
  replace HG1 := hid HG1
  obtain ⟨v, n, i, h, h0, ⟨A, c, rfl, hb1, hb2, hb3⟩, h2, h3, h4, h5, h6, h7, h8⟩ := HC1
  have hi0 : (0 : Int) ≤ (i : Int) := Int.natCast_nonneg _
  by_cases hi : i < n
  · obtain ⟨b, off, rfl, hbg, hcc⟩ := hb3 (by omega)
    obtain ⟨u, hu0, hu1, hu⟩ := hcc i hi
    have hi1 : (i : Int) < (n : Int) := by omega
    clear hb3 hcc
    go_wp2
    go_quiet (fail)
    go_wp2
    go_quiet (fail)
    go_wp2
    go_ret
    refine ⟨_, rfl, by rw [and255]; omega, ?_, grown_set (grown_drewN HG1.out _) 1 _⟩
    rw [show (Value.int .i64 ((i : Int) + 1)) = iv ((i + 1 : Nat) : Int) by rw [show ((i + 1 : Nat) : Int) = (i : Int) + 1 by omega]]
    exact (HCC.out.drewN _).set1 (by omega)
  · have hi1 : decide (i < n) = false := by simpa using hi
    have hi2 : decide ((i : Int) < (n : Int)) = false := by simpa using hi
    clear hb3
    go_wp2
    go_quiet (fail)
    go_wp2
    go_ret
    exact ⟨_, rfl, ⟨hr1, hr2⟩, HCC.out.drewN _, grown_drewN HG1.out _⟩
/-- A number below n (0 where n is not above 0). -/
def Lt (n r : Int) : Prop := 0 ≤ r ∧ (0 < n → r < n) ∧ (n ≤ 0 → r = 0)
theorem lt_mod {n r : Int} (hn : 0 < n) : Lt n (r % n) := ⟨Int.emod_nonneg _ (by omega), fun _ => Int.emod_lt_of_pos _ hn, fun h => by omega⟩
set_option maxHeartbeats 2000000 in
theorem l1Below_any {g : Nat} (n : Int) (w : World) (hc : Cur g w) :
    Calls Try.prog 105 #[.pointer (some ⟨g, 0, none⟩), iv n] w (CurInt g (Lt n) w) := by
  have HC := hid hc
  clear hc
  by_cases h0 : n ≤ 0
  · go_enter Try.func105, Try.ntmps105
    go_wp2
    go_ret
    exact ⟨0, rfl, ⟨by omega, fun h => by omega, fun _ => rfl⟩, HC.out, World.grownBy.refl _ _⟩
  have hn : 0 < n := by omega
  have hn1 : 1 ≤ n := by omega
  clear h0
  by_cases h1 : n ≤ 256
  · go_enter Try.func105, Try.ntmps105
    go_wp2_with fail
    refine (l1Byte_any _ HC.out).mono ?_
    rintro e w1 ⟨r, rfl, ⟨hr0, hr1⟩, hc1, hg1⟩
    have HC1 := hid hc1
    have HG1 := hid hg1
    clear hc1 hg1
    go_wp2
    go_ret
    exact ⟨_, rfl, lt_mod hn, HC1.out, HG1.out⟩
  · have h1p : 256 < n := by omega
    clear h1
    go_enter Try.func105, Try.ntmps105
    go_wp2_with fail
    refine (l1Byte_any _ HC.out).mono ?_
    rintro e w1 ⟨x, rfl, ⟨hx0, hx1⟩, hc1, hg1⟩
    have HC1 := hid hc1
    have HG1 := hid hg1
    clear hc1 hg1
    go_wp2_with fail
    refine (l1Byte_any _ HC1.out).mono ?_
    rintro e w2 ⟨y, rfl, ⟨hy0, hy1⟩, hc2, hg2⟩
    have HC2 := hid hc2
    have HG2 := hid (HG1.out.trans hg2)
    clear hc2 hg2
    go_wp2_with fail
    refine (l1Byte_any _ HC2.out).mono ?_
    rintro e w3 ⟨z, rfl, ⟨hz0, hz1⟩, hc3, hg3⟩
    have HC3 := hid hc3
    have HG3 := hid (HG2.out.trans hg3)
    clear hc3 hg3
    go_wp2
    go_ret
    exact ⟨_, rfl, lt_mod hn, HC3.out, HG3.out⟩
def CurBool (g : Nat) (w : World) (e : Ending) (w' : World) : Prop := ∃ b, e = .returned (.bool b) ∧ Cur g w' ∧ w.grownBy w' (some g)
set_option maxHeartbeats 1000000 in
theorem l1Once_any {g : Nat} (n : Int) (w : World) (hc : Cur g w) :
    Calls Try.prog 104 #[.pointer (some ⟨g, 0, none⟩), iv n] w (CurBool g w) := by
  have HC := hid hc
  clear hc
  go_enter Try.func104, Try.ntmps104
  go_wp2_with fail
  refine (l1Below_any _ _ HC.out).mono ?_
  rintro e w1 ⟨r, rfl, -, hc1, hg1⟩
  have HC1 := hid hc1
  have HG1 := hid hg1
  clear hc1 hg1
  go_wp2
  go_ret
  exact ⟨_, rfl, HC1.out, HG1.out⟩
set_option maxHeartbeats 1000000 in
theorem l1Int_any {g B : Nat} {zs : List Int} {v : Value} (w : World) (hc : Cur g w) (hv : Si B w v zs) (hB : B ≤ w.heap.size) (hne : ∀ b off n c, v = .slice (some ⟨b, off, none⟩) n c → b ≠ g) (hl : 0 < zs.length) :
    Calls Try.prog 118 #[.pointer (some ⟨g, 0, none⟩), v] w (CurInt g (fun r => r ∈ zs) w) := by
  have HC := hid hc
  obtain ⟨A, c, rfl, hc1, hc2, -, hcell⟩ := hv
  obtain ⟨b, off, rfl, hbB, hcc⟩ := hcell hl
  have hbg := hne b off _ _ rfl
  have HCC := hid hcc
  have hlp : (0 : Int) < (zs.length : Int) := by omega
  clear hcell hcc hne hc
  go_enter Try.func118, Try.ntmps118
  go_wp2_with fail
  refine (l1Below_any _ _ HC.out).mono ?_
  rintro e w1 ⟨r, rfl, ⟨hr0, hr1, -⟩, hc1', hg1⟩
  have HC1 := hid hc1'
  have HG1 := hid hg1
  obtain ⟨k, rfl⟩ : ∃ k : Nat, r = k := ⟨r.toNat, by omega⟩
  have hk : k < zs.length := by have := hr1 hlp; omega
  have hkp : (k : Int) < (zs.length : Int) := by omega
  have c0 := (hg1.cell_far ⟨b, off + k, none⟩ (by show b < _; omega) (by intro e; injection e with e; exact hbg e)).trans (HCC.out k hk)
  clear hc1' hg1 hr1
  go_wp2
  go_ret
  exact ⟨_, rfl, by rw [nth, List.getD, List.getElem?_eq_getElem hk]; exact List.getElem_mem hk, HC1.out, HG1.out⟩
set_option maxRecDepth 16000 in
set_option maxHeartbeats 2000000 in
theorem l1New_any {n : Nat} {v : Value} (w : World) (hv : Bytes w.heap.size w v n) (hn : n ≤ 1048576) :
    Calls Try.prog 102 #[v] w fun e w' => e = .returned (.pointer (some ⟨w.heap.size, 0, none⟩)) ∧ Cur w.heap.size w' ∧ Below w.heap.size w w' := by
  have HV := hid hv
  obtain ⟨A, c, rfl, hc1, hc2, hcell⟩ := hv
  have HC := hid hcell
  clear hcell
  go_enter Try.func102, Try.ntmps102
  go_wp2
  go_loop [3, 4] (fun h i => ∃ k : Nat, ∃ x : Int, k ≤ n ∧ i = .int .i64 k ∧ h = .int .i64 x) (fun _ i => n - (intOf i).toNat)
  case atStart => exact ⟨0, _, Nat.zero_le _, rfl, rfl⟩
  case round =>
    obtain ⟨k, x, hk, rfl, rfl⟩ := hrel
    have hend : Cur w.heap.size (w.alloc (.cells #[.slice A n c, iv 0, iv x] 201)) := by
      refine ⟨_, n, 0, x, by simp, HV.out.below (below_alloc _ _) (Nat.le_refl _), hn, by omega, ?_, ?_, ?_, ?_, ?_⟩ <;> simp [go_sem]
    have HE := hid hend
    clear hend
    by_cases hlt : k < n
    · by_cases h4 : (k : Int) < 4000
      · obtain ⟨b, off, rfl, hbB, hcc⟩ := HC.out (by omega)
        obtain ⟨u, hu0, hu1, hu⟩ := hcc k hlt
        clear HC hcc HE
        go_wp2
        go_round
        case rel => exact ⟨k + 1, _, by omega, by go_num, rfl⟩
        case measure => simp [intOf]; omega
      · have h4d : decide ((k : Int) < 4000) = false := by simpa using h4
        have hkn : (k : Int) < (n : Int) := by omega
        clear HC h4
        go_wp2
        go_ret
        exact ⟨rfl, HE.out, below_alloc _ _⟩
    · clear HC
      go_wp2
      go_ret
      exact ⟨rfl, HE.out, below_alloc _ _⟩
end Go.Proofs.Ytkdpfbodmfjkkaa
