/- Words for memory and small plain lemmas that all texts of this seat share. No condition: nothing here speaks of the program. -/
import Derived.WalkKit
import Derived.WalkSpells
import Derived.WalkLawsBesides
import Derived.Deep.QuietTactic
import Derived.BigQuiet
import Derived.Deep.RegionHeld3
namespace Go.Proofs.Ytkdpfbodmfjkkaa
open Go.RowKit

theorem hid {p : Prop} (h : p) : Hid p := h
/-- An int as a value. -/
abbrev iv (n : Int) : Value := .int .i64 n
/-- The number at place k. -/
def nth (zs : List Int) (k : Nat) : Int := zs.getD k 0
theorem nth_get {zs : List Int} {k : Nat} (h : k < zs.length) : zs[k]? = some (nth zs k) := by simp [nth, List.getD, List.getElem?_eq_getElem h]
/-- Field j of row k. -/
def fld (ks : List (List Int)) (k j : Nat) : Int := (ks.getD k []).getD j 0
/-- The rows' cells, one behind the other. -/
def flat (ks : List (List Int)) : List Value := ks.flatten.map (Value.int .i64)
/-- The slice v reads as the rows ks, each of s ints, in blocks below B. -/
def Sl (B : Nat) (w : World) (s : Nat) (v : Value) (ks : List (List Int)) : Prop :=
  ∃ A c, v = .slice A ks.length c ∧ ks.length ≤ c ∧ c ≤ 9223372036854775807 ∧ (A = none → c = 0) ∧ (0 < ks.length → ∃ b off, A = some ⟨b, off, none⟩ ∧ b < B ∧ ∀ k j, k < ks.length → j < s → w.cell? ⟨b, off + k * s + j, none⟩ = some (.int .i64 (fld ks k j)))
/-- The slice v reads as the ints zs, in blocks below B. -/
def Si (B : Nat) (w : World) (v : Value) (zs : List Int) : Prop :=
  ∃ A c, v = .slice A zs.length c ∧ zs.length ≤ c ∧ c ≤ 9223372036854775807 ∧ (A = none → c = 0) ∧ (0 < zs.length → ∃ b off, A = some ⟨b, off, none⟩ ∧ b < B ∧ ∀ k, k < zs.length → w.cell? ⟨b, off + k, none⟩ = some (.int .i64 (nth zs k)))
/-- The call returned v and what was in memory stands. -/
def Ret (v : Value) (w : World) (e : Ending) (w' : World) : Prop := e = .returned v ∧ Below w.heap.size w w'
/-- v is a slice of n elements (type E, s cells each) whose array lies in a block from lo on and below hi, with the cells xs. -/
def Own (w : World) (E s : Nat) (v : Value) (lo hi n : Nat) (xs : List Value) : Prop := w.ownsRow lo E s v n xs ∧ ∀ g, v.ownBlock = some g → g < hi
/-- The call returned a slice of its own with the cells xs; what was in memory stands. -/
def RetOwn (E s n : Nat) (xs : List Value) (w : World) (e : Ending) (w' : World) : Prop :=
  ∃ v, e = .returned v ∧ Own w' E s v w.heap.size w'.heap.size n xs ∧ Below w.heap.size w w'

theorem heap_below {B : Nat} {w w' : World} (h : Below B w w') : w.heap.size ≤ w'.heap.size := h.size

theorem Sl.below {B B' s : Nat} {w w' : World} {v : Value} {ks : List (List Int)} (h : Sl B w s v ks) (hb : Below B' w w') (hB : B ≤ B') : Sl B w' s v ks := by
  obtain ⟨A, c, hv, h1, h2, h0, h3⟩ := h
  refine ⟨A, c, hv, h1, h2, h0, fun hn => ?_⟩
  obtain ⟨b, off, hA, hlt, hc⟩ := h3 hn
  exact ⟨b, off, hA, hlt, fun k j hk hj => (hb.cell (p := ⟨b, off + k * s + j, none⟩) (by show b < _; omega)).trans (hc k j hk hj)⟩
theorem Sl.mono {B B' s : Nat} {w : World} {v : Value} {ks : List (List Int)} (h : Sl B w s v ks) (hB : B ≤ B') : Sl B' w s v ks := by
  obtain ⟨A, c, hv, h1, h2, h0, h3⟩ := h
  refine ⟨A, c, hv, h1, h2, h0, fun hn => ?_⟩
  obtain ⟨b, off, hA, hlt, hc⟩ := h3 hn
  exact ⟨b, off, hA, by omega, hc⟩
theorem Si.below {B B' : Nat} {w w' : World} {v : Value} {zs : List Int} (h : Si B w v zs) (hb : Below B' w w') (hB : B ≤ B') : Si B w' v zs := by
  obtain ⟨A, c, hv, h1, h2, h0, h3⟩ := h
  refine ⟨A, c, hv, h1, h2, h0, fun hn => ?_⟩
  obtain ⟨b, off, hA, hlt, hc⟩ := h3 hn
  exact ⟨b, off, hA, hlt, fun k hk => (hb.cell (p := ⟨b, off + k, none⟩) (by show b < _; omega)).trans (hc k hk)⟩
theorem Si.mono {B B' : Nat} {w : World} {v : Value} {zs : List Int} (h : Si B w v zs) (hB : B ≤ B') : Si B' w v zs := by
  obtain ⟨A, c, hv, h1, h2, h0, h3⟩ := h
  refine ⟨A, c, hv, h1, h2, h0, fun hn => ?_⟩
  obtain ⟨b, off, hA, hlt, hc⟩ := h3 hn
  exact ⟨b, off, hA, by omega, hc⟩
theorem Own.below {w w' : World} {E s lo hi n B : Nat} {v : Value} {xs : List Value} (h : Own w E s v lo hi n xs) (hb : Below B w w') (hB : hi ≤ B) : Own w' E s v lo hi n xs := by
  obtain ⟨⟨hl, h1⟩, h2⟩ := h
  refine ⟨⟨hl, ?_⟩, h2⟩
  rcases h1 with h1 | ⟨g, cap, cur, rfl, r0, r1, r2⟩
  · exact .inl h1
  · exact .inr ⟨g, cap, cur, rfl, r0, (hb.block g (by have := h2 g rfl; omega)).trans r1, r2⟩
theorem Own.of {w : World} {E s lo n : Nat} {v : Value} {xs : List Value} (h : w.ownsRow lo E s v n xs) : Own w E s v lo w.heap.size n xs := ⟨h, fun g hg => (h.lt g hg).2⟩
theorem Own.mono {w : World} {E s lo hi lo' hi' n : Nat} {v : Value} {xs : List Value} (h : Own w E s v lo hi n xs) (h1 : lo' ≤ lo) (h2 : hi ≤ hi') : Own w E s v lo' hi' n xs := by
  obtain ⟨⟨hl, h3⟩, h4⟩ := h
  refine ⟨⟨hl, ?_⟩, fun g hg => by have := h4 g hg; omega⟩
  rcases h3 with h3 | ⟨g, cap, cur, rfl, r0, r⟩
  · exact .inl h3
  · exact .inr ⟨g, cap, cur, rfl, by omega, r⟩
theorem flat_get {ks : List (List Int)} {s : Nat} (hs : ∀ r ∈ ks, r.length = s) (k j : Nat) (hk : k < ks.length) (hj : j < s) : (flat ks)[k * s + j]? = some (.int .i64 (fld ks k j)) := by
  unfold flat fld
  rw [List.getElem?_map]
  have : ks.flatten[k * s + j]? = some ((ks.getD k []).getD j 0) := by
    induction ks generalizing k with
    | nil => simp at hk
    | cons r ks ih =>
      have hr : r.length = s := hs r (by simp)
      cases k with
      | zero => simp [List.getElem?_append_left (show j < r.length by omega), List.getD, List.getElem?_eq_getElem (show j < r.length by omega)]
      | succ k =>
        rw [List.flatten_cons, List.getElem?_append_right (by rw [hr, Nat.succ_mul]; omega)]
        have : (k + 1) * s + j - r.length = k * s + j := by rw [hr, Nat.succ_mul]; omega
        rw [this, ih (fun r h => hs r (by simp [h])) k (by simpa using hk)]
        simp
  rw [this]; rfl
theorem Own.sl {w : World} {E s lo hi : Nat} {v : Value} {ks : List (List Int)} (h : Own w E s v lo hi ks.length (flat ks)) (hs : ∀ r ∈ ks, r.length = s) : Sl hi w s v ks := by
  obtain ⟨⟨hl, h1⟩, h2⟩ := h
  rcases h1 with ⟨rfl, h0⟩ | ⟨g, cap, cur, rfl, r0, r1, r2, r3, r4, r5⟩
  · exact ⟨none, 0, by rw [h0], by omega, by omega, fun _ => rfl, fun hn => by omega⟩
  · refine ⟨some ⟨g, 0, none⟩, cap, rfl, r2, by unfold maxLen at r3; omega, (fun h => by cases h), fun _ => ⟨g, 0, rfl, h2 g rfl, fun k j hk hj => ?_⟩⟩
    have hlt : k * s + j < ks.length * s := by
      have : (k + 1) * s ≤ ks.length * s := Nat.mul_le_mul_right s hk
      rw [Nat.succ_mul] at this; omega
    rw [cell_of_row w g _ cur E (0, 0) r1, Nat.zero_add, ← flat_get hs k j hk hj, ← r5, List.getElem?_take, if_pos hlt]
    simp
theorem Own.si {w : World} {E lo hi : Nat} {v : Value} {zs : List Int} (h : Own w E 1 v lo hi zs.length (zs.map (Value.int .i64))) : Si hi w v zs := by
  obtain ⟨⟨hl, h1⟩, h2⟩ := h
  rcases h1 with ⟨rfl, h0⟩ | ⟨g, cap, cur, rfl, r0, r1, r2, r3, r4, r5⟩
  · exact ⟨none, 0, by rw [h0], by omega, by omega, fun _ => rfl, fun hn => by omega⟩
  · refine ⟨some ⟨g, 0, none⟩, cap, rfl, r2, by unfold maxLen at r3; omega, (fun h => by cases h), fun _ => ⟨g, 0, rfl, h2 g rfl, fun k hk => ?_⟩⟩
    have h6 : (cur.toList.take (zs.length * 1))[k]? = some (Value.int .i64 (nth zs k)) := by
      rw [r5, List.getElem?_map, nth_get hk]; rfl
    rw [cell_of_row w g _ cur E (0, 0) r1, Nat.zero_add, ← h6, List.getElem?_take, if_pos (by omega)]
    simp
/-- A cell of a slice of rows, in a later world. -/
theorem cell_at {B B' : Nat} {w w' : World} {b o : Nat} {v : Value} (hb : Below B' w w') (hB : b < B) (hBB : B ≤ B') (h : w.cell? ⟨b, o, none⟩ = some v) : w'.cell? ⟨b, o, none⟩ = some v :=
  (hb.cell (p := ⟨b, o, none⟩) (by show b < _; omega)).trans h

theorem ownsRow_form {w : World} {base e size n : Nat} {v : Value} {xs : List Value} (h : w.ownsRow base e size v n xs) : ∃ A c, v = .slice A n c := by
  rcases h.2 with ⟨rfl, rfl⟩ | ⟨g, cap, cur, rfl, _⟩
  · exact ⟨_, _, rfl⟩
  · exact ⟨_, _, rfl⟩
theorem ownsRow_some {w : World} {base e size n c : Nat} {A : Option Addr} {xs : List Value} (h : w.ownsRow base e size (.slice A n c) n xs) (hn : 0 < n) : ∃ g, A = some ⟨g, 0, none⟩ := by
  rcases h.2 with ⟨h1, h0⟩ | ⟨g, cap, cur, h1, _⟩
  · omega
  · simp only [Value.slice.injEq] at h1; exact ⟨g, h1.1⟩
theorem ownsRow_cell {w : World} {base e size n c g : Nat} {xs : List Value} (h : w.ownsRow base e size (.slice (some ⟨g, 0, none⟩) n c) n xs) {j : Nat} (hj : j < n * size) : ∃ u, w.cell? ⟨g, j, none⟩ = some u := by
  refine ⟨xs[j]'(by rw [h.1]; exact hj), ?_⟩
  rw [h.cellAt j hj]; exact List.getElem?_eq_getElem _
/-- Below, over many draws. -/
theorem below_drewN {B : Nat} {a w : World} (h : Below B a w) (n : Nat) : Below B a (w.drewN n) := ⟨h.os, h.tape, h.output, h.size, h.block⟩
/-- What a law writes into a slice to see whether two slices share memory. -/
def marks (k0 : Int) (n : Nat) : List Int := (List.range n).map fun i : Nat => k0 + (i : Int)
theorem marks_length (k0 : Int) (n : Nat) : (marks k0 n).length = n := by simp [marks]
theorem marks_get (k0 : Int) {n k : Nat} (h : k < n) : nth (marks k0 n) k = k0 + k := by simp [nth, marks, List.getD, h]
theorem marks_step (k0 : Int) (k : Nat) (xs : List Value) (hx : k < xs.length) : ((marks k0 k).map (Value.int .i64) ++ xs.drop k).set k (.int .i64 (k0 + k)) = (marks k0 (k + 1)).map (Value.int .i64) ++ xs.drop (k + 1) := by
  rw [List.drop_eq_getElem_cons hx]
  have hl : ((marks k0 k).map (Value.int .i64)).length = k := by simp [marks]
  rw [List.set_append_right _ _ (by omega), hl, Nat.sub_self, List.set_cons_zero]
  simp [marks, List.range_succ]

/-- 'make([]T, n)': a law of the model's, said of a known length, in every world. -/
theorem run_make_rowN {P : Program} (t e : TypeId) (i : TypeInfo) (z : Value) (ht : P.underlying t = some (.slice e)) (hi : P.info? e = some i) (hz : i.zero = some z)
    (kl kc : IntKind) (n c : Nat) (hnc : n ≤ c) (hbytes : i.bytes * c ≤ 281474976710656) (h63 : c ≤ 9223372036854775807) (w : World) :
    (Instr.makeSlice t (.int kl (n : Int)) (.int kc (c : Int))).run P w = .ok (.slice (some ⟨w.heap.size, 0, none⟩) n c) (w.alloc (.cells (madeCells z.cells (c * i.size)) e)) := by
  have hb : (i.bytes : Int) * (c : Int) ≤ 281474976710656 := by
    have h : ((i.bytes * c : Nat) : Int) ≤ 281474976710656 := by omega
    rwa [Int.natCast_mul] at h
  have hr := run_make (P := P) w t e i z ht hi hz kl kc n c (by omega) (by omega) hb (by omega)
  simp only [Int.toNat_natCast] at hr
  exact hr
/-- The cells of a new row of n elements. -/
def fresh (zc : Array Value) (m : Nat) : Array Value := madeCells zc m
theorem run_make_fresh {P : Program} (t e : TypeId) {z : Value} {size bytes : Nat} (ht : P.underlying t = some (.slice e)) (hinfo : (P.info? e).map (fun i => (i.zero, i.size, i.bytes)) = some (some z, size, bytes))
    (n : Nat) (hb : bytes * n ≤ 281474976710656) (h63 : n ≤ 9223372036854775807) (w : World) :
    (Instr.makeSlice t (.int .i64 (n : Int)) (.int .i64 (n : Int))).run P w = .ok (.slice (some ⟨w.heap.size, 0, none⟩) n n) (w.alloc (.cells (fresh z.cells (n * size)) e)) := by
  obtain ⟨i, hi, hz, hs, hy⟩ := info_parts hinfo
  have := run_make_rowN t e i z ht hi hz .i64 .i64 n n (Nat.le_refl _) (by rw [hy]; exact hb) h63 w
  rw [hs] at this
  exact this
theorem size_fresh (zc : Array Value) (m : Nat) : (fresh zc m).size = m := by simp [fresh, madeCells]

/-- The first m cells of xs are those of cs already. -/
def Upd (xs cs : List Value) (m : Nat) : Prop := xs.length = cs.length ∧ xs.take m = cs.take m
theorem Upd.zero {xs cs : List Value} (h : xs.length = cs.length) : Upd xs cs 0 := ⟨h, by simp⟩
theorem Upd.step {xs cs : List Value} {m : Nat} {u : Value} (h : Upd xs cs m) (hu : cs[m]? = some u) : Upd (xs.set m u) cs (m + 1) := by
  obtain ⟨h1, h2⟩ := h
  have hm : m < cs.length := (List.getElem?_eq_some_iff.1 hu).1
  refine ⟨by simpa using h1, ?_⟩
  rw [List.take_add_one, List.take_add_one, hu, List.take_set_of_le (Nat.le_refl m), h2]
  simp [h1, hm]
theorem Upd.done {xs cs : List Value} {m : Nat} (h : Upd xs cs m) (hm : cs.length ≤ m) : xs = cs := by
  obtain ⟨h1, h2⟩ := h
  rwa [List.take_of_length_le (by omega), List.take_of_length_le hm] at h2

theorem flat_length {ks : List (List Int)} {s : Nat} (hs : ∀ r ∈ ks, r.length = s) : (flat ks).length = ks.length * s := by
  unfold flat
  rw [List.length_map]
  induction ks with
  | nil => simp
  | cons r ks ih => rw [List.flatten_cons, List.length_append, hs r (by simp), ih (fun r h => hs r (by simp [h])), List.length_cons, Nat.succ_mul]; omega

theorem ownsRow_below {w w' : World} {base e size n B : Nat} {v : Value} {xs : List Value} (h : w.ownsRow base e size v n xs) (hb : Below B w w') (hg : ∀ g, v.ownBlock = some g → g < B) : w'.ownsRow base e size v n xs :=
  (Own.below (w := w) (w' := w') (lo := base) (hi := B) ⟨h, hg⟩ hb (Nat.le_refl _)).1

theorem below_step {w a b : World} (h : Below w.heap.size w a) (h2 : Below a.heap.size a b) : Below w.heap.size w b := h.trans (h2.mono h.size)

theorem marks_at (k0 : Int) {n k : Nat} {M : Int} (h : k < n) (hM : M = k0 + (k : Int)) : ((marks k0 n).map (Value.int .i64))[k]? = some (iv M) := by
  subst hM
  rw [List.getElem?_map, nth_get (by rw [marks_length]; exact h), marks_get k0 h]; rfl

/-- Behind a contract: what was there reads as before. -/
theorem bcell {B : Nat} {W w1 : World} (hb : Below B W w1) : (∀ b o, b < B → w1.cell? ⟨b, o, none⟩ = W.cell? ⟨b, o, none⟩) ∧ (∀ b o, b < B → w1.frozen? ⟨b, o, none⟩ = W.frozen? ⟨b, o, none⟩) :=
  ⟨fun b o h => hb.cell (p := ⟨b, o, none⟩) h, fun b o h => hb.frozen (p := ⟨b, o, none⟩) h⟩
theorem below_alloc (w : World) (o : Obj) : Below w.heap.size w (w.alloc o) := (Below.refl _ _).alloc (Nat.le_refl _) _
theorem below_size {w w1 : World} {o : Obj} (hb : Below (w.alloc o).heap.size (w.alloc o) w1) : w.heap.size < w1.heap.size := by
  have := hb.size; simp at this; omega

/-- A literal slice that the call made behind one other block. -/
theorem retOwn_lit {w : World} {o : Obj} {e size n : Nat} (cs : Array Value) (hm : n ≤ maxLen) (hs : cs.size = n * size) :
    RetOwn e size n cs.toList w (.returned (.slice (some ⟨w.heap.size + 1, 0, none⟩) n n)) ((w.alloc o).alloc (.cells cs e)) := by
  have h := World.ownsRow_lit (base := w.heap.size) (e := e) (size := size) (w.alloc o) cs n (by simp) hm hs
  exact ⟨_, rfl, Own.of (by simpa using h), (below_alloc _ _).alloc (by simp) _⟩

theorem Own.marks {w : World} {E lo hi n : Nat} {v : Value} {k0 : Int} (h : Own w E 1 v lo hi n ((marks k0 n).map (Value.int .i64))) : Si hi w v (Proofs.Ytkdpfbodmfjkkaa.marks k0 n) := by
  have h' : Own w E 1 v lo hi (Proofs.Ytkdpfbodmfjkkaa.marks k0 n).length ((Proofs.Ytkdpfbodmfjkkaa.marks k0 n).map (Value.int .i64)) := by rw [marks_length]; exact h
  exact h'.si

theorem Sl.step {s : Nat} {a b : World} {v : Value} {ks : List (List Int)} (h : Sl a.heap.size a s v ks) (hb : Below a.heap.size a b) : Sl b.heap.size b s v ks := (h.below hb (Nat.le_refl _)).mono hb.size
theorem Si.step {a b : World} {v : Value} {zs : List Int} (h : Si a.heap.size a v zs) (hb : Below a.heap.size a b) : Si b.heap.size b v zs := (h.below hb (Nat.le_refl _)).mono hb.size

/-- The same contract, the value written otherwise. -/
theorem ret_cast {P : Program} {f : FuncId} {args : Array Value} {w : World} {x y : Value} (h : x = y) (c : Calls P f args w (Ret x w)) : Calls P f args w (Ret y w) := h ▸ c

/- Looking for a row by one of its fields. -/
def NF (j : Nat) (num : Int) (ks : List (List Int)) (k : Nat) : Prop := ∀ i, i < k → fld ks i j ≠ num
def findI (j : Nat) (num : Int) (ks : List (List Int)) : Int := match ks.findIdx? (fun r => r.getD j 0 == num) with | some i => i | none => -1
theorem NF_zero (j num ks) : NF j num ks 0 := fun _ h => absurd h (by omega)
theorem NF_succ {j num ks k} (h : NF j num ks k) (e : (fld ks k j == num) = false) : NF j num ks (k + 1) := fun i hi => by
  by_cases hh : i = k
  · rw [hh]; simpa using e
  · exact h i (by omega)
theorem findI_hit {j num ks k} (h : NF j num ks k) (hk : k < ks.length) (e : (fld ks k j == num) = true) : findI j num ks = k := by
  have : ks.findIdx? (fun r => r.getD j 0 == num) = some k := by
    rw [List.findIdx?_eq_some_iff_getElem]
    refine ⟨hk, ?_, fun i hi => ?_⟩
    · simpa [fld, List.getD, List.getElem?_eq_getElem hk] using e
    · have h1 := h i hi
      have hi' : i < ks.length := by omega
      simpa [fld, List.getD, List.getElem?_eq_getElem hi'] using h1
  unfold findI; rw [this]
theorem findI_miss {j num ks k} (h : NF j num ks k) (hk : ks.length ≤ k) : findI j num ks = -1 := by
  have : ks.findIdx? (fun r => r.getD j 0 == num) = none := by
    rw [List.findIdx?_eq_none_iff]
    intro r hr
    obtain ⟨i, hi, rfl⟩ := List.getElem_of_mem hr
    have h1 := h i (by omega)
    simpa [fld, List.getD, List.getElem?_eq_getElem hi] using h1
  unfold findI; rw [this]
theorem findI_range (j num ks) : findI j num ks = -1 ∨ ∃ k : Nat, k < ks.length ∧ findI j num ks = k ∧ fld ks k j = num := by
  unfold findI
  cases h : ks.findIdx? (fun r => r.getD j 0 == num) with
  | none => exact .inl rfl
  | some k =>
    rw [List.findIdx?_eq_some_iff_getElem] at h
    obtain ⟨hk, h1, _⟩ := h
    exact .inr ⟨k, hk, rfl, by simpa [fld, List.getD, List.getElem?_eq_getElem hk] using h1⟩

theorem ret_congr {a b : Value} (h : a = b) : Ending.returned a = .returned b := by rw [h]
theorem ret_int {a b : Int} (h : a = b) : Ending.returned (iv a) = .returned (iv b) := by rw [h]
theorem ret_bool {a b : Bool} (h : a = b) : Ending.returned (.bool a) = .returned (.bool b) := by rw [h]

/- Tests. -/
def inR (n lo hi : Int) : Bool := decide (lo ≤ n) && decide (n ≤ hi)
def timeB (t : Int) : Bool := inR t 0 10000
def spanB (f t : Int) : Bool := timeB f && timeB t && decide (f ≤ t)
theorem inR_iff {n lo hi : Int} : inR n lo hi = true ↔ lo ≤ n ∧ n ≤ hi := by simp [inR]
theorem timeB_iff {t : Int} : timeB t = true ↔ 0 ≤ t ∧ t ≤ 10000 := by simp [timeB, inR]
theorem spanB_iff {f t : Int} : spanB f t = true ↔ 0 ≤ f ∧ f ≤ t ∧ t ≤ 10000 := by simp [spanB, timeB, inR]; omega
end Go.Proofs.Ytkdpfbodmfjkkaa
