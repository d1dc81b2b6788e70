/- How a law's arguments are opened and how its row is closed: structs of ints, slices of them, slices of ints. No condition. -/
import Derived.Test.YtkdpfbodmfjkkaaRows
import Derived.Test.YtkdpfbodmfjkkaaBase
import Derived.ProofKit
import Derived.Deep.Slices
import Derived.Deep.Fields
import Derived.ChangeSame
import Derived.OpenShut
namespace Go.Proofs.Ytkdpfbodmfjkkaa
open Go.ChangeShapes Go.WideShapes Go.ChangeAt Go.RowKit Go.Deep

theorem Try.own : ownKnob Try.prog.godebug = none := by kernel_rfl
theorem Try.laidOut : laidOutB Try.prog = true := by kernel_rfl
def inRange (z : Int) : Prop := -9223372036854775808 ≤ z ∧ z ≤ 9223372036854775807
theorem addr_add0 (b o j : Nat) : (⟨b, o, none⟩ : Addr).add j = ⟨b, o + j, none⟩ := by unfold Addr.add; split <;> simp_all
theorem inRange_of {z : Int} (h : (Lit.int .i64 z).wf = true) : inRange z := by
  have := bounds_i64 h
  unfold inRange
  omega

theorem list2 {zs : List Int} (h : zs.length = 2) : ∃ a0 a1, zs = [a0, a1] := by
  match zs, h with
  | [a0, a1], _ => exact ⟨_, _, rfl⟩
theorem list3 {zs : List Int} (h : zs.length = 3) : ∃ a0 a1 a2, zs = [a0, a1, a2] := by
  match zs, h with
  | [a0, a1, a2], _ => exact ⟨_, _, _, rfl⟩
theorem list4 {zs : List Int} (h : zs.length = 4) : ∃ a0 a1 a2 a3, zs = [a0, a1, a2, a3] := by
  match zs, h with
  | [a0, a1, a2, a3], _ => exact ⟨_, _, _, _, rfl⟩
theorem list5 {zs : List Int} (h : zs.length = 5) : ∃ a0 a1 a2 a3 a4, zs = [a0, a1, a2, a3, a4] := by
  match zs, h with
  | [a0, a1, a2, a3, a4], _ => exact ⟨_, _, _, _, _, rfl⟩
theorem list6 {zs : List Int} (h : zs.length = 6) : ∃ a0 a1 a2 a3 a4 a5, zs = [a0, a1, a2, a3, a4, a5] := by
  match zs, h with
  | [a0, a1, a2, a3, a4, a5], _ => exact ⟨_, _, _, _, _, _, rfl⟩
theorem list7 {zs : List Int} (h : zs.length = 7) : ∃ a0 a1 a2 a3 a4 a5 a6, zs = [a0, a1, a2, a3, a4, a5, a6] := by
  match zs, h with
  | [a0, a1, a2, a3, a4, a5, a6], _ => exact ⟨_, _, _, _, _, _, _, rfl⟩
theorem list8 {zs : List Int} (h : zs.length = 8) : ∃ a0 a1 a2 a3 a4 a5 a6 a7, zs = [a0, a1, a2, a3, a4, a5, a6, a7] := by
  match zs, h with
  | [a0, a1, a2, a3, a4, a5, a6, a7], _ => exact ⟨_, _, _, _, _, _, _, _, rfl⟩
theorem list9 {zs : List Int} (h : zs.length = 9) : ∃ a0 a1 a2 a3 a4 a5 a6 a7 a8, zs = [a0, a1, a2, a3, a4, a5, a6, a7, a8] := by
  match zs, h with
  | [a0, a1, a2, a3, a4, a5, a6, a7, a8], _ => exact ⟨_, _, _, _, _, _, _, _, _, rfl⟩

section
variable {H : Type} {enc : TypeId × Value → H} {P : Program} {w : World} {base : Nat} {spare : Nat → Bool} {held : Bool}
theorem trod_int_list {fs : Array Field} {n : Nat} (hT : ∀ (j : Nat) (f : Field), fs[j]? = some f → f.offset = j ∧ P.cellsOf f.type = 1 ∧ P.underlying f.type = some (.int .i64))
    {cs : List Value} {xs : List (DataW H × List MemPlace)} (hlen : cs.length = fs.size) (hx : xs.length = fs.size)
    (hg : ∀ (i : Nat) (f : Field), fs[i]? = some f → DataW.trod enc P w base spare held n f.type ((cs.drop f.offset).take (P.cellsOf f.type)) = xs[i]?) :
    ∃ zs : List Int, cs = zs.map (Value.int .i64) ∧ ∀ z ∈ zs, inRange z := by
  have key : ∀ j, j < cs.length → ∃ z : Int, cs[j]? = some (.int .i64 z) ∧ inRange z := by
    intro j hj
    have hf : fs[j]? = some (fs[j]'(by omega)) := Array.getElem?_eq_getElem (by omega)
    obtain ⟨o, k1, u⟩ := hT j _ hf
    have h1 := hg j _ hf
    rw [o, k1, List.drop_eq_getElem_cons hj, List.getElem?_eq_getElem (show j < xs.length by omega)] at h1
    have h2 : List.take 1 (cs[j] :: List.drop (j + 1) cs) = [cs[j]] := rfl
    rw [h2] at h1
    obtain ⟨z, hz, _, hw⟩ := DataW.trod_int u h1
    injection hz with hz
    exact ⟨z, by rw [List.getElem?_eq_getElem hj, hz], inRange_of hw⟩
  clear hg hlen hx hT
  induction cs with
  | nil => exact ⟨[], rfl, by simp⟩
  | cons c cs ih =>
    obtain ⟨z, hz, hr⟩ := key 0 (by simp)
    obtain ⟨zs, hzs, hrs⟩ := ih (fun j hj => by simpa using key (j + 1) (by simpa using hj))
    simp at hz
    refine ⟨z :: zs, by rw [hz, hzs]; rfl, fun y hy => ?_⟩
    rcases List.mem_cons.1 hy with rfl | hy
    · exact hr
    · exact hrs y hy
theorem allInt {fs : Array Field} (hT : fs.all (fun f => f.type == 3) = true) (j : Nat) (f : Field) (hj : fs[j]? = some f) : f.type = 3 := by
  have hlt := (Array.getElem?_eq_some_iff.1 hj)
  obtain ⟨h1, rfl⟩ := hlt
  have := Array.all_eq_true.1 hT j h1
  simpa using this
/-- A struct of ints by value. -/
theorem open_ints_agg {r : Reach} {b0 N : Nat} {t : TypeId} {fs : Array Field} {v : Value} {d : DataW H} {p : List MemPlace} (hs : P.underlying t = some (.struct fs)) (hone : oneCellFields P fs = true) (hC : P.cellsOf t = N) (hF : fs.size = N)
    (h3 : P.underlying 3 = some (.int .i64)) (hT : fs.all (fun f => f.type == 3) = true) (hv : Value.okWide P w r b0 t v) (h : DataW.Trod enc P w base spare held t v d p) :
    ∃ zs : List Int, zs.length = N ∧ v = .agg (zs.map (Value.int .i64)).toArray ∧ ∀ z ∈ zs, inRange z := by
  obtain ⟨cs, rfl, hsz⟩ := okWide_struct hs hv
  obtain ⟨l⟩ := cs
  obtain ⟨fuel, hf⟩ := h
  obtain ⟨xs, n, _, _, _, hlen, hg⟩ := DataW.trod_struct hs hf
  obtain ⟨zs, hzs, hr⟩ := trod_int_list (cs := l) (fun j f hj => ⟨(hone_of hone j f hj).1, (hone_of hone j f hj).2, by rw [allInt hT j f hj]; exact h3⟩) (by simp at hsz; omega) hlen (fun i f hi => by simpa [Value.cells] using hg i f hi)
  refine ⟨zs, ?_, by rw [hzs], hr⟩
  have : l.length = N := by simpa using hsz.trans hC
  rw [hzs, List.length_map] at this
  exact this
theorem spot_none {w : World} {a : Addr} {v : Value} (h : w.cell? a = some v) : ∃ b off, a = ⟨b, off, none⟩ ∧ b < w.heap.size := by
  have h1 := World.cell?_spot h
  have h2 := World.block_lt_of_cell? w _ h
  obtain ⟨b, off, spot⟩ := a
  simp only at h1
  subst h1
  exact ⟨b, off, rfl, h2⟩
/-- A slice of structs of ints reads as rows. -/
theorem open_rows {t e : TypeId} {fs : Array Field} {N : Nat} {v : Value} {d : DataW H} {p : List MemPlace} {r : Reach} {b0 : Nat} (ht : P.underlying t = some (.slice e)) (he : P.underlying e = some (.struct fs)) (hone : oneCellFields P fs = true) (hC : P.cellsOf e = N) (hF : fs.size = N) (hN : 0 < N)
    (h3 : P.underlying 3 = some (.int .i64)) (hT : fs.all (fun f => f.type == 3) = true) (hv : Value.okWide P w r b0 t v) (h : DataW.Trod enc P w base spare held t v d p) :
    ∃ ks : List (List Int), Sl w.heap.size w N v ks ∧ (∀ l ∈ ks, l.length = N) ∧ ∀ l ∈ ks, ∀ z ∈ l, inRange z := by
  obtain ⟨a0, len0, cap0, rfl⟩ := okWide_slice ht hv
  obtain ⟨fuel, hf⟩ := h
  rcases open_slice ht hf with ⟨hcs, _⟩ | ⟨a, len, cap, m, n, D, Pl, hcs, _, hl, hm, hmm, _, hi⟩
  · simp [Value.cells] at hcs
    obtain ⟨rfl, rfl, rfl⟩ := hcs
    exact ⟨[], ⟨none, 0, rfl, by simp, by omega, fun _ => rfl, fun h => by simp at h⟩, by simp, by simp⟩
  · simp [Value.cells] at hcs
    obtain ⟨rfl, rfl, rfl⟩ := hcs
    have hlm : len0 ≤ m := by rw [hmm]; split <;> omega
    have key : ∀ i, i < len0 → ∃ zs : List Int, zs.length = N ∧ (∀ z ∈ zs, inRange z) ∧ ∀ j, j < N → w.cell? (a.add (i * N + j)) = some (.int .i64 (zs.getD j 0)) := by
      intro i hil
      obtain ⟨cs', hc, ht'⟩ := hi i (by omega)
      rw [hC] at hc
      obtain ⟨ys, n', _, _, hlen, hyl, hg⟩ := DataW.trod_struct he ht'
      obtain ⟨_, hcl, hat⟩ := World.cells?_some hc
      obtain ⟨zs, hzs, hr⟩ := trod_int_list (cs := cs') (fun j f hj => ⟨(hone_of hone j f hj).1, (hone_of hone j f hj).2, by rw [allInt hT j f hj]; exact h3⟩) (by omega) hyl hg
      have hzl : zs.length = N := by rw [← hcl, hzs, List.length_map]
      refine ⟨zs, hzl, hr, fun j hj => ?_⟩
      rw [← Go.Deep.add_add, hat j hj, hzs, List.getElem?_map, nth_get (by omega)]
      rfl
    rcases Nat.eq_zero_or_pos len0 with h0 | hpos
    · subst h0
      refine ⟨[], ⟨some a, cap0, rfl, by simp, by unfold maxLen at hm; omega, (fun h => by cases h), fun h => by simp at h⟩, by simp, by simp⟩
    · obtain ⟨zs0, hz0, _, hc0⟩ := key 0 hpos
      have hc00 := hc0 0 hN
      obtain ⟨b, off, hab, hblt⟩ := spot_none hc00
      have ha : a = ⟨b, off, none⟩ := by
        obtain ⟨b', off', spot⟩ := a
        simp [Addr.add] at hab
        obtain ⟨rfl, rfl, rfl⟩ := hab
        rfl
      subst ha
      have hch : ∃ f : Nat → List Int, ∀ i, i < len0 → (f i).length = N ∧ (∀ z ∈ f i, inRange z) ∧ ∀ j, j < N → w.cell? ((⟨b, off, none⟩ : Addr).add (i * N + j)) = some (.int .i64 ((f i).getD j 0)) :=
        ⟨fun i => if hil : i < len0 then Classical.choose (key i hil) else [], fun i hil => by simp only [hil, dite_true]; exact Classical.choose_spec (key i hil)⟩
      obtain ⟨f, hf'⟩ := hch
      have hlen' : ((List.range len0).map f).length = len0 := by simp
      refine ⟨(List.range len0).map f, ⟨some ⟨b, off, none⟩, cap0, by rw [hlen'], by rw [hlen']; exact hl, by unfold maxLen at hm; omega, (fun h => by cases h), fun _ => ⟨b, off, rfl, hblt, fun k j hk hj => ?_⟩⟩, fun l hl' => ?_, fun l hl' => ?_⟩
      · rw [hlen'] at hk
        have h1 := (hf' k hk).2.2 j hj
        rw [addr_add0, ← Nat.add_assoc] at h1
        rw [h1]
        simp [fld, List.getD, hk]
      · obtain ⟨i, hi', rfl⟩ := List.mem_map.1 hl'
        exact (hf' i (List.mem_range.1 hi')).1
      · obtain ⟨i, hi', rfl⟩ := List.mem_map.1 hl'
        exact (hf' i (List.mem_range.1 hi')).2.1
/-- A slice of ints. -/
theorem open_si {t : TypeId} {v : Value} {d : DataW H} {p : List MemPlace} {r : Reach} {b0 : Nat} (ht : P.underlying t = some (.slice 3)) (h3 : P.underlying 3 = some (.int .i64)) (hC : P.cellsOf 3 = 1)
    (hv : Value.okWide P w r b0 t v) (h : DataW.Trod enc P w base spare held t v d p) : ∃ zs : List Int, Si w.heap.size w v zs ∧ ∀ z ∈ zs, inRange z := by
  obtain ⟨a0, len0, cap0, rfl⟩ := okWide_slice ht hv
  obtain ⟨fuel, hf⟩ := h
  rcases open_ints ht h3 hC hf with ⟨hcs, _⟩ | ⟨a, len, cap, zs, hcs, _, hl, hm, hzl, _, hcell, hwf⟩
  · simp [Value.cells] at hcs
    obtain ⟨rfl, rfl, rfl⟩ := hcs
    exact ⟨[], ⟨none, 0, rfl, by simp, by omega, fun _ => rfl, fun h => by simp at h⟩, by simp⟩
  · simp [Value.cells] at hcs
    obtain ⟨rfl, rfl, rfl⟩ := hcs
    have hlm : len0 ≤ zs.length := by rw [hzl]; split <;> omega
    have hlt : (zs.take len0).length = len0 := by rw [List.length_take]; omega
    refine ⟨zs.take len0, ⟨some a, cap0, by rw [hlt], by rw [hlt]; exact hl, by unfold maxLen at hm; omega, (fun h => by cases h), fun hpos => ?_⟩, fun z hz => inRange_of (hwf z (List.mem_of_mem_take hz))⟩
    rw [hlt] at hpos
    obtain ⟨b, off, rfl, hc⟩ := ints_at hcell (by omega)
    refine ⟨b, off, rfl, (World.block_lt_of_cell? w _ (hc 0 (by omega))), fun k hk => ?_⟩
    rw [hlt] at hk
    rw [hc k (by omega)]
    simp [nth, List.getD, hk]
theorem trodAll_below (hl : laidOutB P = true) {W W' : World} {sp : Nat → Bool} (hb : Below W.heap.size W W') :
    ∀ {ts : List TypeId} {vs : List Value} {ds : List (DataW H)} {ps : List MemPlace}, (∀ t ∈ ts, P.readableRec t = true ∧ t < P.types.size) → DataW.TrodAll enc P W 0 (fun _ => true) true ts vs ds ps →
      (∀ x ∈ ps, x.block < W.heap.size) → (∀ x ∈ ps, sp x.block = true) → DataW.TrodAll enc P W' 0 sp true ts vs ds ps := by
  intro ts
  induction ts with
  | nil =>
    intro vs ds ps _ h _ _
    cases vs <;> cases ds <;> simp_all [DataW.TrodAll]
  | cons t ts ih =>
    intro vs ds ps hr h hlt hsp
    cases vs with
    | nil => cases ds <;> simp [DataW.TrodAll] at h
    | cons v vs =>
      cases ds with
      | nil => simp [DataW.TrodAll] at h
      | cons d ds =>
        obtain ⟨p, q, h1, h2, rfl⟩ := h
        exact ⟨p, q, WideElems.Trod_stays hl (hr t (by simp)).1 (hr t (by simp)).2 h1 (fun x hx => hb.same (hlt x (by simp [hx]))) (fun x hx => hsp x (by simp [hx])), ih (fun t ht => hr t (by simp [ht])) h2 (fun x hx => hlt x (by simp [hx])) (fun x hx => hsp x (by simp [hx])), rfl⟩
/-- The row's last step: 'true', the arguments as they were, and nothing that was there has changed. -/
theorem post_true {f : Func} {s : ChangeSpec} {apart : Bool} {W W' : World} {args : Array Value} {ds : List (DataW H)} {before : List MemPlace} {tb : TypeId}
    (hW : DataW.Whole enc P f.params.toList s.vars apart W args.toList ds [] before) (hvars : s.vars = [])
    (hl : laidOutB P = true) (hp : (f.params.toList.all fun t => P.readableRec t && decide (t < P.types.size)) = true) (hrt : f.resultTypes = #[tb]) (htb : P.underlying tb = some .bool)
    (hfn : s.fn H ds = { results := [.lit (.bool true)], args := ds }) (hb : Below W.heap.size W W') :
    s.post enc P f apart true false false W args (.bool true) W' := by
  obtain ⟨p, q, hA, hV, hbf, hz, hn⟩ := id hW
  rw [hvars] at hV
  obtain ⟨_, rfl⟩ := trodVars_none hV
  have hlt : ∀ x ∈ before, x.block < W.heap.size := fun x hx => hW.lt x hx
  have hA' : ∀ sp : Nat → Bool, (∀ x ∈ before, sp x.block = true) → DataW.TrodAll enc P W' 0 sp true f.params.toList args.toList ds p :=
    fun sp hs => trodAll_below hl hb (fun t ht => by simpa using List.all_eq_true.1 hp t ht) hA (fun x hx => hlt x (by rw [hbf]; simp [hx])) (fun x hx => hs x (by rw [hbf]; simp [hx]))
  have hfn' : s.fn H (ds ++ []) = { results := [.lit (.bool true)], args := ds } := by rw [List.append_nil]; exact hfn
  refine ⟨ds, [], before, [], p, [], hW, ?_, ?_, ?_, ?_, fun h => by cases h⟩
  · rw [hrt, hfn']
    exact trodAll_mk1 (shut_bool htb true)
  · rw [hfn']
    exact hA' _ (fun x hx => by simpa using hlt x hx)
  · rw [hfn', hvars]
    rfl
  · exact World.keptBut_mono (fun x hx => ⟨hx, Or.inr (by rw [hbf] at hx; simpa using hx)⟩) (hb.frame (· ∈ before))
end
end Go.Proofs.Ytkdpfbodmfjkkaa
