/- Appending to a slice of the call's own, whatever the source (nil, empty or not): one law for the walk. No condition beyond the sizes. -/
import Derived.Test.YtkdpfbodmfjkkaaBase
import Derived.Deep.AppendLies
import Derived.Laws.AppendOwnNone
namespace Go.Proofs.Ytkdpfbodmfjkkaa
open Go.RowKit

/-- The slice x holds m elements whose cells are cs. -/
def Src (w : World) (x : Value) (m size : Nat) (cs : List Value) : Prop :=
  (x = .slice none 0 0 ∧ m = 0 ∧ cs = []) ∨ ∃ ad c, x = .slice (some ad) m c ∧ cs.length = m * size ∧ (∀ u ∈ cs, u.oneCell' = true) ∧ ∀ j u, cs[j]? = some u → w.cell? (ad.add j) = some u
theorem addr_add (b o j : Nat) : (⟨b, o, none⟩ : Addr).add j = ⟨b, o + j, none⟩ := by unfold Addr.add; split <;> simp_all
theorem Si.src {B : Nat} {w : World} {x : Value} {zs : List Int} (h : Si B w x zs) : Src w x zs.length 1 (zs.map (Value.int .i64)) := by
  obtain ⟨A, c, rfl, h1, h2, h0, h3⟩ := h
  cases A with
  | none =>
    rcases Nat.eq_zero_or_pos zs.length with hz | hz
    · obtain rfl := List.eq_nil_of_length_eq_zero hz
      exact .inl ⟨by rw [h0 rfl]; rfl, rfl, rfl⟩
    · obtain ⟨b, off, hA, _⟩ := h3 hz
      cases hA
  | some ad =>
    refine .inr ⟨ad, c, rfl, by simp, fun u hu => ?_, fun j u hu => ?_⟩
    · obtain ⟨z, _, rfl⟩ := List.mem_map.1 hu; rfl
    · have hj : j < zs.length := by have := (List.getElem?_eq_some_iff.1 hu).1; simpa using this
      obtain ⟨b, off, hA, _, hc⟩ := h3 (by omega)
      injection hA with hA; subst hA
      rw [addr_add, hc j hj]
      rw [List.getElem?_map, nth_get hj] at hu
      exact hu
theorem Src.lit {w : World} {g m size : Nat} {cs : Array Value} {t : TypeId} {fr : Nat × Nat} (hb : w.heap[g]? = some (.cells cs t fr)) (hl : cs.size = m * size) (h1 : ∀ u ∈ cs.toList, u.oneCell' = true) (c : Nat) : Src w (.slice (some ⟨g, 0, none⟩) m c) m size cs.toList :=
  .inr ⟨_, c, rfl, by simpa using hl, h1, World.news_of_block hb⟩
theorem Src.drew {w : World} {x : Value} {m size : Nat} {cs : List Value} (h : Src w x m size cs) : Src w.drew x m size cs := h
section
variable {P : Program} (w : World)
theorem run_append_src (t ty : TypeId) (base : Nat) (e : TypeId) {z : Value} {size bytes : Nat} (ht : P.underlying t = some (.slice e)) (hinfo : (P.info? e).map (fun i => (i.zero, i.size, i.bytes)) = some (some z, size, bytes))
    (hzs : z.cells.size = size) (hsz : 0 < size) (v x : Value) (n m : Nat) (xs cs : List Value) (hown : w.ownsRow base e size v n xs) (hsrc : Src w x m size cs)
    (h63 : n + m ≤ maxLen) (hbytes : (n + m) * bytes ≤ 140737488355328) (hbase : base ≤ w.heap.size) :
    ∃ v' w', (Builtin.append_ #[t, t] ty #[v, x]).run P w = .ok v' w' ∧ w'.ownsRow base e size v' (n + m) (xs ++ cs) ∧ w.grownBy w' v.ownBlock := by
  obtain ⟨i, hi, hz, hs, hy⟩ := info_parts hinfo
  rcases hsrc with ⟨rfl, rfl, rfl⟩ | ⟨ad, c, rfl, hl, h1, hnews⟩
  · exact ⟨v, w, run_append_owned_none (P := P) (w := w) base t ty e i size ht hi v n xs hown, by simpa using hown, ⟨rfl, rfl, rfl, Nat.le_refl _, fun _ _ _ => rfl⟩⟩
  · obtain ⟨v', w', hr, h2, h3, _⟩ := run_append_own (P := P) w base t ty e i z size bytes ht hi hz hs hy hzs hsz v n xs hown ad m c cs hl hnews h1 h63 hbytes hbase
    exact ⟨v', w', hr, h2, h3⟩
theorem wp_append_src {o : Oper} {a : Act} {K : Act → World → Prop} {Q : Exit → Act → World → Prop} (s y : Operand) (t : TypeId)
    (ho : o.op = .call { callee := .builtin .append, args := #[s, y], argTypes := #[t, t] })
    (base : Nat) (e : TypeId) {z : Value} {size bytes : Nat} (ht : P.underlying t = some (.slice e)) (hinfo : (P.info? e).map (fun i => (i.zero, i.size, i.bytes)) = some (some z, size, bytes))
    (hzs : z.cells.size = size) (hsz : 0 < size) (v x : Value) (n m : Nat) (xs cs : List Value) (hs : a.eval s = v) (hx : a.eval y = x) (hown : w.ownsRow base e size v n xs) (hsrc : Src w x m size cs)
    (h63 : n + m ≤ maxLen) (hbytes : (n + m) * bytes ≤ 140737488355328) (hbase : base ≤ w.heap.size)
    (h : ∀ v' w', w'.ownsRow base e size v' (n + m) (xs ++ cs) → w.grownBy w' v.ownBlock → K (a.put o.dst v') w') : o.wp P a w K Q := by
  obtain ⟨v', w', hr, h2, h3⟩ := run_append_src (P := P) w t o.type base e ht hinfo hzs hsz v x n m xs cs hown hsrc h63 hbytes hbase
  unfold Oper.wp execOp
  simp only [ho, resolve, invoke, builtin, Sem.run_bind, Sem.run_pure, Result.andThen_ok, List.map_toArray, List.map_cons, List.map_nil, hs, hx, hr]
  exact h v' w' h2 h3
theorem wpList_append_src {ops : Array Oper} {rest : List Oper} {o : Oper} {a : Act} {Q : Exit → Act → World → Prop} (hgd : o.guard = none) (s y : Operand) (t : TypeId)
    (ho : o.op = .call { callee := .builtin .append, args := #[s, y], argTypes := #[t, t] })
    (base : Nat) (e : TypeId) {z : Value} {size bytes : Nat} (ht : P.underlying t = some (.slice e)) (hinfo : (P.info? e).map (fun i => (i.zero, i.size, i.bytes)) = some (some z, size, bytes))
    (hzs : z.cells.size = size) (hsz : 0 < size) (v x : Value) (n m : Nat) (xs cs : List Value) (hs : a.eval s = v) (hx : a.eval y = x) (hown : w.ownsRow base e size v n xs) (hsrc : Src w x m size cs)
    (h63 : n + m ≤ maxLen) (hbytes : (n + m) * bytes ≤ 140737488355328) (hbase : base ≤ w.heap.size)
    (h : ∀ v' w', w'.ownsRow base e size v' (n + m) (xs ++ cs) → w.grownBy w' v.ownBlock → wpList P ops Q rest (a.put o.dst v') w') : wpList P ops Q (o :: rest) a w :=
  wpList_plain hgd fun _ hK => wp_append_src w s y t ho base e ht hinfo hzs hsz v x n m xs cs hs hx hown hsrc h63 hbytes hbase fun v' w' h2 h3 => hK _ _ (h v' w' h2 h3)
theorem step_append_src {ops : Array Oper} {o : Oper} {a : Act} {K : Act → World → Prop} {Q : Exit → Act → World → Prop} {E : Prop} (hgd : o.guard = none) (s y : Operand) (t : TypeId)
    (ho : o.op = .call { callee := .builtin .append, args := #[s, y], argTypes := #[t, t] })
    (base : Nat) (e : TypeId) {z : Value} {size bytes : Nat} (ht : P.underlying t = some (.slice e)) (hinfo : (P.info? e).map (fun i => (i.zero, i.size, i.bytes)) = some (some z, size, bytes))
    (hzs : z.cells.size = size) (hsz : 0 < size) (v x : Value) (n m : Nat) (xs cs : List Value) (hs : a.eval s = v) (hx : a.eval y = x) (hown : w.ownsRow base e size v n xs) (hsrc : Src w x m size cs)
    (h63 : n + m ≤ maxLen) (hbytes : (n + m) * bytes ≤ 140737488355328) (hbase : base ≤ w.heap.size)
    (h : ∀ v' w', w'.ownsRow base e size v' (n + m) (xs ++ cs) → w.grownBy w' v.ownBlock → K (a.put o.dst v') w') :
    if Region.wanted o (yielded ops a.tmps) = true then Oper.wp P o a w K Q else E := by
  have hw : Region.wanted o (yielded ops a.tmps) = true := by simp [Region.wanted, hgd]
  rw [if_pos hw]
  exact wp_append_src w s y t ho base e ht hinfo hzs hsz v x n m xs cs hs hx hown hsrc h63 hbytes hbase h
end
theorem below_grown {B lo : Nat} {a w w' : World} {e size n : Nat} {v : Value} {xs : List Value} (h : Below B a w) (hown : w.ownsRow lo e size v n xs) (hg : w.grownBy w' v.ownBlock) (hB : B ≤ lo) (hl : B ≤ w.heap.size) : Below B a w' :=
  h.grown hg hl (fun k hk => by have := (hown.lt k hk).1; omega)
end Go.Proofs.Ytkdpfbodmfjkkaa
