/- markBy and CheckMark return what the plain functions say. Condition: the list that is marked is no longer than 2^30. -/
import Derived.Test.YtkdpfbodmfjkkaaRows
import Derived.Test.YtkdpfbodmfjkkaaPlain
import Derived.Test.YtkdpfbodmfjkkaaCrypto
import Derived.Test.YtkdpfbodmfjkkaaFindKey
namespace Go.Proofs.Ytkdpfbodmfjkkaa
open Go.RowKit

set_option maxHeartbeats 1000000 in
theorem implmarkBy_no {B : Nat} {ks : List (List Int)} {zs : List Int} {v x : Value} (num : Int) (w : World) (h : Sl B w 5 v ks) (_hx : Si B w x zs) (hB : B ≤ w.heap.size) (hf : findI 0 num ks = -1) :
    Calls Try.prog 114 #[v, iv num, x] w (Ret (.tuple #[iv 0, .bool false]) w) := by
  go_enter Try.func114, Try.ntmps114
  go_wp2_with fail
  refine (implFindKey_any num _ h hB).mono ?_
  rintro e w1 ⟨rfl, hb1⟩
  rw [hf]
  clear hf
  go_wp2
  go_ret2
  exact ⟨rfl, hb1⟩
set_option maxHeartbeats 1000000 in
theorem implmarkBy_yes {B : Nat} {ks : List (List Int)} {zs : List Int} {v x : Value} (num : Int) (w : World) (h : Sl B w 5 v ks) (hx : Si B w x zs) (hB : B ≤ w.heap.size) (hn : zs.length ≤ 1073741824) (k : Nat) (hk : k < ks.length) (hf : findI 0 num ks = (k : Int)) :
    Calls Try.prog 114 #[v, iv num, x] w (Ret (.tuple #[iv (markW (fld ks k 2) (fld ks k 4) zs), .bool true]) w) := by
  go_enter Try.func114, Try.ntmps114
  go_wp2_with fail
  refine (implFindKey_any num _ h hB).mono ?_
  rintro e w1 ⟨rfl, hb1⟩
  rw [hf]
  have HX := hid (hx.below hb1 hB)
  have HB := hid hb1
  obtain ⟨A, c, rfl, hc1, hc2, -, hcell⟩ := h.below hb1 hB
  obtain ⟨b, off, rfl, hbB, hcc⟩ := hcell (by omega)
  have c0 := hcc k 0 hk (by omega)
  have c1 := hcc k 1 hk (by omega)
  have c2 := hcc k 2 hk (by omega)
  have c3 := hcc k 3 hk (by omega)
  have c4 := hcc k 4 hk (by omega)
  rw [Nat.add_zero] at c0
  clear hcc hcell hf hb1 h
  go_wp2_with fail
  refine (implMarkWith_any _ _ _ _ _ _ HX.out (Nat.le_trans hB HB.out.size) hn).mono ?_
  rintro e w2 ⟨rfl, hb2⟩
  go_wp2
  go_ret2
  exact ⟨rfl, below_step HB.out hb2⟩

set_option maxHeartbeats 1000000 in
theorem implCheckMark_any {B : Nat} {ks : List (List Int)} {zs : List Int} {v x : Value} (num mark : Int) (w : World) (h : Sl B w 5 v ks) (hx : Si B w x zs) (hB : B ≤ w.heap.size) (hn : zs.length ≤ 1073741824) :
    Calls Try.prog 38 #[v, iv num, x, iv mark] w (Ret (.bool (checkMarkB num mark ks zs)) w) := by
  rcases findI_range 0 num ks with hf | ⟨k, hk, hf, -⟩
  · have HT := hid (checkMarkB_none (mark := mark) (zs := zs) hf)
    have HF := hid hf
    clear hf
    go_enter Try.func38, Try.ntmps38
    go_wp2_with fail
    refine (implmarkBy_no num _ h hx hB HF.out).mono ?_
    rintro e w1 ⟨rfl, hb1⟩
    go_wp2
    go_ret
    exact ⟨ret_bool HT.out, hb1⟩
  · have HT := hid (checkMarkB_some (mark := mark) (zs := zs) hf)
    have HF := hid hf
    clear hf
    go_enter Try.func38, Try.ntmps38
    go_wp2_with fail
    refine (implmarkBy_yes num _ h hx hB hn k hk HF.out).mono ?_
    rintro e w1 ⟨rfl, hb1⟩
    go_wp2
    go_ret
    exact ⟨ret_bool HT.out, hb1⟩
set_option maxHeartbeats 1000000 in
theorem specCheckMark_any {B : Nat} {ks : List (List Int)} {zs : List Int} {v x : Value} (num mark : Int) (w : World) (h : Sl B w 5 v ks) (hx : Si B w x zs) (hB : B ≤ w.heap.size) (hn : zs.length ≤ 1073741824) :
    Calls Try.prog 172 #[v, iv num, x, iv mark] w (Ret (.bool (checkMarkB num mark ks zs)) w) := by
  go_enter Try.func172, Try.ntmps172
  go_wp2_with fail
  refine (specFindKey_any num _ h hB).mono ?_
  rintro e w1 ⟨rfl, hb1⟩
  have HX := hid (hx.below hb1 hB)
  have HB := hid hb1
  rcases findI_range 0 num ks with hf | ⟨k, hk, hf, -⟩
  · have HT := hid (checkMarkB_none (mark := mark) (zs := zs) hf)
    rw [hf]
    clear hf
    go_wp2
    go_ret
    exact ⟨ret_bool HT.out, HB.out⟩
  · have HT := hid (checkMarkB_some (mark := mark) (zs := zs) hf)
    rw [hf]
    obtain ⟨A, c, rfl, hc1, hc2, -, hcell⟩ := h.below hb1 hB
    obtain ⟨b, off, rfl, hbB, hcc⟩ := hcell (by omega)
    have c0 := hcc k 0 hk (by omega)
    have c1 := hcc k 1 hk (by omega)
    have c2 := hcc k 2 hk (by omega)
    have c3 := hcc k 3 hk (by omega)
    have c4 := hcc k 4 hk (by omega)
    rw [Nat.add_zero] at c0
    clear hcc hcell hf hb1 h
    go_wp2_with fail
    refine (specMarkWith_any _ _ _ _ _ _ HX.out (Nat.le_trans hB HB.out.size) hn).mono ?_
    rintro e w2 ⟨rfl, hb2⟩
    go_wp2
    go_ret
    exact ⟨ret_bool HT.out, below_step HB.out hb2⟩
end Go.Proofs.Ytkdpfbodmfjkkaa
