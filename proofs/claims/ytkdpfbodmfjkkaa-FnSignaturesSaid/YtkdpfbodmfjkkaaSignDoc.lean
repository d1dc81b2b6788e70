/- SignDocument of the program and of the reference: what SignDigest makes of the document's digest. No condition. -/
import Derived.Test.YtkdpfbodmfjkkaaRows
import Derived.Test.YtkdpfbodmfjkkaaBase
import Derived.Test.YtkdpfbodmfjkkaaPlain
import Derived.Test.YtkdpfbodmfjkkaaBlk
import Derived.Test.YtkdpfbodmfjkkaaDoc
import Derived.Test.YtkdpfbodmfjkkaaMakeSignature
namespace Go.Proofs.Ytkdpfbodmfjkkaa
open Go.RowKit

/-- What signing returns: the struct with its mark and true, or the zero value and false. -/
def signI (ks : List (List Int)) (a0 a1 a2 a3 a4 a5 a6 a7 : Int) (k : Nat) : Int := markW (fld ks k 2) (fld ks k 4) [104, a0, a1, a2, a3, a4, a5, a6, a7]
/-- SignDigest returns one thing, at whatever world the keys lie. -/
def implSigns (ks : List (List Int)) (a0 a1 a2 a3 a4 a5 a6 a7 a8 r0 r1 r2 r3 r4 r5 r6 r7 r8 : Int) (b : Bool) : Prop :=
  ∀ (v : Value) (W : World), Sl W.heap.size W 5 v ks → Calls Try.prog 138 #[v, .agg #[iv a0, iv a1, iv a2, iv a3, iv a4, iv a5, iv a6, iv a7, iv a8]] W (Ret (.tuple #[.agg #[iv r0, iv r1, iv r2, iv r3, iv r4, iv r5, iv r6, iv r7, iv r8], .bool b]) W)
/-- SignDigest returns one thing, at whatever world the keys lie. -/
def specSigns (ks : List (List Int)) (a0 a1 a2 a3 a4 a5 a6 a7 a8 r0 r1 r2 r3 r4 r5 r6 r7 r8 : Int) (b : Bool) : Prop :=
  ∀ (v : Value) (W : World), Sl W.heap.size W 5 v ks → Calls Try.prog 182 #[v, .agg #[iv a0, iv a1, iv a2, iv a3, iv a4, iv a5, iv a6, iv a7, iv a8]] W (Ret (.tuple #[.agg #[iv r0, iv r1, iv r2, iv r3, iv r4, iv r5, iv r6, iv r7, iv r8], .bool b]) W)
theorem implSigns_yes {ks : List (List Int)} {a0 a1 a2 a3 a4 a5 a6 a7 a8 : Int} {k : Nat} (hx : signatureB a0 a1 a2 a3 a4 a5 a6 a7 a8 = true) (hk : k < ks.length) (hf : findI 0 a0 ks = (k : Int)) : implSigns ks a0 a1 a2 a3 a4 a5 a6 a7 a8 a0 a1 a2 a3 a4 a5 a6 a7 (signI ks a0 a1 a2 a3 a4 a5 a6 a7 k) true :=
  fun _ W h => implSignDigest_any_yes a0 a1 a2 a3 a4 a5 a6 a7 a8 W h (Nat.le_refl _) hx k hk hf
theorem implSigns_no {ks : List (List Int)} {a0 a1 a2 a3 a4 a5 a6 a7 a8 : Int} (hno : signatureB a0 a1 a2 a3 a4 a5 a6 a7 a8 = false ∨ findI 0 a0 ks = -1) : implSigns ks a0 a1 a2 a3 a4 a5 a6 a7 a8 0 0 0 0 0 0 0 0 0 false :=
  fun _ W h => implSignDigest_any_no a0 a1 a2 a3 a4 a5 a6 a7 a8 W h (Nat.le_refl _) hno
theorem specSigns_yes {ks : List (List Int)} {a0 a1 a2 a3 a4 a5 a6 a7 a8 : Int} {k : Nat} (hx : signatureB a0 a1 a2 a3 a4 a5 a6 a7 a8 = true) (hk : k < ks.length) (hf : findI 0 a0 ks = (k : Int)) : specSigns ks a0 a1 a2 a3 a4 a5 a6 a7 a8 a0 a1 a2 a3 a4 a5 a6 a7 (signI ks a0 a1 a2 a3 a4 a5 a6 a7 k) true :=
  fun _ W h => specSignDigest_any_yes a0 a1 a2 a3 a4 a5 a6 a7 a8 W h (Nat.le_refl _) hx k hk hf
theorem specSigns_no {ks : List (List Int)} {a0 a1 a2 a3 a4 a5 a6 a7 a8 : Int} (hno : signatureB a0 a1 a2 a3 a4 a5 a6 a7 a8 = false ∨ findI 0 a0 ks = -1) : specSigns ks a0 a1 a2 a3 a4 a5 a6 a7 a8 0 0 0 0 0 0 0 0 0 false :=
  fun _ W h => specSignDigest_any_no a0 a1 a2 a3 a4 a5 a6 a7 a8 W h (Nat.le_refl _) hno
theorem both_sign (ks : List (List Int)) (a0 a1 a2 a3 a4 a5 a6 a7 a8 : Int) : ∃ r0 r1 r2 r3 r4 r5 r6 r7 r8 b, implSigns ks a0 a1 a2 a3 a4 a5 a6 a7 a8 r0 r1 r2 r3 r4 r5 r6 r7 r8 b ∧ specSigns ks a0 a1 a2 a3 a4 a5 a6 a7 a8 r0 r1 r2 r3 r4 r5 r6 r7 r8 b := by
  by_cases hno : signatureB a0 a1 a2 a3 a4 a5 a6 a7 a8 = false ∨ findI 0 a0 ks = -1
  · exact ⟨_, _, _, _, _, _, _, _, _, _, implSigns_no hno, specSigns_no hno⟩
  · rcases findI_range 0 a0 ks with hf | ⟨k, hk, hf, -⟩
    · exact absurd (.inr hf) hno
    · have hx : signatureB a0 a1 a2 a3 a4 a5 a6 a7 a8 = true := by cases h : signatureB a0 a1 a2 a3 a4 a5 a6 a7 a8 with | false => exact absurd (.inl h) hno | true => rfl
      exact ⟨_, _, _, _, _, _, _, _, _, _, implSigns_yes hx hk hf, specSigns_yes hx hk hf⟩
set_option maxRecDepth 16000 in
set_option maxHeartbeats 8000000 in
theorem implSignDocument_any {B : Nat} {ks : List (List Int)} {ps : List ByteArray} {zs : List Int} {v P S : Value} (k s m t cm r0 r1 r2 r3 r4 r5 r6 r7 r8 : Int) (b : Bool) (w : World) (h : Sl B w 5 v ks) (hp : Ss B w P ps) (hz : Si B w S zs) (hB : B ≤ w.heap.size)
    (hd : implSigns ks k s m (docI m t ps zs) cm 0 0 0 0 r0 r1 r2 r3 r4 r5 r6 r7 r8 b) :
    Calls Try.prog 72 #[v, iv k, iv s, iv m, .agg #[iv t, P, S], iv cm] w (Ret (.tuple #[.agg #[iv r0, iv r1, iv r2, iv r3, iv r4, iv r5, iv r6, iv r7, iv r8], .bool b]) w) := by
  obtain ⟨A1, c1, rfl, hd1, hd2, -⟩ := id hp
  obtain ⟨A2, c2, rfl, hd3, hd4, -⟩ := id hz
  obtain ⟨A0, c0, rfl, hd5, hd6, -⟩ := id h
  have HB0 := hid ((below_alloc w (.cells #[iv t, .slice A1 ps.length c1, .slice A2 zs.length c2] 113)).alloc (by simp) (.cells #[iv 0, iv 0, iv 0, iv 0, iv 0, iv 0, iv 0, iv 0, iv 0] 117))
  have HV := hid (h.below HB0.out hB)
  have HP := hid (hp.below HB0.out hB)
  have HZ := hid (hz.below HB0.out hB)
  have HX := hid (Blk.new (w.alloc (.cells #[iv t, .slice A1 ps.length c1, .slice A2 zs.length c2] 113)) #[iv 0, iv 0, iv 0, iv 0, iv 0, iv 0, iv 0, iv 0, iv 0] 117)
  rw [show (w.alloc (.cells #[iv t, .slice A1 ps.length c1, .slice A2 zs.length c2] 113)).heap.size = w.heap.size + 1 by simp] at HX
  have hBW : B ≤ ((w.alloc (.cells #[iv t, .slice A1 ps.length c1, .slice A2 zs.length c2] 113)).alloc (.cells #[iv 0, iv 0, iv 0, iv 0, iv 0, iv 0, iv 0, iv 0, iv 0] 117)).heap.size := by simp; omega
  have HD := hid hd
  clear h hp hz hd
  generalize hq : docI m t ps zs = q at HD
  have HQ := hid hq
  clear hq
  go_enter Try.func72, Try.ntmps72
  go_wp2_with fail
  generalize (w.alloc (.cells #[iv t, .slice A1 ps.length c1, .slice A2 zs.length c2] 113)).alloc (.cells #[iv 0, iv 0, iv 0, iv 0, iv 0, iv 0, iv 0, iv 0, iv 0] 117) = W at HB0 HV HP HZ HX hBW ⊢
  refine (implDocDigest_any m t W HP.out HZ.out hBW).mono ?_
  rintro e w1 ⟨rfl, hb1⟩
  rw [HQ.out]
  have HB1 := hid (below_step HB0.out hb1)
  have HV1 := hid ((HV.out.below hb1 hBW).mono (Nat.le_trans hBW hb1.size))
  have HX1 := hid (HX.out.below hb1)
  clear hb1 HB0 HV HP HZ HX hBW HQ
  go_wp2_with fail
  refine (HD.out _ w1 HV1.out).mono ?_
  rintro e w2 ⟨rfl, hb2⟩
  have HB2 := hid (below_step HB1.out hb2)
  have HX2 := hid (HX1.out.below hb2)
  clear hb2 HB1 HV1 HX1 HD
  have x0 := HX2.out.cell 0 rfl
  have fx0 := HX2.out.frozen 0 (by simp)
  have x1 := HX2.out.cell 1 rfl
  have fx1 := HX2.out.frozen 1 (by simp)
  have x2 := HX2.out.cell 2 rfl
  have fx2 := HX2.out.frozen 2 (by simp)
  have x3 := HX2.out.cell 3 rfl
  have fx3 := HX2.out.frozen 3 (by simp)
  have x4 := HX2.out.cell 4 rfl
  have fx4 := HX2.out.frozen 4 (by simp)
  have x5 := HX2.out.cell 5 rfl
  have fx5 := HX2.out.frozen 5 (by simp)
  have x6 := HX2.out.cell 6 rfl
  have fx6 := HX2.out.frozen 6 (by simp)
  have x7 := HX2.out.cell 7 rfl
  have fx7 := HX2.out.frozen 7 (by simp)
  have x8 := HX2.out.cell 8 rfl
  have fx8 := HX2.out.frozen 8 (by simp)
  go_wp2
  refine bodyPost_ret (v := .tuple #[.agg #[iv r0, iv r1, iv r2, iv r3, iv r4, iv r5, iv r6, iv r7, iv r8], .bool b]) (by simp [results, Try.results72, go_sem, x0, x1, x2, x3, x4, x5, x6, x7, x8]) rfl ⟨rfl, ?_⟩
  have h9 := HB2.out
  have hle1 : w.heap.size ≤ w.heap.size + 1 := Nat.le_succ _
  clear HB2 HX2
  repeat (first | with_reducible exact h9 | refine Below.setCell ?_ hle1 _)
end Go.Proofs.Ytkdpfbodmfjkkaa
