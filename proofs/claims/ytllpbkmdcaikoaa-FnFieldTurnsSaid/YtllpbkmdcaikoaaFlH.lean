/-
  RollField, by the program and by the reference. (Printed by gen_fields2.py.)
-/
import Derived.Test.YtllpbkmdcaikoaaFlE
namespace Go.Proofs.Ytllpbkmdcaikoaa
open Go.RowKit
set_option linter.unusedVariables false
set_option linter.unusedSimpArgs false
set_option linter.unnecessarySimpa false

def rollOkF (W H : Int) (n : Nat) (x y : Int) : Bool := vldF W H n && (inB x (-16) 16 && inB y (-16) 16)
def rollFG (W H : Int) (R : Bool) (fs : List (Option Nat)) (x y u v : Int) : Option Nat := aboutV W H R fs (u - x) (v - y)

theorem rollF1_any (W H x y u v : Int) (R : Bool) (b o n c : Nat) (zs : List Nat) (hz : zs.length = n) (hv : vldF W H n = true) (hx : -16 ≤ x ∧ x ≤ 16) (hy : -16 ≤ y ∧ y ≤ 16) (p q r : Nat) (w : World) (hA : VArr w (some ⟨b, o, none⟩) (flts zs))
    (hp : w.heap[p]? = some (.cells #[.int .i64 W, .int .i64 H, .bool R, .slice (some ⟨b, o, none⟩) n c] 27 (0, 0))) (hq : w.heap[q]? = some (.cells #[.int .i64 x] 2 (0, 0))) (hr : w.heap[r]? = some (.cells #[.int .i64 y] 2 (0, 0))) (u0 : 0 ≤ u) (u1 : u < 17) (v0 : 0 ≤ v) (v1 : v < 17) :
    Calls Try.prog 79 #[.int .i64 u, .int .i64 v, .pointer (some ⟨p, 0, none⟩), .pointer (some ⟨q, 0, none⟩), .pointer (some ⟨r, 0, none⟩)] w fun e w' => ∃ r, e = .returned (.float .f32 r) ∧ fa .f32 r = rollFG W H R (fas zs) x y u v ∧ Ext w w' := by
  have HF := Lib.hid (fa_about (W := W) (H := H) (R := R) (xs := zs) rfl (by rw [hz]; exact hv) (u - x) (v - y))
  obtain ⟨⟨c0, c1, c2, c3⟩, _⟩ := block4 hp
  obtain ⟨d0, _⟩ := block1 hq
  obtain ⟨e0, _⟩ := block1 hr
  have HV := Lib.hid hv
  have HA := Lib.hid hA
  clear hv hA hp hq hr
  go_enter Try.func79, Try.ntmps79
  go_wp2_with fail
  refine (aboutF_any W H (u - x) (v - y) R b o n c zs hz HV.out _ HA.out).mono ?_
  rintro e w1 ⟨rfl, hX1⟩
  go_wp2
  go_ret
  exact ⟨_, rfl, HF.out, hX1⟩

set_option maxRecDepth 100000 in
theorem implRollF_any (W H : Int) (R : Bool) (x y : Int) (a : Option Addr) (n c : Nat) (zs : List Nat) (hz : zs.length = n) (hn : n ≤ 1048576) (w : World) (hA : VArr w a (flts zs)) :
    Calls Try.prog 36 #[.agg #[.int .i64 W, .int .i64 H, .bool R, .slice a n c], .int .i64 x, .int .i64 y] w (keepF w (rollOkF W H n x y) W H R (gridF W.toNat (rollFG W H R (fas zs) x y) (H.toNat * W.toNat))) := by
  have hX : Ext w ((((w.alloc (.cells #[.int .i64 W, .int .i64 H, .bool R, .slice a n c] 27)).alloc (.cells #[.int .i64 x] 2)).alloc (.cells #[.int .i64 y] 2)).alloc (.cells #[.int .i64 0, .int .i64 0, .bool false, .slice none 0 0] 27)) := (((((Ext.refl w).alloc (.cells #[.int .i64 W, .int .i64 H, .bool R, .slice a n c] 27)).alloc (.cells #[.int .i64 x] 2)).alloc (.cells #[.int .i64 y] 2)).alloc (.cells #[.int .i64 0, .int .i64 0, .bool false, .slice none 0 0] 27))
  obtain ⟨b0, b1, b2, b3⟩ := four_new w (.cells #[.int .i64 W, .int .i64 H, .bool R, .slice a n c] 27) (.cells #[.int .i64 x] 2) (.cells #[.int .i64 y] 2) (.cells #[.int .i64 0, .int .i64 0, .bool false, .slice none 0 0] 27)
  have hA1 := hA.ext hX
  go_enter Try.func36, Try.ntmps36
  go_wp2_with fail
  refine (implValidF_any W H R a n c (by omega) _).mono ?_
  generalize (((w.alloc (.cells #[.int .i64 W, .int .i64 H, .bool R, .slice a n c] 27)).alloc (.cells #[.int .i64 x] 2)).alloc (.cells #[.int .i64 y] 2)).alloc (.cells #[.int .i64 0, .int .i64 0, .bool false, .slice none 0 0] 27) = w0 at *
  rintro e w1 ⟨rfl, hX1⟩
  cases hv : vldF W H n with
  | false =>
    have HOK : Hid ((rollOkF W H n x y) = false) := by show _ = _; first | exact hv | simp [rollOkF, hv, hz]
    obtain ⟨⟨d0, d1, d2, d3⟩, f0, f1, f2, f3⟩ := block4 (hX1.block b3)
    have HE := Lib.hid ((hX.trans hX1).fin4 (q := w.heap.size + 3) (by omega) (.int .i64 0) (.int .i64 0) (.bool false) (.slice none 0 0))
    clear hX hX1 b0 b1 b2 b3 hA hA1 hv hz
    go_wp2
    refine bodyPost_ret (v := .tuple #[.agg #[.int .i64 0, .int .i64 0, .bool false, .slice none 0 0], .bool false]) ?_ rfl (keepF_no HOK.out (twoF_none HE.out))
    simp only [results, Try.results36]
    go_simp
  | true =>
    obtain ⟨⟨c0, c1, c2, c3⟩, _⟩ := block4 (hX1.block b0)
    obtain ⟨g0, _⟩ := block1 (hX1.block b1)
    obtain ⟨g1, _⟩ := block1 (hX1.block b2)
    have e2 : allIn (-16) 16 [x, y] = (inB x (-16) 16 && inB y (-16) 16) := allIn_two
    have hY := (Ext.refl w1).alloc (.cells #[.int .i64 x, .int .i64 y] 2)
    have b4 := heap_new w1 (.cells #[.int .i64 x, .int .i64 y] 2)
    go_wp2_with fail
    refine (areWithin_any _ 2 2 [x, y] rfl (by omega) (-16) 16 _ (VArr.twoF b4)).mono ?_
    rw [e2]
    generalize w1.alloc (.cells #[.int .i64 x, .int .i64 y] 2) = w1' at *
    rintro e w2 ⟨rfl, hX2⟩
    have hX3 := (hX1.trans hY).trans hX2
    clear hY b4 hX2 hX1 c0 c1 c2 c3 g0 g1
    have hX1 := hX3
    clear hX3
    cases hxy : (inB x (-16) 16 && inB y (-16) 16) with
    | false =>
      have HOK : Hid ((rollOkF W H n x y) = false) := by show _ = _; simp [rollOkF, hxy]
      obtain ⟨⟨d0, d1, d2, d3⟩, f0, f1, f2, f3⟩ := block4 (hX1.block b3)
      have HE := Lib.hid ((hX.trans hX1).fin4 (q := w.heap.size + 3) (by omega) (.int .i64 0) (.int .i64 0) (.bool false) (.slice none 0 0))
      clear hX hX1 b0 b1 b2 b3 hA hA1 hv hz hxy e2
      go_wp2
      refine bodyPost_ret (v := .tuple #[.agg #[.int .i64 0, .int .i64 0, .bool false, .slice none 0 0], .bool false]) ?_ rfl (keepF_no HOK.out (twoF_none HE.out))
      simp only [results, Try.results36]
      go_simp
    | true =>
      have HOK : Hid ((rollOkF W H n x y) = true) := by show _ = _; first | exact hv | simp [rollOkF, hv, hz, hxy]
      obtain ⟨⟨c0, c1, c2, c3⟩, _⟩ := block4 (hX1.block b0)
      obtain ⟨g0, _⟩ := block1 (hX1.block b1)
      obtain ⟨g1, _⟩ := block1 (hX1.block b2)
      obtain ⟨Wn, Hn, hWn, hHn, k1, k2, k3, k4, hnn, _⟩ := vldF_facts hv
      have hn1 : 0 < n := by rw [hnn]; exact Nat.mul_pos (by omega) (by omega)
      obtain ⟨b, o, rfl⟩ := hA.starts (i := 0) (by simp; omega)
      have hA2 := hA1.ext hX1
      have HV := Lib.hid hv
      have HZ := Lib.hid hz
      have HB := Lib.hid (And.intro k1 (And.intro k2 (And.intro k3 k4)))
      have HW := Lib.hid (And.intro hWn hHn)
      have HXY := Lib.hid hxy
      clear hv hz hnn k1 k2 k3 k4 hWn hHn hxy e2
      go_wp2_with fail
      refine (each_any W H R _ n c 79 #[] #[.pointer (some ⟨w.heap.size, 0, none⟩), .pointer (some ⟨w.heap.size + 1, 0, none⟩), .pointer (some ⟨w.heap.size + 2, 0, none⟩)] (rollFG W H R (fas zs) x y) (vldF_iff.1 HV.out).1 _ (fun args u => by go_simp) (fun u v w' hw u0 u1 v0 v1 => ?_)).mono ?_
      · have hbx := (Bool.and_eq_true_iff).1 HXY.out
        simpa using rollF1_any W H x y u v R b o n c zs HZ.out HV.out (inB_iff.1 hbx.1) (inB_iff.1 hbx.2) _ _ _ w' (hA2.ext hw) (hw.block (hX1.block b0)) (hw.block (hX1.block b1)) (hw.block (hX1.block b2)) u0 (by have := HB.out; have := HW.out; omega) v0 (by have := HB.out; have := HW.out; omega)
      rintro e w4 ⟨a', n', c', xs, rfl, hX4, hO, hl, hle, hf⟩
      obtain ⟨⟨d0, d1, d2, d3⟩, f0, f1, f2, f3⟩ := block4 (hX4.block (hX1.block b3))
      obtain ⟨HE, HO⟩ := stored4 (T := 27) (u0 := .int .i64 W) (u1 := .int .i64 H) (u2 := .bool R) (u3 := .slice a' n' c') ((hX.trans hX1).trans hX4) (by decide) (by omega) (hX4.block (hX1.block b3)) (ownsRow_mono hO (hX.trans hX1).size)
      have HE' := Lib.hid HE
      have HO' := Lib.hid HO
      have HL := Lib.hid hl
      have HFF := Lib.hid hf
      clear HE HO hl hX hX1 hX4 hO b0 b1 b2 b3 hA hA1 hA2 c0 c1 c2 c3 hf g0 g1
      go_wp2
      refine bodyPost_ret (v := .tuple #[.agg #[.int .i64 W, .int .i64 H, .bool R, .slice a' n' c'], .bool true]) ?_ rfl (keepF_yes HOK.out ⟨a', n', c', xs, rfl, HE'.out, HO'.out, HL.out, hle, HFF.out⟩)
      simp only [results, Try.results36]
      go_simp

set_option maxRecDepth 100000 in
set_option maxHeartbeats 1000000 in
theorem specRollF_any (W H : Int) (R : Bool) (x y : Int) (a : Option Addr) (n c : Nat) (zs : List Nat) (hz : zs.length = n) (hn : n ≤ 1048576) (w : World) (hA : VArr w a (flts zs)) :
    Calls Try.prog 35 #[.agg #[.int .i64 W, .int .i64 H, .bool R, .slice a n c], .int .i64 x, .int .i64 y] w (keepF w (rollOkF W H n x y) W H R (gridF W.toNat (rollFG W H R (fas zs) x y) (H.toNat * W.toNat))) := by
  obtain ⟨i0, hi, hz0, hz1, hz2⟩ := info_parts info32
  have hX : Ext w ((w.alloc (.cells #[.int .i64 W, .int .i64 H, .bool R, .slice a n c] 27)).alloc (.cells #[.int .i64 0, .int .i64 0, .bool false, .slice none 0 0] 27)) := (((Ext.refl w).alloc (.cells #[.int .i64 W, .int .i64 H, .bool R, .slice a n c] 27)).alloc (.cells #[.int .i64 0, .int .i64 0, .bool false, .slice none 0 0] 27))
  have b0 := heap_mid1 w (.cells #[.int .i64 W, .int .i64 H, .bool R, .slice a n c] 27) (.cells #[.int .i64 0, .int .i64 0, .bool false, .slice none 0 0] 27)
  have b1 := heap_new1 w (.cells #[.int .i64 W, .int .i64 H, .bool R, .slice a n c] 27) (.cells #[.int .i64 0, .int .i64 0, .bool false, .slice none 0 0] 27)
  have hA1 := hA.ext hX
  go_enter Try.func35, Try.ntmps35
  go_wp2_with fail
  refine (l02Is_any _ W H R a n c (by omega) _ (FldAt.box b0)).mono ?_
  generalize (w.alloc (.cells #[.int .i64 W, .int .i64 H, .bool R, .slice a n c] 27)).alloc (.cells #[.int .i64 0, .int .i64 0, .bool false, .slice none 0 0] 27) = w0 at *
  rintro e w1 ⟨rfl, hX1⟩
  cases hv : vldF W H n with
  | false =>
    have HOK : Hid ((rollOkF W H n x y) = false) := by show _ = _; first | exact hv | simp [rollOkF, hv, hz]
    obtain ⟨⟨d0, d1, d2, d3⟩, f0, f1, f2, f3⟩ := block4 (hX1.block b1)
    have HE := Lib.hid ((hX.trans hX1).fin4 (q := w.heap.size + 1) (by omega) (.int .i64 0) (.int .i64 0) (.bool false) (.slice none 0 0))
    clear hX hX1 b0 b1 hA hA1 hv hz
    go_wp2
    refine bodyPost_ret (v := .tuple #[.agg #[.int .i64 0, .int .i64 0, .bool false, .slice none 0 0], .bool false]) ?_ rfl (keepF_no HOK.out (twoF_none HE.out))
    simp only [results, Try.results35]
    go_simp
  | true =>
    cases hx : inB x (-16) 16 with
    | false =>
      have HOK : Hid ((rollOkF W H n x y) = false) := by show _ = _; simp [rollOkF, hx]
      go_wp2_with fail
      refine (l00In_any _ _ _ _).mono ?_
      rw [hx]
      rintro e w' ⟨rfl, rfl⟩
      obtain ⟨⟨d0, d1, d2, d3⟩, f0, f1, f2, f3⟩ := block4 (hX1.block b1)
      have HE := Lib.hid ((hX.trans hX1).fin4 (q := w.heap.size + 1) (by omega) (.int .i64 0) (.int .i64 0) (.bool false) (.slice none 0 0))
      clear hX hX1 b0 b1 hA hA1 hv hz hx
      go_wp2
      refine bodyPost_ret (v := .tuple #[.agg #[.int .i64 0, .int .i64 0, .bool false, .slice none 0 0], .bool false]) ?_ rfl (keepF_no HOK.out (twoF_none HE.out))
      simp only [results, Try.results35]
      go_simp
    | true =>
      cases hy : inB y (-16) 16 with
      | false =>
        have HOK : Hid ((rollOkF W H n x y) = false) := by show _ = _; simp [rollOkF, hy]
        go_wp2_with fail
        refine (l00In_any _ _ _ _).mono ?_
        rw [hx]
        rintro e w' ⟨rfl, rfl⟩
        go_wp2_with fail
        refine (l00In_any _ _ _ _).mono ?_
        rw [hy]
        rintro e w' ⟨rfl, rfl⟩
        obtain ⟨⟨d0, d1, d2, d3⟩, f0, f1, f2, f3⟩ := block4 (hX1.block b1)
        have HE := Lib.hid ((hX.trans hX1).fin4 (q := w.heap.size + 1) (by omega) (.int .i64 0) (.int .i64 0) (.bool false) (.slice none 0 0))
        clear hX hX1 b0 b1 hA hA1 hv hz hx hy
        go_wp2
        refine bodyPost_ret (v := .tuple #[.agg #[.int .i64 0, .int .i64 0, .bool false, .slice none 0 0], .bool false]) ?_ rfl (keepF_no HOK.out (twoF_none HE.out))
        simp only [results, Try.results35]
        go_simp
      | true =>
        have HOK : Hid ((rollOkF W H n x y) = true) := by show _ = _; first | exact hv | simp [rollOkF, hv, hz, hx, hy]
        obtain ⟨Wn, Hn, rfl, rfl, k1, k2, k3, k4, hnn, hn256⟩ := vldF_facts hv
        have hM : (Wn : Int) * Hn = n := by rw [hnn, Int.natCast_mul, Int.mul_comm]
        have hn1 : 0 < n := by rw [hnn]; exact Nat.mul_pos (by omega) (by omega)
        obtain ⟨b, o, rfl⟩ := hA.starts (i := 0) (by simp; omega)
        have HNN := Lib.hid hnn
        have HV := Lib.hid hv
        have HZ := Lib.hid hz
        have HA := Lib.hid (hA1.ext hX1)
        have Bx := inB_iff.1 hx
        go_wp2_with fail
        refine (l00In_any _ _ _ _).mono ?_
        rw [hx]
        rintro e w' ⟨rfl, rfl⟩
        clear hx
        have By := inB_iff.1 hy
        go_wp2_with fail
        refine (l00In_any _ _ _ _).mono ?_
        rw [hy]
        rintro e w' ⟨rfl, rfl⟩
        clear hy
        clear hv hnn hA hA1 hz
        obtain ⟨⟨c0, c1, c2, c3⟩, _⟩ := block4 (hX1.block b0)
        go_wp2_with fail
        refine (l02New_any Wn Hn R _).mono ?_
        rintro e w2 ⟨bb, rfl, hX2, hbb, hO⟩
        have hXa := (Ext.refl w2).alloc (.cells #[.int .i64 Wn, .int .i64 Hn, .bool R, .slice (some ⟨bb, 0, none⟩) 0 0] 27)
        have bq := heap_new w2 (.cells #[.int .i64 Wn, .int .i64 Hn, .bool R, .slice (some ⟨bb, 0, none⟩) 0 0] 27)
        have hq : w1.heap.size ≤ w2.heap.size := hX2.size
        have hr : w.heap.size + 1 < w1.heap.size := lt_of_block (hX1.block b1)
        have hw : w.heap.size ≤ w1.heap.size := (hX.trans hX1).size
        have F0 : FillF w1 (w.heap.size + 1) w2.heap.size Wn Hn R [] (w2.alloc (.cells #[.int .i64 Wn, .int .i64 Hn, .bool R, .slice (some ⟨bb, 0, none⟩) 0 0] 27)) 0 :=
          ⟨hX2.trans hXa, hXa.block (hX2.block (hX1.block b1)), _, 0, bq, ownsRow_ext hO hXa⟩
        have HP := Lib.hid (hX1.block b0)
        have HX := Lib.hid (hX.trans hX1)
        clear hX hX1 hX2 hXa b0 b1 bq hO hbb c0 c1 c2 c3
        go_wp2
        generalize w2.alloc (.cells #[.int .i64 Wn, .int .i64 Hn, .bool R, .slice (some ⟨bb, 0, none⟩) 0 0] 27) = w3 at *
        generalize w2.heap.size = q at *
        go_loopw [9] (fun i wr => ∃ (k : Nat) (xs : List Nat), k ≤ n ∧ i = .int .i64 k ∧ fas xs = gridF Wn (rollFG Wn Hn R (fas zs) x y) k ∧ FillF w1 (w.heap.size + 1) q Wn Hn R xs wr k) (fun i _ => n - (intOf i).toNat)
        case atStart => exact ⟨0, [], Nat.zero_le _, rfl, rfl, F0⟩
        case round =>
          obtain ⟨k, xs, hk, rfl, hxs, hF⟩ := hrel
          clear F0
          have HXS := Lib.hid hxs
          clear hxs
          obtain ⟨hX, hR, a', c', hB, hO⟩ := hF
          have hP := hX.block HP.out
          obtain ⟨⟨c0, c1, c2, c3⟩, _⟩ := block4 hP
          by_cases hlt : k < n
          · have hu2 : k % Wn < Wn := Nat.mod_lt _ (by omega)
            have hv2 : k / Wn < Hn := Nat.div_lt_of_lt_mul (by rw [Nat.mul_comm]; have := HNN.out; omega)
            have HGN := Lib.hid (gridF_next Wn (rollFG Wn Hn R (fas zs) x y) k)
            have hu := tmodF_nat k Wn
            have hv := tdivF_nat k Wn
            have hne : ¬ Wn = 0 := by omega
            have HA2 := Lib.hid (HA.out.ext hX)
            generalize k % Wn = u at *
            generalize k / Wn = v at *
            have HFA := Lib.hid (fa_about (W := Wn) (H := Hn) (R := R) (xs := zs) rfl (by rw [HZ.out]; exact HV.out) (u - x) (v - y))
            go_wp2_with fail
            refine region_grow_tail 16 (C := Ext wr) (K := fun f args V _ => args = #[.pointer (some ⟨w.heap.size, 0, none⟩), .int .i64 (u - x), .int .i64 (v - y)] → ∃ r, V = .float .f32 r ∧ fa .f32 r = rollFG Wn Hn R (fas zs) x y u v) ⟨fun _ _ h k => h.trans k, fun _ _ _ _ _ h _ => h⟩ (by kernel_rfl) (by kernel_rfl) ((Ext.refl wr).drew) ?_
            simp only [List.take_succ_cons, List.take_zero, List.drop_succ_cons, List.drop_zero]
            iterate 14 (refine grow_q rfl ?_; apply Exists.intro; refine ⟨fun u' hu' _ => ?_, ?_⟩; focus (obtain ⟨⟨c0, c1, c2, c3⟩, _⟩ := block4 (hu'.block hP); obtain ⟨⟨e0, e1, e2, e3⟩, _⟩ := block4 (hu'.block hB); go_simp; rfl))
            refine grow_cf 68 .f32 rfl ⟨#[.pointer (some ⟨w.heap.size, 0, none⟩), .int .i64 (u - x), .int .i64 (v - y)], fun u' => ?_, _, fun u' hu' _ => (l02At_any _ Wn Hn (u - x) (v - y) R b o n c zs HZ.out HV.out u' (FldAt.box (hu'.block hP)) (HA2.out.ext hu')).mono (fun e w6 h => ⟨_, h.1, HFA.out, h.2⟩), fun V u' => ⟨fun h => h rfl, fun h0 => fun _ => h0⟩, fun z hz' => ?_⟩
            · go_simp
              all_goals (first | done | ((have hvw := wrapS (n := (v : Int)) (by omega) (by omega)); ((try simp only [hu, hv, hvw]) <;> ((repeat' apply And.intro) <;> first | rfl | exact wrapS (by omega) (by omega)))))
            refine grow_newB (mk := fun b => .slice (some ⟨b, 0, none⟩) 1 1) (ob := .cells #[.float .f32 z] 30) wr.heap.size rfl (fun b b' h => by simpa using h) (fun u hu => hu.size) (fun u _ _ => ?_) (fun nb hnb => ?_)
            · go_simp
            refine grow_nil (fun w4 hw4 hh => ?_)
            obtain ⟨_, hb3⟩ := hh
            have HZV := Lib.hid hz'
            clear hz'
            have HXu := Lib.hid (hX.trans hw4)
            have HRu := Lib.hid (hw4.block hR)
            have HBu := Lib.hid (hw4.block hB)
            have HOu := Lib.hid (ownsRow_ext hO hw4)
            clear hX hP hR hB hO hw4 c0 c1 c2 c3
            have HU := Lib.hid HXu.out.size
            go_simp
            go_wp2_with (at_builtin; refine wpList_append_own _ rfl _ _ 22 rfl w1.heap.size 30 i0 (.float .f32 0) 1 4 Try.underlying22 hi hz0 hz1 hz2 rfl (by decide) (.slice a' k c') k (flts xs) rfl HOu.out ⟨nb, 0, none⟩ 1 1 [.float .f32 z] rfl rfl ?c1 ?c2 ?c3 ?c4 ?c5 ?_)
            case c1 => exact cell_one_at hb3
            case c2 => intro u hu; simp at hu; subst hu; rfl
            case c3 => unfold maxLen; omega
            case c4 => omega
            case c5 => exact HU.out
            intro v' w5 hown hg _
            obtain ⟨a2, c2', rfl⟩ := ownsRow_shape hown
            have HOWN := Lib.hid hown
            have HG := Lib.hid hg
            clear hown hg
            have hb4 := FillF.cellAt HXu.out HBu.out HOu.out HG.out
            obtain ⟨⟨_, _, _, c3⟩, _, _, _, f3⟩ := block4 hb4
            clear hb4
            go_wp2
            go_roundw
            case rel =>
              refine ⟨k + 1, xs ++ [z], by omega, by go_num, ?_, FillF.push HXu.out (by omega) (by omega) HRu.out HBu.out HOu.out HOWN.out HG.out⟩
              rw [HGN.out, fas_append, HXS.out]; exact congrArg (fun q => gridF Wn (rollFG Wn Hn R (fas zs) x y) k ++ [q]) HZV.out
            case measure => simp [intOf]; omega
          · obtain rfl : k = n := by omega
            obtain ⟨⟨e0, e1, e2, e3⟩, _⟩ := block4 hB
            obtain ⟨⟨d0, d1, d2, d3⟩, f0, f1, f2, f3⟩ := block4 hR
            obtain ⟨HE, HO⟩ := stored4 (T := 27) (u0 := .int .i64 Wn) (u1 := .int .i64 Hn) (u2 := .bool R) (u3 := .slice a' k c') (HX.out.trans hX) (by decide) (by omega) hR hO
            have HE' := Lib.hid HE
            have HO' := Lib.hid (ownsRow_mono HO hw)
            clear hX hP hR hB hO HE HO
            go_wp2
            refine bodyPost_ret (v := .tuple #[.agg #[.int .i64 Wn, .int .i64 Hn, .bool R, .slice a' k c'], .bool true]) ?_ rfl (keepF_yes HOK.out ⟨a', _, c', xs, rfl, HE'.out, HO'.out, ?_, by omega, ?_⟩)
            · simp only [results, Try.results35]
              go_simp
            · have h := congrArg List.length HXS.out
              simpa using h
            · simp only [Int.toNat_natCast]
              rw [← HNN.out]
              exact HXS.out
end Go.Proofs.Ytllpbkmdcaikoaa
