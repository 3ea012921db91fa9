/-
  Flat fields, by the program and by the reference.
-/
import Derived.Test.YtajfpjggdbifjaaFlA
import Derived.Test.YtajfpjggdbifjaaNum
namespace Go.Proofs.Ytajfpjggdbifjaa
open Go.RowKit
set_option linter.unusedVariables false
set_option linter.unusedSimpArgs false
set_option linter.unnecessarySimpa false

def flatG (z : Nat) (_ _ : Int) : Option Nat := fa .f32 z
def flatF (W H : Int) (z : Nat) : List (Option Nat) := gridF W.toNat (flatG z) (H.toNat * W.toNat)

theorem flat1F_any (x y : Int) (z p : Nat) (w : World) (hp : w.heap[p]? = some (.cells #[.float .f32 z] 28 (0, 0))) :
    Calls Try.prog 77 #[.int .i64 x, .int .i64 y, .pointer (some ⟨p, 0, none⟩)] w fun e w' => ∃ r, e = .returned (.float .f32 r) ∧ fa .f32 r = flatG z x y ∧ Ext w w' := by
  obtain ⟨c0, _⟩ := block1 hp
  go_enter Try.func77, Try.ntmps77
  go_wp2
  go_ret
  exact ⟨z, rfl, rfl, Ext.refl _⟩

set_option maxRecDepth 100000 in
theorem implFlatF_any (W H : Int) (R : Bool) (z : Nat) (w : World) :
    Calls Try.prog 21 #[.int .i64 W, .int .i64 H, .bool R, .float .f32 z] w (keepF w (szF W H) W H R (flatF W H z)) := by
  have hX := (((Ext.refl w).alloc (.cells #[.float .f32 z] 28)).alloc (.cells #[.int .i64 0, .int .i64 0, .bool false, .slice none 0 0] 26)).alloc (.cells #[.int .i64 W, .int .i64 H] 2)
  have b0 := heap_mid3 w (.cells #[.float .f32 z] 28) (.cells #[.int .i64 0, .int .i64 0, .bool false, .slice none 0 0] 26) (.cells #[.int .i64 W, .int .i64 H] 2)
  have b1 := heap_mid2 w (.cells #[.float .f32 z] 28) (.cells #[.int .i64 0, .int .i64 0, .bool false, .slice none 0 0] 26) (.cells #[.int .i64 W, .int .i64 H] 2)
  have b2 := heap_new2 w (.cells #[.float .f32 z] 28) (.cells #[.int .i64 0, .int .i64 0, .bool false, .slice none 0 0] 26) (.cells #[.int .i64 W, .int .i64 H] 2)
  have e2 : allIn 1 16 [W, H] = szF W H := allIn_two
  go_enter Try.func21, Try.ntmps21
  go_wp2_with fail
  refine (areWithin_any _ 2 2 [W, H] rfl (by omega) 1 16 _ (VArr.twoF b2)).mono ?_
  rw [e2]
  generalize ((w.alloc (.cells #[.float .f32 z] 28)).alloc (.cells #[.int .i64 0, .int .i64 0, .bool false, .slice none 0 0] 26)).alloc (.cells #[.int .i64 W, .int .i64 H] 2) = w0 at *
  rintro e w1 ⟨rfl, hX1⟩
  have HX2 := Lib.hid (hX.trans hX1)
  have B0 := Lib.hid (hX1.block b0)
  have B1 := Lib.hid (hX1.block b1)
  clear b0 b1 b2 hX hX1 e2
  cases hs : szF W H with
  | false =>
    have HS := Lib.hid hs
    obtain ⟨⟨d0, d1, d2, d3⟩, f0, f1, f2, f3⟩ := block4 B1.out
    have HE := Lib.hid (HX2.out.fin4 (q := w.heap.size + 1) (by omega) (.int .i64 0) (.int .i64 0) (.bool false) (.slice none 0 0))
    clear hs
    go_wp2
    refine bodyPost_ret (v := .tuple #[.agg #[.int .i64 0, .int .i64 0, .bool false, .slice none 0 0], .bool false]) ?_ rfl (keepF_no HS.out (twoF_none HE.out))
    simp only [results, Try.results21]
    go_simp
  | true =>
    have HS := Lib.hid hs
    clear hs
    go_wp2_with fail
    refine (made_any W H R 77 #[] #[.pointer (some ⟨w.heap.size, 0, none⟩)] (flatG z) HS.out _ (fun args u => by go_simp) (fun u v w' hw u0 u1 v0 v1 => ?_)).mono ?_
    · simpa using flat1F_any u v z _ w' (hw.block B0.out)
    rintro e w4 ⟨a', n', c', xs, rfl, hX4, hO, hl, hle, hf⟩
    obtain ⟨⟨d0, d1, d2, d3⟩, f0, f1, f2, f3⟩ := block4 (hX4.block B1.out)
    obtain ⟨HE, HO⟩ := stored4 (T := 26) (u0 := .int .i64 W) (u1 := .int .i64 H) (u2 := .bool R) (u3 := .slice a' n' c') (HX2.out.trans hX4) (by decide) (by omega) (hX4.block B1.out) (ownsRow_mono hO HX2.out.size)
    have HE' := Lib.hid HE
    have HO' := Lib.hid HO
    have HL := Lib.hid hl
    have HFF := Lib.hid hf
    clear HE HO hl hX4 hO hf
    go_wp2
    refine bodyPost_ret (v := .tuple #[.agg #[.int .i64 W, .int .i64 H, .bool R, .slice a' n' c'], .bool true]) ?_ rfl (keepF_yes HS.out ⟨a', n', c', xs, rfl, HE'.out, HO'.out, HL.out, hle, HFF.out⟩)
    simp only [results, Try.results21]
    go_simp

set_option maxRecDepth 100000 in
set_option maxHeartbeats 1000000 in
theorem l02Flat_any (W H : Int) (R : Bool) (z : Nat) (hs : szF W H = true) (w : World) :
    Calls Try.prog 154 #[.int .i64 W, .int .i64 H, .bool R, .float .f32 z] w (newF w W H R (flatF W H z)) := by
  obtain ⟨i0, hi, hz0, hz1, hz2⟩ := info_parts info32
  obtain ⟨⟨t1, t2⟩, t3, t4⟩ := szF_iff.1 hs
  obtain ⟨Wn, rfl⟩ := Int.eq_ofNat_of_zero_le (show 0 ≤ W by omega)
  obtain ⟨Hn, rfl⟩ := Int.eq_ofNat_of_zero_le (show 0 ≤ H by omega)
  have hm : Hn * Wn ≤ 256 := by
    have := Nat.mul_le_mul (show Hn ≤ 16 by omega) (show Wn ≤ 16 by omega); omega
  obtain ⟨M, hM⟩ : ∃ M, Hn * Wn = M := ⟨_, rfl⟩
  have hMI : (Wn : Int) * (Hn : Int) = (M : Int) := by rw [← hM, Int.natCast_mul, Int.mul_comm]
  have HZ : Hid (flatF Wn Hn z = gridF Wn (flatG z) M) := by show _ = _; unfold flatF; simp only [Int.toNat_natCast]; rw [hM]
  rw [HZ.out]
  have hMn : M ≤ 256 := by omega
  have hX := (Ext.refl w).alloc (.cells #[.int .i64 0, .int .i64 0, .bool false, .slice none 0 0] 26)
  have b0 := heap_new w (.cells #[.int .i64 0, .int .i64 0, .bool false, .slice none 0 0] 26)
  clear hs hM hm
  go_enter Try.func154, Try.ntmps154
  go_wp2_with fail
  refine (l02New_any Wn Hn R _).mono ?_
  generalize w.alloc (.cells #[.int .i64 0, .int .i64 0, .bool false, .slice none 0 0] 26) = w0 at *
  rintro e w1 ⟨bb, rfl, hX1, hbb, hO⟩
  have hXa := (Ext.refl w1).alloc (.cells #[.int .i64 Wn, .int .i64 Hn, .bool R, .slice (some ⟨bb, 0, none⟩) 0 0] 26)
  have bq := heap_new w1 (.cells #[.int .i64 Wn, .int .i64 Hn, .bool R, .slice (some ⟨bb, 0, none⟩) 0 0] 26)
  have hwq : w.heap.size < w1.heap.size := lt_of_block (hX1.block b0)
  have F0 : FillF w w.heap.size w1.heap.size Wn Hn R [] (w1.alloc (.cells #[.int .i64 Wn, .int .i64 Hn, .bool R, .slice (some ⟨bb, 0, none⟩) 0 0] 26)) 0 :=
    ⟨(hX.trans hX1).trans hXa, hXa.block (hX1.block b0), _, 0, bq, ownsRow_ext (ownsRow_mono hO hX.size) hXa⟩
  clear hX hX1 hXa b0 bq hO hbb
  go_wp2
  generalize w1.alloc (.cells #[.int .i64 Wn, .int .i64 Hn, .bool R, .slice (some ⟨bb, 0, none⟩) 0 0] 26) = w2 at *
  generalize w1.heap.size = q at *
  go_loopw [10] (fun i wr => ∃ (k : Nat) (xs : List Nat), k ≤ M ∧ i = .int .i64 k ∧ fas xs = gridF Wn (flatG z) k ∧ FillF w w.heap.size q Wn Hn R xs wr k) (fun i _ => M - (intOf i).toNat)
  case atStart => exact ⟨0, [], Nat.zero_le _, rfl, rfl, F0⟩
  case round =>
    obtain ⟨k, xs, hk, rfl, hxs, hF⟩ := hrel
    clear F0
    have HXS := Lib.hid hxs
    clear hxs
    obtain ⟨hX, hR, a', c', hB, hO⟩ := hF
    by_cases hlt : k < M
    · have HGN := Lib.hid (gridF_next Wn (flatG z) k)
      obtain ⟨⟨c0, c1, c2, c3⟩, _⟩ := block4 hB
      have HXu := Lib.hid (hX.alloc (.cells #[.float .f32 z] 28))
      have HRu := Lib.hid (((Ext.refl wr).alloc (.cells #[.float .f32 z] 28)).block hR)
      have HBu := Lib.hid (((Ext.refl wr).alloc (.cells #[.float .f32 z] 28)).block hB)
      have HOu := Lib.hid (ownsRow_ext hO ((Ext.refl wr).alloc (.cells #[.float .f32 z] 28)))
      clear hX hR hB hO
      go_wp2_with (first | (at_builtin; refine wpList_append_own _ rfl _ _ 24 rfl w.heap.size 28 i0 (.float .f32 0) 1 4 Try.underlying24 hi hz0 hz1 hz2 rfl (by decide) (.slice a' k c') k (flts xs) rfl HOu.out ⟨wr.heap.size, 0, none⟩ 1 1 [.float .f32 z] rfl rfl ?c1 ?c2 ?c3 ?c4 ?c5 ?_) | go_in)
      case c1 => exact cell_one_new _ _ _
      case c2 => intro u hu; simp at hu; subst hu; rfl
      case c3 => unfold maxLen; omega
      case c4 => omega
      case c5 => exact HXu.out.size
      intro v' w5 hown hg _
      obtain ⟨a2, c2', rfl⟩ := ownsRow_shape hown
      have HOWN := Lib.hid hown
      have HG := Lib.hid hg
      clear hown hg c0 c1 c2 c3
      have hb4 := FillF.cellAt HXu.out HBu.out HOu.out HG.out
      obtain ⟨⟨_, _, _, c3⟩, _, _, _, f3⟩ := block4 hb4
      clear hb4
      go_wp2
      go_roundw
      case rel =>
        refine ⟨k + 1, xs ++ [z], by omega, by go_num, ?_, FillF.push HXu.out (by omega) hwq HRu.out HBu.out HOu.out HOWN.out HG.out⟩
        rw [HGN.out, fas_append, HXS.out]; rfl
      case measure => simp [intOf]; omega
    · obtain rfl : k = M := by omega
      obtain ⟨⟨e0, e1, e2, e3⟩, _⟩ := block4 hB
      obtain ⟨⟨d0, d1, d2, d3⟩, f0, f1, f2, f3⟩ := block4 hR
      obtain ⟨HE, HO⟩ := stored4 (T := 26) (u0 := .int .i64 Wn) (u1 := .int .i64 Hn) (u2 := .bool R) (u3 := .slice a' k c') hX (by decide) (by omega) hR hO
      have HE' := Lib.hid HE
      have HO' := Lib.hid HO
      clear hX hR hB hO HE HO
      go_wp2
      refine bodyPost_ret (v := .agg #[.int .i64 Wn, .int .i64 Hn, .bool R, .slice a' k c']) ?_ rfl ⟨a', _, c', xs, rfl, HE'.out, HO'.out, ?_, by omega, HXS.out⟩
      · simp only [results, Try.results154]
        go_simp
      · have h := congrArg List.length HXS.out
        simpa using h

set_option maxRecDepth 100000 in
theorem specFlatF_any (W H : Int) (R : Bool) (z : Nat) (w : World) :
    Calls Try.prog 111 #[.int .i64 W, .int .i64 H, .bool R, .float .f32 z] w (keepF w (szF W H) W H R (flatF W H z)) := by
  have hX := (Ext.refl w).alloc (.cells #[.int .i64 0, .int .i64 0, .bool false, .slice none 0 0] 26)
  have b0 := heap_new w (.cells #[.int .i64 0, .int .i64 0, .bool false, .slice none 0 0] 26)
  have HX := Lib.hid hX
  cases hs : szF W H with
  | false =>
    clear hX b0
    go_enter Try.func111, Try.ntmps111
    go_wp2_with (go_at_call 153; refine (l02SizeF_any _ _ _).mono ?_; rw [hs]; rintro e w' ⟨rfl, rfl⟩)
    refine bodyPost_ret (v := .tuple #[.agg #[.int .i64 0, .int .i64 0, .bool false, .slice none 0 0], .bool false]) ?_ rfl (keepF_no rfl (twoF_none HX.out))
    simp only [results, Try.results111]
    go_simp
  | true =>
    go_enter Try.func111, Try.ntmps111
    go_wp2_with fail
    refine (l02SizeF_any _ _ _).mono ?_
    rw [hs]
    rintro e w' ⟨rfl, rfl⟩
    go_wp2_with fail
    refine (l02Flat_any W H R z hs _).mono ?_
    generalize w.alloc (.cells #[.int .i64 0, .int .i64 0, .bool false, .slice none 0 0] 26) = w0 at *
    rintro e w4 ⟨a', n', c', xs, rfl, hX4, hO, hl, hle, hf⟩
    obtain ⟨⟨d0, d1, d2, d3⟩, f0, f1, f2, f3⟩ := block4 (hX4.block b0)
    obtain ⟨HE, HO⟩ := stored4 (T := 26) (u0 := .int .i64 W) (u1 := .int .i64 H) (u2 := .bool R) (u3 := .slice a' n' c') (HX.out.trans hX4) (by decide) (Nat.le_refl _) (hX4.block b0) (ownsRow_mono hO hX.size)
    have HE' := Lib.hid HE
    have HO' := Lib.hid HO
    have HL := Lib.hid hl
    have HFF := Lib.hid hf
    clear HE HO hl hX4 hO hf hX b0
    go_wp2
    refine bodyPost_ret (v := .tuple #[.agg #[.int .i64 W, .int .i64 H, .bool R, .slice a' n' c'], .bool true]) ?_ rfl (keepF_yes rfl ⟨a', n', c', xs, rfl, HE'.out, HO'.out, HL.out, hle, HFF.out⟩)
    simp only [results, Try.results111]
    go_simp
end Go.Proofs.Ytajfpjggdbifjaa
