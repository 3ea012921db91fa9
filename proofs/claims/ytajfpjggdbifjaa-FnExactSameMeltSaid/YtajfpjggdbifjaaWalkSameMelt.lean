/-
  The walk of the statement on SameMelt. (Printed by gen_melt.py.)
-/
import Derived.Test.YtajfpjggdbifjaaMeX
import Derived.Test.YtajfpjggdbifjaaLate
import Derived.Test.YtajfpjggdbifjaaPost
namespace Go.Proofs.Ytajfpjggdbifjaa
open Go.RowKit
set_option linter.unusedVariables false
set_option linter.unusedSimpArgs false
set_option linter.unnecessarySimpa false

def sameA (q : Bool) (e : Ending) : Prop := e = .returned (.bool q)
set_option maxRecDepth 100000 in
set_option maxHeartbeats 8000000 in
theorem walk_FnExactSameMelt (W H : Int) (R : Bool) (a : Option Addr) (n c : Nat) (W' H' : Int) (R' : Bool) (a' : Option Addr) (n' c' : Nat) (f1 f2 f3 f4 f5 : Nat) (k : Int) (xs xs' : List Nat) (hx : xs.length = n) (nn : n ≤ 9223372036854775807) (hx' : xs'.length = n') (nn' : n' ≤ 9223372036854775807) (wx : wfF xs) (wx' : wfF xs') (hf : f1 < 4294967296 ∧ f2 < 4294967296 ∧ f3 < 4294967296 ∧ f4 < 4294967296 ∧ f5 < 4294967296)
    (U V : Int) (S : Bool) (b : Option Addr) (m d : Nat) (U' V' : Int) (S' : Bool) (b' : Option Addr) (m' d' : Nat) (e1 e2 e3 e4 e5 : Nat) (j : Int) (ys ys' : List Nat) (hy : ys.length = m) (mm : m ≤ 9223372036854775807) (hy' : ys'.length = m') (mm' : m' ≤ 9223372036854775807) (wy : wfF ys) (wy' : wfF ys') (he : e1 < 4294967296 ∧ e2 < 4294967296 ∧ e3 < 4294967296 ∧ e4 < 4294967296 ∧ e5 < 4294967296) (w : World) (hR : VArr w a (flts xs)) (hR' : VArr w a' (flts xs')) (hS : VArr w b (flts ys)) (hS' : VArr w b' (flts ys')) :
    Calls Try.prog 6 #[.agg #[.int .i64 W, .int .i64 H, .bool R, .slice a n c, .int .i64 W', .int .i64 H', .bool R', .slice a' n' c', .float .f32 f1, .float .f32 f2, .float .f32 f3, .float .f32 f4, .float .f32 f5, .int .i64 k], .agg #[.int .i64 U, .int .i64 V, .bool S, .slice b m d, .int .i64 U', .int .i64 V', .bool S', .slice b' m' d', .float .f32 e1, .float .f32 e2, .float .f32 e3, .float .f32 e4, .float .f32 e5, .int .i64 j]] w fun e w' => e = .returned (.bool true) ∧ Ext w w' := by
  have EB : Ext w ((w.alloc (.cells #[.int .i64 W, .int .i64 H, .bool R, .slice a n c, .int .i64 W', .int .i64 H', .bool R', .slice a' n' c', .float .f32 f1, .float .f32 f2, .float .f32 f3, .float .f32 f4, .float .f32 f5, .int .i64 k] 58)).alloc (.cells #[.int .i64 U, .int .i64 V, .bool S, .slice b m d, .int .i64 U', .int .i64 V', .bool S', .slice b' m' d', .float .f32 e1, .float .f32 e2, .float .f32 e3, .float .f32 e4, .float .f32 e5, .int .i64 j] 58)) := Ext.alloc (Ext.alloc (Ext.refl w) _) _
  have B0 := heap_mid1 w (.cells #[.int .i64 W, .int .i64 H, .bool R, .slice a n c, .int .i64 W', .int .i64 H', .bool R', .slice a' n' c', .float .f32 f1, .float .f32 f2, .float .f32 f3, .float .f32 f4, .float .f32 f5, .int .i64 k] 58) (.cells #[.int .i64 U, .int .i64 V, .bool S, .slice b m d, .int .i64 U', .int .i64 V', .bool S', .slice b' m' d', .float .f32 e1, .float .f32 e2, .float .f32 e3, .float .f32 e4, .float .f32 e5, .int .i64 j] 58)
  have B1 := heap_new1 w (.cells #[.int .i64 W, .int .i64 H, .bool R, .slice a n c, .int .i64 W', .int .i64 H', .bool R', .slice a' n' c', .float .f32 f1, .float .f32 f2, .float .f32 f3, .float .f32 f4, .float .f32 f5, .int .i64 k] 58) (.cells #[.int .i64 U, .int .i64 V, .bool S, .slice b m d, .int .i64 U', .int .i64 V', .bool S', .slice b' m' d', .float .f32 e1, .float .f32 e2, .float .f32 e3, .float .f32 e4, .float .f32 e5, .int .i64 j] 58)
  by_cases big : (1048576 : Int) - n < 0 ∨ (1048576 : Int) - n - n' < 0
  · -- too large
    have es : (if (1048576 : Int) - n < 0 then (-1 : Int) else if (1048576 : Int) - n - n' < 0 then -1 else (1048576 : Int) - n - n') = -1 := by
      rcases big with h | h
      · rw [if_pos h]
      · by_cases h0 : (1048576 : Int) - n < 0
        · rw [if_pos h0]
        · rw [if_neg h0, if_pos h]
    go_enter Try.func6, Try.ntmps6
    obtain ⟨⟨c0, c1, c2, c3, c4, c5, c6, c7, c8, c9, c10, c11, c12, c13⟩, _⟩ := block14 (B0)
    obtain ⟨⟨d0, d1, d2, d3, d4, d5, d6, d7, d8, d9, d10, d11, d12, d13⟩, _⟩ := block14 (B1)
    go_wp2_with fail
    clear c0 c1 c2 c3 c4 c5 c6 c7 c8 c9 c10 c11 c12 c13
    clear d0 d1 d2 d3 d4 d5 d6 d7 d8 d9 d10 d11 d12 d13
    have R0 := hR.ext EB
    have R0' := hR'.ext EB
    have S0 := hS.ext EB
    have S0' := hS'.ext EB
    generalize hsz : w.heap.size = pz at *
    generalize (w.alloc (.cells #[.int .i64 W, .int .i64 H, .bool R, .slice a n c, .int .i64 W', .int .i64 H', .bool R', .slice a' n' c', .float .f32 f1, .float .f32 f2, .float .f32 f3, .float .f32 f4, .float .f32 f5, .int .i64 k] 58)).alloc (.cells #[.int .i64 U, .int .i64 V, .bool S, .slice b m d, .int .i64 U', .int .i64 V', .bool S', .slice b' m' d', .float .f32 e1, .float .f32 e2, .float .f32 e3, .float .f32 e4, .float .f32 e5, .int .i64 j] 58) = wb at *
    have HSZ := Lib.hid hsz
    clear hsz
    refine (szMelt_any W H R a n c W' H' R' a' n' c' f1 f2 f3 f4 f5 k (1048576 : Int) nn nn' (by omega) (by omega) _).mono ?_
    rw [es]
    rintro e w1 ⟨rfl, hX1⟩
    go_wp2
    go_ret
    exact ⟨rfl, EB.trans hX1⟩
  · have hl : n ≤ 1048576 := by omega
    have hl' : n' ≤ 1048576 := by omega
    have es : (if (1048576 : Int) - n < 0 then (-1 : Int) else if (1048576 : Int) - n - n' < 0 then -1 else (1048576 : Int) - n - n') = (1048576 : Int) - n - n' := by rw [if_neg (by omega), if_neg (by omega)]
    have ed : decide ((1048576 : Int) - n - n' < 0) = false := by simp; omega
    have HL0 : Hid (0 ≤ (1048576 : Int) - n - n') := by show _ ≤ _; omega
    have HL1 : Hid ((1048576 : Int) - n - n' ≤ 1048576) := by show _ ≤ _; omega
    by_cases big2 : (1048576 : Int) - n - n' - m < 0 ∨ (1048576 : Int) - n - n' - m - m' < 0
    · -- too large
      have es2 : (if (1048576 : Int) - n - n' - m < 0 then (-1 : Int) else if (1048576 : Int) - n - n' - m - m' < 0 then -1 else (1048576 : Int) - n - n' - m - m') = -1 := by
        rcases big2 with h | h
        · rw [if_pos h]
        · by_cases h0 : (1048576 : Int) - n - n' - m < 0
          · rw [if_pos h0]
          · rw [if_neg h0, if_pos h]
      go_enter Try.func6, Try.ntmps6
      obtain ⟨⟨c0, c1, c2, c3, c4, c5, c6, c7, c8, c9, c10, c11, c12, c13⟩, _⟩ := block14 (B0)
      obtain ⟨⟨d0, d1, d2, d3, d4, d5, d6, d7, d8, d9, d10, d11, d12, d13⟩, _⟩ := block14 (B1)
      go_wp2_with fail
      clear c0 c1 c2 c3 c4 c5 c6 c7 c8 c9 c10 c11 c12 c13
      clear d0 d1 d2 d3 d4 d5 d6 d7 d8 d9 d10 d11 d12 d13
      have R0 := hR.ext EB
      have R0' := hR'.ext EB
      have S0 := hS.ext EB
      have S0' := hS'.ext EB
      generalize hsz : w.heap.size = pz at *
      generalize (w.alloc (.cells #[.int .i64 W, .int .i64 H, .bool R, .slice a n c, .int .i64 W', .int .i64 H', .bool R', .slice a' n' c', .float .f32 f1, .float .f32 f2, .float .f32 f3, .float .f32 f4, .float .f32 f5, .int .i64 k] 58)).alloc (.cells #[.int .i64 U, .int .i64 V, .bool S, .slice b m d, .int .i64 U', .int .i64 V', .bool S', .slice b' m' d', .float .f32 e1, .float .f32 e2, .float .f32 e3, .float .f32 e4, .float .f32 e5, .int .i64 j] 58) = wb at *
      have HSZ := Lib.hid hsz
      clear hsz
      refine (szMelt_any W H R a n c W' H' R' a' n' c' f1 f2 f3 f4 f5 k (1048576 : Int) nn nn' (by omega) (by omega) _).mono ?_
      rw [es]
      rintro e w1 ⟨rfl, hX1⟩
      have E1 := Lib.hid hX1
      clear hX1
      obtain ⟨⟨c0, c1, c2, c3, c4, c5, c6, c7, c8, c9, c10, c11, c12, c13⟩, _⟩ := block14 (Ext.block E1.out B0)
      obtain ⟨⟨d0, d1, d2, d3, d4, d5, d6, d7, d8, d9, d10, d11, d12, d13⟩, _⟩ := block14 (Ext.block E1.out B1)
      go_wp2_with fail
      clear c0 c1 c2 c3 c4 c5 c6 c7 c8 c9 c10 c11 c12 c13
      clear d0 d1 d2 d3 d4 d5 d6 d7 d8 d9 d10 d11 d12 d13
      refine (szMelt_any U V S b m d U' V' S' b' m' d' e1 e2 e3 e4 e5 j ((1048576 : Int) - n - n') mm mm' HL1.out HL0.out _).mono ?_
      rw [es2]
      rintro e w2 ⟨rfl, hX2⟩
      go_wp2
      go_ret
      exact ⟨rfl, EB.trans (E1.out.trans hX2)⟩
    · -- not so large
      have km : m ≤ 1048576 := by omega
      have km' : m' ≤ 1048576 := by omega
      have es2 : (if (1048576 : Int) - n - n' - m < 0 then (-1 : Int) else if (1048576 : Int) - n - n' - m - m' < 0 then -1 else (1048576 : Int) - n - n' - m - m') = (1048576 : Int) - n - n' - m - m' := by rw [if_neg (by omega), if_neg (by omega)]
      have ed2 : decide ((1048576 : Int) - n - n' - m - m' < 0) = false := by simp; omega
      go_enter Try.func6, Try.ntmps6
      obtain ⟨⟨c0, c1, c2, c3, c4, c5, c6, c7, c8, c9, c10, c11, c12, c13⟩, _⟩ := block14 (B0)
      obtain ⟨⟨d0, d1, d2, d3, d4, d5, d6, d7, d8, d9, d10, d11, d12, d13⟩, _⟩ := block14 (B1)
      go_wp2_with fail
      clear c0 c1 c2 c3 c4 c5 c6 c7 c8 c9 c10 c11 c12 c13
      clear d0 d1 d2 d3 d4 d5 d6 d7 d8 d9 d10 d11 d12 d13
      have R0 := hR.ext EB
      have R0' := hR'.ext EB
      have S0 := hS.ext EB
      have S0' := hS'.ext EB
      generalize hsz : w.heap.size = pz at *
      generalize (w.alloc (.cells #[.int .i64 W, .int .i64 H, .bool R, .slice a n c, .int .i64 W', .int .i64 H', .bool R', .slice a' n' c', .float .f32 f1, .float .f32 f2, .float .f32 f3, .float .f32 f4, .float .f32 f5, .int .i64 k] 58)).alloc (.cells #[.int .i64 U, .int .i64 V, .bool S, .slice b m d, .int .i64 U', .int .i64 V', .bool S', .slice b' m' d', .float .f32 e1, .float .f32 e2, .float .f32 e3, .float .f32 e4, .float .f32 e5, .int .i64 j] 58) = wb at *
      have HSZ := Lib.hid hsz
      clear hsz
      refine (szMelt_any W H R a n c W' H' R' a' n' c' f1 f2 f3 f4 f5 k (1048576 : Int) nn nn' (by omega) (by omega) _).mono ?_
      rw [es]
      rintro e w1 ⟨rfl, hX1⟩
      have E1 := Lib.hid hX1
      clear hX1
      obtain ⟨⟨c0, c1, c2, c3, c4, c5, c6, c7, c8, c9, c10, c11, c12, c13⟩, _⟩ := block14 (Ext.block E1.out B0)
      obtain ⟨⟨d0, d1, d2, d3, d4, d5, d6, d7, d8, d9, d10, d11, d12, d13⟩, _⟩ := block14 (Ext.block E1.out B1)
      go_wp2_with fail
      clear c0 c1 c2 c3 c4 c5 c6 c7 c8 c9 c10 c11 c12 c13
      clear d0 d1 d2 d3 d4 d5 d6 d7 d8 d9 d10 d11 d12 d13
      refine (szMelt_any U V S b m d U' V' S' b' m' d' e1 e2 e3 e4 e5 j ((1048576 : Int) - n - n') mm mm' HL1.out HL0.out _).mono ?_
      rw [es2]
      rintro e w2 ⟨rfl, hX2⟩
      have E2 := Lib.hid (E1.out.trans hX2)
      clear hX2
      obtain ⟨⟨c0, c1, c2, c3, c4, c5, c6, c7, c8, c9, c10, c11, c12, c13⟩, _⟩ := block14 (Ext.block E2.out B0)
      obtain ⟨⟨d0, d1, d2, d3, d4, d5, d6, d7, d8, d9, d10, d11, d12, d13⟩, _⟩ := block14 (Ext.block E2.out B1)
      go_wp2_with fail
      clear c0 c1 c2 c3 c4 c5 c6 c7 c8 c9 c10 c11 c12 c13
      clear d0 d1 d2 d3 d4 d5 d6 d7 d8 d9 d10 d11 d12 d13
      refine region_grow (C := Ext w2) (K := fun f args v wv => (f = 40 → ∀ (W H : Int) (R : Bool) (a : Option Addr) (n c : Nat) (W' H' : Int) (R' : Bool) (a' : Option Addr) (n' c' : Nat) (f1 f2 f3 f4 f5 : Nat) (k : Int) (xs xs' : List Nat), args = #[.agg #[.int .i64 W, .int .i64 H, .bool R, .slice a n c, .int .i64 W', .int .i64 H', .bool R', .slice a' n' c', .float .f32 f1, .float .f32 f2, .float .f32 f3, .float .f32 f4, .float .f32 f5, .int .i64 k]] → xs.length = n → xs'.length = n' → VArr wb a (flts xs) → VArr wb a' (flts xs') → ∃ p q, v = .agg #[.int .i64 W, .int .i64 H, .bool R, .slice (some ⟨p, 0, none⟩) n n, .int .i64 W', .int .i64 H', .bool R', .slice (some ⟨q, 0, none⟩) n' n', .float .f32 f1, .float .f32 f2, .float .f32 f3, .float .f32 f4, .float .f32 f5, .int .i64 k] ∧ VArr wv (some ⟨p, 0, none⟩) (flts xs) ∧ VArr wv (some ⟨q, 0, none⟩) (flts xs')) ∧ (f = 39 → v = .bool (sameM W H R a n c W' H' R' a' n' c' f1 f2 f3 f4 f5 k U V S b m d U' V' S' b' m' d' e1 e2 e3 e4 e5 j xs xs' ys ys'))) ⟨fun _ _ h k => h.trans k, fun f args v u u' h ex => ⟨fun hf W H R a n c W' H' R' a' n' c' f1 f2 f3 f4 f5 k xs xs' i1 i2 i3 i4 i5 => by obtain ⟨p, q, h1, h2, h3⟩ := h.1 hf W H R a n c W' H' R' a' n' c' f1 f2 f3 f4 f5 k xs xs' i1 i2 i3 i4 i5; exact ⟨p, q, h1, h2.ext ex, h3.ext ex⟩, h.2⟩⟩ (by kernel_rfl) (by kernel_rfl) ((Ext.refl w2).drew) ?_
      refine grow_det (c := .agg #[.int .i64 W, .int .i64 H, .bool R, .slice a n c, .int .i64 W', .int .i64 H', .bool R', .slice a' n' c', .float .f32 f1, .float .f32 f2, .float .f32 f3, .float .f32 f4, .float .f32 f5, .int .i64 k]) rfl (fun u hu _ => ?_) ?_
      · obtain ⟨⟨c0, c1, c2, c3, c4, c5, c6, c7, c8, c9, c10, c11, c12, c13⟩, _⟩ := block14 (hu.block (E2.out.block B0))
        go_simp
      refine grow_cg 40 (fun v => ∃ p q, v = .agg #[.int .i64 W, .int .i64 H, .bool R, .slice (some ⟨p, 0, none⟩) n n, .int .i64 W', .int .i64 H', .bool R', .slice (some ⟨q, 0, none⟩) n' n', .float .f32 f1, .float .f32 f2, .float .f32 f3, .float .f32 f4, .float .f32 f5, .int .i64 k]) (fun v wv => ∃ p q, v = .agg #[.int .i64 W, .int .i64 H, .bool R, .slice (some ⟨p, 0, none⟩) n n, .int .i64 W', .int .i64 H', .bool R', .slice (some ⟨q, 0, none⟩) n' n', .float .f32 f1, .float .f32 f2, .float .f32 f3, .float .f32 f4, .float .f32 f5, .int .i64 k] ∧ VArr wv (some ⟨p, 0, none⟩) (flts xs) ∧ VArr wv (some ⟨q, 0, none⟩) (flts xs')) rfl ?_
      refine ⟨#[.agg #[.int .i64 W, .int .i64 H, .bool R, .slice a n c, .int .i64 W', .int .i64 H', .bool R', .slice a' n' c', .float .f32 f1, .float .f32 f2, .float .f32 f3, .float .f32 f4, .float .f32 f5, .int .i64 k]], fun u => ?_, fun u hu _ => ?_, fun v u h => ?_, fun v hv => ?_⟩
      · go_simp
      · refine (toMelt_any W H R a n c W' H' R' a' n' c' f1 f2 f3 f4 f5 k xs xs' hx hx' hl hl' _ (VArr.ext (VArr.ext R0 E2.out) hu) (VArr.ext (VArr.ext R0' E2.out) hu)).mono fun e u' h => ?_
        obtain ⟨p, q, he', hx0, ho, ho'⟩ := h
        refine ⟨_, he', hx0, fun _ X1 X2 X3 X4 X5 X6 X7 X8 X9 X10 X11 X12 X13 X14 X15 X16 X17 X18 z1 z2 i1 i2 i3 i4 i5 => ?_, fun h => by cases h⟩
        simp only [Array.mk.injEq, List.cons.injEq, Value.agg.injEq, Value.int.injEq, Value.bool.injEq, Value.slice.injEq, Value.float.injEq, true_and, and_true] at i1
        obtain ⟨rfl, rfl, rfl, ⟨rfl, rfl, rfl⟩, rfl, rfl, rfl, ⟨rfl, rfl, rfl⟩, rfl, rfl, rfl, rfl, rfl, rfl⟩ := i1
        obtain rfl := flts_inj (VArr.unique (by simp [i2, hx]) i4 R0)
        obtain rfl := flts_inj (VArr.unique (by simp [i3, hx']) i5 R0')
        exact ⟨p, q, rfl, ownsRow_varr ho, ownsRow_varr ho'⟩
      · obtain ⟨p, q, h1, h2, h3⟩ := h.1 rfl _ _ _ _ _ _ _ _ _ _ _ _ _ _ _ _ _ _ xs xs' rfl hx hx' R0 R0'
        exact ⟨⟨p, q, h1⟩, p, q, h1, h2, h3⟩
      obtain ⟨pA, qA, rfl⟩ := hv
      refine grow_det (c := .agg #[.int .i64 U, .int .i64 V, .bool S, .slice b m d, .int .i64 U', .int .i64 V', .bool S', .slice b' m' d', .float .f32 e1, .float .f32 e2, .float .f32 e3, .float .f32 e4, .float .f32 e5, .int .i64 j]) rfl (fun u hu _ => ?_) ?_
      · obtain ⟨⟨c0, c1, c2, c3, c4, c5, c6, c7, c8, c9, c10, c11, c12, c13⟩, _⟩ := block14 (hu.block (E2.out.block B1))
        go_simp
      refine grow_cg 40 (fun v => ∃ p q, v = .agg #[.int .i64 U, .int .i64 V, .bool S, .slice (some ⟨p, 0, none⟩) m m, .int .i64 U', .int .i64 V', .bool S', .slice (some ⟨q, 0, none⟩) m' m', .float .f32 e1, .float .f32 e2, .float .f32 e3, .float .f32 e4, .float .f32 e5, .int .i64 j]) (fun v wv => ∃ p q, v = .agg #[.int .i64 U, .int .i64 V, .bool S, .slice (some ⟨p, 0, none⟩) m m, .int .i64 U', .int .i64 V', .bool S', .slice (some ⟨q, 0, none⟩) m' m', .float .f32 e1, .float .f32 e2, .float .f32 e3, .float .f32 e4, .float .f32 e5, .int .i64 j] ∧ VArr wv (some ⟨p, 0, none⟩) (flts ys) ∧ VArr wv (some ⟨q, 0, none⟩) (flts ys')) rfl ?_
      refine ⟨#[.agg #[.int .i64 U, .int .i64 V, .bool S, .slice b m d, .int .i64 U', .int .i64 V', .bool S', .slice b' m' d', .float .f32 e1, .float .f32 e2, .float .f32 e3, .float .f32 e4, .float .f32 e5, .int .i64 j]], fun u => ?_, fun u hu _ => ?_, fun v u h => ?_, fun v hv => ?_⟩
      · go_simp
      · refine (toMelt_any U V S b m d U' V' S' b' m' d' e1 e2 e3 e4 e5 j ys ys' hy hy' km km' _ (VArr.ext (VArr.ext S0 E2.out) hu) (VArr.ext (VArr.ext S0' E2.out) hu)).mono fun e u' h => ?_
        obtain ⟨p, q, he', hx0, ho, ho'⟩ := h
        refine ⟨_, he', hx0, fun _ X1 X2 X3 X4 X5 X6 X7 X8 X9 X10 X11 X12 X13 X14 X15 X16 X17 X18 z1 z2 i1 i2 i3 i4 i5 => ?_, fun h => by cases h⟩
        simp only [Array.mk.injEq, List.cons.injEq, Value.agg.injEq, Value.int.injEq, Value.bool.injEq, Value.slice.injEq, Value.float.injEq, true_and, and_true] at i1
        obtain ⟨rfl, rfl, rfl, ⟨rfl, rfl, rfl⟩, rfl, rfl, rfl, ⟨rfl, rfl, rfl⟩, rfl, rfl, rfl, rfl, rfl, rfl⟩ := i1
        obtain rfl := flts_inj (VArr.unique (by simp [i2, hy]) i4 S0)
        obtain rfl := flts_inj (VArr.unique (by simp [i3, hy']) i5 S0')
        exact ⟨p, q, rfl, ownsRow_varr ho, ownsRow_varr ho'⟩
      · obtain ⟨p, q, h1, h2, h3⟩ := h.1 rfl _ _ _ _ _ _ _ _ _ _ _ _ _ _ _ _ _ _ ys ys' rfl hy hy' S0 S0'
        exact ⟨⟨p, q, h1⟩, p, q, h1, h2, h3⟩
      obtain ⟨pB, qB, rfl⟩ := hv
      refine grow_c1 39 rfl ?_
      refine ⟨#[.agg #[.int .i64 W, .int .i64 H, .bool R, .slice (some ⟨pA, 0, none⟩) n n, .int .i64 W', .int .i64 H', .bool R', .slice (some ⟨qA, 0, none⟩) n' n', .float .f32 f1, .float .f32 f2, .float .f32 f3, .float .f32 f4, .float .f32 f5, .int .i64 k], .agg #[.int .i64 U, .int .i64 V, .bool S, .slice (some ⟨pB, 0, none⟩) m m, .int .i64 U', .int .i64 V', .bool S', .slice (some ⟨qB, 0, none⟩) m' m', .float .f32 e1, .float .f32 e2, .float .f32 e3, .float .f32 e4, .float .f32 e5, .int .i64 j]], fun u => ?_, .bool (sameM W H R a n c W' H' R' a' n' c' f1 f2 f3 f4 f5 k U V S b m d U' V' S' b' m' d' e1 e2 e3 e4 e5 j xs xs' ys ys'), fun u hu hk => ?_, fun v u h => (h.2) rfl, fun u => ⟨(fun h => by cases h), (fun _ => rfl)⟩, ?_⟩
      · go_simp
      · obtain ⟨p1, q1, hb1, hv1, hv2⟩ := hk 21 (by simp [Oper.looksAt, Op.operands, Call.operands])
        obtain ⟨p2, q2, hb2, hv3, hv4⟩ := hk 23 (by simp [Oper.looksAt, Op.operands, Call.operands])
        simp at hb1 hb2
        obtain ⟨rfl, rfl⟩ := hb1
        obtain ⟨rfl, rfl⟩ := hb2
        refine (specSameM_any W H R (some ⟨pA, 0, none⟩) n n W' H' R' (some ⟨qA, 0, none⟩) n' n' f1 f2 f3 f4 f5 k U V S (some ⟨pB, 0, none⟩) m m U' V' S' (some ⟨qB, 0, none⟩) m' m' e1 e2 e3 e4 e5 j xs xs' ys ys' hx hx' hy hy' hl hl' km km' wx wx' wy wy' hf he _ hv1 hv2 hv3 hv4).mono fun e u' h => ⟨?_, h.2⟩
        exact h.1
      refine grow_q rfl ?_
      apply Exists.intro
      refine ⟨fun u hu _ => ?_, ?_⟩
      · go_simp; try rfl
      refine grow_nil (fun w3 hX3 hh => ?_)
      clear hh
      have E3 := Lib.hid (E2.out.trans hX3)
      clear hX3
      go_simp
      obtain ⟨⟨c0, c1, c2, c3, c4, c5, c6, c7, c8, c9, c10, c11, c12, c13⟩, _⟩ := block14 (Ext.block E3.out B0)
      obtain ⟨⟨d0, d1, d2, d3, d4, d5, d6, d7, d8, d9, d10, d11, d12, d13⟩, _⟩ := block14 (Ext.block E3.out B1)
      go_wp2_with fail
      clear c0 c1 c2 c3 c4 c5 c6 c7 c8 c9 c10 c11 c12 c13
      clear d0 d1 d2 d3 d4 d5 d6 d7 d8 d9 d10 d11 d12 d13
      refine (toMelt_any W H R a n c W' H' R' a' n' c' f1 f2 f3 f4 f5 k xs xs' hx hx' hl hl' _ (VArr.ext R0 E3.out) (VArr.ext R0' E3.out)).mono ?_
      rintro e w4 ⟨p1, q1, rfl, hX4, O1, P1⟩
      have E4 := Lib.hid (E3.out.trans hX4)
      obtain ⟨⟨c0, c1, c2, c3, c4, c5, c6, c7, c8, c9, c10, c11, c12, c13⟩, _⟩ := block14 (Ext.block E4.out B0)
      obtain ⟨⟨d0, d1, d2, d3, d4, d5, d6, d7, d8, d9, d10, d11, d12, d13⟩, _⟩ := block14 (Ext.block E4.out B1)
      have lbc := lt_of_block (Ext.block E4.out B0)
      have lbd := lt_of_block (Ext.block E4.out B1)
      go_wp2_with fail
      clear lbc lbd
      clear c0 c1 c2 c3 c4 c5 c6 c7 c8 c9 c10 c11 c12 c13
      clear d0 d1 d2 d3 d4 d5 d6 d7 d8 d9 d10 d11 d12 d13
      have hY := (Ext.refl w4).alloc (.cells #[.int .i64 W, .int .i64 H, .bool R, .slice (some ⟨p1, 0, none⟩) n n, .int .i64 W', .int .i64 H', .bool R', .slice (some ⟨q1, 0, none⟩) n' n', .float .f32 f1, .float .f32 f2, .float .f32 f3, .float .f32 f4, .float .f32 f5, .int .i64 k] 62)
      have D1 := heap_new w4 (.cells #[.int .i64 W, .int .i64 H, .bool R, .slice (some ⟨p1, 0, none⟩) n n, .int .i64 W', .int .i64 H', .bool R', .slice (some ⟨q1, 0, none⟩) n' n', .float .f32 f1, .float .f32 f2, .float .f32 f3, .float .f32 f4, .float .f32 f5, .int .i64 k] 62)
      generalize hwq : w4.alloc (.cells #[.int .i64 W, .int .i64 H, .bool R, .slice (some ⟨p1, 0, none⟩) n n, .int .i64 W', .int .i64 H', .bool R', .slice (some ⟨q1, 0, none⟩) n' n', .float .f32 f1, .float .f32 f2, .float .f32 f3, .float .f32 f4, .float .f32 f5, .int .i64 k] 62) = w5 at *
      clear hwq
      have E5 := Lib.hid (E4.out.trans hY)
      have O1' := Lib.hid (ownsRow_ext O1 hY)
      have P1' := Lib.hid (ownsRow_ext P1 hY)
      clear hY hX4 O1 P1
      generalize w4.heap.size = pd1 at *
      refine (toMelt_any U V S b m d U' V' S' b' m' d' e1 e2 e3 e4 e5 j ys ys' hy hy' km km' _ (VArr.ext S0 E5.out) (VArr.ext S0' E5.out)).mono ?_
      rintro e w6 ⟨p2, q2, rfl, hX6, O2, P2⟩
      have E6 := Lib.hid (E5.out.trans hX6)
      have D1b := hX6.block D1
      have O1b := Lib.hid (ownsRow_ext O1'.out hX6)
      have P1b := Lib.hid (ownsRow_ext P1'.out hX6)
      clear hX6 D1
      obtain ⟨⟨c0, c1, c2, c3, c4, c5, c6, c7, c8, c9, c10, c11, c12, c13⟩, _⟩ := block14 (Ext.block E6.out B0)
      obtain ⟨⟨d0, d1, d2, d3, d4, d5, d6, d7, d8, d9, d10, d11, d12, d13⟩, _⟩ := block14 (Ext.block E6.out B1)
      obtain ⟨⟨x0, x1, x2, x3, x4, x5, x6, x7, x8, x9, x10, x11, x12, x13⟩, _⟩ := block14 (D1b)
      have lbc := lt_of_block (Ext.block E6.out B0)
      have lbd := lt_of_block (Ext.block E6.out B1)
      have lbx := lt_of_block D1b
      go_wp2_with fail
      clear lbc lbd lbx
      clear c0 c1 c2 c3 c4 c5 c6 c7 c8 c9 c10 c11 c12 c13
      clear d0 d1 d2 d3 d4 d5 d6 d7 d8 d9 d10 d11 d12 d13
      clear x0 x1 x2 x3 x4 x5 x6 x7 x8 x9 x10 x11 x12 x13
      have hY := (Ext.refl w6).alloc (.cells #[.int .i64 U, .int .i64 V, .bool S, .slice (some ⟨p2, 0, none⟩) m m, .int .i64 U', .int .i64 V', .bool S', .slice (some ⟨q2, 0, none⟩) m' m', .float .f32 e1, .float .f32 e2, .float .f32 e3, .float .f32 e4, .float .f32 e5, .int .i64 j] 62)
      have D2 := heap_new w6 (.cells #[.int .i64 U, .int .i64 V, .bool S, .slice (some ⟨p2, 0, none⟩) m m, .int .i64 U', .int .i64 V', .bool S', .slice (some ⟨q2, 0, none⟩) m' m', .float .f32 e1, .float .f32 e2, .float .f32 e3, .float .f32 e4, .float .f32 e5, .int .i64 j] 62)
      generalize hwq : w6.alloc (.cells #[.int .i64 U, .int .i64 V, .bool S, .slice (some ⟨p2, 0, none⟩) m m, .int .i64 U', .int .i64 V', .bool S', .slice (some ⟨q2, 0, none⟩) m' m', .float .f32 e1, .float .f32 e2, .float .f32 e3, .float .f32 e4, .float .f32 e5, .int .i64 j] 62) = w7 at *
      clear hwq
      have E7 := Lib.hid (E6.out.trans hY)
      have D1c := hY.block D1b
      have O1c := Lib.hid (ownsRow_ext O1b.out hY)
      have P1c := Lib.hid (ownsRow_ext P1b.out hY)
      have O2c := Lib.hid (ownsRow_ext O2 hY)
      have P2c := Lib.hid (ownsRow_ext P2 hY)
      clear hY D1b O2 P2
      generalize w6.heap.size = pd2 at *
      refine (implSameM_any W H R (some ⟨p1, 0, none⟩) n n W' H' R' (some ⟨q1, 0, none⟩) n' n' f1 f2 f3 f4 f5 k U V S (some ⟨p2, 0, none⟩) m m U' V' S' (some ⟨q2, 0, none⟩) m' m' e1 e2 e3 e4 e5 j xs xs' ys ys' hx hx' hy hy' hl hl' km km' wx wx' wy wy' hf he _ (ownsRow_varr O1c.out) (ownsRow_varr P1c.out) (ownsRow_varr O2c.out) (ownsRow_varr P2c.out)).mono ?_
      rintro e w8 ⟨rfl, hX8⟩
      have E8 := Lib.hid (E7.out.trans hX8)
      have D1d := hX8.block D1c
      have D2d := hX8.block D2
      have O1d := Lib.hid (ownsRow_ext O1c.out hX8)
      have P1d := Lib.hid (ownsRow_ext P1c.out hX8)
      have O2d := Lib.hid (ownsRow_ext O2c.out hX8)
      have P2d := Lib.hid (ownsRow_ext P2c.out hX8)
      clear hX8 D1c D2
      have hsm : sameM W H R (some ⟨p1, 0, none⟩) n n W' H' R' (some ⟨q1, 0, none⟩) n' n' f1 f2 f3 f4 f5 k U V S (some ⟨p2, 0, none⟩) m m U' V' S' (some ⟨q2, 0, none⟩) m' m' e1 e2 e3 e4 e5 j xs xs' ys ys' = sameM W H R a n c W' H' R' a' n' c' f1 f2 f3 f4 f5 k U V S b m d U' V' S' b' m' d' e1 e2 e3 e4 e5 j xs xs' ys ys' := rfl
      rw [hsm]
      generalize sameM W H R a n c W' H' R' a' n' c' f1 f2 f3 f4 f5 k U V S b m d U' V' S' b' m' d' e1 e2 e3 e4 e5 j xs xs' ys ys' = sm at *
      obtain ⟨⟨c0, c1, c2, c3, c4, c5, c6, c7, c8, c9, c10, c11, c12, c13⟩, _⟩ := block14 (Ext.block E8.out B0)
      obtain ⟨⟨d0, d1, d2, d3, d4, d5, d6, d7, d8, d9, d10, d11, d12, d13⟩, _⟩ := block14 (Ext.block E8.out B1)
      obtain ⟨⟨x0, x1, x2, x3, x4, x5, x6, x7, x8, x9, x10, x11, x12, x13⟩, _⟩ := block14 (D1d)
      obtain ⟨⟨y0, y1, y2, y3, y4, y5, y6, y7, y8, y9, y10, y11, y12, y13⟩, _⟩ := block14 (D2d)
      go_wp2_with fail
      clear c0 c1 c2 c3 c4 c5 c6 c7 c8 c9 c10 c11 c12 c13
      clear d0 d1 d2 d3 d4 d5 d6 d7 d8 d9 d10 d11 d12 d13
      clear x0 x1 x2 x3 x4 x5 x6 x7 x8 x9 x10 x11 x12 x13
      clear y0 y1 y2 y3 y4 y5 y6 y7 y8 y9 y10 y11 y12 y13
      refine region_grow (C := Ext w8) (K := fun f args v wv => (f = 40 → ∀ (W H : Int) (R : Bool) (a : Option Addr) (n c : Nat) (W' H' : Int) (R' : Bool) (a' : Option Addr) (n' c' : Nat) (f1 f2 f3 f4 f5 : Nat) (k : Int) (xs xs' : List Nat), args = #[.agg #[.int .i64 W, .int .i64 H, .bool R, .slice a n c, .int .i64 W', .int .i64 H', .bool R', .slice a' n' c', .float .f32 f1, .float .f32 f2, .float .f32 f3, .float .f32 f4, .float .f32 f5, .int .i64 k]] → xs.length = n → xs'.length = n' → VArr wb a (flts xs) → VArr wb a' (flts xs') → ∃ p q, v = .agg #[.int .i64 W, .int .i64 H, .bool R, .slice (some ⟨p, 0, none⟩) n n, .int .i64 W', .int .i64 H', .bool R', .slice (some ⟨q, 0, none⟩) n' n', .float .f32 f1, .float .f32 f2, .float .f32 f3, .float .f32 f4, .float .f32 f5, .int .i64 k] ∧ VArr wv (some ⟨p, 0, none⟩) (flts xs) ∧ VArr wv (some ⟨q, 0, none⟩) (flts xs')) ∧ (f = 42 → v = .bool true)) ⟨fun _ _ h k => h.trans k, fun f args v u u' h ex => ⟨fun hf W H R a n c W' H' R' a' n' c' f1 f2 f3 f4 f5 k xs xs' i1 i2 i3 i4 i5 => by obtain ⟨p, q, h1, h2, h3⟩ := h.1 hf W H R a n c W' H' R' a' n' c' f1 f2 f3 f4 f5 k xs xs' i1 i2 i3 i4 i5; exact ⟨p, q, h1, h2.ext ex, h3.ext ex⟩, h.2⟩⟩ (by kernel_rfl) (by kernel_rfl) ((Ext.refl w8).drew) ?_
      refine grow_det (c := .agg #[.int .i64 W, .int .i64 H, .bool R, .slice (some ⟨p1, 0, none⟩) n n, .int .i64 W', .int .i64 H', .bool R', .slice (some ⟨q1, 0, none⟩) n' n', .float .f32 f1, .float .f32 f2, .float .f32 f3, .float .f32 f4, .float .f32 f5, .int .i64 k]) rfl (fun u hu _ => ?_) ?_
      · obtain ⟨⟨c0, c1, c2, c3, c4, c5, c6, c7, c8, c9, c10, c11, c12, c13⟩, _⟩ := block14 (hu.block (D1d))
        go_simp
      refine grow_det (c := .agg #[.int .i64 W, .int .i64 H, .bool R, .slice a n c, .int .i64 W', .int .i64 H', .bool R', .slice a' n' c', .float .f32 f1, .float .f32 f2, .float .f32 f3, .float .f32 f4, .float .f32 f5, .int .i64 k]) rfl (fun u hu _ => ?_) ?_
      · obtain ⟨⟨c0, c1, c2, c3, c4, c5, c6, c7, c8, c9, c10, c11, c12, c13⟩, _⟩ := block14 (hu.block (E8.out.block B0))
        go_simp
      refine grow_cg 40 (fun v => ∃ p q, v = .agg #[.int .i64 W, .int .i64 H, .bool R, .slice (some ⟨p, 0, none⟩) n n, .int .i64 W', .int .i64 H', .bool R', .slice (some ⟨q, 0, none⟩) n' n', .float .f32 f1, .float .f32 f2, .float .f32 f3, .float .f32 f4, .float .f32 f5, .int .i64 k]) (fun v wv => ∃ p q, v = .agg #[.int .i64 W, .int .i64 H, .bool R, .slice (some ⟨p, 0, none⟩) n n, .int .i64 W', .int .i64 H', .bool R', .slice (some ⟨q, 0, none⟩) n' n', .float .f32 f1, .float .f32 f2, .float .f32 f3, .float .f32 f4, .float .f32 f5, .int .i64 k] ∧ VArr wv (some ⟨p, 0, none⟩) (flts xs) ∧ VArr wv (some ⟨q, 0, none⟩) (flts xs')) rfl ?_
      refine ⟨#[.agg #[.int .i64 W, .int .i64 H, .bool R, .slice a n c, .int .i64 W', .int .i64 H', .bool R', .slice a' n' c', .float .f32 f1, .float .f32 f2, .float .f32 f3, .float .f32 f4, .float .f32 f5, .int .i64 k]], fun u => ?_, fun u hu _ => ?_, fun v u h => ?_, fun v hv => ?_⟩
      · go_simp
      · refine (toMelt_any W H R a n c W' H' R' a' n' c' f1 f2 f3 f4 f5 k xs xs' hx hx' hl hl' _ (VArr.ext (VArr.ext R0 E8.out) hu) (VArr.ext (VArr.ext R0' E8.out) hu)).mono fun e u' h => ?_
        obtain ⟨p, q, he', hx0, ho, ho'⟩ := h
        refine ⟨_, he', hx0, fun _ X1 X2 X3 X4 X5 X6 X7 X8 X9 X10 X11 X12 X13 X14 X15 X16 X17 X18 z1 z2 i1 i2 i3 i4 i5 => ?_, fun h => by cases h⟩
        simp only [Array.mk.injEq, List.cons.injEq, Value.agg.injEq, Value.int.injEq, Value.bool.injEq, Value.slice.injEq, Value.float.injEq, true_and, and_true] at i1
        obtain ⟨rfl, rfl, rfl, ⟨rfl, rfl, rfl⟩, rfl, rfl, rfl, ⟨rfl, rfl, rfl⟩, rfl, rfl, rfl, rfl, rfl, rfl⟩ := i1
        obtain rfl := flts_inj (VArr.unique (by simp [i2, hx]) i4 R0)
        obtain rfl := flts_inj (VArr.unique (by simp [i3, hx']) i5 R0')
        exact ⟨p, q, rfl, ownsRow_varr ho, ownsRow_varr ho'⟩
      · obtain ⟨p, q, h1, h2, h3⟩ := h.1 rfl _ _ _ _ _ _ _ _ _ _ _ _ _ _ _ _ _ _ xs xs' rfl hx hx' R0 R0'
        exact ⟨⟨p, q, h1⟩, p, q, h1, h2, h3⟩
      obtain ⟨pA, qA, rfl⟩ := hv
      refine grow_c1 42 rfl ?_
      refine ⟨#[.agg #[.int .i64 W, .int .i64 H, .bool R, .slice (some ⟨p1, 0, none⟩) n n, .int .i64 W', .int .i64 H', .bool R', .slice (some ⟨q1, 0, none⟩) n' n', .float .f32 f1, .float .f32 f2, .float .f32 f3, .float .f32 f4, .float .f32 f5, .int .i64 k], .agg #[.int .i64 W, .int .i64 H, .bool R, .slice (some ⟨pA, 0, none⟩) n n, .int .i64 W', .int .i64 H', .bool R', .slice (some ⟨qA, 0, none⟩) n' n', .float .f32 f1, .float .f32 f2, .float .f32 f3, .float .f32 f4, .float .f32 f5, .int .i64 k]], fun u => ?_, .bool true, fun u hu hk => ?_, fun v u h => (h.2) rfl, fun u => ⟨(fun h => by cases h), (fun _ => rfl)⟩, ?_⟩
      · go_simp
      · obtain ⟨p3, q3, hb, hv1, hv2⟩ := hk 37 (by simp [Oper.looksAt, Op.operands, Call.operands])
        simp at hb
        obtain ⟨rfl, rfl⟩ := hb
        exact eqMelt_any W H R W' H' R' k _ n _ _ n' _ f1 f2 f3 f4 f5 _ n _ _ n' _ f1 f2 f3 f4 f5 xs xs' xs xs' hx hx' hx hx' hl hl' hl hl' rfl rfl rfl rfl rfl rfl rfl _ (VArr.ext (ownsRow_varr O1d.out) hu) (VArr.ext (ownsRow_varr P1d.out) hu) hv1 hv2
      refine grow_q rfl ?_
      apply Exists.intro
      refine ⟨fun u hu _ => ?_, ?_⟩
      · go_simp; try rfl
      refine grow_nil (fun w9 hXn hh => ?_)
      clear hh
      go_simp
      have E9 := Lib.hid (E8.out.trans hXn)
      have D2e := hXn.block D2d
      have O2e := Lib.hid (ownsRow_ext O2d.out hXn)
      have P2e := Lib.hid (ownsRow_ext P2d.out hXn)
      clear hXn D2d
      obtain ⟨⟨c0, c1, c2, c3, c4, c5, c6, c7, c8, c9, c10, c11, c12, c13⟩, _⟩ := block14 (Ext.block E9.out B0)
      obtain ⟨⟨d0, d1, d2, d3, d4, d5, d6, d7, d8, d9, d10, d11, d12, d13⟩, _⟩ := block14 (Ext.block E9.out B1)
      obtain ⟨⟨y0, y1, y2, y3, y4, y5, y6, y7, y8, y9, y10, y11, y12, y13⟩, _⟩ := block14 (D2e)
      go_wp2_with fail
      clear c0 c1 c2 c3 c4 c5 c6 c7 c8 c9 c10 c11 c12 c13
      clear d0 d1 d2 d3 d4 d5 d6 d7 d8 d9 d10 d11 d12 d13
      clear y0 y1 y2 y3 y4 y5 y6 y7 y8 y9 y10 y11 y12 y13
      refine region_grow (C := Ext w9) (K := fun f args v wv => (f = 40 → ∀ (W H : Int) (R : Bool) (a : Option Addr) (n c : Nat) (W' H' : Int) (R' : Bool) (a' : Option Addr) (n' c' : Nat) (f1 f2 f3 f4 f5 : Nat) (k : Int) (xs xs' : List Nat), args = #[.agg #[.int .i64 W, .int .i64 H, .bool R, .slice a n c, .int .i64 W', .int .i64 H', .bool R', .slice a' n' c', .float .f32 f1, .float .f32 f2, .float .f32 f3, .float .f32 f4, .float .f32 f5, .int .i64 k]] → xs.length = n → xs'.length = n' → VArr wb a (flts xs) → VArr wb a' (flts xs') → ∃ p q, v = .agg #[.int .i64 W, .int .i64 H, .bool R, .slice (some ⟨p, 0, none⟩) n n, .int .i64 W', .int .i64 H', .bool R', .slice (some ⟨q, 0, none⟩) n' n', .float .f32 f1, .float .f32 f2, .float .f32 f3, .float .f32 f4, .float .f32 f5, .int .i64 k] ∧ VArr wv (some ⟨p, 0, none⟩) (flts xs) ∧ VArr wv (some ⟨q, 0, none⟩) (flts xs')) ∧ (f = 42 → v = .bool true)) ⟨fun _ _ h k => h.trans k, fun f args v u u' h ex => ⟨fun hf W H R a n c W' H' R' a' n' c' f1 f2 f3 f4 f5 k xs xs' i1 i2 i3 i4 i5 => by obtain ⟨p, q, h1, h2, h3⟩ := h.1 hf W H R a n c W' H' R' a' n' c' f1 f2 f3 f4 f5 k xs xs' i1 i2 i3 i4 i5; exact ⟨p, q, h1, h2.ext ex, h3.ext ex⟩, h.2⟩⟩ (by kernel_rfl) (by kernel_rfl) ((Ext.refl w9).drew) ?_
      refine grow_det (c := .agg #[.int .i64 U, .int .i64 V, .bool S, .slice (some ⟨p2, 0, none⟩) m m, .int .i64 U', .int .i64 V', .bool S', .slice (some ⟨q2, 0, none⟩) m' m', .float .f32 e1, .float .f32 e2, .float .f32 e3, .float .f32 e4, .float .f32 e5, .int .i64 j]) rfl (fun u hu _ => ?_) ?_
      · obtain ⟨⟨c0, c1, c2, c3, c4, c5, c6, c7, c8, c9, c10, c11, c12, c13⟩, _⟩ := block14 (hu.block (D2e))
        go_simp
      refine grow_det (c := .agg #[.int .i64 U, .int .i64 V, .bool S, .slice b m d, .int .i64 U', .int .i64 V', .bool S', .slice b' m' d', .float .f32 e1, .float .f32 e2, .float .f32 e3, .float .f32 e4, .float .f32 e5, .int .i64 j]) rfl (fun u hu _ => ?_) ?_
      · obtain ⟨⟨c0, c1, c2, c3, c4, c5, c6, c7, c8, c9, c10, c11, c12, c13⟩, _⟩ := block14 (hu.block (E9.out.block B1))
        go_simp
      refine grow_cg 40 (fun v => ∃ p q, v = .agg #[.int .i64 U, .int .i64 V, .bool S, .slice (some ⟨p, 0, none⟩) m m, .int .i64 U', .int .i64 V', .bool S', .slice (some ⟨q, 0, none⟩) m' m', .float .f32 e1, .float .f32 e2, .float .f32 e3, .float .f32 e4, .float .f32 e5, .int .i64 j]) (fun v wv => ∃ p q, v = .agg #[.int .i64 U, .int .i64 V, .bool S, .slice (some ⟨p, 0, none⟩) m m, .int .i64 U', .int .i64 V', .bool S', .slice (some ⟨q, 0, none⟩) m' m', .float .f32 e1, .float .f32 e2, .float .f32 e3, .float .f32 e4, .float .f32 e5, .int .i64 j] ∧ VArr wv (some ⟨p, 0, none⟩) (flts ys) ∧ VArr wv (some ⟨q, 0, none⟩) (flts ys')) rfl ?_
      refine ⟨#[.agg #[.int .i64 U, .int .i64 V, .bool S, .slice b m d, .int .i64 U', .int .i64 V', .bool S', .slice b' m' d', .float .f32 e1, .float .f32 e2, .float .f32 e3, .float .f32 e4, .float .f32 e5, .int .i64 j]], fun u => ?_, fun u hu _ => ?_, fun v u h => ?_, fun v hv => ?_⟩
      · go_simp
      · refine (toMelt_any U V S b m d U' V' S' b' m' d' e1 e2 e3 e4 e5 j ys ys' hy hy' km km' _ (VArr.ext (VArr.ext S0 E9.out) hu) (VArr.ext (VArr.ext S0' E9.out) hu)).mono fun e u' h => ?_
        obtain ⟨p, q, he', hx0, ho, ho'⟩ := h
        refine ⟨_, he', hx0, fun _ X1 X2 X3 X4 X5 X6 X7 X8 X9 X10 X11 X12 X13 X14 X15 X16 X17 X18 z1 z2 i1 i2 i3 i4 i5 => ?_, fun h => by cases h⟩
        simp only [Array.mk.injEq, List.cons.injEq, Value.agg.injEq, Value.int.injEq, Value.bool.injEq, Value.slice.injEq, Value.float.injEq, true_and, and_true] at i1
        obtain ⟨rfl, rfl, rfl, ⟨rfl, rfl, rfl⟩, rfl, rfl, rfl, ⟨rfl, rfl, rfl⟩, rfl, rfl, rfl, rfl, rfl, rfl⟩ := i1
        obtain rfl := flts_inj (VArr.unique (by simp [i2, hy]) i4 S0)
        obtain rfl := flts_inj (VArr.unique (by simp [i3, hy']) i5 S0')
        exact ⟨p, q, rfl, ownsRow_varr ho, ownsRow_varr ho'⟩
      · obtain ⟨p, q, h1, h2, h3⟩ := h.1 rfl _ _ _ _ _ _ _ _ _ _ _ _ _ _ _ _ _ _ ys ys' rfl hy hy' S0 S0'
        exact ⟨⟨p, q, h1⟩, p, q, h1, h2, h3⟩
      obtain ⟨pB, qB, rfl⟩ := hv
      refine grow_c1 42 rfl ?_
      refine ⟨#[.agg #[.int .i64 U, .int .i64 V, .bool S, .slice (some ⟨p2, 0, none⟩) m m, .int .i64 U', .int .i64 V', .bool S', .slice (some ⟨q2, 0, none⟩) m' m', .float .f32 e1, .float .f32 e2, .float .f32 e3, .float .f32 e4, .float .f32 e5, .int .i64 j], .agg #[.int .i64 U, .int .i64 V, .bool S, .slice (some ⟨pB, 0, none⟩) m m, .int .i64 U', .int .i64 V', .bool S', .slice (some ⟨qB, 0, none⟩) m' m', .float .f32 e1, .float .f32 e2, .float .f32 e3, .float .f32 e4, .float .f32 e5, .int .i64 j]], fun u => ?_, .bool true, fun u hu hk => ?_, fun v u h => (h.2) rfl, fun u => ⟨(fun h => by cases h), (fun _ => rfl)⟩, ?_⟩
      · go_simp
      · obtain ⟨p3, q3, hb, hv1, hv2⟩ := hk 42 (by simp [Oper.looksAt, Op.operands, Call.operands])
        simp at hb
        obtain ⟨rfl, rfl⟩ := hb
        exact eqMelt_any U V S U' V' S' j _ m _ _ m' _ e1 e2 e3 e4 e5 _ m _ _ m' _ e1 e2 e3 e4 e5 ys ys' ys ys' hy hy' hy hy' km km' km km' rfl rfl rfl rfl rfl rfl rfl _ (VArr.ext (ownsRow_varr O2e.out) hu) (VArr.ext (ownsRow_varr P2e.out) hu) hv1 hv2
      refine grow_q rfl ?_
      apply Exists.intro
      refine ⟨fun u hu _ => ?_, ?_⟩
      · go_simp; try rfl
      refine grow_nil (fun w10 hXn hh => ?_)
      clear hh
      go_simp
      have E10 := Lib.hid (E9.out.trans hXn)
      clear hXn
      go_wp2
      go_ret
      exact ⟨rfl, EB.trans E10.out⟩
end Go.Proofs.Ytajfpjggdbifjaa
