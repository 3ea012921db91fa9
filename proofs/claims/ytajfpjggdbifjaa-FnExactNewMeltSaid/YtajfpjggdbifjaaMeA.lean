/-
  What the laws do with a melt. (Printed by gen_melt.py.)
-/
import Derived.Test.YtajfpjggdbifjaaFld
import Derived.Test.YtajfpjggdbifjaaPost
namespace Go.Proofs.Ytajfpjggdbifjaa
open Go.RowKit
set_option linter.unusedVariables false
set_option linter.unusedSimpArgs false
set_option linter.unnecessarySimpa false

theorem block14 {w : World} {b : Nat} {v0 v1 v2 v3 v4 v5 v6 v7 v8 v9 v10 v11 v12 v13 : Value} {T : TypeId} (h : w.heap[b]? = some (.cells #[v0, v1, v2, v3, v4, v5, v6, v7, v8, v9, v10, v11, v12, v13] T (0, 0))) :
    (w.cell? ⟨b, 0, none⟩ = some v0 ∧ w.cell? ⟨b, 1, none⟩ = some v1 ∧ w.cell? ⟨b, 2, none⟩ = some v2 ∧ w.cell? ⟨b, 3, none⟩ = some v3 ∧ w.cell? ⟨b, 4, none⟩ = some v4 ∧ w.cell? ⟨b, 5, none⟩ = some v5 ∧ w.cell? ⟨b, 6, none⟩ = some v6 ∧ w.cell? ⟨b, 7, none⟩ = some v7 ∧ w.cell? ⟨b, 8, none⟩ = some v8 ∧ w.cell? ⟨b, 9, none⟩ = some v9 ∧ w.cell? ⟨b, 10, none⟩ = some v10 ∧ w.cell? ⟨b, 11, none⟩ = some v11 ∧ w.cell? ⟨b, 12, none⟩ = some v12 ∧ w.cell? ⟨b, 13, none⟩ = some v13) ∧ w.frozen? ⟨b, 0, none⟩ = false ∧ w.frozen? ⟨b, 1, none⟩ = false ∧ w.frozen? ⟨b, 2, none⟩ = false ∧ w.frozen? ⟨b, 3, none⟩ = false ∧ w.frozen? ⟨b, 4, none⟩ = false ∧ w.frozen? ⟨b, 5, none⟩ = false ∧ w.frozen? ⟨b, 6, none⟩ = false ∧ w.frozen? ⟨b, 7, none⟩ = false ∧ w.frozen? ⟨b, 8, none⟩ = false ∧ w.frozen? ⟨b, 9, none⟩ = false ∧ w.frozen? ⟨b, 10, none⟩ = false ∧ w.frozen? ⟨b, 11, none⟩ = false ∧ w.frozen? ⟨b, 12, none⟩ = false ∧ w.frozen? ⟨b, 13, none⟩ = false :=
  ⟨⟨block_cell h 0, block_cell h 1, block_cell h 2, block_cell h 3, block_cell h 4, block_cell h 5, block_cell h 6, block_cell h 7, block_cell h 8, block_cell h 9, block_cell h 10, block_cell h 11, block_cell h 12, block_cell h 13⟩, block_free h 0, block_free h 1, block_free h 2, block_free h 3, block_free h 4, block_free h 5, block_free h 6, block_free h 7, block_free h 8, block_free h 9, block_free h 10, block_free h 11, block_free h 12, block_free h 13⟩
theorem keepBlock {w : World} {k : Nat} {o : Obj} (h : w.heap[k]? = some o) {g j : Nat} (hne : k ≠ g) (v : Value) : (w.setCell ⟨g, j, none⟩ v).heap[k]? = some o := by rw [cells_setOther hne]; exact h

set_option maxRecDepth 100000 in
theorem szMelt_any (W H : Int) (R : Bool) (a : Option Addr) (n c : Nat) (W' H' : Int) (R' : Bool) (a' : Option Addr) (n' c' : Nat) (f1 f2 f3 f4 f5 : Nat) (k : Int) (L : Int) (hn : n ≤ 9223372036854775807) (hn' : n' ≤ 9223372036854775807) (hL : L ≤ 1048576) (hL0 : 0 ≤ L) (w : World) :
    Calls Try.prog 38 #[.agg #[.int .i64 W, .int .i64 H, .bool R, .slice a n c, .int .i64 W', .int .i64 H', .bool R', .slice a' n' c', .float .f32 f1, .float .f32 f2, .float .f32 f3, .float .f32 f4, .float .f32 f5, .int .i64 k], .int .i64 L] w fun e w' => e = .returned (.int .i64 (if L - n < 0 then -1 else if L - n - n' < 0 then -1 else L - n - n')) ∧ Ext w w' := by
  have hX := (Ext.refl w).alloc (.cells #[.int .i64 W, .int .i64 H, .bool R, .slice a n c, .int .i64 W', .int .i64 H', .bool R', .slice a' n' c', .float .f32 f1, .float .f32 f2, .float .f32 f3, .float .f32 f4, .float .f32 f5, .int .i64 k] 58)
  have b0 := heap_new w (.cells #[.int .i64 W, .int .i64 H, .bool R, .slice a n c, .int .i64 W', .int .i64 H', .bool R', .slice a' n' c', .float .f32 f1, .float .f32 f2, .float .f32 f3, .float .f32 f4, .float .f32 f5, .int .i64 k] 58)
  by_cases h : L - (n : Int) < 0
  · obtain ⟨⟨c0, c1, c2, c3, c4, c5, c6, c7, c8, c9, c10, c11, c12, c13⟩, _⟩ := block14 b0
    go_enter Try.func38, Try.ntmps38
    go_wp2_with fail
    generalize w.alloc (.cells #[.int .i64 W, .int .i64 H, .bool R, .slice a n c, .int .i64 W', .int .i64 H', .bool R', .slice a' n' c', .float .f32 f1, .float .f32 f2, .float .f32 f3, .float .f32 f4, .float .f32 f5, .int .i64 k] 58) = w0 at *
    clear c0 c1 c2 c3 c4 c5 c6 c7 c8 c9 c10 c11 c12 c13
    refine (szField_any W H R a n c L hn hL hL0 _).mono ?_
    rw [if_pos h]
    rintro e w1 ⟨rfl, hX1⟩
    go_wp2
    go_ret
    exact ⟨rfl, hX.trans hX1⟩
  · obtain ⟨⟨c0, c1, c2, c3, c4, c5, c6, c7, c8, c9, c10, c11, c12, c13⟩, _⟩ := block14 b0
    have e1 : decide (L - (n : Int) < 0) = false := by simpa using h
    go_enter Try.func38, Try.ntmps38
    go_wp2_with fail
    generalize w.alloc (.cells #[.int .i64 W, .int .i64 H, .bool R, .slice a n c, .int .i64 W', .int .i64 H', .bool R', .slice a' n' c', .float .f32 f1, .float .f32 f2, .float .f32 f3, .float .f32 f4, .float .f32 f5, .int .i64 k] 58) = w0 at *
    clear c0 c1 c2 c3 c4 c5 c6 c7 c8 c9 c10 c11 c12 c13
    refine (szField_any W H R a n c L hn hL hL0 _).mono ?_
    rw [if_neg (by omega)]
    rintro e w1 ⟨rfl, hX1⟩
    have HX := Lib.hid (hX.trans hX1)
    obtain ⟨⟨c0, c1, c2, c3, c4, c5, c6, c7, c8, c9, c10, c11, c12, c13⟩, _⟩ := block14 (hX1.block b0)
    have HI : Hid ((if L - (n : Int) < 0 then (-1 : Int) else if L - n - n' < 0 then -1 else L - n - n') = if L - (n : Int) - n' < 0 then -1 else L - n - n') := by show _ = _; rw [if_neg (by omega)]
    have h0 : 0 ≤ L - (n : Int) := by omega
    have h1 : L - (n : Int) ≤ 1048576 := by omega
    clear hX hX1 b0
    go_wp2_with fail
    clear c0 c1 c2 c3 c4 c5 c6 c7 c8 c9 c10 c11 c12 c13
    refine (szField_any W' H' R' a' n' c' (L - n) hn' h1 h0 _).mono ?_
    by_cases h2 : L - (n : Int) - (n' : Int) < 0
    · rw [if_pos h2]
      rintro e w2 ⟨rfl, hX2⟩
      clear e1
      go_wp2
      go_ret
      exact ⟨rfl, HX.out.trans hX2⟩
    · have e2 : decide (L - (n : Int) - (n' : Int) < 0) = false := by simpa using h2
      rw [if_neg h2]
      rintro e w2 ⟨rfl, hX2⟩
      clear e1
      go_wp2
      go_ret
      exact ⟨rfl, HX.out.trans hX2⟩

set_option maxRecDepth 100000 in
set_option maxHeartbeats 1000000 in
theorem toMelt_any (W H : Int) (R : Bool) (a : Option Addr) (n c : Nat) (W' H' : Int) (R' : Bool) (a' : Option Addr) (n' c' : Nat) (f1 f2 f3 f4 f5 : Nat) (k : Int) (xs xs' : List Nat) (hz : xs.length = n) (hz' : xs'.length = n') (hn : n ≤ 1048576) (hn' : n' ≤ 1048576) (w : World) (hA : VArr w a (flts xs)) (hA' : VArr w a' (flts xs')) :
    Calls Try.prog 40 #[.agg #[.int .i64 W, .int .i64 H, .bool R, .slice a n c, .int .i64 W', .int .i64 H', .bool R', .slice a' n' c', .float .f32 f1, .float .f32 f2, .float .f32 f3, .float .f32 f4, .float .f32 f5, .int .i64 k]] w fun e w' => ∃ b b', e = .returned (.agg #[.int .i64 W, .int .i64 H, .bool R, .slice (some ⟨b, 0, none⟩) n n, .int .i64 W', .int .i64 H', .bool R', .slice (some ⟨b', 0, none⟩) n' n', .float .f32 f1, .float .f32 f2, .float .f32 f3, .float .f32 f4, .float .f32 f5, .int .i64 k]) ∧ Ext w w' ∧
      w'.ownsRow w.heap.size 28 1 (.slice (some ⟨b, 0, none⟩) n n) n (flts xs) ∧ w'.ownsRow w.heap.size 28 1 (.slice (some ⟨b', 0, none⟩) n' n') n' (flts xs') := by
  have hX0 := (((Ext.refl w).alloc (.cells #[.int .i64 W, .int .i64 H, .bool R, .slice a n c, .int .i64 W', .int .i64 H', .bool R', .slice a' n' c', .float .f32 f1, .float .f32 f2, .float .f32 f3, .float .f32 f4, .float .f32 f5, .int .i64 k] 58)).alloc (.cells #[.int .i64 0, .int .i64 0, .bool false, .slice none 0 0, .int .i64 0, .int .i64 0, .bool false, .slice none 0 0, .float .f32 0, .float .f32 0, .float .f32 0, .float .f32 0, .float .f32 0, .int .i64 0] 62)).alloc (.cells #[.int .i64 0, .int .i64 0, .bool false, .slice none 0 0, .int .i64 0, .int .i64 0, .bool false, .slice none 0 0, .float .f32 0, .float .f32 0, .float .f32 0, .float .f32 0, .float .f32 0, .int .i64 0] 62)
  have b0 := heap_mid3 w (.cells #[.int .i64 W, .int .i64 H, .bool R, .slice a n c, .int .i64 W', .int .i64 H', .bool R', .slice a' n' c', .float .f32 f1, .float .f32 f2, .float .f32 f3, .float .f32 f4, .float .f32 f5, .int .i64 k] 58) (.cells #[.int .i64 0, .int .i64 0, .bool false, .slice none 0 0, .int .i64 0, .int .i64 0, .bool false, .slice none 0 0, .float .f32 0, .float .f32 0, .float .f32 0, .float .f32 0, .float .f32 0, .int .i64 0] 62) (.cells #[.int .i64 0, .int .i64 0, .bool false, .slice none 0 0, .int .i64 0, .int .i64 0, .bool false, .slice none 0 0, .float .f32 0, .float .f32 0, .float .f32 0, .float .f32 0, .float .f32 0, .int .i64 0] 62)
  have b1 := heap_mid2 w (.cells #[.int .i64 W, .int .i64 H, .bool R, .slice a n c, .int .i64 W', .int .i64 H', .bool R', .slice a' n' c', .float .f32 f1, .float .f32 f2, .float .f32 f3, .float .f32 f4, .float .f32 f5, .int .i64 k] 58) (.cells #[.int .i64 0, .int .i64 0, .bool false, .slice none 0 0, .int .i64 0, .int .i64 0, .bool false, .slice none 0 0, .float .f32 0, .float .f32 0, .float .f32 0, .float .f32 0, .float .f32 0, .int .i64 0] 62) (.cells #[.int .i64 0, .int .i64 0, .bool false, .slice none 0 0, .int .i64 0, .int .i64 0, .bool false, .slice none 0 0, .float .f32 0, .float .f32 0, .float .f32 0, .float .f32 0, .float .f32 0, .int .i64 0] 62)
  have b2 := heap_new2 w (.cells #[.int .i64 W, .int .i64 H, .bool R, .slice a n c, .int .i64 W', .int .i64 H', .bool R', .slice a' n' c', .float .f32 f1, .float .f32 f2, .float .f32 f3, .float .f32 f4, .float .f32 f5, .int .i64 k] 58) (.cells #[.int .i64 0, .int .i64 0, .bool false, .slice none 0 0, .int .i64 0, .int .i64 0, .bool false, .slice none 0 0, .float .f32 0, .float .f32 0, .float .f32 0, .float .f32 0, .float .f32 0, .int .i64 0] 62) (.cells #[.int .i64 0, .int .i64 0, .bool false, .slice none 0 0, .int .i64 0, .int .i64 0, .bool false, .slice none 0 0, .float .f32 0, .float .f32 0, .float .f32 0, .float .f32 0, .float .f32 0, .int .i64 0] 62)
  have hsz : (((w.alloc (.cells #[.int .i64 W, .int .i64 H, .bool R, .slice a n c, .int .i64 W', .int .i64 H', .bool R', .slice a' n' c', .float .f32 f1, .float .f32 f2, .float .f32 f3, .float .f32 f4, .float .f32 f5, .int .i64 k] 58)).alloc (.cells #[.int .i64 0, .int .i64 0, .bool false, .slice none 0 0, .int .i64 0, .int .i64 0, .bool false, .slice none 0 0, .float .f32 0, .float .f32 0, .float .f32 0, .float .f32 0, .float .f32 0, .int .i64 0] 62)).alloc (.cells #[.int .i64 0, .int .i64 0, .bool false, .slice none 0 0, .int .i64 0, .int .i64 0, .bool false, .slice none 0 0, .float .f32 0, .float .f32 0, .float .f32 0, .float .f32 0, .float .f32 0, .int .i64 0] 62)).heap.size = w.heap.size + 3 := by simp
  obtain ⟨⟨c0, c1, c2, c3, c4, c5, c6, c7, c8, c9, c10, c11, c12, c13⟩, _⟩ := block14 b0
  go_enter Try.func40, Try.ntmps40
  go_wp2_with fail
  clear c0 c1 c2 c3 c4 c5 c6 c7 c8 c9 c10 c11 c12 c13
  refine (toField_any W H R a n c xs hz hn _ (hA.ext hX0)).mono ?_
  generalize ((w.alloc (.cells #[.int .i64 W, .int .i64 H, .bool R, .slice a n c, .int .i64 W', .int .i64 H', .bool R', .slice a' n' c', .float .f32 f1, .float .f32 f2, .float .f32 f3, .float .f32 f4, .float .f32 f5, .int .i64 k] 58)).alloc (.cells #[.int .i64 0, .int .i64 0, .bool false, .slice none 0 0, .int .i64 0, .int .i64 0, .bool false, .slice none 0 0, .float .f32 0, .float .f32 0, .float .f32 0, .float .f32 0, .float .f32 0, .int .i64 0] 62)).alloc (.cells #[.int .i64 0, .int .i64 0, .bool false, .slice none 0 0, .int .i64 0, .int .i64 0, .bool false, .slice none 0 0, .float .f32 0, .float .f32 0, .float .f32 0, .float .f32 0, .float .f32 0, .int .i64 0] 62) = w0 at *
  generalize hpp : w.heap.size = p at *
  rw [hsz]
  rintro e w1 ⟨b1', rfl, hX1, hO⟩
  have B0 := hX1.block b0
  have B1 := hX1.block b1
  have B2 := hX1.block b2
  obtain ⟨⟨c0, c1, c2, c3, c4, c5, c6, c7, c8, c9, c10, c11, c12, c13⟩, _⟩ := block14 B0
  obtain ⟨⟨d0, d1, d2, d3, d4, d5, d6, d7, d8, d9, d10, d11, d12, d13⟩, g0, g1, g2, g3, g4, g5, g6, g7, g8, g9, g10, g11, g12, g13⟩ := block14 B2
  go_wp2_with fail
  clear c0 c1 c2 c3 c4 c5 c6 c7 c8 c9 c10 c11 c12 c13 d0 d1 d2 d3 d4 d5 d6 d7 d8 d9 d10 d11 d12 d13 g0 g1 g2 g3 g4 g5 g6 g7 g8 g9 g10 g11 g12 g13
  have hb1 := (hO.lt b1' rfl).1
  have hX2 : Ext w ((((w1.setCell ⟨p + 1 + 1, 0, none⟩ (.int .i64 W)).setCell ⟨p + 1 + 1, 1, none⟩ (.int .i64 H)).setCell ⟨p + 1 + 1, 2, none⟩ (.bool R)).setCell ⟨p + 1 + 1, 3, none⟩ (.slice (some ⟨b1', 0, none⟩) n n)) := Below.setCell (Below.setCell (Below.setCell (Below.setCell (hX0.trans hX1) (by simp; omega) _) (by simp; omega) _) (by simp; omega) _) (by simp; omega) _
  have O2 : ((((w1.setCell ⟨p + 1 + 1, 0, none⟩ (.int .i64 W)).setCell ⟨p + 1 + 1, 1, none⟩ (.int .i64 H)).setCell ⟨p + 1 + 1, 2, none⟩ (.bool R)).setCell ⟨p + 1 + 1, 3, none⟩ (.slice (some ⟨b1', 0, none⟩) n n)).ownsRow (p + 3) 28 1 (.slice (some ⟨b1', 0, none⟩) n n) n (flts xs) := by
    iterate 4 (refine ownsRow_setCell_other ?_ (by simp [Value.ownBlock]; omega) _)
    exact hO
  have E0 : ((((w1.setCell ⟨p + 1 + 1, 0, none⟩ (.int .i64 W)).setCell ⟨p + 1 + 1, 1, none⟩ (.int .i64 H)).setCell ⟨p + 1 + 1, 2, none⟩ (.bool R)).setCell ⟨p + 1 + 1, 3, none⟩ (.slice (some ⟨b1', 0, none⟩) n n)).heap[p]? = some (.cells #[.int .i64 W, .int .i64 H, .bool R, .slice a n c, .int .i64 W', .int .i64 H', .bool R', .slice a' n' c', .float .f32 f1, .float .f32 f2, .float .f32 f3, .float .f32 f4, .float .f32 f5, .int .i64 k] 58 (0, 0)) := keepBlock (keepBlock (keepBlock (keepBlock B0 (by omega) _) (by omega) _) (by omega) _) (by omega) _
  have E1 : ((((w1.setCell ⟨p + 1 + 1, 0, none⟩ (.int .i64 W)).setCell ⟨p + 1 + 1, 1, none⟩ (.int .i64 H)).setCell ⟨p + 1 + 1, 2, none⟩ (.bool R)).setCell ⟨p + 1 + 1, 3, none⟩ (.slice (some ⟨b1', 0, none⟩) n n)).heap[p + 1]? = some (.cells #[.int .i64 0, .int .i64 0, .bool false, .slice none 0 0, .int .i64 0, .int .i64 0, .bool false, .slice none 0 0, .float .f32 0, .float .f32 0, .float .f32 0, .float .f32 0, .float .f32 0, .int .i64 0] 62 (0, 0)) := keepBlock (keepBlock (keepBlock (keepBlock B1 (by omega) _) (by omega) _) (by omega) _) (by omega) _
  have E2 : ((((w1.setCell ⟨p + 1 + 1, 0, none⟩ (.int .i64 W)).setCell ⟨p + 1 + 1, 1, none⟩ (.int .i64 H)).setCell ⟨p + 1 + 1, 2, none⟩ (.bool R)).setCell ⟨p + 1 + 1, 3, none⟩ (.slice (some ⟨b1', 0, none⟩) n n)).heap[p + 1 + 1]? = some (.cells #[.int .i64 W, .int .i64 H, .bool R, .slice (some ⟨b1', 0, none⟩) n n, .int .i64 0, .int .i64 0, .bool false, .slice none 0 0, .float .f32 0, .float .f32 0, .float .f32 0, .float .f32 0, .float .f32 0, .int .i64 0] 62 (0, 0)) := cells_setCell (cells_setCell (cells_setCell (cells_setCell B2 _) _) _) _
  have hsz2 : p + 3 ≤ ((((w1.setCell ⟨p + 1 + 1, 0, none⟩ (.int .i64 W)).setCell ⟨p + 1 + 1, 1, none⟩ (.int .i64 H)).setCell ⟨p + 1 + 1, 2, none⟩ (.bool R)).setCell ⟨p + 1 + 1, 3, none⟩ (.slice (some ⟨b1', 0, none⟩) n n)).heap.size := by
    have := hX1.size
    simp [World.setCell]
    omega
  refine (toField_any W' H' R' a' n' c' xs' hz' hn' _ (hA'.ext hX2)).mono ?_
  generalize (((w1.setCell ⟨p + 1 + 1, 0, none⟩ (.int .i64 W)).setCell ⟨p + 1 + 1, 1, none⟩ (.int .i64 H)).setCell ⟨p + 1 + 1, 2, none⟩ (.bool R)).setCell ⟨p + 1 + 1, 3, none⟩ (.slice (some ⟨b1', 0, none⟩) n n) = w2 at *
  rintro e w3 ⟨b2', rfl, hX3, hO3⟩
  have O3 := Lib.hid (ownsRow_ext O2 hX3)
  have O4 := Lib.hid hO3
  have hb2 := (hO3.lt b2' rfl).1
  have HX3 := Lib.hid (hX2.trans hX3)
  obtain ⟨⟨c0, c1, c2, c3, c4, c5, c6, c7, c8, c9, c10, c11, c12, c13⟩, _⟩ := block14 (hX3.block E0)
  obtain ⟨⟨d0, d1, d2, d3, d4, d5, d6, d7, d8, d9, d10, d11, d12, d13⟩, g0, g1, g2, g3, g4, g5, g6, g7, g8, g9, g10, g11, g12, g13⟩ := block14 (hX3.block E2)
  obtain ⟨⟨e0, e1, e2, e3, e4, e5, e6, e7, e8, e9, e10, e11, e12, e13⟩, h0, h1, h2, h3, h4, h5, h6, h7, h8, h9, h10, h11, h12, h13⟩ := block14 (hX3.block E1)
  have hp3 : w.heap.size ≤ p := by omega
  clear hX0 hX1 hX2 hX3 O2 E0 E1 E2 B0 B1 B2 hO hO3 b0 b1 b2 hA hA' hsz
  go_wp2
  refine bodyPost_ret (v := .agg #[.int .i64 W, .int .i64 H, .bool R, .slice (some ⟨b1', 0, none⟩) n n, .int .i64 W', .int .i64 H', .bool R', .slice (some ⟨b2', 0, none⟩) n' n', .float .f32 f1, .float .f32 f2, .float .f32 f3, .float .f32 f4, .float .f32 f5, .int .i64 k]) ?_ rfl ⟨b1', b2', rfl, ?_, ?_, ?_⟩
  · simp only [results, Try.results40]
    go_simp
  · iterate 24 (refine Below.setCell ?_ (by simp; omega) _)
    exact HX3.out
  · refine ownsRow_mono (base := p + 3) ?_ (by omega)
    iterate 24 (refine ownsRow_setCell_other ?_ (by simp [Value.ownBlock]; omega) _)
    exact O3.out
  · refine ownsRow_mono (base := w2.heap.size) ?_ (by omega)
    iterate 24 (refine ownsRow_setCell_other ?_ (by simp [Value.ownBlock]; omega) _)
    exact O4.out

set_option maxRecDepth 100000 in
set_option maxHeartbeats 2000000 in
theorem eqMelt_any (W H : Int) (R : Bool) (W' H' : Int) (R' : Bool) (k : Int) (a : Option Addr) (n c : Nat) (a' : Option Addr) (n' c' : Nat) (f1 f2 f3 f4 f5 : Nat) (b : Option Addr) (m d : Nat) (b' : Option Addr) (m' d' : Nat) (e1 e2 e3 e4 e5 : Nat) (xs xs' ys ys' : List Nat) (hx : xs.length = n) (hx' : xs'.length = n') (hy : ys.length = m) (hy' : ys'.length = m') (hn : n ≤ 1048576) (hn' : n' ≤ 1048576) (hm : m ≤ 1048576) (hm' : m' ≤ 1048576) (hxy : fas xs = fas ys) (hxy' : fas xs' = fas ys') (h1 : fa .f32 f1 = fa .f32 e1) (h2 : fa .f32 f2 = fa .f32 e2) (h3 : fa .f32 f3 = fa .f32 e3) (h4 : fa .f32 f4 = fa .f32 e4) (h5 : fa .f32 f5 = fa .f32 e5) (w : World) (hA : VArr w a (flts xs)) (hA' : VArr w a' (flts xs')) (hB : VArr w b (flts ys)) (hB' : VArr w b' (flts ys')) :
    Calls Try.prog 42 #[.agg #[.int .i64 W, .int .i64 H, .bool R, .slice a n c, .int .i64 W', .int .i64 H', .bool R', .slice a' n' c', .float .f32 f1, .float .f32 f2, .float .f32 f3, .float .f32 f4, .float .f32 f5, .int .i64 k], .agg #[.int .i64 W, .int .i64 H, .bool R, .slice b m d, .int .i64 W', .int .i64 H', .bool R', .slice b' m' d', .float .f32 e1, .float .f32 e2, .float .f32 e3, .float .f32 e4, .float .f32 e5, .int .i64 k]] w fun e w' => e = .returned (.bool true) ∧ Ext w w' := by
  have hX0 := ((Ext.refl w).alloc (.cells #[.int .i64 W, .int .i64 H, .bool R, .slice a n c, .int .i64 W', .int .i64 H', .bool R', .slice a' n' c', .float .f32 f1, .float .f32 f2, .float .f32 f3, .float .f32 f4, .float .f32 f5, .int .i64 k] 62)).alloc (.cells #[.int .i64 W, .int .i64 H, .bool R, .slice b m d, .int .i64 W', .int .i64 H', .bool R', .slice b' m' d', .float .f32 e1, .float .f32 e2, .float .f32 e3, .float .f32 e4, .float .f32 e5, .int .i64 k] 62)
  have b0 := heap_mid1 w (.cells #[.int .i64 W, .int .i64 H, .bool R, .slice a n c, .int .i64 W', .int .i64 H', .bool R', .slice a' n' c', .float .f32 f1, .float .f32 f2, .float .f32 f3, .float .f32 f4, .float .f32 f5, .int .i64 k] 62) (.cells #[.int .i64 W, .int .i64 H, .bool R, .slice b m d, .int .i64 W', .int .i64 H', .bool R', .slice b' m' d', .float .f32 e1, .float .f32 e2, .float .f32 e3, .float .f32 e4, .float .f32 e5, .int .i64 k] 62)
  have b1 := heap_new1 w (.cells #[.int .i64 W, .int .i64 H, .bool R, .slice a n c, .int .i64 W', .int .i64 H', .bool R', .slice a' n' c', .float .f32 f1, .float .f32 f2, .float .f32 f3, .float .f32 f4, .float .f32 f5, .int .i64 k] 62) (.cells #[.int .i64 W, .int .i64 H, .bool R, .slice b m d, .int .i64 W', .int .i64 H', .bool R', .slice b' m' d', .float .f32 e1, .float .f32 e2, .float .f32 e3, .float .f32 e4, .float .f32 e5, .int .i64 k] 62)
  obtain ⟨⟨c0, c1, c2, c3, c4, c5, c6, c7, c8, c9, c10, c11, c12, c13⟩, _⟩ := block14 b0
  obtain ⟨⟨d0, d1, d2, d3, d4, d5, d6, d7, d8, d9, d10, d11, d12, d13⟩, _⟩ := block14 b1
  go_enter Try.func42, Try.ntmps42
  go_wp2_with fail
  clear c0 c1 c2 c3 c4 c5 c6 c7 c8 c9 c10 c11 c12 c13 d0 d1 d2 d3 d4 d5 d6 d7 d8 d9 d10 d11 d12 d13
  refine (eqField_any W H W H R R a b n c m d xs ys hx hy (by omega) (by omega) rfl rfl rfl hxy _ (hA.ext hX0) (hB.ext hX0)).mono ?_
  generalize (w.alloc (.cells #[.int .i64 W, .int .i64 H, .bool R, .slice a n c, .int .i64 W', .int .i64 H', .bool R', .slice a' n' c', .float .f32 f1, .float .f32 f2, .float .f32 f3, .float .f32 f4, .float .f32 f5, .int .i64 k] 62)).alloc (.cells #[.int .i64 W, .int .i64 H, .bool R, .slice b m d, .int .i64 W', .int .i64 H', .bool R', .slice b' m' d', .float .f32 e1, .float .f32 e2, .float .f32 e3, .float .f32 e4, .float .f32 e5, .int .i64 k] 62) = w0 at *
  generalize hpp : w.heap.size = p at *
  rintro e u1 ⟨rfl, hY1⟩
  obtain ⟨⟨c0, c1, c2, c3, c4, c5, c6, c7, c8, c9, c10, c11, c12, c13⟩, _⟩ := block14 (Ext.block hY1 b0)
  obtain ⟨⟨d0, d1, d2, d3, d4, d5, d6, d7, d8, d9, d10, d11, d12, d13⟩, _⟩ := block14 (Ext.block hY1 b1)
  go_wp2_with fail
  clear c0 c1 c2 c3 c4 c5 c6 c7 c8 c9 c10 c11 c12 c13 d0 d1 d2 d3 d4 d5 d6 d7 d8 d9 d10 d11 d12 d13
  refine (eqField_any W' H' W' H' R' R' a' b' n' c' m' d' xs' ys' hx' hy' (by omega) (by omega) rfl rfl rfl hxy' _ (hA'.ext (hX0.trans hY1)) (hB'.ext (hX0.trans hY1))).mono ?_
  rintro e u2 ⟨rfl, hY2'⟩
  have hY2 := hY1.trans hY2'
  clear hY1 hY2'
  obtain ⟨⟨c0, c1, c2, c3, c4, c5, c6, c7, c8, c9, c10, c11, c12, c13⟩, _⟩ := block14 (Ext.block hY2 b0)
  obtain ⟨⟨d0, d1, d2, d3, d4, d5, d6, d7, d8, d9, d10, d11, d12, d13⟩, _⟩ := block14 (Ext.block hY2 b1)
  go_wp2_with fail
  clear c0 c1 c2 c3 c4 c5 c6 c7 c8 c9 c10 c11 c12 c13 d0 d1 d2 d3 d4 d5 d6 d7 d8 d9 d10 d11 d12 d13
  refine (sameFloat_any _ _ (by rw [fa_wdr, fa_wdr, h1]) _).mono ?_
  rintro e u3 ⟨rfl, hYa⟩
  have hY3 := hY2.trans (Ext.trans (Ext.drewN (Ext.refl _) _) hYa)
  clear hY2 hYa
  obtain ⟨⟨c0, c1, c2, c3, c4, c5, c6, c7, c8, c9, c10, c11, c12, c13⟩, _⟩ := block14 (Ext.block hY3 b0)
  obtain ⟨⟨d0, d1, d2, d3, d4, d5, d6, d7, d8, d9, d10, d11, d12, d13⟩, _⟩ := block14 (Ext.block hY3 b1)
  go_wp2_with fail
  clear c0 c1 c2 c3 c4 c5 c6 c7 c8 c9 c10 c11 c12 c13 d0 d1 d2 d3 d4 d5 d6 d7 d8 d9 d10 d11 d12 d13
  refine (sameFloat_any _ _ (by rw [fa_wdr, fa_wdr, h2]) _).mono ?_
  rintro e u4 ⟨rfl, hYa⟩
  have hY4 := hY3.trans (Ext.trans (Ext.drewN (Ext.refl _) _) hYa)
  clear hY3 hYa
  obtain ⟨⟨c0, c1, c2, c3, c4, c5, c6, c7, c8, c9, c10, c11, c12, c13⟩, _⟩ := block14 (Ext.block hY4 b0)
  obtain ⟨⟨d0, d1, d2, d3, d4, d5, d6, d7, d8, d9, d10, d11, d12, d13⟩, _⟩ := block14 (Ext.block hY4 b1)
  go_wp2_with fail
  clear c0 c1 c2 c3 c4 c5 c6 c7 c8 c9 c10 c11 c12 c13 d0 d1 d2 d3 d4 d5 d6 d7 d8 d9 d10 d11 d12 d13
  refine (sameFloat_any _ _ (by rw [fa_wdr, fa_wdr, h3]) _).mono ?_
  rintro e u5 ⟨rfl, hYa⟩
  have hY5 := hY4.trans (Ext.trans (Ext.drewN (Ext.refl _) _) hYa)
  clear hY4 hYa
  obtain ⟨⟨c0, c1, c2, c3, c4, c5, c6, c7, c8, c9, c10, c11, c12, c13⟩, _⟩ := block14 (Ext.block hY5 b0)
  obtain ⟨⟨d0, d1, d2, d3, d4, d5, d6, d7, d8, d9, d10, d11, d12, d13⟩, _⟩ := block14 (Ext.block hY5 b1)
  go_wp2_with fail
  clear c0 c1 c2 c3 c4 c5 c6 c7 c8 c9 c10 c11 c12 c13 d0 d1 d2 d3 d4 d5 d6 d7 d8 d9 d10 d11 d12 d13
  refine (sameFloat_any _ _ (by rw [fa_wdr, fa_wdr, h4]) _).mono ?_
  rintro e u6 ⟨rfl, hYa⟩
  have hY6 := hY5.trans (Ext.trans (Ext.drewN (Ext.refl _) _) hYa)
  clear hY5 hYa
  obtain ⟨⟨c0, c1, c2, c3, c4, c5, c6, c7, c8, c9, c10, c11, c12, c13⟩, _⟩ := block14 (Ext.block hY6 b0)
  obtain ⟨⟨d0, d1, d2, d3, d4, d5, d6, d7, d8, d9, d10, d11, d12, d13⟩, _⟩ := block14 (Ext.block hY6 b1)
  go_wp2_with fail
  clear c0 c1 c2 c3 c4 c5 c6 c7 c8 c9 c10 c11 c12 c13 d0 d1 d2 d3 d4 d5 d6 d7 d8 d9 d10 d11 d12 d13
  refine (sameFloat_any _ _ (by rw [fa_wdr, fa_wdr, h5]) _).mono ?_
  rintro e u7 ⟨rfl, hYa⟩
  have hY7 := hY6.trans (Ext.trans (Ext.drewN (Ext.refl _) _) hYa)
  clear hY6 hYa
  obtain ⟨⟨c0, c1, c2, c3, c4, c5, c6, c7, c8, c9, c10, c11, c12, c13⟩, _⟩ := block14 (Ext.block hY7 b0)
  obtain ⟨⟨d0, d1, d2, d3, d4, d5, d6, d7, d8, d9, d10, d11, d12, d13⟩, _⟩ := block14 (Ext.block hY7 b1)
  go_wp2
  go_ret
  exact ⟨rfl, hX0.trans hY7⟩
end Go.Proofs.Ytajfpjggdbifjaa
