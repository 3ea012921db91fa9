/-
  The neighbours of a cell of a field, by the program and by the reference. (Printed by gen_near.py.)
-/
import Derived.Test.YtajfpjggdbifjaaFlM
namespace Go.Proofs.Ytajfpjggdbifjaa
open Go.RowKit
set_option linter.unusedVariables false
set_option linter.unusedSimpArgs false
set_option linter.unnecessarySimpa false

def nbL (Wn : Nat) (H : Int) (R : Bool) (i : Nat) : List Int := [cellR Wn H R (((i % Wn : Nat) : Int) - 1) ((i / Wn : Nat) : Int), cellR Wn H R (((i % Wn : Nat) : Int) + 1) ((i / Wn : Nat) : Int), cellR Wn H R ((i % Wn : Nat) : Int) (((i / Wn : Nat) : Int) - 1), cellR Wn H R ((i % Wn : Nat) : Int) (((i / Wn : Nat) : Int) + 1)]
theorem nbL_length (Wn : Nat) (H : Int) (R : Bool) (i : Nat) : (nbL Wn H R i).length = 4 := rfl
theorem row_of_blockF {w : World} {B e b n : Nat} {cs : Array Value} (hB : B ≤ b) (hn : cs.size = n) (hm : n ≤ maxLen) (h : w.heap[b]? = some (.cells cs e (0, 0))) : w.ownsRow B e 1 (.slice (some ⟨b, 0, none⟩) n n) n cs.toList :=
  ⟨by simp [hn], .inr ⟨b, n, cs, rfl, hB, h, Nat.le_refl _, hm, by simp [hn], by rw [Nat.mul_one]; exact List.take_of_length_le (by simp [hn])⟩⟩
theorem ints_appendF (xs ys : List Int) : ints (xs ++ ys) = ints xs ++ ints ys := by simp [ints]
theorem own_int_atF {w : World} {base : Nat} {e : TypeId} {g n m c : Nat} {zs : List Int} (h : w.ownsRow base e 1 (.slice (some ⟨g, 0, none⟩) n c) m (ints zs)) {k : Nat} (hk : k < zs.length) : w.cell? ⟨g, k, none⟩ = some (.int .i64 (zs[k]?.getD 0)) ∧ w.frozen? ⟨g, k, none⟩ = false := by
  have := (ownsRow_varr h).ofInts k hk
  simp only [Nat.zero_add, List.getD_eq_getElem?_getD] at this
  exact ⟨this, ownsRow_frozen h k⟩

set_option maxRecDepth 100000 in
set_option maxHeartbeats 4000000 in
theorem neighbours_any (Wn Hn i : Nat) (R : Bool) (a0 : Option Addr) (n c : Nat) (hW : 1 ≤ Wn ∧ Wn ≤ 16) (hH : 1 ≤ Hn ∧ Hn ≤ 16) (hi : i < Hn * Wn) (w : World) :
    Calls Try.prog 86 #[.agg #[.int .i64 Wn, .int .i64 Hn, .bool R, .slice a0 n c], .int .i64 i] w fun e w' => ∃ a m c, e = .returned (.slice a m c) ∧ Ext w w' ∧ w'.ownsRow w.heap.size 2 1 (.slice a m c) m (ints ((nbL Wn Hn R i).filter fun z => z != (i : Int))) := by
  obtain ⟨i0, hin, hz0, hz1, hz2⟩ := info_parts info64
  have HC : Hid (∀ u v w', Calls Try.prog 137 #[.agg #[.int .i64 Wn, .int .i64 Hn, .bool R, .slice a0 n c], .int .i64 u, .int .i64 v] w' fun e w'' => e = .returned (.int .i64 (cellR Wn Hn R u v)) ∧ Ext w' w'') := fun u v w' => cellR_any Wn Hn u v R a0 n c ⟨by omega, by omega⟩ ⟨by omega, by omega⟩ w'
  have hu2 : i % Wn < Wn := Nat.mod_lt _ (by omega)
  have hv2 : i / Wn < Hn := Nat.div_lt_of_lt_mul (by rw [Nat.mul_comm]; omega)
  unfold nbL
  have hu := tmodF_nat i Wn
  have hv := tdivF_nat i Wn
  have hne : ¬ Wn = 0 := by omega
  generalize i % Wn = x at *
  generalize i / Wn = y at *
  obtain ⟨g0, hg0⟩ : ∃ g, cellR Wn Hn R ((x : Int) - 1) (y : Int) = g := ⟨_, rfl⟩
  obtain ⟨g1, hg1⟩ : ∃ g, cellR Wn Hn R ((x : Int) + 1) (y : Int) = g := ⟨_, rfl⟩
  obtain ⟨g2, hg2⟩ : ∃ g, cellR Wn Hn R (x : Int) ((y : Int) - 1) = g := ⟨_, rfl⟩
  obtain ⟨g3, hg3⟩ : ∃ g, cellR Wn Hn R (x : Int) ((y : Int) + 1) = g := ⟨_, rfl⟩
  rw [hg0, hg1, hg2, hg3]
  have HG0 := Lib.hid hg0
  have HG1 := Lib.hid hg1
  have HG2 := Lib.hid hg2
  have HG3 := Lib.hid hg3
  clear hg0 hg1 hg2 hg3
  have hX := (Ext.refl w).alloc (.cells #[.int .i64 Wn, .int .i64 Hn, .bool R, .slice a0 n c] 26)
  have b0 := heap_new w (.cells #[.int .i64 Wn, .int .i64 Hn, .bool R, .slice a0 n c] 26)
  have hw0 : w.heap.size < (w.alloc (.cells #[.int .i64 Wn, .int .i64 Hn, .bool R, .slice a0 n c] 26)).heap.size := by simp
  go_enter Try.func86, Try.ntmps86
  go_wp2_with fail
  generalize w.alloc (.cells #[.int .i64 Wn, .int .i64 Hn, .bool R, .slice a0 n c] 26) = w0 at *
  refine region_grow (C := Ext w0) (K := fun _ _ _ _ => True) ⟨fun _ _ h k => h.trans k, fun _ _ _ _ _ h _ => h⟩ (by kernel_rfl) (by kernel_rfl) ((Ext.refl w0).drew) ?_
  iterate 8 (refine grow_q rfl ?_; apply Exists.intro; refine ⟨fun u' hu' _ => ?_, ?_⟩; focus (obtain ⟨⟨c0, c1, c2, c3⟩, _⟩ := block4 (hu'.block b0); go_simp; rfl))
  refine grow_newB (mk := fun b => .slice (some ⟨b, 0, none⟩) 0 0) (ob := .cells #[] 2) w0.heap.size rfl (fun b b' h => by simpa using h) (fun u hu => hu.size) (fun u _ _ => ?_) (fun nb hnb => ?_)
  · go_simp
  iterate 3 (refine grow_q rfl ?_; apply Exists.intro; refine ⟨fun u' hu' _ => ?_, ?_⟩; focus (go_simp; rfl))
  refine grow_nil (fun w1 hw1 hh => ?_)
  obtain ⟨_, hb1⟩ := hh
  have hE := hX.trans hw1
  have hB := hw1.block b0
  have hO := ownsRow_emptyF (B := w.heap.size) (by omega) hb1
  clear hX b0 hw1 hb1
  go_simp
  have hvw := wrapS (n := (y : Int)) (by omega) (by omega)
  try simp only [hu, hv, hvw]
  go_wp2
  go_loopw [7, 25] (fun s j wr => ∃ (k : Nat) (a : Option Addr) (m c' : Nat), k ≤ 4 ∧ j = .int .i64 k ∧ s = .slice a m c' ∧ Ext w wr ∧ wr.heap[w.heap.size]? = some (.cells #[.int .i64 Wn, .int .i64 Hn, .bool R, .slice a0 n c] 26 (0, 0)) ∧ m ≤ k ∧ wr.ownsRow w.heap.size 2 1 (.slice a m c') m (ints (([g0, g1, g2, g3].take k).filter fun z => z != (i : Int)))) (fun _ j _ => 4 - (intOf j).toNat)
  case atStart => exact ⟨0, _, _, _, Nat.zero_le _, rfl, rfl, hE, hB, Nat.le_refl _, by simpa [ints] using hO⟩
  case round =>
    obtain ⟨k, a, m, c', hk, rfl, rfl, hE2, hB2, hm, hO2⟩ := hrel
    clear hE hB hO
    have HE := Lib.hid hE2
    have HO := Lib.hid hO2
    have HB := Lib.hid hB2
    clear hE2 hO2 hB2
    obtain ⟨⟨c0, c1, c2, c3⟩, _⟩ := block4 HB.out
    have lb := lt_of_block HB.out
    have hk5 : k = 4 ∨ k = 0 ∨ k = 1 ∨ k = 2 ∨ k = 3 := by omega
    rcases hk5 with rfl | rfl | rfl | rfl | rfl
    · go_wp2
      go_ret
      exact ⟨a, m, c', rfl, HE.out, by simpa using HO.out⟩
    · have hY := (Ext.refl wr).alloc (.cells #[.int .i64 (-1), .int .i64 (0)] 143)
      have HE1 := Lib.hid (HE.out.trans hY)
      have HO1 := Lib.hid (ownsRow_ext HO.out hY)
      have HB1 := Lib.hid (hY.block HB.out)
      clear hY HE HO HB
      have xi : ∀ w : World, (Instr.index 144 (.agg #[.int .i64 (-1), .int .i64 (0), .int .i64 (1), .int .i64 (0), .int .i64 (0), .int .i64 (-1), .int .i64 (0), .int .i64 (1)]) (.int .i64 0)).run Try.prog w = .ok (.agg #[.int .i64 (-1), .int .i64 (0)]) w := fun _ => by kernel_rfl
      go_wp2_with (simp only [xi])
      clear c0 c1 c2 c3 xi
      generalize wr.alloc (.cells #[.int .i64 (-1), .int .i64 (0)] 143) = wa at *
      rw [show ((x : Int) + -1) = (x : Int) - 1 by omega]
      refine (HC.out ((x : Int) - 1) (y : Int) _).mono ?_
      rw [HG0.out]
      rintro e w5 ⟨rfl, hX5⟩
      have HE5 := Lib.hid (HE1.out.trans hX5)
      have HO5 := Lib.hid (ownsRow_ext HO1.out hX5)
      have HB5 := Lib.hid (hX5.block HB1.out)
      clear hX5 HE1 HO1 HB1
      cases hgi : (g0 != (i : Int)) with
      | true =>
        have hY6 := (Ext.refl w5).alloc (.cells #[.int .i64 g0] 2)
        have b6 := cell_one_at (heap_new w5 (.cells #[.int .i64 g0] 2))
        have HE6 := Lib.hid (HE5.out.trans hY6)
        have HO6 := Lib.hid (ownsRow_ext HO5.out hY6)
        have HB6 := Lib.hid (hY6.block HB5.out)
        have HU := Lib.hid HE6.out.size
        clear hY6 HE5 HO5 HB5
        go_wp2_with (at_builtin; refine wpList_append_own _ rfl _ _ 42 rfl w.heap.size 2 i0 (.int .i64 0) 1 8 Try.underlying42 hin hz0 hz1 hz2 rfl (by decide) (.slice a m c') m _ rfl HO6.out ⟨_, 0, none⟩ 1 1 [.int .i64 g0] rfl rfl ?c1 ?c2 ?c3 ?c4 ?c5 ?_)
        case c1 => exact b6
        case c2 => intro u hu; simp at hu; subst hu; rfl
        case c3 => unfold maxLen; omega
        case c4 => omega
        case c5 => exact HU.out
        intro v' w7 hown hg _
        obtain ⟨a3, c3', rfl⟩ := ownsRow_shape hown
        have E7 := Lib.hid (Ext.rowv HE6.out HO6.out (Nat.le_refl _) hg)
        have B7 := Lib.hid (block_apart (by decide) HO6.out hg HB6.out)
        have O7 := Lib.hid hown
        clear hown hg HE6 HO6 HB6 b6 HU
        have HGI := Lib.hid hgi
        clear hgi
        go_wp2
        go_roundw
        case rel =>
          refine ⟨1, a3, m + 1, c3', by omega, by go_num, rfl, E7.out, B7.out, by omega, ?_⟩
          have h := O7.out
          rw [show ([g0, g1, g2, g3].take 1) = ([g0, g1, g2, g3].take 0) ++ [g0] from rfl, List.filter_append, ints_appendF, show ([g0].filter fun z => z != (i : Int)) = [g0] by simp [HGI.out]]
          exact h
        case measure => simp [intOf]
      | false =>
        have HGI := Lib.hid hgi
        go_wp2
        go_roundw
        case rel =>
          refine ⟨1, a, m, c', by omega, by go_num, rfl, HE5.out, HB5.out, by omega, ?_⟩
          have h := HO5.out
          rw [show ([g0, g1, g2, g3].take 1) = ([g0, g1, g2, g3].take 0) ++ [g0] from rfl, List.filter_append, show ([g0].filter fun z => z != (i : Int)) = [] by simp [HGI.out], List.append_nil]
          exact h
        case measure => simp [intOf]
    · have hY := (Ext.refl wr).alloc (.cells #[.int .i64 (1), .int .i64 (0)] 143)
      have HE1 := Lib.hid (HE.out.trans hY)
      have HO1 := Lib.hid (ownsRow_ext HO.out hY)
      have HB1 := Lib.hid (hY.block HB.out)
      clear hY HE HO HB
      have xi : ∀ w : World, (Instr.index 144 (.agg #[.int .i64 (-1), .int .i64 (0), .int .i64 (1), .int .i64 (0), .int .i64 (0), .int .i64 (-1), .int .i64 (0), .int .i64 (1)]) (.int .i64 1)).run Try.prog w = .ok (.agg #[.int .i64 (1), .int .i64 (0)]) w := fun _ => by kernel_rfl
      go_wp2_with (simp only [xi])
      clear c0 c1 c2 c3 xi
      generalize wr.alloc (.cells #[.int .i64 (1), .int .i64 (0)] 143) = wa at *
      refine (HC.out ((x : Int) + 1) (y : Int) _).mono ?_
      rw [HG1.out]
      rintro e w5 ⟨rfl, hX5⟩
      have HE5 := Lib.hid (HE1.out.trans hX5)
      have HO5 := Lib.hid (ownsRow_ext HO1.out hX5)
      have HB5 := Lib.hid (hX5.block HB1.out)
      clear hX5 HE1 HO1 HB1
      cases hgi : (g1 != (i : Int)) with
      | true =>
        have hY6 := (Ext.refl w5).alloc (.cells #[.int .i64 g1] 2)
        have b6 := cell_one_at (heap_new w5 (.cells #[.int .i64 g1] 2))
        have HE6 := Lib.hid (HE5.out.trans hY6)
        have HO6 := Lib.hid (ownsRow_ext HO5.out hY6)
        have HB6 := Lib.hid (hY6.block HB5.out)
        have HU := Lib.hid HE6.out.size
        clear hY6 HE5 HO5 HB5
        go_wp2_with (at_builtin; refine wpList_append_own _ rfl _ _ 42 rfl w.heap.size 2 i0 (.int .i64 0) 1 8 Try.underlying42 hin hz0 hz1 hz2 rfl (by decide) (.slice a m c') m _ rfl HO6.out ⟨_, 0, none⟩ 1 1 [.int .i64 g1] rfl rfl ?c1 ?c2 ?c3 ?c4 ?c5 ?_)
        case c1 => exact b6
        case c2 => intro u hu; simp at hu; subst hu; rfl
        case c3 => unfold maxLen; omega
        case c4 => omega
        case c5 => exact HU.out
        intro v' w7 hown hg _
        obtain ⟨a3, c3', rfl⟩ := ownsRow_shape hown
        have E7 := Lib.hid (Ext.rowv HE6.out HO6.out (Nat.le_refl _) hg)
        have B7 := Lib.hid (block_apart (by decide) HO6.out hg HB6.out)
        have O7 := Lib.hid hown
        clear hown hg HE6 HO6 HB6 b6 HU
        have HGI := Lib.hid hgi
        clear hgi
        go_wp2
        go_roundw
        case rel =>
          refine ⟨2, a3, m + 1, c3', by omega, by go_num, rfl, E7.out, B7.out, by omega, ?_⟩
          have h := O7.out
          rw [show ([g0, g1, g2, g3].take 2) = ([g0, g1, g2, g3].take 1) ++ [g1] from rfl, List.filter_append, ints_appendF, show ([g1].filter fun z => z != (i : Int)) = [g1] by simp [HGI.out]]
          exact h
        case measure => simp [intOf]
      | false =>
        have HGI := Lib.hid hgi
        go_wp2
        go_roundw
        case rel =>
          refine ⟨2, a, m, c', by omega, by go_num, rfl, HE5.out, HB5.out, by omega, ?_⟩
          have h := HO5.out
          rw [show ([g0, g1, g2, g3].take 2) = ([g0, g1, g2, g3].take 1) ++ [g1] from rfl, List.filter_append, show ([g1].filter fun z => z != (i : Int)) = [] by simp [HGI.out], List.append_nil]
          exact h
        case measure => simp [intOf]
    · have hY := (Ext.refl wr).alloc (.cells #[.int .i64 (0), .int .i64 (-1)] 143)
      have HE1 := Lib.hid (HE.out.trans hY)
      have HO1 := Lib.hid (ownsRow_ext HO.out hY)
      have HB1 := Lib.hid (hY.block HB.out)
      clear hY HE HO HB
      have xi : ∀ w : World, (Instr.index 144 (.agg #[.int .i64 (-1), .int .i64 (0), .int .i64 (1), .int .i64 (0), .int .i64 (0), .int .i64 (-1), .int .i64 (0), .int .i64 (1)]) (.int .i64 2)).run Try.prog w = .ok (.agg #[.int .i64 (0), .int .i64 (-1)]) w := fun _ => by kernel_rfl
      go_wp2_with (simp only [xi])
      clear c0 c1 c2 c3 xi
      generalize wr.alloc (.cells #[.int .i64 (0), .int .i64 (-1)] 143) = wa at *
      rw [show ((y : Int) + -1) = (y : Int) - 1 by omega]
      refine (HC.out (x : Int) ((y : Int) - 1) _).mono ?_
      rw [HG2.out]
      rintro e w5 ⟨rfl, hX5⟩
      have HE5 := Lib.hid (HE1.out.trans hX5)
      have HO5 := Lib.hid (ownsRow_ext HO1.out hX5)
      have HB5 := Lib.hid (hX5.block HB1.out)
      clear hX5 HE1 HO1 HB1
      cases hgi : (g2 != (i : Int)) with
      | true =>
        have hY6 := (Ext.refl w5).alloc (.cells #[.int .i64 g2] 2)
        have b6 := cell_one_at (heap_new w5 (.cells #[.int .i64 g2] 2))
        have HE6 := Lib.hid (HE5.out.trans hY6)
        have HO6 := Lib.hid (ownsRow_ext HO5.out hY6)
        have HB6 := Lib.hid (hY6.block HB5.out)
        have HU := Lib.hid HE6.out.size
        clear hY6 HE5 HO5 HB5
        go_wp2_with (at_builtin; refine wpList_append_own _ rfl _ _ 42 rfl w.heap.size 2 i0 (.int .i64 0) 1 8 Try.underlying42 hin hz0 hz1 hz2 rfl (by decide) (.slice a m c') m _ rfl HO6.out ⟨_, 0, none⟩ 1 1 [.int .i64 g2] rfl rfl ?c1 ?c2 ?c3 ?c4 ?c5 ?_)
        case c1 => exact b6
        case c2 => intro u hu; simp at hu; subst hu; rfl
        case c3 => unfold maxLen; omega
        case c4 => omega
        case c5 => exact HU.out
        intro v' w7 hown hg _
        obtain ⟨a3, c3', rfl⟩ := ownsRow_shape hown
        have E7 := Lib.hid (Ext.rowv HE6.out HO6.out (Nat.le_refl _) hg)
        have B7 := Lib.hid (block_apart (by decide) HO6.out hg HB6.out)
        have O7 := Lib.hid hown
        clear hown hg HE6 HO6 HB6 b6 HU
        have HGI := Lib.hid hgi
        clear hgi
        go_wp2
        go_roundw
        case rel =>
          refine ⟨3, a3, m + 1, c3', by omega, by go_num, rfl, E7.out, B7.out, by omega, ?_⟩
          have h := O7.out
          rw [show ([g0, g1, g2, g3].take 3) = ([g0, g1, g2, g3].take 2) ++ [g2] from rfl, List.filter_append, ints_appendF, show ([g2].filter fun z => z != (i : Int)) = [g2] by simp [HGI.out]]
          exact h
        case measure => simp [intOf]
      | false =>
        have HGI := Lib.hid hgi
        go_wp2
        go_roundw
        case rel =>
          refine ⟨3, a, m, c', by omega, by go_num, rfl, HE5.out, HB5.out, by omega, ?_⟩
          have h := HO5.out
          rw [show ([g0, g1, g2, g3].take 3) = ([g0, g1, g2, g3].take 2) ++ [g2] from rfl, List.filter_append, show ([g2].filter fun z => z != (i : Int)) = [] by simp [HGI.out], List.append_nil]
          exact h
        case measure => simp [intOf]
    · have hY := (Ext.refl wr).alloc (.cells #[.int .i64 (0), .int .i64 (1)] 143)
      have HE1 := Lib.hid (HE.out.trans hY)
      have HO1 := Lib.hid (ownsRow_ext HO.out hY)
      have HB1 := Lib.hid (hY.block HB.out)
      clear hY HE HO HB
      have xi : ∀ w : World, (Instr.index 144 (.agg #[.int .i64 (-1), .int .i64 (0), .int .i64 (1), .int .i64 (0), .int .i64 (0), .int .i64 (-1), .int .i64 (0), .int .i64 (1)]) (.int .i64 3)).run Try.prog w = .ok (.agg #[.int .i64 (0), .int .i64 (1)]) w := fun _ => by kernel_rfl
      go_wp2_with (simp only [xi])
      clear c0 c1 c2 c3 xi
      generalize wr.alloc (.cells #[.int .i64 (0), .int .i64 (1)] 143) = wa at *
      refine (HC.out (x : Int) ((y : Int) + 1) _).mono ?_
      rw [HG3.out]
      rintro e w5 ⟨rfl, hX5⟩
      have HE5 := Lib.hid (HE1.out.trans hX5)
      have HO5 := Lib.hid (ownsRow_ext HO1.out hX5)
      have HB5 := Lib.hid (hX5.block HB1.out)
      clear hX5 HE1 HO1 HB1
      cases hgi : (g3 != (i : Int)) with
      | true =>
        have hY6 := (Ext.refl w5).alloc (.cells #[.int .i64 g3] 2)
        have b6 := cell_one_at (heap_new w5 (.cells #[.int .i64 g3] 2))
        have HE6 := Lib.hid (HE5.out.trans hY6)
        have HO6 := Lib.hid (ownsRow_ext HO5.out hY6)
        have HB6 := Lib.hid (hY6.block HB5.out)
        have HU := Lib.hid HE6.out.size
        clear hY6 HE5 HO5 HB5
        go_wp2_with (at_builtin; refine wpList_append_own _ rfl _ _ 42 rfl w.heap.size 2 i0 (.int .i64 0) 1 8 Try.underlying42 hin hz0 hz1 hz2 rfl (by decide) (.slice a m c') m _ rfl HO6.out ⟨_, 0, none⟩ 1 1 [.int .i64 g3] rfl rfl ?c1 ?c2 ?c3 ?c4 ?c5 ?_)
        case c1 => exact b6
        case c2 => intro u hu; simp at hu; subst hu; rfl
        case c3 => unfold maxLen; omega
        case c4 => omega
        case c5 => exact HU.out
        intro v' w7 hown hg _
        obtain ⟨a3, c3', rfl⟩ := ownsRow_shape hown
        have E7 := Lib.hid (Ext.rowv HE6.out HO6.out (Nat.le_refl _) hg)
        have B7 := Lib.hid (block_apart (by decide) HO6.out hg HB6.out)
        have O7 := Lib.hid hown
        clear hown hg HE6 HO6 HB6 b6 HU
        have HGI := Lib.hid hgi
        clear hgi
        go_wp2
        go_roundw
        case rel =>
          refine ⟨4, a3, m + 1, c3', by omega, by go_num, rfl, E7.out, B7.out, by omega, ?_⟩
          have h := O7.out
          rw [show ([g0, g1, g2, g3].take 4) = ([g0, g1, g2, g3].take 3) ++ [g3] from rfl, List.filter_append, ints_appendF, show ([g3].filter fun z => z != (i : Int)) = [g3] by simp [HGI.out]]
          exact h
        case measure => simp [intOf]
      | false =>
        have HGI := Lib.hid hgi
        go_wp2
        go_roundw
        case rel =>
          refine ⟨4, a, m, c', by omega, by go_num, rfl, HE5.out, HB5.out, by omega, ?_⟩
          have h := HO5.out
          rw [show ([g0, g1, g2, g3].take 4) = ([g0, g1, g2, g3].take 3) ++ [g3] from rfl, List.filter_append, show ([g3].filter fun z => z != (i : Int)) = [] by simp [HGI.out], List.append_nil]
          exact h
        case measure => simp [intOf]
end Go.Proofs.Ytajfpjggdbifjaa
