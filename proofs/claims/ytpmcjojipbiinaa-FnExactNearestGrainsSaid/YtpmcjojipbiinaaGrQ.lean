/-
  The eight labels around a cell, by the program and by the reference. (Printed by gen_around.py.)
-/
import Derived.Test.YtpmcjojipbiinaaGrE
import Derived.Test.YtpmcjojipbiinaaGrG
namespace Go.Proofs.Ytpmcjojipbiinaa
open Go.RowKit
set_option linter.unusedVariables false
set_option linter.unusedSimpArgs false
set_option linter.unnecessarySimpa false

def abG (W H : Int) (zs : List Int) (u v : Int) : Int := zs[(cellF W H u v).toNat]?.getD 0
def arL (W H : Int) (zs : List Int) (x y : Int) : List Int := [abG W H zs (x - 1) y, abG W H zs (x + 1) y, abG W H zs x (y - 1), abG W H zs x (y + 1), abG W H zs (x - 1) (y - 1), abG W H zs (x + 1) (y - 1), abG W H zs (x - 1) (y + 1), abG W H zs (x + 1) (y + 1)]
theorem arL_length (W H : Int) (zs : List Int) (x y : Int) : (arL W H zs x y).length = 8 := rfl
theorem row_of_block {w : World} {B e b n : Nat} {cs : Array Value} (hB : B ≤ b) (hn : cs.size = n) (hm : n ≤ maxLen) (h : w.heap[b]? = some (.cells cs e (0, 0))) : w.ownsRow B e 1 (.slice (some ⟨b, 0, none⟩) n n) n cs.toList :=
  ⟨by simp [hn], .inr ⟨b, n, cs, rfl, hB, h, Nat.le_refl _, hm, by simp [hn], by rw [Nat.mul_one]; exact List.take_of_length_le (by simp [hn])⟩⟩
theorem cell_two_at {w : World} {x y : Value} {b : Nat} {t : TypeId} {fr : Nat × Nat} (h : w.heap[b]? = some (.cells #[x, y] t fr)) : ∀ j u, [x, y][j]? = some u → w.cell? ((⟨b, 0, none⟩ : Addr).add j) = some u := by
  intro j u hj
  match j, hj with
  | 0, hj =>
    simp at hj
    subst hj
    simp [Addr.add, block_cell h]
  | 1, hj =>
    simp at hj
    subst hj
    simp [Addr.add, block_cell h]

set_option maxRecDepth 100000 in
set_option maxHeartbeats 2000000 in
theorem l04Around_any (p : Nat) (W H x y : Int) (b o n c : Nat) (zs : List Int) (hz : zs.length = n) (hv : vldG W H zs = true) (hx : -10000 ≤ x ∧ x ≤ 10000) (hy : -10000 ≤ y ∧ y ≤ 10000) (w : World) (hp : GrsAt w p W H (some ⟨b, o, none⟩) n c) (hA : VArr w (some ⟨b, o, none⟩) (ints zs)) :
    Calls Try.prog 44 #[.pointer (some ⟨p, 0, none⟩), .int .i64 x, .int .i64 y] w fun e w' => ∃ a c, e = .returned (.slice a 8 c) ∧ Ext w w' ∧ w'.ownsRow w.heap.size 2 1 (.slice a 8 c) 8 (ints (arL W H zs x y)) := by
  obtain ⟨i0, hi, hz0, hz1, hz2⟩ := info_parts info64
  have HC : Hid (∀ u v w', Ext w w' → Calls Try.prog 73 #[.pointer (some ⟨p, 0, none⟩), .int .i64 u, .int .i64 v] w' fun e w'' => e = .returned (.int .i64 (abG W H zs u v)) ∧ Ext w' w'') := fun u v w' h => l04About_any p W H u v b o n c zs hz hv w' (hp.ext h) (hA.ext h)
  clear hz hv hp hA
  unfold arL
  generalize hg0 : abG W H zs (x - 1) y = g0 at *
  generalize hg1 : abG W H zs (x + 1) y = g1 at *
  generalize hg2 : abG W H zs x (y - 1) = g2 at *
  generalize hg3 : abG W H zs x (y + 1) = g3 at *
  generalize hg4 : abG W H zs (x - 1) (y - 1) = g4 at *
  generalize hg5 : abG W H zs (x + 1) (y - 1) = g5 at *
  generalize hg6 : abG W H zs (x - 1) (y + 1) = g6 at *
  generalize hg7 : abG W H zs (x + 1) (y + 1) = g7 at *
  go_enter Try.func44, Try.ntmps44
  go_wp2_with fail
  refine (HC.out (x - 1) y _ (Ext.refl w)).mono ?_
  rw [hg0]
  rintro e v0 ⟨rfl, x0⟩
  have X0 := Lib.hid x0
  clear x0
  go_wp2_with fail
  refine (HC.out (x + 1) y _ X0.out).mono ?_
  rw [hg1]
  rintro e v1 ⟨rfl, x1⟩
  have X1 := Lib.hid (X0.out.trans x1)
  clear x1
  go_wp2_with fail
  refine (HC.out x (y - 1) _ X1.out).mono ?_
  rw [hg2]
  rintro e v2 ⟨rfl, x2⟩
  have X2 := Lib.hid (X1.out.trans x2)
  clear x2
  go_wp2_with fail
  refine (HC.out x (y + 1) _ X2.out).mono ?_
  rw [hg3]
  rintro e v3 ⟨rfl, x3⟩
  have X3 := Lib.hid (X2.out.trans x3)
  clear x3
  have Y0 := (Ext.refl v3).alloc (.cells #[.int .i64 g0, .int .i64 g1, .int .i64 g2, .int .i64 g3] 2)
  have r0 := row_of_block (n := 4) (B := w.heap.size) X3.out.size (by rfl) (by unfold maxLen; omega) (heap_new v3 (.cells #[.int .i64 g0, .int .i64 g1, .int .i64 g2, .int .i64 g3] 2))
  have E0 := Lib.hid (X3.out.trans Y0)
  have R0 := Lib.hid r0
  clear Y0 r0 X0 X1 X2 X3
  go_wp2_with fail
  generalize v3.heap.size = q0 at *
  generalize v3.alloc (.cells #[.int .i64 g0, .int .i64 g1, .int .i64 g2, .int .i64 g3] 2) = z0 at *
  refine (HC.out (x - 1) (y - 1) _ E0.out).mono ?_
  rw [hg4]
  rintro e v4 ⟨rfl, x4⟩
  have X4 := Lib.hid (E0.out.trans x4)
  have S4 := Lib.hid (ownsRow_ext R0.out x4)
  clear x4
  go_wp2_with fail
  refine (HC.out (x + 1) (y - 1) _ X4.out).mono ?_
  rw [hg5]
  rintro e v5 ⟨rfl, x5⟩
  have Y4 := (Ext.refl v5).alloc (.cells #[.int .i64 g4, .int .i64 g5] 2)
  have bb4 := cell_two_at (heap_new v5 (.cells #[.int .i64 g4, .int .i64 g5] 2))
  have XX4 := Lib.hid ((X4.out.trans x5).trans Y4)
  have RR4 := Lib.hid (ownsRow_ext (ownsRow_ext S4.out x5) Y4)
  have HU4 := Lib.hid XX4.out.size
  clear Y4 x5 X4 S4 E0 R0
  go_wp2_with (at_builtin; refine wpList_append_own _ rfl _ _ 23 rfl w.heap.size 2 i0 (.int .i64 0) 1 8 Try.underlying23 hi hz0 hz1 hz2 rfl (by decide) (.slice (some ⟨q0, 0, none⟩) 4 4) 4 _ rfl RR4.out ⟨_, 0, none⟩ 2 2 [.int .i64 g4, .int .i64 g5] rfl rfl ?c1 ?c2 ?c3 ?c4 ?c5 ?_)
  case c1 => exact bb4
  case c2 => intro u hu; simp at hu; rcases hu with rfl | rfl <;> rfl
  case c3 => unfold maxLen; omega
  case c4 => omega
  case c5 => exact HU4.out
  intro v' z1 hown hg _
  obtain ⟨a1, c1, rfl⟩ := ownsRow_shape hown
  have E1 := Lib.hid (Ext.rowv XX4.out RR4.out (Nat.le_refl _) hg)
  have R1 := Lib.hid hown
  clear hown hg XX4 RR4 bb4 HU4
  go_wp2_with fail
  refine (HC.out (x - 1) (y + 1) _ E1.out).mono ?_
  rw [hg6]
  rintro e v6 ⟨rfl, x6⟩
  have X6 := Lib.hid (E1.out.trans x6)
  have S6 := Lib.hid (ownsRow_ext R1.out x6)
  clear x6
  go_wp2_with fail
  refine (HC.out (x + 1) (y + 1) _ X6.out).mono ?_
  rw [hg7]
  rintro e v7 ⟨rfl, x7⟩
  have Y6 := (Ext.refl v7).alloc (.cells #[.int .i64 g6, .int .i64 g7] 2)
  have bb6 := cell_two_at (heap_new v7 (.cells #[.int .i64 g6, .int .i64 g7] 2))
  have XX6 := Lib.hid ((X6.out.trans x7).trans Y6)
  have RR6 := Lib.hid (ownsRow_ext (ownsRow_ext S6.out x7) Y6)
  have HU6 := Lib.hid XX6.out.size
  clear Y6 x7 X6 S6 E1 R1
  go_wp2_with (at_builtin; refine wpList_append_own _ rfl _ _ 23 rfl w.heap.size 2 i0 (.int .i64 0) 1 8 Try.underlying23 hi hz0 hz1 hz2 rfl (by decide) (.slice a1 6 c1) 6 _ rfl RR6.out ⟨_, 0, none⟩ 2 2 [.int .i64 g6, .int .i64 g7] rfl rfl ?c1 ?c2 ?c3 ?c4 ?c5 ?_)
  case c1 => exact bb6
  case c2 => intro u hu; simp at hu; rcases hu with rfl | rfl <;> rfl
  case c3 => unfold maxLen; omega
  case c4 => omega
  case c5 => exact HU6.out
  intro v' z2 hown hg _
  obtain ⟨a2, c2, rfl⟩ := ownsRow_shape hown
  have E2 := Lib.hid (Ext.rowv XX6.out RR6.out (Nat.le_refl _) hg)
  have R2 := Lib.hid hown
  clear hown hg XX6 RR6 bb6 HU6
  go_wp2
  go_ret
  exact ⟨a2, c2, rfl, E2.out, by simpa [ints] using R2.out⟩

set_option maxRecDepth 100000 in
set_option maxHeartbeats 4000000 in
theorem around_any (W H x y : Int) (b o n c : Nat) (zs : List Int) (hz : zs.length = n) (hv : vldG W H zs = true) (hx : -10000 ≤ x ∧ x ≤ 10000) (hy : -10000 ≤ y ∧ y ≤ 10000) (w : World) (hA : VArr w (some ⟨b, o, none⟩) (ints zs)) :
    Calls Try.prog 51 #[.agg #[.int .i64 W, .int .i64 H, .slice (some ⟨b, o, none⟩) n c], .int .i64 x, .int .i64 y] w fun e w' => ∃ a c, e = .returned (.slice a 8 c) ∧ Ext w w' ∧ w'.ownsRow w.heap.size 2 1 (.slice a 8 c) 8 (ints (arL W H zs x y)) := by
  obtain ⟨i0, hi, hz0, hz1, hz2⟩ := info_parts info64
  have HC : Hid (∀ u v w', Ext w w' → Calls Try.prog 52 #[.agg #[.int .i64 W, .int .i64 H, .slice (some ⟨b, o, none⟩) n c], .int .i64 u, .int .i64 v] w' fun e w'' => e = .returned (.int .i64 (abG W H zs u v)) ∧ Ext w' w'') := fun u v w' h => about_any W H u v b o n c zs hz hv w' (hA.ext h)
  clear hz hv hA
  have hX := ((Ext.refl w).alloc (.cells #[.int .i64 W, .int .i64 H, .slice (some ⟨b, o, none⟩) n c] 25)).alloc (.cells #[] 2)
  have b0 := heap_mid1 w (.cells #[.int .i64 W, .int .i64 H, .slice (some ⟨b, o, none⟩) n c] 25) (.cells #[] 2)
  have r0 := ownsRow_empty (B := w.heap.size) (by omega) (heap_new1 w (.cells #[.int .i64 W, .int .i64 H, .slice (some ⟨b, o, none⟩) n c] 25) (.cells #[] 2))
  go_enter Try.func51, Try.ntmps51
  go_wp2
  generalize (w.alloc (.cells #[.int .i64 W, .int .i64 H, .slice (some ⟨b, o, none⟩) n c] 25)).alloc (.cells #[] 2) = w0 at *
  generalize hll : arL W H zs x y = L at *
  have HLL := Lib.hid hll
  clear hll
  go_loopw [7, 20] (fun s i wr => ∃ (k : Nat) (a : Option Addr) (c' : Nat), k ≤ 8 ∧ i = .int .i64 k ∧ s = .slice a k c' ∧ Ext w wr ∧ wr.heap[w.heap.size]? = some (.cells #[.int .i64 W, .int .i64 H, .slice (some ⟨b, o, none⟩) n c] 25 (0, 0)) ∧ wr.ownsRow w.heap.size 2 1 (.slice a k c') k (ints (L.take k))) (fun _ i _ => 8 - (intOf i).toNat)
  case atStart => exact ⟨0, _, _, Nat.zero_le _, rfl, rfl, hX, b0, by simpa [ints] using r0⟩
  case round =>
    obtain ⟨k, a, c', hk, rfl, rfl, hE, hB, hO⟩ := hrel
    clear hX b0 r0
    have HE := Lib.hid hE
    have HO := Lib.hid hO
    have HB := Lib.hid hB
    clear hE hO hB
    obtain ⟨⟨c0, c1, c2⟩, _⟩ := block3 HB.out
    have lb := lt_of_block HB.out
    have hk9 : k = 8 ∨ k = 0 ∨ k = 1 ∨ k = 2 ∨ k = 3 ∨ k = 4 ∨ k = 5 ∨ k = 6 ∨ k = 7 := by omega
    rcases hk9 with rfl | rfl | rfl | rfl | rfl | rfl | rfl | rfl | rfl
    · go_wp2
      go_ret
      exact ⟨a, c', rfl, HE.out, by have h := HO.out; rw [← HLL.out] at h; exact h⟩
    · have hY := (Ext.refl wr).alloc (.cells #[.int .i64 (-1), .int .i64 (0)] 88)
      have HE1 := Lib.hid (HE.out.trans hY)
      have HO1 := Lib.hid (ownsRow_ext HO.out hY)
      have HB1 := Lib.hid (hY.block HB.out)
      clear hY HE HO HB
      have xi : ∀ w : World, (Instr.index 89 (.agg #[.int .i64 (-1), .int .i64 (0), .int .i64 (1), .int .i64 (0), .int .i64 (0), .int .i64 (-1), .int .i64 (0), .int .i64 (1), .int .i64 (-1), .int .i64 (-1), .int .i64 (1), .int .i64 (-1), .int .i64 (-1), .int .i64 (1), .int .i64 (1), .int .i64 (1)]) (.int .i64 0)).run Try.prog w = .ok (.agg #[.int .i64 (-1), .int .i64 (0)]) w := fun _ => by kernel_rfl
      go_wp2_with (simp only [xi])
      clear c0 c1 c2 xi
      generalize wr.alloc (.cells #[.int .i64 (-1), .int .i64 (0)] 88) = wa at *
      refine (HC.out (x - 1) y _ HE1.out).mono ?_
      rintro e w5 ⟨rfl, hX5⟩
      generalize hgg : abG W H zs (x - 1) y = g at *
      have HGG := Lib.hid hgg
      clear hgg
      have hY6 := (Ext.refl w5).alloc (.cells #[.int .i64 g] 2)
      have b6 := cell_one_at (heap_new w5 (.cells #[.int .i64 g] 2))
      have HE6 := Lib.hid ((HE1.out.trans hX5).trans hY6)
      have HO6 := Lib.hid (ownsRow_ext (ownsRow_ext HO1.out hX5) hY6)
      have HB6 := Lib.hid (hY6.block (hX5.block HB1.out))
      have HU := Lib.hid HE6.out.size
      clear hY6 hX5 HE1 HO1 HB1
      go_wp2_with (at_builtin; refine wpList_append_own _ rfl _ _ 23 rfl w.heap.size 2 i0 (.int .i64 0) 1 8 Try.underlying23 hi hz0 hz1 hz2 rfl (by decide) (.slice a 0 c') 0 (ints (L.take 0)) rfl HO6.out ⟨_, 0, none⟩ 1 1 [.int .i64 g] rfl rfl ?c1 ?c2 ?c3 ?c4 ?c5 ?_)
      case c1 => exact b6
      case c2 => intro u hu; simp at hu; subst hu; rfl
      case c3 => unfold maxLen; omega
      case c4 => omega
      case c5 => exact HU.out
      intro v' w7 hown hg _
      obtain ⟨a3, c3', rfl⟩ := ownsRow_shape hown
      have E7 := Lib.hid (Ext.rowv HE6.out HO6.out (Nat.le_refl _) hg)
      have B7 := Lib.hid (block_apart (by decide) HO6.out hg HB6.out)
      have O7 := Lib.hid hown
      clear hown hg HE6 HO6 HB6 b6 HU
      go_wp2
      go_roundw
      case rel =>
        refine ⟨1, a3, c3', by omega, by go_num, rfl, E7.out, B7.out, ?_⟩
        have h := O7.out
        rw [← HGG.out] at h
        try rw [← HLL.out] at h
        rw [← HLL.out]
        exact h
      case measure => simp [intOf]
    · have hY := (Ext.refl wr).alloc (.cells #[.int .i64 (1), .int .i64 (0)] 88)
      have HE1 := Lib.hid (HE.out.trans hY)
      have HO1 := Lib.hid (ownsRow_ext HO.out hY)
      have HB1 := Lib.hid (hY.block HB.out)
      clear hY HE HO HB
      have xi : ∀ w : World, (Instr.index 89 (.agg #[.int .i64 (-1), .int .i64 (0), .int .i64 (1), .int .i64 (0), .int .i64 (0), .int .i64 (-1), .int .i64 (0), .int .i64 (1), .int .i64 (-1), .int .i64 (-1), .int .i64 (1), .int .i64 (-1), .int .i64 (-1), .int .i64 (1), .int .i64 (1), .int .i64 (1)]) (.int .i64 1)).run Try.prog w = .ok (.agg #[.int .i64 (1), .int .i64 (0)]) w := fun _ => by kernel_rfl
      go_wp2_with (simp only [xi])
      clear c0 c1 c2 xi
      generalize wr.alloc (.cells #[.int .i64 (1), .int .i64 (0)] 88) = wa at *
      refine (HC.out (x + 1) y _ HE1.out).mono ?_
      rintro e w5 ⟨rfl, hX5⟩
      generalize hgg : abG W H zs (x + 1) y = g at *
      have HGG := Lib.hid hgg
      clear hgg
      have hY6 := (Ext.refl w5).alloc (.cells #[.int .i64 g] 2)
      have b6 := cell_one_at (heap_new w5 (.cells #[.int .i64 g] 2))
      have HE6 := Lib.hid ((HE1.out.trans hX5).trans hY6)
      have HO6 := Lib.hid (ownsRow_ext (ownsRow_ext HO1.out hX5) hY6)
      have HB6 := Lib.hid (hY6.block (hX5.block HB1.out))
      have HU := Lib.hid HE6.out.size
      clear hY6 hX5 HE1 HO1 HB1
      go_wp2_with (at_builtin; refine wpList_append_own _ rfl _ _ 23 rfl w.heap.size 2 i0 (.int .i64 0) 1 8 Try.underlying23 hi hz0 hz1 hz2 rfl (by decide) (.slice a 1 c') 1 (ints (L.take 1)) rfl HO6.out ⟨_, 0, none⟩ 1 1 [.int .i64 g] rfl rfl ?c1 ?c2 ?c3 ?c4 ?c5 ?_)
      case c1 => exact b6
      case c2 => intro u hu; simp at hu; subst hu; rfl
      case c3 => unfold maxLen; omega
      case c4 => omega
      case c5 => exact HU.out
      intro v' w7 hown hg _
      obtain ⟨a3, c3', rfl⟩ := ownsRow_shape hown
      have E7 := Lib.hid (Ext.rowv HE6.out HO6.out (Nat.le_refl _) hg)
      have B7 := Lib.hid (block_apart (by decide) HO6.out hg HB6.out)
      have O7 := Lib.hid hown
      clear hown hg HE6 HO6 HB6 b6 HU
      go_wp2
      go_roundw
      case rel =>
        refine ⟨2, a3, c3', by omega, by go_num, rfl, E7.out, B7.out, ?_⟩
        have h := O7.out
        rw [← HGG.out] at h
        try rw [← HLL.out] at h
        rw [← HLL.out]
        exact h
      case measure => simp [intOf]
    · have hY := (Ext.refl wr).alloc (.cells #[.int .i64 (0), .int .i64 (-1)] 88)
      have HE1 := Lib.hid (HE.out.trans hY)
      have HO1 := Lib.hid (ownsRow_ext HO.out hY)
      have HB1 := Lib.hid (hY.block HB.out)
      clear hY HE HO HB
      have xi : ∀ w : World, (Instr.index 89 (.agg #[.int .i64 (-1), .int .i64 (0), .int .i64 (1), .int .i64 (0), .int .i64 (0), .int .i64 (-1), .int .i64 (0), .int .i64 (1), .int .i64 (-1), .int .i64 (-1), .int .i64 (1), .int .i64 (-1), .int .i64 (-1), .int .i64 (1), .int .i64 (1), .int .i64 (1)]) (.int .i64 2)).run Try.prog w = .ok (.agg #[.int .i64 (0), .int .i64 (-1)]) w := fun _ => by kernel_rfl
      go_wp2_with (simp only [xi])
      clear c0 c1 c2 xi
      generalize wr.alloc (.cells #[.int .i64 (0), .int .i64 (-1)] 88) = wa at *
      refine (HC.out x (y - 1) _ HE1.out).mono ?_
      rintro e w5 ⟨rfl, hX5⟩
      generalize hgg : abG W H zs x (y - 1) = g at *
      have HGG := Lib.hid hgg
      clear hgg
      have hY6 := (Ext.refl w5).alloc (.cells #[.int .i64 g] 2)
      have b6 := cell_one_at (heap_new w5 (.cells #[.int .i64 g] 2))
      have HE6 := Lib.hid ((HE1.out.trans hX5).trans hY6)
      have HO6 := Lib.hid (ownsRow_ext (ownsRow_ext HO1.out hX5) hY6)
      have HB6 := Lib.hid (hY6.block (hX5.block HB1.out))
      have HU := Lib.hid HE6.out.size
      clear hY6 hX5 HE1 HO1 HB1
      go_wp2_with (at_builtin; refine wpList_append_own _ rfl _ _ 23 rfl w.heap.size 2 i0 (.int .i64 0) 1 8 Try.underlying23 hi hz0 hz1 hz2 rfl (by decide) (.slice a 2 c') 2 (ints (L.take 2)) rfl HO6.out ⟨_, 0, none⟩ 1 1 [.int .i64 g] rfl rfl ?c1 ?c2 ?c3 ?c4 ?c5 ?_)
      case c1 => exact b6
      case c2 => intro u hu; simp at hu; subst hu; rfl
      case c3 => unfold maxLen; omega
      case c4 => omega
      case c5 => exact HU.out
      intro v' w7 hown hg _
      obtain ⟨a3, c3', rfl⟩ := ownsRow_shape hown
      have E7 := Lib.hid (Ext.rowv HE6.out HO6.out (Nat.le_refl _) hg)
      have B7 := Lib.hid (block_apart (by decide) HO6.out hg HB6.out)
      have O7 := Lib.hid hown
      clear hown hg HE6 HO6 HB6 b6 HU
      go_wp2
      go_roundw
      case rel =>
        refine ⟨3, a3, c3', by omega, by go_num, rfl, E7.out, B7.out, ?_⟩
        have h := O7.out
        rw [← HGG.out] at h
        try rw [← HLL.out] at h
        rw [← HLL.out]
        exact h
      case measure => simp [intOf]
    · have hY := (Ext.refl wr).alloc (.cells #[.int .i64 (0), .int .i64 (1)] 88)
      have HE1 := Lib.hid (HE.out.trans hY)
      have HO1 := Lib.hid (ownsRow_ext HO.out hY)
      have HB1 := Lib.hid (hY.block HB.out)
      clear hY HE HO HB
      have xi : ∀ w : World, (Instr.index 89 (.agg #[.int .i64 (-1), .int .i64 (0), .int .i64 (1), .int .i64 (0), .int .i64 (0), .int .i64 (-1), .int .i64 (0), .int .i64 (1), .int .i64 (-1), .int .i64 (-1), .int .i64 (1), .int .i64 (-1), .int .i64 (-1), .int .i64 (1), .int .i64 (1), .int .i64 (1)]) (.int .i64 3)).run Try.prog w = .ok (.agg #[.int .i64 (0), .int .i64 (1)]) w := fun _ => by kernel_rfl
      go_wp2_with (simp only [xi])
      clear c0 c1 c2 xi
      generalize wr.alloc (.cells #[.int .i64 (0), .int .i64 (1)] 88) = wa at *
      refine (HC.out x (y + 1) _ HE1.out).mono ?_
      rintro e w5 ⟨rfl, hX5⟩
      generalize hgg : abG W H zs x (y + 1) = g at *
      have HGG := Lib.hid hgg
      clear hgg
      have hY6 := (Ext.refl w5).alloc (.cells #[.int .i64 g] 2)
      have b6 := cell_one_at (heap_new w5 (.cells #[.int .i64 g] 2))
      have HE6 := Lib.hid ((HE1.out.trans hX5).trans hY6)
      have HO6 := Lib.hid (ownsRow_ext (ownsRow_ext HO1.out hX5) hY6)
      have HB6 := Lib.hid (hY6.block (hX5.block HB1.out))
      have HU := Lib.hid HE6.out.size
      clear hY6 hX5 HE1 HO1 HB1
      go_wp2_with (at_builtin; refine wpList_append_own _ rfl _ _ 23 rfl w.heap.size 2 i0 (.int .i64 0) 1 8 Try.underlying23 hi hz0 hz1 hz2 rfl (by decide) (.slice a 3 c') 3 (ints (L.take 3)) rfl HO6.out ⟨_, 0, none⟩ 1 1 [.int .i64 g] rfl rfl ?c1 ?c2 ?c3 ?c4 ?c5 ?_)
      case c1 => exact b6
      case c2 => intro u hu; simp at hu; subst hu; rfl
      case c3 => unfold maxLen; omega
      case c4 => omega
      case c5 => exact HU.out
      intro v' w7 hown hg _
      obtain ⟨a3, c3', rfl⟩ := ownsRow_shape hown
      have E7 := Lib.hid (Ext.rowv HE6.out HO6.out (Nat.le_refl _) hg)
      have B7 := Lib.hid (block_apart (by decide) HO6.out hg HB6.out)
      have O7 := Lib.hid hown
      clear hown hg HE6 HO6 HB6 b6 HU
      go_wp2
      go_roundw
      case rel =>
        refine ⟨4, a3, c3', by omega, by go_num, rfl, E7.out, B7.out, ?_⟩
        have h := O7.out
        rw [← HGG.out] at h
        try rw [← HLL.out] at h
        rw [← HLL.out]
        exact h
      case measure => simp [intOf]
    · have hY := (Ext.refl wr).alloc (.cells #[.int .i64 (-1), .int .i64 (-1)] 88)
      have HE1 := Lib.hid (HE.out.trans hY)
      have HO1 := Lib.hid (ownsRow_ext HO.out hY)
      have HB1 := Lib.hid (hY.block HB.out)
      clear hY HE HO HB
      have xi : ∀ w : World, (Instr.index 89 (.agg #[.int .i64 (-1), .int .i64 (0), .int .i64 (1), .int .i64 (0), .int .i64 (0), .int .i64 (-1), .int .i64 (0), .int .i64 (1), .int .i64 (-1), .int .i64 (-1), .int .i64 (1), .int .i64 (-1), .int .i64 (-1), .int .i64 (1), .int .i64 (1), .int .i64 (1)]) (.int .i64 4)).run Try.prog w = .ok (.agg #[.int .i64 (-1), .int .i64 (-1)]) w := fun _ => by kernel_rfl
      go_wp2_with (simp only [xi])
      clear c0 c1 c2 xi
      generalize wr.alloc (.cells #[.int .i64 (-1), .int .i64 (-1)] 88) = wa at *
      refine (HC.out (x - 1) (y - 1) _ HE1.out).mono ?_
      rintro e w5 ⟨rfl, hX5⟩
      generalize hgg : abG W H zs (x - 1) (y - 1) = g at *
      have HGG := Lib.hid hgg
      clear hgg
      have hY6 := (Ext.refl w5).alloc (.cells #[.int .i64 g] 2)
      have b6 := cell_one_at (heap_new w5 (.cells #[.int .i64 g] 2))
      have HE6 := Lib.hid ((HE1.out.trans hX5).trans hY6)
      have HO6 := Lib.hid (ownsRow_ext (ownsRow_ext HO1.out hX5) hY6)
      have HB6 := Lib.hid (hY6.block (hX5.block HB1.out))
      have HU := Lib.hid HE6.out.size
      clear hY6 hX5 HE1 HO1 HB1
      go_wp2_with (at_builtin; refine wpList_append_own _ rfl _ _ 23 rfl w.heap.size 2 i0 (.int .i64 0) 1 8 Try.underlying23 hi hz0 hz1 hz2 rfl (by decide) (.slice a 4 c') 4 (ints (L.take 4)) rfl HO6.out ⟨_, 0, none⟩ 1 1 [.int .i64 g] rfl rfl ?c1 ?c2 ?c3 ?c4 ?c5 ?_)
      case c1 => exact b6
      case c2 => intro u hu; simp at hu; subst hu; rfl
      case c3 => unfold maxLen; omega
      case c4 => omega
      case c5 => exact HU.out
      intro v' w7 hown hg _
      obtain ⟨a3, c3', rfl⟩ := ownsRow_shape hown
      have E7 := Lib.hid (Ext.rowv HE6.out HO6.out (Nat.le_refl _) hg)
      have B7 := Lib.hid (block_apart (by decide) HO6.out hg HB6.out)
      have O7 := Lib.hid hown
      clear hown hg HE6 HO6 HB6 b6 HU
      go_wp2
      go_roundw
      case rel =>
        refine ⟨5, a3, c3', by omega, by go_num, rfl, E7.out, B7.out, ?_⟩
        have h := O7.out
        rw [← HGG.out] at h
        try rw [← HLL.out] at h
        rw [← HLL.out]
        exact h
      case measure => simp [intOf]
    · have hY := (Ext.refl wr).alloc (.cells #[.int .i64 (1), .int .i64 (-1)] 88)
      have HE1 := Lib.hid (HE.out.trans hY)
      have HO1 := Lib.hid (ownsRow_ext HO.out hY)
      have HB1 := Lib.hid (hY.block HB.out)
      clear hY HE HO HB
      have xi : ∀ w : World, (Instr.index 89 (.agg #[.int .i64 (-1), .int .i64 (0), .int .i64 (1), .int .i64 (0), .int .i64 (0), .int .i64 (-1), .int .i64 (0), .int .i64 (1), .int .i64 (-1), .int .i64 (-1), .int .i64 (1), .int .i64 (-1), .int .i64 (-1), .int .i64 (1), .int .i64 (1), .int .i64 (1)]) (.int .i64 5)).run Try.prog w = .ok (.agg #[.int .i64 (1), .int .i64 (-1)]) w := fun _ => by kernel_rfl
      go_wp2_with (simp only [xi])
      clear c0 c1 c2 xi
      generalize wr.alloc (.cells #[.int .i64 (1), .int .i64 (-1)] 88) = wa at *
      refine (HC.out (x + 1) (y - 1) _ HE1.out).mono ?_
      rintro e w5 ⟨rfl, hX5⟩
      generalize hgg : abG W H zs (x + 1) (y - 1) = g at *
      have HGG := Lib.hid hgg
      clear hgg
      have hY6 := (Ext.refl w5).alloc (.cells #[.int .i64 g] 2)
      have b6 := cell_one_at (heap_new w5 (.cells #[.int .i64 g] 2))
      have HE6 := Lib.hid ((HE1.out.trans hX5).trans hY6)
      have HO6 := Lib.hid (ownsRow_ext (ownsRow_ext HO1.out hX5) hY6)
      have HB6 := Lib.hid (hY6.block (hX5.block HB1.out))
      have HU := Lib.hid HE6.out.size
      clear hY6 hX5 HE1 HO1 HB1
      go_wp2_with (at_builtin; refine wpList_append_own _ rfl _ _ 23 rfl w.heap.size 2 i0 (.int .i64 0) 1 8 Try.underlying23 hi hz0 hz1 hz2 rfl (by decide) (.slice a 5 c') 5 (ints (L.take 5)) rfl HO6.out ⟨_, 0, none⟩ 1 1 [.int .i64 g] rfl rfl ?c1 ?c2 ?c3 ?c4 ?c5 ?_)
      case c1 => exact b6
      case c2 => intro u hu; simp at hu; subst hu; rfl
      case c3 => unfold maxLen; omega
      case c4 => omega
      case c5 => exact HU.out
      intro v' w7 hown hg _
      obtain ⟨a3, c3', rfl⟩ := ownsRow_shape hown
      have E7 := Lib.hid (Ext.rowv HE6.out HO6.out (Nat.le_refl _) hg)
      have B7 := Lib.hid (block_apart (by decide) HO6.out hg HB6.out)
      have O7 := Lib.hid hown
      clear hown hg HE6 HO6 HB6 b6 HU
      go_wp2
      go_roundw
      case rel =>
        refine ⟨6, a3, c3', by omega, by go_num, rfl, E7.out, B7.out, ?_⟩
        have h := O7.out
        rw [← HGG.out] at h
        try rw [← HLL.out] at h
        rw [← HLL.out]
        exact h
      case measure => simp [intOf]
    · have hY := (Ext.refl wr).alloc (.cells #[.int .i64 (-1), .int .i64 (1)] 88)
      have HE1 := Lib.hid (HE.out.trans hY)
      have HO1 := Lib.hid (ownsRow_ext HO.out hY)
      have HB1 := Lib.hid (hY.block HB.out)
      clear hY HE HO HB
      have xi : ∀ w : World, (Instr.index 89 (.agg #[.int .i64 (-1), .int .i64 (0), .int .i64 (1), .int .i64 (0), .int .i64 (0), .int .i64 (-1), .int .i64 (0), .int .i64 (1), .int .i64 (-1), .int .i64 (-1), .int .i64 (1), .int .i64 (-1), .int .i64 (-1), .int .i64 (1), .int .i64 (1), .int .i64 (1)]) (.int .i64 6)).run Try.prog w = .ok (.agg #[.int .i64 (-1), .int .i64 (1)]) w := fun _ => by kernel_rfl
      go_wp2_with (simp only [xi])
      clear c0 c1 c2 xi
      generalize wr.alloc (.cells #[.int .i64 (-1), .int .i64 (1)] 88) = wa at *
      refine (HC.out (x - 1) (y + 1) _ HE1.out).mono ?_
      rintro e w5 ⟨rfl, hX5⟩
      generalize hgg : abG W H zs (x - 1) (y + 1) = g at *
      have HGG := Lib.hid hgg
      clear hgg
      have hY6 := (Ext.refl w5).alloc (.cells #[.int .i64 g] 2)
      have b6 := cell_one_at (heap_new w5 (.cells #[.int .i64 g] 2))
      have HE6 := Lib.hid ((HE1.out.trans hX5).trans hY6)
      have HO6 := Lib.hid (ownsRow_ext (ownsRow_ext HO1.out hX5) hY6)
      have HB6 := Lib.hid (hY6.block (hX5.block HB1.out))
      have HU := Lib.hid HE6.out.size
      clear hY6 hX5 HE1 HO1 HB1
      go_wp2_with (at_builtin; refine wpList_append_own _ rfl _ _ 23 rfl w.heap.size 2 i0 (.int .i64 0) 1 8 Try.underlying23 hi hz0 hz1 hz2 rfl (by decide) (.slice a 6 c') 6 (ints (L.take 6)) rfl HO6.out ⟨_, 0, none⟩ 1 1 [.int .i64 g] rfl rfl ?c1 ?c2 ?c3 ?c4 ?c5 ?_)
      case c1 => exact b6
      case c2 => intro u hu; simp at hu; subst hu; rfl
      case c3 => unfold maxLen; omega
      case c4 => omega
      case c5 => exact HU.out
      intro v' w7 hown hg _
      obtain ⟨a3, c3', rfl⟩ := ownsRow_shape hown
      have E7 := Lib.hid (Ext.rowv HE6.out HO6.out (Nat.le_refl _) hg)
      have B7 := Lib.hid (block_apart (by decide) HO6.out hg HB6.out)
      have O7 := Lib.hid hown
      clear hown hg HE6 HO6 HB6 b6 HU
      go_wp2
      go_roundw
      case rel =>
        refine ⟨7, a3, c3', by omega, by go_num, rfl, E7.out, B7.out, ?_⟩
        have h := O7.out
        rw [← HGG.out] at h
        try rw [← HLL.out] at h
        rw [← HLL.out]
        exact h
      case measure => simp [intOf]
    · have hY := (Ext.refl wr).alloc (.cells #[.int .i64 (1), .int .i64 (1)] 88)
      have HE1 := Lib.hid (HE.out.trans hY)
      have HO1 := Lib.hid (ownsRow_ext HO.out hY)
      have HB1 := Lib.hid (hY.block HB.out)
      clear hY HE HO HB
      have xi : ∀ w : World, (Instr.index 89 (.agg #[.int .i64 (-1), .int .i64 (0), .int .i64 (1), .int .i64 (0), .int .i64 (0), .int .i64 (-1), .int .i64 (0), .int .i64 (1), .int .i64 (-1), .int .i64 (-1), .int .i64 (1), .int .i64 (-1), .int .i64 (-1), .int .i64 (1), .int .i64 (1), .int .i64 (1)]) (.int .i64 7)).run Try.prog w = .ok (.agg #[.int .i64 (1), .int .i64 (1)]) w := fun _ => by kernel_rfl
      go_wp2_with (simp only [xi])
      clear c0 c1 c2 xi
      generalize wr.alloc (.cells #[.int .i64 (1), .int .i64 (1)] 88) = wa at *
      refine (HC.out (x + 1) (y + 1) _ HE1.out).mono ?_
      rintro e w5 ⟨rfl, hX5⟩
      generalize hgg : abG W H zs (x + 1) (y + 1) = g at *
      have HGG := Lib.hid hgg
      clear hgg
      have hY6 := (Ext.refl w5).alloc (.cells #[.int .i64 g] 2)
      have b6 := cell_one_at (heap_new w5 (.cells #[.int .i64 g] 2))
      have HE6 := Lib.hid ((HE1.out.trans hX5).trans hY6)
      have HO6 := Lib.hid (ownsRow_ext (ownsRow_ext HO1.out hX5) hY6)
      have HB6 := Lib.hid (hY6.block (hX5.block HB1.out))
      have HU := Lib.hid HE6.out.size
      clear hY6 hX5 HE1 HO1 HB1
      go_wp2_with (at_builtin; refine wpList_append_own _ rfl _ _ 23 rfl w.heap.size 2 i0 (.int .i64 0) 1 8 Try.underlying23 hi hz0 hz1 hz2 rfl (by decide) (.slice a 7 c') 7 (ints (L.take 7)) rfl HO6.out ⟨_, 0, none⟩ 1 1 [.int .i64 g] rfl rfl ?c1 ?c2 ?c3 ?c4 ?c5 ?_)
      case c1 => exact b6
      case c2 => intro u hu; simp at hu; subst hu; rfl
      case c3 => unfold maxLen; omega
      case c4 => omega
      case c5 => exact HU.out
      intro v' w7 hown hg _
      obtain ⟨a3, c3', rfl⟩ := ownsRow_shape hown
      have E7 := Lib.hid (Ext.rowv HE6.out HO6.out (Nat.le_refl _) hg)
      have B7 := Lib.hid (block_apart (by decide) HO6.out hg HB6.out)
      have O7 := Lib.hid hown
      clear hown hg HE6 HO6 HB6 b6 HU
      go_wp2
      go_roundw
      case rel =>
        refine ⟨8, a3, c3', by omega, by go_num, rfl, E7.out, B7.out, ?_⟩
        have h := O7.out
        rw [← HGG.out] at h
        try rw [← HLL.out] at h
        rw [← HLL.out]
        exact h
      case measure => simp [intOf]
end Go.Proofs.Ytpmcjojipbiinaa
