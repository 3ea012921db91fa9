/-
  Contracts of places, cells and tops; and of 'the same heights'.
-/
import Derived.Test.YtajfpjggdbifjaaAtA
import Derived.Test.YtajfpjggdbifjaaLib2
namespace Go.Proofs.Ytajfpjggdbifjaa
open Go.RowKit
set_option linter.unusedVariables false
set_option linter.unusedSimpArgs false
set_option linter.unnecessarySimpa false

theorem tmod_bd (x s : Int) (h : 1 ≤ s) : 0 < x.tmod s + s ∧ x.tmod s + s < 2 * s := by
  have h1 := Int.tmod_lt_of_pos x (b := s) (by omega)
  have h2 := Int.lt_tmod_of_pos x (b := s) (by omega)
  omega
theorem round_mod (x s : Int) (h : 1 ≤ s) : (x.tmod s + s) % s = x % s := by
  rw [Int.add_emod_right]
  have e := Int.mul_tdiv_add_tmod x s
  conv => rhs; rw [← e]
  rw [Int.add_comm, Int.add_mul_emod_self_left]

theorem round_mod' (x s : Int) (h : 1 ≤ s) : x.tmod s % s = x % s := by rw [← round_mod x s h, Int.add_emod_right]

theorem place_true (x s : Int) (h : 1 ≤ s) (h2 : s ≤ 10000) (w : World) : Calls Try.prog 166 #[.int .i64 x, .int .i64 s, .bool true] w fun e w' => e = .returned (.int .i64 (x % s)) ∧ w = w' := by
  obtain ⟨b1, b2⟩ := tmod_bd x s h
  have HR := Lib.hid (round_mod x s h)
  go_enter Try.func166, Try.ntmps166
  go_wp2
  go_ret
  exact ⟨by rw [← HR.out]; rfl, rfl⟩

def cellF (W H x y : Int) : Int := x % W + W * (y % H)
theorem cellF_bd {W H : Int} (x y : Int) (h1 : 1 ≤ W) (h3 : 1 ≤ H) : 0 ≤ cellF W H x y ∧ cellF W H x y < W * H := by
  have a1 := Int.emod_nonneg x (b := W) (by omega)
  have a2 := Int.emod_lt_of_pos x (b := W) (by omega)
  have b1 := Int.emod_nonneg y (b := H) (by omega)
  have b2 := Int.emod_lt_of_pos y (b := H) (by omega)
  unfold cellF
  have m1 := Int.mul_nonneg (a := W) (b := y % H) (by omega) b1
  have m2 := Int.mul_le_mul_of_nonneg_left (a := y % H) (b := H - 1) (c := W) (by omega) (by omega)
  rw [Int.mul_sub] at m2
  constructor
  · omega
  · omega
theorem cellF_id {W H : Int} {x y : Int} (h1 : 0 ≤ x) (h2 : x < W) (h3 : 0 ≤ y) (h4 : y < H) : cellF W H x y = x + W * y := by
  unfold cellF; rw [Int.emod_eq_of_lt h1 h2, Int.emod_eq_of_lt h3 h4]

theorem cell_any (W H x y : Int) (a : Option Addr) (n c : Nat) (hW : 1 ≤ W ∧ W ≤ 16) (hH : 1 ≤ H ∧ H ≤ 16) (w : World) :
    Calls Try.prog 174 #[.agg #[.int .i64 W, .int .i64 H, .slice a n c], .int .i64 x, .int .i64 y] w fun e w' => e = .returned (.int .i64 (cellF W H x y)) ∧ Ext w w' := by
  obtain ⟨w1, w2⟩ := hW
  obtain ⟨h1, h2⟩ := hH
  have hb := cellF_bd x y w1 h1
  have hm := mul_bd w1 w2 h1 h2
  have a1 := Int.emod_nonneg x (b := W) (by omega)
  have a2 := Int.emod_lt_of_pos x (b := W) (by omega)
  have b1 := Int.emod_nonneg y (b := H) (by omega)
  have b2 := Int.emod_lt_of_pos y (b := H) (by omega)
  unfold cellF at hb ⊢
  have m1 := Int.mul_nonneg (a := W) (b := y % H) (by omega) b1
  obtain ⟨hb1, hb2⟩ := hb
  obtain ⟨hm1, hm2⟩ := hm
  go_enter Try.func174, Try.ntmps174
  go_wp2
  go_quiet ((go_at_call 166; exact Calls.quiet_of_same ((place_true _ _ (by omega) (by omega) _).mono fun _ _ h => ⟨h.1, h.2.symm⟩)))
  go_wp2
  go_ret
  exact ⟨rfl, ((Ext.refl _).alloc _).drewN _⟩

theorem l05Index_any (p : Nat) (W H x y : Int) (a : Option Addr) (n c : Nat) (hW : 1 ≤ W ∧ W ≤ 16) (hH : 1 ≤ H ∧ H ≤ 16) (w : World) (hp : HtsAt w p W H a n c) :
    Calls Try.prog 161 #[.pointer (some ⟨p, 0, none⟩), .int .i64 x, .int .i64 y] w fun e w' => e = .returned (.int .i64 (cellF W H x y)) ∧ Ext w w' := by
  obtain ⟨w1, w2⟩ := hW
  obtain ⟨h1, h2⟩ := hH
  obtain ⟨p0, p1, p2⟩ := hp
  have hb := cellF_bd x y w1 h1
  have hm := mul_bd w1 w2 h1 h2
  have a1 := Int.emod_nonneg x (b := W) (by omega)
  have a2 := Int.emod_lt_of_pos x (b := W) (by omega)
  have b1 := Int.emod_nonneg y (b := H) (by omega)
  have b2 := Int.emod_lt_of_pos y (b := H) (by omega)
  have HRX := Lib.hid (round_mod x W w1)
  have HRY := Lib.hid (round_mod y H h1)
  unfold cellF at hb ⊢
  have m1 := Int.mul_nonneg (a := W) (b := y % H) (by omega) b1
  obtain ⟨hb1, hb2⟩ := hb
  obtain ⟨hm1, hm2⟩ := hm
  obtain ⟨c1, c2⟩ := tmod_bd x W w1
  obtain ⟨d1, d2⟩ := tmod_bd y H h1
  go_enter Try.func161, Try.ntmps161
  go_wp2
  go_quiet (fail)
  rw [HRX.out]
  go_wp2
  go_quiet (fail)
  rw [HRY.out]
  go_wp2
  go_ret
  exact ⟨rfl, (Ext.refl _).drewN _⟩

theorem top_any (W H x y : Int) (b o : Nat) (n c : Nat) (zs : List Int) (hz : zs.length = n) (hv : vldH W H zs = true) (w : World) (hA : VArr w (some ⟨b, o, none⟩) (ints zs)) :
    Calls Try.prog 163 #[.agg #[.int .i64 W, .int .i64 H, .slice (some ⟨b, o, none⟩) n c], .int .i64 x, .int .i64 y] w fun e w' => e = .returned (.int .i64 (zs[(cellF W H x y).toNat]?.getD 0)) ∧ Ext w w' := by
  obtain ⟨hW, hH, hn, ⟨hn1, hn2⟩, hb⟩ := vld_facts hv hz
  obtain ⟨i, hi⟩ : ∃ i : Nat, cellF W H x y = i := ⟨(cellF W H x y).toNat, by have := (cellF_bd x y (by omega : 1 ≤ W) (by omega : 1 ≤ H)).1; omega⟩
  have hlt : i < n := by have := (cellF_bd x y (by omega : 1 ≤ W) (by omega : 1 ≤ H)).2; omega
  have hc := hA.ofInts i (by omega)
  have hX := (Ext.refl w).alloc (.cells #[.int .i64 W, .int .i64 H, .slice (some ⟨b, o, none⟩) n c] 81)
  have hc1 := hX.cell hc
  have B0 := heap_new w (.cells #[.int .i64 W, .int .i64 H, .slice (some ⟨b, o, none⟩) n c] 81)
  rw [hi]
  have HI := Lib.hid hi
  have HX := Lib.hid hX
  have hWW : 1 ≤ W ∧ W ≤ 16 := by omega
  have hHH : 1 ≤ H ∧ H ≤ 16 := by omega
  clear hi hb hn hA hc hX hz hv hW hH
  go_enter Try.func163, Try.ntmps163
  go_wp2
  generalize w.alloc (.cells #[.int .i64 W, .int .i64 H, .slice (some ⟨b, o, none⟩) n c] 81) = w0 at *
  generalize w.heap.size = p at *
  refine region_grow (C := Ext w0) (K := fun f _ v _ => f = 174 → v = .int .i64 i) ⟨fun _ _ h k => h.trans k, fun _ _ _ _ _ h _ => h⟩ (by kernel_rfl) (by kernel_rfl) ((Ext.refl w0).drew) ?_
  repeat (refine grow_q rfl ?_; apply Exists.intro; refine ⟨fun w1 hw _ => ?_, ?_⟩; focus (obtain ⟨⟨c0, c1, c2⟩, _⟩ := block3 (hw.block B0); go_simp; rfl))
  refine grow_c1 174 rfl ?_
  apply Exists.intro
  refine ⟨fun w1 => ?_, ?_⟩
  · go_simp; rfl
  apply Exists.intro
  refine ⟨fun w1 hw _ => ?_, fun v w1 h => h rfl, fun w1 => fun _ => rfl, ?_⟩
  · refine (cell_any W H x y _ n c hWW hHH _).mono fun e w' h => ?_
    rw [HI.out] at h; exact h
  repeat (refine grow_q rfl ?_; apply Exists.intro; refine ⟨fun w1 hw _ => ?_, ?_⟩; focus (have c3 := hw.cell hc1; go_simp; rfl))
  refine grow_nil (fun w2 hw _ => ?_)
  go_simp
  go_wp2
  go_ret
  exact ⟨rfl, HX.out.trans hw⟩

/-- Which cells there are. -/
def hasF (W H : Int) (zs : List Int) (x y : Int) : Bool := vldH W H zs && inB x 0 (W - 1) && inB y 0 (H - 1)
theorem hasF_iff {W H : Int} {zs : List Int} {x y : Int} : hasF W H zs x y = true ↔ vldH W H zs = true ∧ inB x 0 (W - 1) = true ∧ inB y 0 (H - 1) = true := by simp [hasF, and_assoc]

end Go.Proofs.Ytajfpjggdbifjaa
