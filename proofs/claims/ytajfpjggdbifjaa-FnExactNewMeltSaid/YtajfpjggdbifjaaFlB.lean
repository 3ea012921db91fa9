/-
  Places, cells and values of fields, by the program and by the reference.
-/
import Derived.Test.YtajfpjggdbifjaaFlA
namespace Go.Proofs.Ytajfpjggdbifjaa
open Go.RowKit
set_option linter.unusedVariables false
set_option linter.unusedSimpArgs false
set_option linter.unnecessarySimpa false

theorem tmodF_bd (x s : Int) (h : 1 ≤ s) : 0 < x.tmod s + s ∧ x.tmod s + s < 2 * s := by
  have h1 := Int.tmod_lt_of_pos x (b := s) (by omega)
  have h2 := Int.lt_tmod_of_pos x (b := s) (by omega)
  omega
theorem roundF_mod (x s : Int) (h : 1 ≤ s) : (x.tmod s + s) % s = x % s := by
  rw [Int.add_emod_right]
  have e := Int.mul_tdiv_add_tmod x s
  conv => rhs; rw [← e]
  rw [Int.add_comm, Int.add_mul_emod_self_left]
theorem roundF_mod' (x s : Int) (h : 1 ≤ s) : x.tmod s % s = x % s := by rw [← roundF_mod x s h, Int.add_emod_right]

/-- The number that is meant by a coordinate. -/
def placeR (R : Bool) (x s : Int) : Int := if R then x % s else max 0 (min (s - 1) x)
theorem placeR_bd (R : Bool) (x : Int) {s : Int} (h : 1 ≤ s) : 0 ≤ placeR R x s ∧ placeR R x s < s := by
  unfold placeR
  cases R
  · simp; omega
  · exact ⟨Int.emod_nonneg x (by omega), Int.emod_lt_of_pos x (by omega)⟩
theorem placeR_id (R : Bool) {x s : Int} (h1 : 0 ≤ x) (h2 : x < s) : placeR R x s = x := by
  unfold placeR
  cases R
  · simp; omega
  · exact Int.emod_eq_of_lt h1 h2
def cellR (W H : Int) (R : Bool) (x y : Int) : Int := placeR R x W + W * placeR R y H
theorem cellR_bd {W H : Int} (R : Bool) (x y : Int) (h1 : 1 ≤ W) (h3 : 1 ≤ H) : 0 ≤ cellR W H R x y ∧ cellR W H R x y < W * H := by
  obtain ⟨a1, a2⟩ := placeR_bd R x h1
  obtain ⟨b1, b2⟩ := placeR_bd R y h3
  unfold cellR
  have m1 := Int.mul_nonneg (a := W) (b := placeR R y H) (by omega) b1
  have m2 := Int.mul_le_mul_of_nonneg_left (a := placeR R y H) (b := H - 1) (c := W) (by omega) (by omega)
  rw [Int.mul_sub] at m2
  omega
theorem cellR_id {W H : Int} (R : Bool) {x y : Int} (h1 : 0 ≤ x) (h2 : x < W) (h3 : 0 ≤ y) (h4 : y < H) : cellR W H R x y = x + W * y := by
  unfold cellR; rw [placeR_id R h1 h2, placeR_id R h3 h4]

theorem place_R (R : Bool) (x s : Int) (h : 1 ≤ s) (h2 : s ≤ 10000) (w : World) : Calls Try.prog 166 #[.int .i64 x, .int .i64 s, .bool R] w fun e w' => e = .returned (.int .i64 (placeR R x s)) ∧ w = w' := by
  obtain ⟨b1, b2⟩ := tmodF_bd x s h
  have HR := Lib.hid (roundF_mod x s h)
  cases R with
  | true =>
    go_enter Try.func166, Try.ntmps166
    go_wp2
    go_ret
    exact ⟨by show _ = Ending.returned (.int .i64 (x % s)); rw [← HR.out]; rfl, rfl⟩
  | false =>
    clear b1 b2 HR
    have HP : Hid (placeR false x s = if s - 1 < (if 0 < x then x else 0) then s - 1 else if 0 < x then x else 0) := by
      show placeR false x s = _
      unfold placeR; simp; split <;> split <;> omega
    go_enter Try.func166, Try.ntmps166
    go_wp2
    all_goals go_ret
    all_goals (rw [HP.out]; simp_all <;> omega)

theorem l00Max_any (x y : Int) (w : World) : Calls Try.prog 182 #[.int .i64 x, .int .i64 y] w fun e w' => e = .returned (.int .i64 (max x y)) ∧ w = w' := by
  go_enter Try.func182, Try.ntmps182
  by_cases h : y < x
  · have e : decide (y < x) = true := by simpa using h
    have HM := Lib.hid (show max x y = x by omega)
    go_wp2
    go_ret
    exact ⟨by rw [HM.out]; rfl, rfl⟩
  · have e : decide (y < x) = false := by simpa using h
    have HM := Lib.hid (show max x y = y by omega)
    go_wp2
    go_ret
    exact ⟨by rw [HM.out]; rfl, rfl⟩
theorem l00Min_any (x y : Int) (w : World) : Calls Try.prog 183 #[.int .i64 x, .int .i64 y] w fun e w' => e = .returned (.int .i64 (min x y)) ∧ w = w' := by
  go_enter Try.func183, Try.ntmps183
  by_cases h : x < y
  · have e : decide (x < y) = true := by simpa using h
    have HM := Lib.hid (show min x y = x by omega)
    go_wp2
    go_ret
    exact ⟨by rw [HM.out]; rfl, rfl⟩
  · have e : decide (x < y) = false := by simpa using h
    have HM := Lib.hid (show min x y = y by omega)
    go_wp2
    go_ret
    exact ⟨by rw [HM.out]; rfl, rfl⟩

theorem l02Place_R (R : Bool) (x s : Int) (h : 1 ≤ s) (h2 : s ≤ 10000) (w : World) : Calls Try.prog 180 #[.int .i64 x, .int .i64 s, .bool R] w fun e w' => e = .returned (.int .i64 (placeR R x s)) ∧ w = w' := by
  obtain ⟨b1, b2⟩ := tmodF_bd x s h
  have HR := Lib.hid (roundF_mod x s h)
  cases R with
  | true =>
    go_enter Try.func180, Try.ntmps180
    go_wp2
    go_ret
    exact ⟨by show _ = Ending.returned (.int .i64 (x % s)); rw [← HR.out]; rfl, rfl⟩
  | false =>
    clear b1 b2 HR
    go_enter Try.func180, Try.ntmps180
    go_wp2_with (first | (go_at_call 183; refine (l00Min_any _ _ _).mono ?_; rintro e w' ⟨rfl, rfl⟩) | (go_at_call 182; refine (l00Max_any _ _ _).mono ?_; rintro e w' ⟨rfl, rfl⟩))
    go_ret
    exact ⟨rfl, rfl⟩

theorem cellR_any (W H x y : Int) (R : Bool) (a : Option Addr) (n c : Nat) (hW : 1 ≤ W ∧ W ≤ 16) (hH : 1 ≤ H ∧ H ≤ 16) (w : World) :
    Calls Try.prog 137 #[.agg #[.int .i64 W, .int .i64 H, .bool R, .slice a n c], .int .i64 x, .int .i64 y] w fun e w' => e = .returned (.int .i64 (cellR W H R x y)) ∧ Ext w w' := by
  obtain ⟨w1, w2⟩ := hW
  obtain ⟨h1, h2⟩ := hH
  have hb := cellR_bd R x y w1 h1
  have hm := mulF_bd w1 w2 h1 h2
  obtain ⟨a1, a2⟩ := placeR_bd R x w1
  obtain ⟨b1, b2⟩ := placeR_bd R y h1
  unfold cellR at hb ⊢
  have m1 := Int.mul_nonneg (a := W) (b := placeR R y H) (by omega) b1
  obtain ⟨hb1, hb2⟩ := hb
  obtain ⟨hm1, hm2⟩ := hm
  go_enter Try.func137, Try.ntmps137
  go_wp2
  go_quiet ((go_at_call 166; exact Calls.quiet_of_same ((place_R R _ _ (by omega) (by omega) _).mono fun _ _ h => ⟨h.1, h.2.symm⟩)))
  go_wp2
  go_ret
  exact ⟨rfl, ((Ext.refl _).alloc _).drewN _⟩

theorem l02Index_any (p : Nat) (W H x y : Int) (R : Bool) (a : Option Addr) (n c : Nat) (hW : 1 ≤ W ∧ W ≤ 16) (hH : 1 ≤ H ∧ H ≤ 16) (w : World) (hp : FldAt w p W H R a n c) :
    Calls Try.prog 172 #[.pointer (some ⟨p, 0, none⟩), .int .i64 x, .int .i64 y] w fun e w' => e = .returned (.int .i64 (cellR W H R x y)) ∧ Ext w w' := by
  obtain ⟨w1, w2⟩ := hW
  obtain ⟨h1, h2⟩ := hH
  have hb := cellR_bd R x y w1 h1
  have hm := mulF_bd w1 w2 h1 h2
  obtain ⟨a1, a2⟩ := placeR_bd R x w1
  obtain ⟨b1, b2⟩ := placeR_bd R y h1
  unfold cellR at hb ⊢
  have m1 := Int.mul_nonneg (a := W) (b := placeR R y H) (by omega) b1
  obtain ⟨hb1, hb2⟩ := hb
  obtain ⟨hm1, hm2⟩ := hm
  obtain ⟨p0, p1, p2, p3⟩ := hp
  go_enter Try.func172, Try.ntmps172
  go_wp2
  go_quiet ((go_at_call 180; exact Calls.quiet_of_same ((l02Place_R R _ _ (by omega) (by omega) _).mono fun _ _ h => ⟨h.1, h.2.symm⟩)))
  go_wp2
  go_ret
  exact ⟨rfl, (Ext.refl _).drewN _⟩

/-- The value about a place, to the bit. -/
def aboutB (W H : Int) (R : Bool) (xs : List Nat) (x y : Int) : Nat := xs[(cellR W H R x y).toNat]?.getD 0
/-- .. and up to which not-a-number. -/
def aboutV (W H : Int) (R : Bool) (fs : List (Option Nat)) (x y : Int) : Option Nat := fat fs (cellR W H R x y).toNat
theorem fa_about {W H : Int} {R : Bool} {xs : List Nat} {fs : List (Option Nat)} (h : fas xs = fs) (hv : vldF W H xs.length = true) (x y : Int) : fa .f32 (aboutB W H R xs x y) = aboutV W H R fs x y := by
  obtain ⟨hs, hl⟩ := vldF_iff.1 hv
  obtain ⟨⟨h1, h2⟩, h3, h4⟩ := szF_iff.1 hs
  have := cellR_bd R x y h1 h3
  exact fas_at h (by omega)

theorem l02At_any (p : Nat) (W H x y : Int) (R : Bool) (b o n c : Nat) (xs : List Nat) (hz : xs.length = n) (hv : vldF W H n = true) (w : World) (hp : FldAt w p W H R (some ⟨b, o, none⟩) n c) (hA : VArr w (some ⟨b, o, none⟩) (flts xs)) :
    Calls Try.prog 157 #[.pointer (some ⟨p, 0, none⟩), .int .i64 x, .int .i64 y] w fun e w' => e = .returned (.float .f32 (aboutB W H R xs x y)) ∧ Ext w w' := by
  obtain ⟨hs, hl⟩ := vldF_iff.1 hv
  obtain ⟨⟨h1, h2⟩, h3, h4⟩ := szF_iff.1 hs
  have hb := cellR_bd R x y h1 h3
  obtain ⟨hm1, hm2⟩ := mulF_bd h1 h2 h3 h4
  obtain ⟨i, hi⟩ : ∃ i : Nat, cellR W H R x y = i := ⟨(cellR W H R x y).toNat, by omega⟩
  have hlt : i < n := by omega
  have hc := hA.ofFlts i (by omega)
  rw [List.getD_eq_getElem?_getD] at hc
  have HZ : Hid (aboutB W H R xs x y = xs[i]?.getD 0) := by show _ = _; unfold aboutB; rw [hi]; rfl
  rw [HZ.out]
  have hWW : 1 ≤ W ∧ W ≤ 16 := ⟨h1, h2⟩
  have hHH : 1 ≤ H ∧ H ≤ 16 := ⟨h3, h4⟩
  have HI := Lib.hid hi
  have HP := Lib.hid hp
  clear hi hb hA hv hs hl HZ hp
  generalize xs[i]?.getD 0 = z at *
  go_enter Try.func157, Try.ntmps157
  go_wp2
  refine region_grow (C := Ext w) (K := fun f _ v _ => v = .int .i64 i) ⟨fun _ _ h k => h.trans k, fun _ _ _ _ _ h _ => h⟩ (by kernel_rfl) (by kernel_rfl) ((Ext.refl w).drew) ?_
  repeat (refine grow_q rfl ?_; apply Exists.intro; refine ⟨fun w1 hw _ => ?_, ?_⟩; focus (obtain ⟨c0, c1, c2, c3⟩ := HP.out.ext hw; go_simp; rfl))
  refine grow_c1 172 rfl ?_
  apply Exists.intro
  refine ⟨fun w1 => ?_, ?_⟩
  · go_simp; rfl
  apply Exists.intro
  refine ⟨fun w1 hw _ => ?_, fun v w1 h => h, fun w1 => rfl, ?_⟩
  · refine (l02Index_any p W H x y R _ n c hWW hHH _ (HP.out.ext hw)).mono fun e w' h => ?_
    rw [HI.out] at h; exact h
  repeat (refine grow_q rfl ?_; apply Exists.intro; refine ⟨fun w1 hw _ => ?_, ?_⟩; focus (have c3 := hw.cell hc; go_simp; rfl))
  refine grow_nil (fun w2 hw _ => ?_)
  go_simp
  go_wp2
  go_ret
  exact ⟨rfl, hw⟩

theorem aboutF_any (W H x y : Int) (R : Bool) (b o n c : Nat) (xs : List Nat) (hz : xs.length = n) (hv : vldF W H n = true) (w : World) (hA : VArr w (some ⟨b, o, none⟩) (flts xs)) :
    Calls Try.prog 141 #[.agg #[.int .i64 W, .int .i64 H, .bool R, .slice (some ⟨b, o, none⟩) n c], .int .i64 x, .int .i64 y] w fun e w' => e = .returned (.float .f32 (aboutB W H R xs x y)) ∧ Ext w w' := by
  obtain ⟨hs, hl⟩ := vldF_iff.1 hv
  obtain ⟨⟨h1, h2⟩, h3, h4⟩ := szF_iff.1 hs
  have hb := cellR_bd R x y h1 h3
  obtain ⟨hm1, hm2⟩ := mulF_bd h1 h2 h3 h4
  obtain ⟨i, hi⟩ : ∃ i : Nat, cellR W H R x y = i := ⟨(cellR W H R x y).toNat, by omega⟩
  have hlt : i < n := by omega
  have hc := hA.ofFlts i (by omega)
  rw [List.getD_eq_getElem?_getD] at hc
  have hX := (Ext.refl w).alloc (.cells #[.int .i64 W, .int .i64 H, .bool R, .slice (some ⟨b, o, none⟩) n c] 26)
  have hc1 := hX.cell hc
  have B0 := heap_new w (.cells #[.int .i64 W, .int .i64 H, .bool R, .slice (some ⟨b, o, none⟩) n c] 26)
  have HZ : Hid (aboutB W H R xs x y = xs[i]?.getD 0) := by show _ = _; unfold aboutB; rw [hi]; rfl
  rw [HZ.out]
  have hWW : 1 ≤ W ∧ W ≤ 16 := ⟨h1, h2⟩
  have hHH : 1 ≤ H ∧ H ≤ 16 := ⟨h3, h4⟩
  have HI := Lib.hid hi
  have HX := Lib.hid hX
  clear hi hb hA hv hs hl HZ hc hX
  generalize xs[i]?.getD 0 = z at *
  go_enter Try.func141, Try.ntmps141
  go_wp2
  generalize w.alloc (.cells #[.int .i64 W, .int .i64 H, .bool R, .slice (some ⟨b, o, none⟩) n c] 26) = w0 at *
  generalize w.heap.size = p at *
  refine region_grow (C := Ext w0) (K := fun f _ v _ => v = .int .i64 i) ⟨fun _ _ h k => h.trans k, fun _ _ _ _ _ h _ => h⟩ (by kernel_rfl) (by kernel_rfl) ((Ext.refl w0).drew) ?_
  repeat (refine grow_q rfl ?_; apply Exists.intro; refine ⟨fun w1 hw _ => ?_, ?_⟩; focus (obtain ⟨⟨c0, c1, c2, c3⟩, _⟩ := block4 (hw.block B0); go_simp; rfl))
  refine grow_c1 137 rfl ?_
  apply Exists.intro
  refine ⟨fun w1 => ?_, ?_⟩
  · go_simp; rfl
  apply Exists.intro
  refine ⟨fun w1 hw _ => ?_, fun v w1 h => h, fun w1 => rfl, ?_⟩
  · refine (cellR_any W H x y R _ n c hWW hHH _).mono fun e w' h => ?_
    rw [HI.out] at h; exact h
  repeat (refine grow_q rfl ?_; apply Exists.intro; refine ⟨fun w1 hw _ => ?_, ?_⟩; focus (have c3 := hw.cell hc1; go_simp; rfl))
  refine grow_nil (fun w2 hw _ => ?_)
  go_simp
  go_wp2
  go_ret
  exact ⟨rfl, HX.out.trans hw⟩

theorem atF_any (W H x y : Int) (R : Bool) (b o n c : Nat) (xs : List Nat) (hz : xs.length = n) (hv : vldF W H n = true) (w : World) (hA : VArr w (some ⟨b, o, none⟩) (flts xs)) (x0 : 0 ≤ x) (x1 : x < W) (y0 : 0 ≤ y) (y1 : y < H) :
    Calls Try.prog 72 #[.agg #[.int .i64 W, .int .i64 H, .bool R, .slice (some ⟨b, o, none⟩) n c], .int .i64 x, .int .i64 y] w fun e w' => e = .returned (.float .f32 (aboutB W H R xs x y)) ∧ Ext w w' := by
  obtain ⟨hs, hl⟩ := vldF_iff.1 hv
  obtain ⟨⟨h1, h2⟩, h3, h4⟩ := szF_iff.1 hs
  have hb := cellR_bd R x y h1 h3
  have e1 := cellR_id R x0 x1 y0 y1
  have m1 := Int.mul_nonneg (a := W) (b := y) (by omega) y0
  obtain ⟨hm1, hm2⟩ := mulF_bd h1 h2 h3 h4
  obtain ⟨i, hi⟩ : ∃ i : Nat, x + W * y = i := ⟨(x + W * y).toNat, by omega⟩
  have hlt : i < n := by omega
  have hc := hA.ofFlts i (by omega)
  rw [List.getD_eq_getElem?_getD] at hc
  have hX := (Ext.refl w).alloc (.cells #[.int .i64 W, .int .i64 H, .bool R, .slice (some ⟨b, o, none⟩) n c] 26)
  have hc1 := hX.cell hc
  have hw1 : W * y ≤ 256 := by omega
  have HZ : Hid (aboutB W H R xs x y = xs[i]?.getD 0) := by show _ = _; unfold aboutB; rw [e1, hi]; rfl
  rw [HZ.out]
  have HX := Lib.hid hX
  clear hb hA hv hs hl HZ hc hX e1
  generalize xs[i]?.getD 0 = z at *
  go_enter Try.func72, Try.ntmps72
  go_wp2
  go_ret
  exact ⟨rfl, HX.out⟩
end Go.Proofs.Ytajfpjggdbifjaa
