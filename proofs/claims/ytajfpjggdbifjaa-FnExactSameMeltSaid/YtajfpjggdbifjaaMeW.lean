/-
  SameMelt by both. (Printed by gen_melt.py.)
-/
import Derived.Test.YtajfpjggdbifjaaMeF
import Derived.Test.YtajfpjggdbifjaaFsB
import Derived.Test.YtajfpjggdbifjaaFlP
namespace Go.Proofs.Ytajfpjggdbifjaa
open Go.RowKit
set_option linter.unusedVariables false
set_option linter.unusedSimpArgs false
set_option linter.unnecessarySimpa false

theorem l02AlikeO_any (p p' o1 : Nat) (W H W' H' : Int) (R R' : Bool) (a a' : Option Addr) (n c n' c' : Nat) (w : World) (hp : FldAtO w p o1 W H R a n c) (hp' : FldAtO w p' o1 W' H' R' a' n' c') :
    Calls Try.prog 169 #[.pointer (some ⟨p, o1, none⟩), .pointer (some ⟨p', o1, none⟩)] w fun e w' => e = .returned (.bool (alikeB W H R W' H' R')) ∧ Ext w w' := by
  obtain ⟨p0, p1, p2, p3⟩ := hp
  obtain ⟨q0, q1, q2, q3⟩ := hp'
  cases hW : (W == W') with
  | false =>
    have HR : Hid (alikeB W H R W' H' R' = false) := by show _ = _; simp [alikeB, hW]
    go_enter Try.func169, Try.ntmps169
    go_wp2
    go_quiet (fail)
    go_wp2
    go_ret
    exact ⟨by rw [HR.out]; rfl, (Ext.refl _).drewN _⟩
  | true =>
    cases hH : (H == H') with
    | false =>
      have HR : Hid (alikeB W H R W' H' R' = false) := by show _ = _; simp [alikeB, hH]
      go_enter Try.func169, Try.ntmps169
      go_wp2
      go_quiet (fail)
      go_wp2
      go_ret
      exact ⟨by rw [HR.out]; rfl, (Ext.refl _).drewN _⟩
    | true =>
      have HR : Hid (alikeB W H R W' H' R' = (R == R')) := by show _ = _; simp [alikeB, hH, hW]
      go_enter Try.func169, Try.ntmps169
      go_wp2
      go_quiet (fail)
      go_wp2
      go_ret
      exact ⟨by rw [HR.out]; rfl, (Ext.refl _).drewN _⟩

set_option maxRecDepth 100000 in
set_option maxHeartbeats 1000000 in
theorem l02SameO_any (p p' o1 : Nat) (W H W' H' : Int) (R R' : Bool) (a a' : Option Addr) (n c n' c' : Nat) (zs zs' : List Nat) (hz : zs.length = n) (hz' : zs'.length = n') (hn : n ≤ 1048576) (hn' : n' ≤ 1048576) (hw : wfF zs) (hw' : wfF zs') (w : World) (hp : FldAtO w p o1 W H R a n c) (hp' : FldAtO w p' o1 W' H' R' a' n' c') (hA : VArr w a (flts zs)) (hA' : VArr w a' (flts zs')) :
    Calls Try.prog 144 #[.pointer (some ⟨p, o1, none⟩), .pointer (some ⟨p', o1, none⟩)] w fun e w' => e = .returned (.bool (sameFB W H R W' H' R' zs zs')) ∧ Ext w w' := by
  have HP := Lib.hid hp
  have HP' := Lib.hid hp'
  have HA := Lib.hid hA
  have HA' := Lib.hid hA'
  clear hp hp' hA hA'
  cases ha : alikeB W H R W' H' R' with
  | false =>
    have HS : Hid (sameFB W H R W' H' R' zs zs' = false) := by show _ = _; simp [sameFB, ha]
    have HAL := Lib.hid ha
    clear ha
    go_enter Try.func144, Try.ntmps144
    go_wp2_with fail
    refine region_grow (C := Ext w) (K := fun _ _ V _ => V = .bool false) ⟨fun _ _ h k => h.trans k, fun _ _ _ _ _ h _ => h⟩ (by kernel_rfl) (by kernel_rfl) ((Ext.refl w).drew) ?_
    iterate 2 (refine grow_q rfl ?_; apply Exists.intro; refine ⟨fun u' hu' _ => ?_, ?_⟩; focus (go_simp; rfl))
    refine grow_c1 169 rfl ⟨#[.pointer (some ⟨p, o1, none⟩), .pointer (some ⟨p', o1, none⟩)], fun u' => ?_, .bool false, fun u' hu' _ => (l02AlikeO_any p p' o1 W H W' H' R R' a a' n c n' c' u' (HP.out.ext hu') (HP'.out.ext hu')).mono (fun e w' h => ⟨by rw [HAL.out] at h; exact h.1, h.2⟩), fun V u h => h, fun u => rfl, ?_⟩
    · go_simp
    iterate 1 (refine grow_q rfl ?_; apply Exists.intro; refine ⟨fun u' hu' _ => ?_, ?_⟩; focus (go_simp; rfl))
    iterate 9 (with_reducible refine grow_skip (by kernel_rfl) ?_)
    iterate 2 (refine grow_q rfl ?_; apply Exists.intro; refine ⟨fun u' hu' _ => ?_, ?_⟩; focus (go_simp; rfl))
    refine grow_nil (fun w4 hw4 _ => ?_)
    have HX4 := Lib.hid hw4
    clear hw4
    go_simp
    go_wp2
    go_ret
    exact ⟨by rw [HS.out]; rfl, HX4.out⟩
  | true =>
    have HS : Hid (sameFB W H R W' H' R' zs zs' = sameL zs zs') := by show _ = _; simp [sameFB, ha]
    have HAL := Lib.hid ha
    clear ha
    go_enter Try.func144, Try.ntmps144
    go_wp2_with fail
    refine region_grow (C := Ext w) (K := fun f _ V _ => (f = 169 → V = .bool true) ∧ (f = 170 → V = .bool (sameL zs zs'))) ⟨fun _ _ h k => h.trans k, fun _ _ _ _ _ h _ => h⟩ (by kernel_rfl) (by kernel_rfl) ((Ext.refl w).drew) ?_
    iterate 2 (refine grow_q rfl ?_; apply Exists.intro; refine ⟨fun u' hu' _ => ?_, ?_⟩; focus (go_simp; rfl))
    refine grow_c1 169 rfl ⟨#[.pointer (some ⟨p, o1, none⟩), .pointer (some ⟨p', o1, none⟩)], fun u' => ?_, .bool true, fun u' hu' _ => (l02AlikeO_any p p' o1 W H W' H' R R' a a' n c n' c' u' (HP.out.ext hu') (HP'.out.ext hu')).mono (fun e w' h => ⟨by rw [HAL.out] at h; exact h.1, h.2⟩), fun V u h => h.1 rfl, fun u => ⟨fun _ => rfl, fun h => absurd h (by decide)⟩, ?_⟩
    · go_simp
    iterate 9 ((with_reducible refine grow_q (by kernel_rfl) ?_); apply Exists.intro; refine ⟨fun u' hu' _ => ?_, ?_⟩; focus (obtain ⟨p0, p1, p2, p3⟩ := HP.out.ext hu'; obtain ⟨q0, q1, q2, q3⟩ := HP'.out.ext hu'; go_simp; rfl))
    with_reducible refine grow_c1 170 (by kernel_rfl) ?_
    refine ⟨#[.slice a n c, .slice a' n' c'], fun u' => ?_, .bool (sameL zs zs'), fun u' hu' _ => l01SameAll_any a a' n c n' c' zs zs' hz hz' (by omega) (by omega) hw hw' u' (HA.out.ext hu') (HA'.out.ext hu'), fun V u h => h.2 rfl, fun u => ⟨fun h => absurd h (by decide), fun _ => rfl⟩, ?_⟩
    · go_simp
    iterate 2 (refine grow_q rfl ?_; apply Exists.intro; refine ⟨fun u' hu' _ => ?_, ?_⟩; focus (go_simp; rfl))
    refine grow_nil (fun w4 hw4 _ => ?_)
    have HX4 := Lib.hid hw4
    clear hw4
    go_simp
    go_wp2
    go_ret
    exact ⟨by rw [HS.out]; rfl, HX4.out⟩


def fiveB (f1 f2 f3 f4 f5 e1 e2 e3 e4 e5 : Nat) : Bool := sameB f1 e1 && (sameB f2 e2 && (sameB f3 e3 && (sameB f4 e4 && sameB f5 e5)))
def sameM (W H : Int) (R : Bool) (a : Option Addr) (n c : Nat) (W' H' : Int) (R' : Bool) (a' : Option Addr) (n' c' : Nat) (f1 f2 f3 f4 f5 : Nat) (k : Int) (U V : Int) (S : Bool) (b : Option Addr) (m d : Nat) (U' V' : Int) (S' : Bool) (b' : Option Addr) (m' d' : Nat) (e1 e2 e3 e4 e5 : Nat) (j : Int) (xs xs' ys ys' : List Nat) : Bool := sameFB W H R U V S xs ys && (sameFB W' H' R' U' V' S' xs' ys' && (fiveB f1 f2 f3 f4 f5 e1 e2 e3 e4 e5 && (k == j)))
theorem five_sameL (f1 f2 f3 f4 f5 e1 e2 e3 e4 e5 : Nat) : sameL [f1, f2, f3, f4, f5] [e1, e2, e3, e4, e5] = fiveB f1 f2 f3 f4 f5 e1 e2 e3 e4 e5 := by
  simp [sameL, fiveB, sameB, fas, Bool.decide_and]

set_option maxRecDepth 100000 in
set_option maxHeartbeats 8000000 in
theorem l03Same_any (p p' : Nat) (W H : Int) (R : Bool) (a : Option Addr) (n c : Nat) (W' H' : Int) (R' : Bool) (a' : Option Addr) (n' c' : Nat) (f1 f2 f3 f4 f5 : Nat) (k : Int) (U V : Int) (S : Bool) (b : Option Addr) (m d : Nat) (U' V' : Int) (S' : Bool) (b' : Option Addr) (m' d' : Nat) (e1 e2 e3 e4 e5 : Nat) (j : Int) (xs xs' ys ys' : List Nat) (hx : xs.length = n) (hx' : xs'.length = n') (hy : ys.length = m) (hy' : ys'.length = m') (hn : n ≤ 1048576) (hn' : n' ≤ 1048576) (hm : m ≤ 1048576) (hm' : m' ≤ 1048576) (wx : wfF xs) (wx' : wfF xs') (wy : wfF ys) (wy' : wfF ys') (hf : f1 < 4294967296 ∧ f2 < 4294967296 ∧ f3 < 4294967296 ∧ f4 < 4294967296 ∧ f5 < 4294967296) (he : e1 < 4294967296 ∧ e2 < 4294967296 ∧ e3 < 4294967296 ∧ e4 < 4294967296 ∧ e5 < 4294967296) (w : World) (hp : w.heap[p]? = some (.cells #[.int .i64 W, .int .i64 H, .bool R, .slice a n c, .int .i64 W', .int .i64 H', .bool R', .slice a' n' c', .float .f32 f1, .float .f32 f2, .float .f32 f3, .float .f32 f4, .float .f32 f5, .int .i64 k] 62 (0, 0))) (hq : w.heap[p']? = some (.cells #[.int .i64 U, .int .i64 V, .bool S, .slice b m d, .int .i64 U', .int .i64 V', .bool S', .slice b' m' d', .float .f32 e1, .float .f32 e2, .float .f32 e3, .float .f32 e4, .float .f32 e5, .int .i64 j] 62 (0, 0))) (hA : VArr w a (flts xs)) (hA' : VArr w a' (flts xs')) (hB : VArr w b (flts ys)) (hB' : VArr w b' (flts ys')) :
    Calls Try.prog 100 #[.pointer (some ⟨p, 0, none⟩), .pointer (some ⟨p', 0, none⟩)] w fun e w' => e = .returned (.bool (sameM W H R a n c W' H' R' a' n' c' f1 f2 f3 f4 f5 k U V S b m d U' V' S' b' m' d' e1 e2 e3 e4 e5 j xs xs' ys ys')) ∧ Ext w w' := by
  obtain ⟨l1, l2, l3, l4, l5⟩ := hf
  obtain ⟨g1, g2, g3, g4, g5⟩ := he
  have HP := Lib.hid hp
  have HQ := Lib.hid hq
  have HA := Lib.hid hA
  have HA' := Lib.hid hA'
  have HB := Lib.hid hB
  have HB' := Lib.hid hB'
  clear hp hq hA hA' hB hB'
  have HM0 : Hid (sameM W H R a n c W' H' R' a' n' c' f1 f2 f3 f4 f5 k U V S b m d U' V' S' b' m' d' e1 e2 e3 e4 e5 j xs xs' ys ys' = (sameFB W H R U V S xs ys && (sameFB W' H' R' U' V' S' xs' ys' && (fiveB f1 f2 f3 f4 f5 e1 e2 e3 e4 e5 && (k == j))))) := by show _ = _; rfl
  have C8 := Lib.hid (block_cell HP.out 8)
  have D8 := Lib.hid (block_cell HQ.out 8)
  have C9 := Lib.hid (block_cell HP.out 9)
  have D9 := Lib.hid (block_cell HQ.out 9)
  have C10 := Lib.hid (block_cell HP.out 10)
  have D10 := Lib.hid (block_cell HQ.out 10)
  have C11 := Lib.hid (block_cell HP.out 11)
  have D11 := Lib.hid (block_cell HQ.out 11)
  have C12 := Lib.hid (block_cell HP.out 12)
  have D12 := Lib.hid (block_cell HQ.out 12)
  have C13 := Lib.hid (block_cell HP.out 13)
  have D13 := Lib.hid (block_cell HQ.out 13)
  have FP0 : Hid (FldAtO w p 0 W H R a n c) := ⟨block_cell HP.out 0, block_cell HP.out 1, block_cell HP.out 2, block_cell HP.out 3⟩
  have FP1 : Hid (FldAtO w p 4 W' H' R' a' n' c') := ⟨block_cell HP.out 4, block_cell HP.out 5, block_cell HP.out 6, block_cell HP.out 7⟩
  have FQ0 : Hid (FldAtO w p' 0 U V S b m d) := ⟨block_cell HQ.out 0, block_cell HQ.out 1, block_cell HQ.out 2, block_cell HQ.out 3⟩
  have FQ1 : Hid (FldAtO w p' 4 U' V' S' b' m' d') := ⟨block_cell HQ.out 4, block_cell HQ.out 5, block_cell HQ.out 6, block_cell HQ.out 7⟩
  cases q0 : sameFB W H R U V S xs ys with
  | false =>
    have Q0 := Lib.hid q0
    have HM : Hid (sameM W H R a n c W' H' R' a' n' c' f1 f2 f3 f4 f5 k U V S b m d U' V' S' b' m' d' e1 e2 e3 e4 e5 j xs xs' ys ys' = false) := by show _ = _; rw [HM0.out]; simp [fiveB, q0]
    clear q0
    go_enter Try.func100, Try.ntmps100
    go_wp2_with fail
    simp only [List.append_eq, List.cons_append, List.nil_append]
    refine region_grow (C := Ext w) (K := fun _ args val _ => (args = #[.pointer (some ⟨p, 0, none⟩), .pointer (some ⟨p', 0, none⟩)] → val = .bool (sameFB W H R U V S xs ys)) ∧ (args = #[.pointer (some ⟨p, 4, none⟩), .pointer (some ⟨p', 4, none⟩)] → val = .bool (sameFB W' H' R' U' V' S' xs' ys')) ∧ (∀ x y : Nat, args = #[.float .f32 x, .float .f32 y] → val = .bool (sameB x y))) ⟨fun _ _ h k => h.trans k, fun _ _ _ _ _ h _ => h⟩ (by kernel_rfl) (by kernel_rfl) ((Ext.refl w).drew) ?_
    (with_reducible refine grow_q (by kernel_rfl) ?_); apply Exists.intro; refine ⟨fun u hu _ => ?_, ?_⟩; focus (go_simp; rfl)
    (with_reducible refine grow_q (by kernel_rfl) ?_); apply Exists.intro; refine ⟨fun u hu _ => ?_, ?_⟩; focus (go_simp; rfl)
    (with_reducible refine grow_q (by kernel_rfl) ?_); apply Exists.intro; refine ⟨fun u hu _ => ?_, ?_⟩; focus (go_simp; rfl)
    (with_reducible refine grow_q (by kernel_rfl) ?_); apply Exists.intro; refine ⟨fun u hu _ => ?_, ?_⟩; focus (go_simp; rfl)
    (with_reducible refine grow_q (by kernel_rfl) ?_); apply Exists.intro; refine ⟨fun u hu _ => ?_, ?_⟩; focus (go_simp; rfl)
    (with_reducible refine grow_q (by kernel_rfl) ?_); apply Exists.intro; refine ⟨fun u hu _ => ?_, ?_⟩; focus (go_simp; rfl)
    with_reducible refine grow_c1 144 (by kernel_rfl) ?_
    refine ⟨#[.pointer (some ⟨p, 0, none⟩), .pointer (some ⟨p', 0, none⟩)], fun u => ?_, .bool false, fun u hu _ => (l02SameO_any p p' 0 W H U V R S a b n c m d xs ys hx hy hn hm wx wy u (FP0.out.ext hu) (FQ0.out.ext hu) (HA.out.ext hu) (HB.out.ext hu)).mono (fun e w' h => ⟨by rw [Q0.out] at h; exact h.1, h.2⟩), fun V u h => by rw [h.1 rfl, Q0.out], fun u => ⟨fun _ => by rw [Q0.out], fun h => absurd h (by simp), fun x y h => absurd h (by simp)⟩, ?_⟩
    · go_simp
    (with_reducible refine grow_q (by kernel_rfl) ?_); apply Exists.intro; refine ⟨fun u hu _ => ?_, ?_⟩; focus (go_simp; rfl)
    iterate 7 (with_reducible refine grow_skip (by kernel_rfl) ?_)
    (with_reducible refine grow_q (by kernel_rfl) ?_); apply Exists.intro; refine ⟨fun u hu _ => ?_, ?_⟩; focus (go_simp; rfl)
    (with_reducible refine grow_q (by kernel_rfl) ?_); apply Exists.intro; refine ⟨fun u hu _ => ?_, ?_⟩; focus (go_simp; rfl)
    iterate 9 (with_reducible refine grow_skip (by kernel_rfl) ?_)
    (with_reducible refine grow_q (by kernel_rfl) ?_); apply Exists.intro; refine ⟨fun u hu _ => ?_, ?_⟩; focus (go_simp; rfl)
    (with_reducible refine grow_q (by kernel_rfl) ?_); apply Exists.intro; refine ⟨fun u hu _ => ?_, ?_⟩; focus (go_simp; rfl)
    iterate 9 (with_reducible refine grow_skip (by kernel_rfl) ?_)
    (with_reducible refine grow_q (by kernel_rfl) ?_); apply Exists.intro; refine ⟨fun u hu _ => ?_, ?_⟩; focus (go_simp; rfl)
    (with_reducible refine grow_q (by kernel_rfl) ?_); apply Exists.intro; refine ⟨fun u hu _ => ?_, ?_⟩; focus (go_simp; rfl)
    iterate 9 (with_reducible refine grow_skip (by kernel_rfl) ?_)
    (with_reducible refine grow_q (by kernel_rfl) ?_); apply Exists.intro; refine ⟨fun u hu _ => ?_, ?_⟩; focus (go_simp; rfl)
    (with_reducible refine grow_q (by kernel_rfl) ?_); apply Exists.intro; refine ⟨fun u hu _ => ?_, ?_⟩; focus (go_simp; rfl)
    iterate 9 (with_reducible refine grow_skip (by kernel_rfl) ?_)
    (with_reducible refine grow_q (by kernel_rfl) ?_); apply Exists.intro; refine ⟨fun u hu _ => ?_, ?_⟩; focus (go_simp; rfl)
    (with_reducible refine grow_q (by kernel_rfl) ?_); apply Exists.intro; refine ⟨fun u hu _ => ?_, ?_⟩; focus (go_simp; rfl)
    iterate 9 (with_reducible refine grow_skip (by kernel_rfl) ?_)
    (with_reducible refine grow_q (by kernel_rfl) ?_); apply Exists.intro; refine ⟨fun u hu _ => ?_, ?_⟩; focus (go_simp; rfl)
    (with_reducible refine grow_q (by kernel_rfl) ?_); apply Exists.intro; refine ⟨fun u hu _ => ?_, ?_⟩; focus (go_simp; rfl)
    iterate 9 (with_reducible refine grow_skip (by kernel_rfl) ?_)
    (with_reducible refine grow_q (by kernel_rfl) ?_); apply Exists.intro; refine ⟨fun u hu _ => ?_, ?_⟩; focus (go_simp; rfl)
    (with_reducible refine grow_q (by kernel_rfl) ?_); apply Exists.intro; refine ⟨fun u hu _ => ?_, ?_⟩; focus (go_simp; rfl)
    refine grow_nil (fun w4 hw4 _ => ?_)
    have HX := Lib.hid hw4
    clear hw4
    go_simp
    go_wp2
    go_ret
    exact ⟨by rw [HM.out]; rfl, HX.out⟩
  | true =>
  have Q0 := Lib.hid q0
  clear q0
  cases q1 : sameFB W' H' R' U' V' S' xs' ys' with
  | false =>
    have Q1 := Lib.hid q1
    have HM : Hid (sameM W H R a n c W' H' R' a' n' c' f1 f2 f3 f4 f5 k U V S b m d U' V' S' b' m' d' e1 e2 e3 e4 e5 j xs xs' ys ys' = false) := by show _ = _; rw [HM0.out]; simp [fiveB, q1]
    clear q1
    go_enter Try.func100, Try.ntmps100
    go_wp2_with fail
    simp only [List.append_eq, List.cons_append, List.nil_append]
    refine region_grow (C := Ext w) (K := fun _ args val _ => (args = #[.pointer (some ⟨p, 0, none⟩), .pointer (some ⟨p', 0, none⟩)] → val = .bool (sameFB W H R U V S xs ys)) ∧ (args = #[.pointer (some ⟨p, 4, none⟩), .pointer (some ⟨p', 4, none⟩)] → val = .bool (sameFB W' H' R' U' V' S' xs' ys')) ∧ (∀ x y : Nat, args = #[.float .f32 x, .float .f32 y] → val = .bool (sameB x y))) ⟨fun _ _ h k => h.trans k, fun _ _ _ _ _ h _ => h⟩ (by kernel_rfl) (by kernel_rfl) ((Ext.refl w).drew) ?_
    (with_reducible refine grow_q (by kernel_rfl) ?_); apply Exists.intro; refine ⟨fun u hu _ => ?_, ?_⟩; focus (go_simp; rfl)
    (with_reducible refine grow_q (by kernel_rfl) ?_); apply Exists.intro; refine ⟨fun u hu _ => ?_, ?_⟩; focus (go_simp; rfl)
    (with_reducible refine grow_q (by kernel_rfl) ?_); apply Exists.intro; refine ⟨fun u hu _ => ?_, ?_⟩; focus (go_simp; rfl)
    (with_reducible refine grow_q (by kernel_rfl) ?_); apply Exists.intro; refine ⟨fun u hu _ => ?_, ?_⟩; focus (go_simp; rfl)
    (with_reducible refine grow_q (by kernel_rfl) ?_); apply Exists.intro; refine ⟨fun u hu _ => ?_, ?_⟩; focus (go_simp; rfl)
    (with_reducible refine grow_q (by kernel_rfl) ?_); apply Exists.intro; refine ⟨fun u hu _ => ?_, ?_⟩; focus (go_simp; rfl)
    with_reducible refine grow_c1 144 (by kernel_rfl) ?_
    refine ⟨#[.pointer (some ⟨p, 0, none⟩), .pointer (some ⟨p', 0, none⟩)], fun u => ?_, .bool true, fun u hu _ => (l02SameO_any p p' 0 W H U V R S a b n c m d xs ys hx hy hn hm wx wy u (FP0.out.ext hu) (FQ0.out.ext hu) (HA.out.ext hu) (HB.out.ext hu)).mono (fun e w' h => ⟨by rw [Q0.out] at h; exact h.1, h.2⟩), fun V u h => by rw [h.1 rfl, Q0.out], fun u => ⟨fun _ => by rw [Q0.out], fun h => absurd h (by simp), fun x y h => absurd h (by simp)⟩, ?_⟩
    · go_simp
    (with_reducible refine grow_q (by kernel_rfl) ?_); apply Exists.intro; refine ⟨fun u hu _ => ?_, ?_⟩; focus (go_simp; rfl)
    (with_reducible refine grow_q (by kernel_rfl) ?_); apply Exists.intro; refine ⟨fun u hu _ => ?_, ?_⟩; focus (go_simp; rfl)
    (with_reducible refine grow_q (by kernel_rfl) ?_); apply Exists.intro; refine ⟨fun u hu _ => ?_, ?_⟩; focus (go_simp; rfl)
    (with_reducible refine grow_q (by kernel_rfl) ?_); apply Exists.intro; refine ⟨fun u hu _ => ?_, ?_⟩; focus (go_simp; rfl)
    (with_reducible refine grow_q (by kernel_rfl) ?_); apply Exists.intro; refine ⟨fun u hu _ => ?_, ?_⟩; focus (go_simp; rfl)
    (with_reducible refine grow_q (by kernel_rfl) ?_); apply Exists.intro; refine ⟨fun u hu _ => ?_, ?_⟩; focus (go_simp; rfl)
    (with_reducible refine grow_q (by kernel_rfl) ?_); apply Exists.intro; refine ⟨fun u hu _ => ?_, ?_⟩; focus (go_simp; rfl)
    with_reducible refine grow_c1 144 (by kernel_rfl) ?_
    refine ⟨#[.pointer (some ⟨p, 4, none⟩), .pointer (some ⟨p', 4, none⟩)], fun u => ?_, .bool false, fun u hu _ => (l02SameO_any p p' 4 W' H' U' V' R' S' a' b' n' c' m' d' xs' ys' hx' hy' hn' hm' wx' wy' u (FP1.out.ext hu) (FQ1.out.ext hu) (HA'.out.ext hu) (HB'.out.ext hu)).mono (fun e w' h => ⟨by rw [Q1.out] at h; exact h.1, h.2⟩), fun V u h => by rw [h.2.1 rfl, Q1.out], fun u => ⟨fun h => absurd h (by simp), fun _ => by rw [Q1.out], fun x y h => absurd h (by simp)⟩, ?_⟩
    · go_simp
    (with_reducible refine grow_q (by kernel_rfl) ?_); apply Exists.intro; refine ⟨fun u hu _ => ?_, ?_⟩; focus (go_simp; rfl)
    (with_reducible refine grow_q (by kernel_rfl) ?_); apply Exists.intro; refine ⟨fun u hu _ => ?_, ?_⟩; focus (go_simp; rfl)
    iterate 9 (with_reducible refine grow_skip (by kernel_rfl) ?_)
    (with_reducible refine grow_q (by kernel_rfl) ?_); apply Exists.intro; refine ⟨fun u hu _ => ?_, ?_⟩; focus (go_simp; rfl)
    (with_reducible refine grow_q (by kernel_rfl) ?_); apply Exists.intro; refine ⟨fun u hu _ => ?_, ?_⟩; focus (go_simp; rfl)
    iterate 9 (with_reducible refine grow_skip (by kernel_rfl) ?_)
    (with_reducible refine grow_q (by kernel_rfl) ?_); apply Exists.intro; refine ⟨fun u hu _ => ?_, ?_⟩; focus (go_simp; rfl)
    (with_reducible refine grow_q (by kernel_rfl) ?_); apply Exists.intro; refine ⟨fun u hu _ => ?_, ?_⟩; focus (go_simp; rfl)
    iterate 9 (with_reducible refine grow_skip (by kernel_rfl) ?_)
    (with_reducible refine grow_q (by kernel_rfl) ?_); apply Exists.intro; refine ⟨fun u hu _ => ?_, ?_⟩; focus (go_simp; rfl)
    (with_reducible refine grow_q (by kernel_rfl) ?_); apply Exists.intro; refine ⟨fun u hu _ => ?_, ?_⟩; focus (go_simp; rfl)
    iterate 9 (with_reducible refine grow_skip (by kernel_rfl) ?_)
    (with_reducible refine grow_q (by kernel_rfl) ?_); apply Exists.intro; refine ⟨fun u hu _ => ?_, ?_⟩; focus (go_simp; rfl)
    (with_reducible refine grow_q (by kernel_rfl) ?_); apply Exists.intro; refine ⟨fun u hu _ => ?_, ?_⟩; focus (go_simp; rfl)
    iterate 9 (with_reducible refine grow_skip (by kernel_rfl) ?_)
    (with_reducible refine grow_q (by kernel_rfl) ?_); apply Exists.intro; refine ⟨fun u hu _ => ?_, ?_⟩; focus (go_simp; rfl)
    (with_reducible refine grow_q (by kernel_rfl) ?_); apply Exists.intro; refine ⟨fun u hu _ => ?_, ?_⟩; focus (go_simp; rfl)
    iterate 9 (with_reducible refine grow_skip (by kernel_rfl) ?_)
    (with_reducible refine grow_q (by kernel_rfl) ?_); apply Exists.intro; refine ⟨fun u hu _ => ?_, ?_⟩; focus (go_simp; rfl)
    (with_reducible refine grow_q (by kernel_rfl) ?_); apply Exists.intro; refine ⟨fun u hu _ => ?_, ?_⟩; focus (go_simp; rfl)
    refine grow_nil (fun w4 hw4 _ => ?_)
    have HX := Lib.hid hw4
    clear hw4
    go_simp
    go_wp2
    go_ret
    exact ⟨by rw [HM.out]; rfl, HX.out⟩
  | true =>
  have Q1 := Lib.hid q1
  clear q1
  cases q2 : sameB f1 e1 with
  | false =>
    have Q2 := Lib.hid q2
    have HM : Hid (sameM W H R a n c W' H' R' a' n' c' f1 f2 f3 f4 f5 k U V S b m d U' V' S' b' m' d' e1 e2 e3 e4 e5 j xs xs' ys ys' = false) := by show _ = _; rw [HM0.out]; simp [fiveB, q2]
    clear q2
    go_enter Try.func100, Try.ntmps100
    go_wp2_with fail
    simp only [List.append_eq, List.cons_append, List.nil_append]
    refine region_grow (C := Ext w) (K := fun _ args val _ => (args = #[.pointer (some ⟨p, 0, none⟩), .pointer (some ⟨p', 0, none⟩)] → val = .bool (sameFB W H R U V S xs ys)) ∧ (args = #[.pointer (some ⟨p, 4, none⟩), .pointer (some ⟨p', 4, none⟩)] → val = .bool (sameFB W' H' R' U' V' S' xs' ys')) ∧ (∀ x y : Nat, args = #[.float .f32 x, .float .f32 y] → val = .bool (sameB x y))) ⟨fun _ _ h k => h.trans k, fun _ _ _ _ _ h _ => h⟩ (by kernel_rfl) (by kernel_rfl) ((Ext.refl w).drew) ?_
    (with_reducible refine grow_q (by kernel_rfl) ?_); apply Exists.intro; refine ⟨fun u hu _ => ?_, ?_⟩; focus (go_simp; rfl)
    (with_reducible refine grow_q (by kernel_rfl) ?_); apply Exists.intro; refine ⟨fun u hu _ => ?_, ?_⟩; focus (go_simp; rfl)
    (with_reducible refine grow_q (by kernel_rfl) ?_); apply Exists.intro; refine ⟨fun u hu _ => ?_, ?_⟩; focus (go_simp; rfl)
    (with_reducible refine grow_q (by kernel_rfl) ?_); apply Exists.intro; refine ⟨fun u hu _ => ?_, ?_⟩; focus (go_simp; rfl)
    (with_reducible refine grow_q (by kernel_rfl) ?_); apply Exists.intro; refine ⟨fun u hu _ => ?_, ?_⟩; focus (go_simp; rfl)
    (with_reducible refine grow_q (by kernel_rfl) ?_); apply Exists.intro; refine ⟨fun u hu _ => ?_, ?_⟩; focus (go_simp; rfl)
    with_reducible refine grow_c1 144 (by kernel_rfl) ?_
    refine ⟨#[.pointer (some ⟨p, 0, none⟩), .pointer (some ⟨p', 0, none⟩)], fun u => ?_, .bool true, fun u hu _ => (l02SameO_any p p' 0 W H U V R S a b n c m d xs ys hx hy hn hm wx wy u (FP0.out.ext hu) (FQ0.out.ext hu) (HA.out.ext hu) (HB.out.ext hu)).mono (fun e w' h => ⟨by rw [Q0.out] at h; exact h.1, h.2⟩), fun V u h => by rw [h.1 rfl, Q0.out], fun u => ⟨fun _ => by rw [Q0.out], fun h => absurd h (by simp), fun x y h => absurd h (by simp)⟩, ?_⟩
    · go_simp
    (with_reducible refine grow_q (by kernel_rfl) ?_); apply Exists.intro; refine ⟨fun u hu _ => ?_, ?_⟩; focus (go_simp; rfl)
    (with_reducible refine grow_q (by kernel_rfl) ?_); apply Exists.intro; refine ⟨fun u hu _ => ?_, ?_⟩; focus (go_simp; rfl)
    (with_reducible refine grow_q (by kernel_rfl) ?_); apply Exists.intro; refine ⟨fun u hu _ => ?_, ?_⟩; focus (go_simp; rfl)
    (with_reducible refine grow_q (by kernel_rfl) ?_); apply Exists.intro; refine ⟨fun u hu _ => ?_, ?_⟩; focus (go_simp; rfl)
    (with_reducible refine grow_q (by kernel_rfl) ?_); apply Exists.intro; refine ⟨fun u hu _ => ?_, ?_⟩; focus (go_simp; rfl)
    (with_reducible refine grow_q (by kernel_rfl) ?_); apply Exists.intro; refine ⟨fun u hu _ => ?_, ?_⟩; focus (go_simp; rfl)
    (with_reducible refine grow_q (by kernel_rfl) ?_); apply Exists.intro; refine ⟨fun u hu _ => ?_, ?_⟩; focus (go_simp; rfl)
    with_reducible refine grow_c1 144 (by kernel_rfl) ?_
    refine ⟨#[.pointer (some ⟨p, 4, none⟩), .pointer (some ⟨p', 4, none⟩)], fun u => ?_, .bool true, fun u hu _ => (l02SameO_any p p' 4 W' H' U' V' R' S' a' b' n' c' m' d' xs' ys' hx' hy' hn' hm' wx' wy' u (FP1.out.ext hu) (FQ1.out.ext hu) (HA'.out.ext hu) (HB'.out.ext hu)).mono (fun e w' h => ⟨by rw [Q1.out] at h; exact h.1, h.2⟩), fun V u h => by rw [h.2.1 rfl, Q1.out], fun u => ⟨fun h => absurd h (by simp), fun _ => by rw [Q1.out], fun x y h => absurd h (by simp)⟩, ?_⟩
    · go_simp
    (with_reducible refine grow_q (by kernel_rfl) ?_); apply Exists.intro; refine ⟨fun u hu _ => ?_, ?_⟩; focus (go_simp; rfl)
    (with_reducible refine grow_q (by kernel_rfl) ?_); apply Exists.intro; refine ⟨fun u hu _ => ?_, ?_⟩; focus (go_simp; rfl)
    (with_reducible refine grow_q (by kernel_rfl) ?_); apply Exists.intro; refine ⟨fun u hu _ => ?_, ?_⟩; focus (go_simp; rfl)
    (with_reducible refine grow_q (by kernel_rfl) ?_); apply Exists.intro; refine ⟨fun u hu _ => ?_, ?_⟩; focus (go_simp; rfl)
    (with_reducible refine grow_q (by kernel_rfl) ?_); apply Exists.intro; refine ⟨fun u hu _ => ?_, ?_⟩; focus (go_simp; rfl)
    (with_reducible refine grow_q (by kernel_rfl) ?_); apply Exists.intro; refine ⟨fun u hu _ => ?_, ?_⟩; focus (have cc := (Ext.cell hu C8.out); go_simp; rfl)
    (with_reducible refine grow_q (by kernel_rfl) ?_); apply Exists.intro; refine ⟨fun u hu _ => ?_, ?_⟩; focus (go_simp; rfl)
    (with_reducible refine grow_q (by kernel_rfl) ?_); apply Exists.intro; refine ⟨fun u hu _ => ?_, ?_⟩; focus (go_simp; rfl)
    (with_reducible refine grow_q (by kernel_rfl) ?_); apply Exists.intro; refine ⟨fun u hu _ => ?_, ?_⟩; focus (go_simp; rfl)
    (with_reducible refine grow_q (by kernel_rfl) ?_); apply Exists.intro; refine ⟨fun u hu _ => ?_, ?_⟩; focus (have cc := (Ext.cell hu D8.out); go_simp; rfl)
    with_reducible refine grow_c1 145 (by kernel_rfl) ?_
    refine ⟨#[.float .f32 f1, .float .f32 e1], fun u => ?_, .bool false, fun u hu _ => (l01Same_any f1 e1 l1 g1 u).mono (fun e w' h => ⟨by rw [Q2.out] at h; exact h.1, by rw [← h.2]; exact Ext.refl _⟩), fun V u h => by rw [h.2.2 _ _ rfl, Q2.out], fun u => ⟨fun h => absurd h (by simp), fun h => absurd h (by simp), fun x y h => by simp at h; obtain ⟨rfl, rfl⟩ := h; rw [Q2.out]⟩, ?_⟩
    · go_simp
    (with_reducible refine grow_q (by kernel_rfl) ?_); apply Exists.intro; refine ⟨fun u hu _ => ?_, ?_⟩; focus (go_simp; rfl)
    (with_reducible refine grow_q (by kernel_rfl) ?_); apply Exists.intro; refine ⟨fun u hu _ => ?_, ?_⟩; focus (go_simp; rfl)
    iterate 9 (with_reducible refine grow_skip (by kernel_rfl) ?_)
    (with_reducible refine grow_q (by kernel_rfl) ?_); apply Exists.intro; refine ⟨fun u hu _ => ?_, ?_⟩; focus (go_simp; rfl)
    (with_reducible refine grow_q (by kernel_rfl) ?_); apply Exists.intro; refine ⟨fun u hu _ => ?_, ?_⟩; focus (go_simp; rfl)
    iterate 9 (with_reducible refine grow_skip (by kernel_rfl) ?_)
    (with_reducible refine grow_q (by kernel_rfl) ?_); apply Exists.intro; refine ⟨fun u hu _ => ?_, ?_⟩; focus (go_simp; rfl)
    (with_reducible refine grow_q (by kernel_rfl) ?_); apply Exists.intro; refine ⟨fun u hu _ => ?_, ?_⟩; focus (go_simp; rfl)
    iterate 9 (with_reducible refine grow_skip (by kernel_rfl) ?_)
    (with_reducible refine grow_q (by kernel_rfl) ?_); apply Exists.intro; refine ⟨fun u hu _ => ?_, ?_⟩; focus (go_simp; rfl)
    (with_reducible refine grow_q (by kernel_rfl) ?_); apply Exists.intro; refine ⟨fun u hu _ => ?_, ?_⟩; focus (go_simp; rfl)
    iterate 9 (with_reducible refine grow_skip (by kernel_rfl) ?_)
    (with_reducible refine grow_q (by kernel_rfl) ?_); apply Exists.intro; refine ⟨fun u hu _ => ?_, ?_⟩; focus (go_simp; rfl)
    (with_reducible refine grow_q (by kernel_rfl) ?_); apply Exists.intro; refine ⟨fun u hu _ => ?_, ?_⟩; focus (go_simp; rfl)
    iterate 9 (with_reducible refine grow_skip (by kernel_rfl) ?_)
    (with_reducible refine grow_q (by kernel_rfl) ?_); apply Exists.intro; refine ⟨fun u hu _ => ?_, ?_⟩; focus (go_simp; rfl)
    (with_reducible refine grow_q (by kernel_rfl) ?_); apply Exists.intro; refine ⟨fun u hu _ => ?_, ?_⟩; focus (go_simp; rfl)
    refine grow_nil (fun w4 hw4 _ => ?_)
    have HX := Lib.hid hw4
    clear hw4
    go_simp
    go_wp2
    go_ret
    exact ⟨by rw [HM.out]; rfl, HX.out⟩
  | true =>
  have Q2 := Lib.hid q2
  clear q2
  cases q3 : sameB f2 e2 with
  | false =>
    have Q3 := Lib.hid q3
    have HM : Hid (sameM W H R a n c W' H' R' a' n' c' f1 f2 f3 f4 f5 k U V S b m d U' V' S' b' m' d' e1 e2 e3 e4 e5 j xs xs' ys ys' = false) := by show _ = _; rw [HM0.out]; simp [fiveB, q3]
    clear q3
    go_enter Try.func100, Try.ntmps100
    go_wp2_with fail
    simp only [List.append_eq, List.cons_append, List.nil_append]
    refine region_grow (C := Ext w) (K := fun _ args val _ => (args = #[.pointer (some ⟨p, 0, none⟩), .pointer (some ⟨p', 0, none⟩)] → val = .bool (sameFB W H R U V S xs ys)) ∧ (args = #[.pointer (some ⟨p, 4, none⟩), .pointer (some ⟨p', 4, none⟩)] → val = .bool (sameFB W' H' R' U' V' S' xs' ys')) ∧ (∀ x y : Nat, args = #[.float .f32 x, .float .f32 y] → val = .bool (sameB x y))) ⟨fun _ _ h k => h.trans k, fun _ _ _ _ _ h _ => h⟩ (by kernel_rfl) (by kernel_rfl) ((Ext.refl w).drew) ?_
    (with_reducible refine grow_q (by kernel_rfl) ?_); apply Exists.intro; refine ⟨fun u hu _ => ?_, ?_⟩; focus (go_simp; rfl)
    (with_reducible refine grow_q (by kernel_rfl) ?_); apply Exists.intro; refine ⟨fun u hu _ => ?_, ?_⟩; focus (go_simp; rfl)
    (with_reducible refine grow_q (by kernel_rfl) ?_); apply Exists.intro; refine ⟨fun u hu _ => ?_, ?_⟩; focus (go_simp; rfl)
    (with_reducible refine grow_q (by kernel_rfl) ?_); apply Exists.intro; refine ⟨fun u hu _ => ?_, ?_⟩; focus (go_simp; rfl)
    (with_reducible refine grow_q (by kernel_rfl) ?_); apply Exists.intro; refine ⟨fun u hu _ => ?_, ?_⟩; focus (go_simp; rfl)
    (with_reducible refine grow_q (by kernel_rfl) ?_); apply Exists.intro; refine ⟨fun u hu _ => ?_, ?_⟩; focus (go_simp; rfl)
    with_reducible refine grow_c1 144 (by kernel_rfl) ?_
    refine ⟨#[.pointer (some ⟨p, 0, none⟩), .pointer (some ⟨p', 0, none⟩)], fun u => ?_, .bool true, fun u hu _ => (l02SameO_any p p' 0 W H U V R S a b n c m d xs ys hx hy hn hm wx wy u (FP0.out.ext hu) (FQ0.out.ext hu) (HA.out.ext hu) (HB.out.ext hu)).mono (fun e w' h => ⟨by rw [Q0.out] at h; exact h.1, h.2⟩), fun V u h => by rw [h.1 rfl, Q0.out], fun u => ⟨fun _ => by rw [Q0.out], fun h => absurd h (by simp), fun x y h => absurd h (by simp)⟩, ?_⟩
    · go_simp
    (with_reducible refine grow_q (by kernel_rfl) ?_); apply Exists.intro; refine ⟨fun u hu _ => ?_, ?_⟩; focus (go_simp; rfl)
    (with_reducible refine grow_q (by kernel_rfl) ?_); apply Exists.intro; refine ⟨fun u hu _ => ?_, ?_⟩; focus (go_simp; rfl)
    (with_reducible refine grow_q (by kernel_rfl) ?_); apply Exists.intro; refine ⟨fun u hu _ => ?_, ?_⟩; focus (go_simp; rfl)
    (with_reducible refine grow_q (by kernel_rfl) ?_); apply Exists.intro; refine ⟨fun u hu _ => ?_, ?_⟩; focus (go_simp; rfl)
    (with_reducible refine grow_q (by kernel_rfl) ?_); apply Exists.intro; refine ⟨fun u hu _ => ?_, ?_⟩; focus (go_simp; rfl)
    (with_reducible refine grow_q (by kernel_rfl) ?_); apply Exists.intro; refine ⟨fun u hu _ => ?_, ?_⟩; focus (go_simp; rfl)
    (with_reducible refine grow_q (by kernel_rfl) ?_); apply Exists.intro; refine ⟨fun u hu _ => ?_, ?_⟩; focus (go_simp; rfl)
    with_reducible refine grow_c1 144 (by kernel_rfl) ?_
    refine ⟨#[.pointer (some ⟨p, 4, none⟩), .pointer (some ⟨p', 4, none⟩)], fun u => ?_, .bool true, fun u hu _ => (l02SameO_any p p' 4 W' H' U' V' R' S' a' b' n' c' m' d' xs' ys' hx' hy' hn' hm' wx' wy' u (FP1.out.ext hu) (FQ1.out.ext hu) (HA'.out.ext hu) (HB'.out.ext hu)).mono (fun e w' h => ⟨by rw [Q1.out] at h; exact h.1, h.2⟩), fun V u h => by rw [h.2.1 rfl, Q1.out], fun u => ⟨fun h => absurd h (by simp), fun _ => by rw [Q1.out], fun x y h => absurd h (by simp)⟩, ?_⟩
    · go_simp
    (with_reducible refine grow_q (by kernel_rfl) ?_); apply Exists.intro; refine ⟨fun u hu _ => ?_, ?_⟩; focus (go_simp; rfl)
    (with_reducible refine grow_q (by kernel_rfl) ?_); apply Exists.intro; refine ⟨fun u hu _ => ?_, ?_⟩; focus (go_simp; rfl)
    (with_reducible refine grow_q (by kernel_rfl) ?_); apply Exists.intro; refine ⟨fun u hu _ => ?_, ?_⟩; focus (go_simp; rfl)
    (with_reducible refine grow_q (by kernel_rfl) ?_); apply Exists.intro; refine ⟨fun u hu _ => ?_, ?_⟩; focus (go_simp; rfl)
    (with_reducible refine grow_q (by kernel_rfl) ?_); apply Exists.intro; refine ⟨fun u hu _ => ?_, ?_⟩; focus (go_simp; rfl)
    (with_reducible refine grow_q (by kernel_rfl) ?_); apply Exists.intro; refine ⟨fun u hu _ => ?_, ?_⟩; focus (have cc := (Ext.cell hu C8.out); go_simp; rfl)
    (with_reducible refine grow_q (by kernel_rfl) ?_); apply Exists.intro; refine ⟨fun u hu _ => ?_, ?_⟩; focus (go_simp; rfl)
    (with_reducible refine grow_q (by kernel_rfl) ?_); apply Exists.intro; refine ⟨fun u hu _ => ?_, ?_⟩; focus (go_simp; rfl)
    (with_reducible refine grow_q (by kernel_rfl) ?_); apply Exists.intro; refine ⟨fun u hu _ => ?_, ?_⟩; focus (go_simp; rfl)
    (with_reducible refine grow_q (by kernel_rfl) ?_); apply Exists.intro; refine ⟨fun u hu _ => ?_, ?_⟩; focus (have cc := (Ext.cell hu D8.out); go_simp; rfl)
    with_reducible refine grow_c1 145 (by kernel_rfl) ?_
    refine ⟨#[.float .f32 f1, .float .f32 e1], fun u => ?_, .bool true, fun u hu _ => (l01Same_any f1 e1 l1 g1 u).mono (fun e w' h => ⟨by rw [Q2.out] at h; exact h.1, by rw [← h.2]; exact Ext.refl _⟩), fun V u h => by rw [h.2.2 _ _ rfl, Q2.out], fun u => ⟨fun h => absurd h (by simp), fun h => absurd h (by simp), fun x y h => by simp at h; obtain ⟨rfl, rfl⟩ := h; rw [Q2.out]⟩, ?_⟩
    · go_simp
    (with_reducible refine grow_q (by kernel_rfl) ?_); apply Exists.intro; refine ⟨fun u hu _ => ?_, ?_⟩; focus (go_simp; rfl)
    (with_reducible refine grow_q (by kernel_rfl) ?_); apply Exists.intro; refine ⟨fun u hu _ => ?_, ?_⟩; focus (go_simp; rfl)
    (with_reducible refine grow_q (by kernel_rfl) ?_); apply Exists.intro; refine ⟨fun u hu _ => ?_, ?_⟩; focus (go_simp; rfl)
    (with_reducible refine grow_q (by kernel_rfl) ?_); apply Exists.intro; refine ⟨fun u hu _ => ?_, ?_⟩; focus (go_simp; rfl)
    (with_reducible refine grow_q (by kernel_rfl) ?_); apply Exists.intro; refine ⟨fun u hu _ => ?_, ?_⟩; focus (go_simp; rfl)
    (with_reducible refine grow_q (by kernel_rfl) ?_); apply Exists.intro; refine ⟨fun u hu _ => ?_, ?_⟩; focus (have cc := (Ext.cell hu C9.out); go_simp; rfl)
    (with_reducible refine grow_q (by kernel_rfl) ?_); apply Exists.intro; refine ⟨fun u hu _ => ?_, ?_⟩; focus (go_simp; rfl)
    (with_reducible refine grow_q (by kernel_rfl) ?_); apply Exists.intro; refine ⟨fun u hu _ => ?_, ?_⟩; focus (go_simp; rfl)
    (with_reducible refine grow_q (by kernel_rfl) ?_); apply Exists.intro; refine ⟨fun u hu _ => ?_, ?_⟩; focus (go_simp; rfl)
    (with_reducible refine grow_q (by kernel_rfl) ?_); apply Exists.intro; refine ⟨fun u hu _ => ?_, ?_⟩; focus (have cc := (Ext.cell hu D9.out); go_simp; rfl)
    with_reducible refine grow_c1 145 (by kernel_rfl) ?_
    refine ⟨#[.float .f32 f2, .float .f32 e2], fun u => ?_, .bool false, fun u hu _ => (l01Same_any f2 e2 l2 g2 u).mono (fun e w' h => ⟨by rw [Q3.out] at h; exact h.1, by rw [← h.2]; exact Ext.refl _⟩), fun V u h => by rw [h.2.2 _ _ rfl, Q3.out], fun u => ⟨fun h => absurd h (by simp), fun h => absurd h (by simp), fun x y h => by simp at h; obtain ⟨rfl, rfl⟩ := h; rw [Q3.out]⟩, ?_⟩
    · go_simp
    (with_reducible refine grow_q (by kernel_rfl) ?_); apply Exists.intro; refine ⟨fun u hu _ => ?_, ?_⟩; focus (go_simp; rfl)
    (with_reducible refine grow_q (by kernel_rfl) ?_); apply Exists.intro; refine ⟨fun u hu _ => ?_, ?_⟩; focus (go_simp; rfl)
    iterate 9 (with_reducible refine grow_skip (by kernel_rfl) ?_)
    (with_reducible refine grow_q (by kernel_rfl) ?_); apply Exists.intro; refine ⟨fun u hu _ => ?_, ?_⟩; focus (go_simp; rfl)
    (with_reducible refine grow_q (by kernel_rfl) ?_); apply Exists.intro; refine ⟨fun u hu _ => ?_, ?_⟩; focus (go_simp; rfl)
    iterate 9 (with_reducible refine grow_skip (by kernel_rfl) ?_)
    (with_reducible refine grow_q (by kernel_rfl) ?_); apply Exists.intro; refine ⟨fun u hu _ => ?_, ?_⟩; focus (go_simp; rfl)
    (with_reducible refine grow_q (by kernel_rfl) ?_); apply Exists.intro; refine ⟨fun u hu _ => ?_, ?_⟩; focus (go_simp; rfl)
    iterate 9 (with_reducible refine grow_skip (by kernel_rfl) ?_)
    (with_reducible refine grow_q (by kernel_rfl) ?_); apply Exists.intro; refine ⟨fun u hu _ => ?_, ?_⟩; focus (go_simp; rfl)
    (with_reducible refine grow_q (by kernel_rfl) ?_); apply Exists.intro; refine ⟨fun u hu _ => ?_, ?_⟩; focus (go_simp; rfl)
    iterate 9 (with_reducible refine grow_skip (by kernel_rfl) ?_)
    (with_reducible refine grow_q (by kernel_rfl) ?_); apply Exists.intro; refine ⟨fun u hu _ => ?_, ?_⟩; focus (go_simp; rfl)
    (with_reducible refine grow_q (by kernel_rfl) ?_); apply Exists.intro; refine ⟨fun u hu _ => ?_, ?_⟩; focus (go_simp; rfl)
    refine grow_nil (fun w4 hw4 _ => ?_)
    have HX := Lib.hid hw4
    clear hw4
    go_simp
    go_wp2
    go_ret
    exact ⟨by rw [HM.out]; rfl, HX.out⟩
  | true =>
  have Q3 := Lib.hid q3
  clear q3
  cases q4 : sameB f3 e3 with
  | false =>
    have Q4 := Lib.hid q4
    have HM : Hid (sameM W H R a n c W' H' R' a' n' c' f1 f2 f3 f4 f5 k U V S b m d U' V' S' b' m' d' e1 e2 e3 e4 e5 j xs xs' ys ys' = false) := by show _ = _; rw [HM0.out]; simp [fiveB, q4]
    clear q4
    go_enter Try.func100, Try.ntmps100
    go_wp2_with fail
    simp only [List.append_eq, List.cons_append, List.nil_append]
    refine region_grow (C := Ext w) (K := fun _ args val _ => (args = #[.pointer (some ⟨p, 0, none⟩), .pointer (some ⟨p', 0, none⟩)] → val = .bool (sameFB W H R U V S xs ys)) ∧ (args = #[.pointer (some ⟨p, 4, none⟩), .pointer (some ⟨p', 4, none⟩)] → val = .bool (sameFB W' H' R' U' V' S' xs' ys')) ∧ (∀ x y : Nat, args = #[.float .f32 x, .float .f32 y] → val = .bool (sameB x y))) ⟨fun _ _ h k => h.trans k, fun _ _ _ _ _ h _ => h⟩ (by kernel_rfl) (by kernel_rfl) ((Ext.refl w).drew) ?_
    (with_reducible refine grow_q (by kernel_rfl) ?_); apply Exists.intro; refine ⟨fun u hu _ => ?_, ?_⟩; focus (go_simp; rfl)
    (with_reducible refine grow_q (by kernel_rfl) ?_); apply Exists.intro; refine ⟨fun u hu _ => ?_, ?_⟩; focus (go_simp; rfl)
    (with_reducible refine grow_q (by kernel_rfl) ?_); apply Exists.intro; refine ⟨fun u hu _ => ?_, ?_⟩; focus (go_simp; rfl)
    (with_reducible refine grow_q (by kernel_rfl) ?_); apply Exists.intro; refine ⟨fun u hu _ => ?_, ?_⟩; focus (go_simp; rfl)
    (with_reducible refine grow_q (by kernel_rfl) ?_); apply Exists.intro; refine ⟨fun u hu _ => ?_, ?_⟩; focus (go_simp; rfl)
    (with_reducible refine grow_q (by kernel_rfl) ?_); apply Exists.intro; refine ⟨fun u hu _ => ?_, ?_⟩; focus (go_simp; rfl)
    with_reducible refine grow_c1 144 (by kernel_rfl) ?_
    refine ⟨#[.pointer (some ⟨p, 0, none⟩), .pointer (some ⟨p', 0, none⟩)], fun u => ?_, .bool true, fun u hu _ => (l02SameO_any p p' 0 W H U V R S a b n c m d xs ys hx hy hn hm wx wy u (FP0.out.ext hu) (FQ0.out.ext hu) (HA.out.ext hu) (HB.out.ext hu)).mono (fun e w' h => ⟨by rw [Q0.out] at h; exact h.1, h.2⟩), fun V u h => by rw [h.1 rfl, Q0.out], fun u => ⟨fun _ => by rw [Q0.out], fun h => absurd h (by simp), fun x y h => absurd h (by simp)⟩, ?_⟩
    · go_simp
    (with_reducible refine grow_q (by kernel_rfl) ?_); apply Exists.intro; refine ⟨fun u hu _ => ?_, ?_⟩; focus (go_simp; rfl)
    (with_reducible refine grow_q (by kernel_rfl) ?_); apply Exists.intro; refine ⟨fun u hu _ => ?_, ?_⟩; focus (go_simp; rfl)
    (with_reducible refine grow_q (by kernel_rfl) ?_); apply Exists.intro; refine ⟨fun u hu _ => ?_, ?_⟩; focus (go_simp; rfl)
    (with_reducible refine grow_q (by kernel_rfl) ?_); apply Exists.intro; refine ⟨fun u hu _ => ?_, ?_⟩; focus (go_simp; rfl)
    (with_reducible refine grow_q (by kernel_rfl) ?_); apply Exists.intro; refine ⟨fun u hu _ => ?_, ?_⟩; focus (go_simp; rfl)
    (with_reducible refine grow_q (by kernel_rfl) ?_); apply Exists.intro; refine ⟨fun u hu _ => ?_, ?_⟩; focus (go_simp; rfl)
    (with_reducible refine grow_q (by kernel_rfl) ?_); apply Exists.intro; refine ⟨fun u hu _ => ?_, ?_⟩; focus (go_simp; rfl)
    with_reducible refine grow_c1 144 (by kernel_rfl) ?_
    refine ⟨#[.pointer (some ⟨p, 4, none⟩), .pointer (some ⟨p', 4, none⟩)], fun u => ?_, .bool true, fun u hu _ => (l02SameO_any p p' 4 W' H' U' V' R' S' a' b' n' c' m' d' xs' ys' hx' hy' hn' hm' wx' wy' u (FP1.out.ext hu) (FQ1.out.ext hu) (HA'.out.ext hu) (HB'.out.ext hu)).mono (fun e w' h => ⟨by rw [Q1.out] at h; exact h.1, h.2⟩), fun V u h => by rw [h.2.1 rfl, Q1.out], fun u => ⟨fun h => absurd h (by simp), fun _ => by rw [Q1.out], fun x y h => absurd h (by simp)⟩, ?_⟩
    · go_simp
    (with_reducible refine grow_q (by kernel_rfl) ?_); apply Exists.intro; refine ⟨fun u hu _ => ?_, ?_⟩; focus (go_simp; rfl)
    (with_reducible refine grow_q (by kernel_rfl) ?_); apply Exists.intro; refine ⟨fun u hu _ => ?_, ?_⟩; focus (go_simp; rfl)
    (with_reducible refine grow_q (by kernel_rfl) ?_); apply Exists.intro; refine ⟨fun u hu _ => ?_, ?_⟩; focus (go_simp; rfl)
    (with_reducible refine grow_q (by kernel_rfl) ?_); apply Exists.intro; refine ⟨fun u hu _ => ?_, ?_⟩; focus (go_simp; rfl)
    (with_reducible refine grow_q (by kernel_rfl) ?_); apply Exists.intro; refine ⟨fun u hu _ => ?_, ?_⟩; focus (go_simp; rfl)
    (with_reducible refine grow_q (by kernel_rfl) ?_); apply Exists.intro; refine ⟨fun u hu _ => ?_, ?_⟩; focus (have cc := (Ext.cell hu C8.out); go_simp; rfl)
    (with_reducible refine grow_q (by kernel_rfl) ?_); apply Exists.intro; refine ⟨fun u hu _ => ?_, ?_⟩; focus (go_simp; rfl)
    (with_reducible refine grow_q (by kernel_rfl) ?_); apply Exists.intro; refine ⟨fun u hu _ => ?_, ?_⟩; focus (go_simp; rfl)
    (with_reducible refine grow_q (by kernel_rfl) ?_); apply Exists.intro; refine ⟨fun u hu _ => ?_, ?_⟩; focus (go_simp; rfl)
    (with_reducible refine grow_q (by kernel_rfl) ?_); apply Exists.intro; refine ⟨fun u hu _ => ?_, ?_⟩; focus (have cc := (Ext.cell hu D8.out); go_simp; rfl)
    with_reducible refine grow_c1 145 (by kernel_rfl) ?_
    refine ⟨#[.float .f32 f1, .float .f32 e1], fun u => ?_, .bool true, fun u hu _ => (l01Same_any f1 e1 l1 g1 u).mono (fun e w' h => ⟨by rw [Q2.out] at h; exact h.1, by rw [← h.2]; exact Ext.refl _⟩), fun V u h => by rw [h.2.2 _ _ rfl, Q2.out], fun u => ⟨fun h => absurd h (by simp), fun h => absurd h (by simp), fun x y h => by simp at h; obtain ⟨rfl, rfl⟩ := h; rw [Q2.out]⟩, ?_⟩
    · go_simp
    (with_reducible refine grow_q (by kernel_rfl) ?_); apply Exists.intro; refine ⟨fun u hu _ => ?_, ?_⟩; focus (go_simp; rfl)
    (with_reducible refine grow_q (by kernel_rfl) ?_); apply Exists.intro; refine ⟨fun u hu _ => ?_, ?_⟩; focus (go_simp; rfl)
    (with_reducible refine grow_q (by kernel_rfl) ?_); apply Exists.intro; refine ⟨fun u hu _ => ?_, ?_⟩; focus (go_simp; rfl)
    (with_reducible refine grow_q (by kernel_rfl) ?_); apply Exists.intro; refine ⟨fun u hu _ => ?_, ?_⟩; focus (go_simp; rfl)
    (with_reducible refine grow_q (by kernel_rfl) ?_); apply Exists.intro; refine ⟨fun u hu _ => ?_, ?_⟩; focus (go_simp; rfl)
    (with_reducible refine grow_q (by kernel_rfl) ?_); apply Exists.intro; refine ⟨fun u hu _ => ?_, ?_⟩; focus (have cc := (Ext.cell hu C9.out); go_simp; rfl)
    (with_reducible refine grow_q (by kernel_rfl) ?_); apply Exists.intro; refine ⟨fun u hu _ => ?_, ?_⟩; focus (go_simp; rfl)
    (with_reducible refine grow_q (by kernel_rfl) ?_); apply Exists.intro; refine ⟨fun u hu _ => ?_, ?_⟩; focus (go_simp; rfl)
    (with_reducible refine grow_q (by kernel_rfl) ?_); apply Exists.intro; refine ⟨fun u hu _ => ?_, ?_⟩; focus (go_simp; rfl)
    (with_reducible refine grow_q (by kernel_rfl) ?_); apply Exists.intro; refine ⟨fun u hu _ => ?_, ?_⟩; focus (have cc := (Ext.cell hu D9.out); go_simp; rfl)
    with_reducible refine grow_c1 145 (by kernel_rfl) ?_
    refine ⟨#[.float .f32 f2, .float .f32 e2], fun u => ?_, .bool true, fun u hu _ => (l01Same_any f2 e2 l2 g2 u).mono (fun e w' h => ⟨by rw [Q3.out] at h; exact h.1, by rw [← h.2]; exact Ext.refl _⟩), fun V u h => by rw [h.2.2 _ _ rfl, Q3.out], fun u => ⟨fun h => absurd h (by simp), fun h => absurd h (by simp), fun x y h => by simp at h; obtain ⟨rfl, rfl⟩ := h; rw [Q3.out]⟩, ?_⟩
    · go_simp
    (with_reducible refine grow_q (by kernel_rfl) ?_); apply Exists.intro; refine ⟨fun u hu _ => ?_, ?_⟩; focus (go_simp; rfl)
    (with_reducible refine grow_q (by kernel_rfl) ?_); apply Exists.intro; refine ⟨fun u hu _ => ?_, ?_⟩; focus (go_simp; rfl)
    (with_reducible refine grow_q (by kernel_rfl) ?_); apply Exists.intro; refine ⟨fun u hu _ => ?_, ?_⟩; focus (go_simp; rfl)
    (with_reducible refine grow_q (by kernel_rfl) ?_); apply Exists.intro; refine ⟨fun u hu _ => ?_, ?_⟩; focus (go_simp; rfl)
    (with_reducible refine grow_q (by kernel_rfl) ?_); apply Exists.intro; refine ⟨fun u hu _ => ?_, ?_⟩; focus (go_simp; rfl)
    (with_reducible refine grow_q (by kernel_rfl) ?_); apply Exists.intro; refine ⟨fun u hu _ => ?_, ?_⟩; focus (have cc := (Ext.cell hu C10.out); go_simp; rfl)
    (with_reducible refine grow_q (by kernel_rfl) ?_); apply Exists.intro; refine ⟨fun u hu _ => ?_, ?_⟩; focus (go_simp; rfl)
    (with_reducible refine grow_q (by kernel_rfl) ?_); apply Exists.intro; refine ⟨fun u hu _ => ?_, ?_⟩; focus (go_simp; rfl)
    (with_reducible refine grow_q (by kernel_rfl) ?_); apply Exists.intro; refine ⟨fun u hu _ => ?_, ?_⟩; focus (go_simp; rfl)
    (with_reducible refine grow_q (by kernel_rfl) ?_); apply Exists.intro; refine ⟨fun u hu _ => ?_, ?_⟩; focus (have cc := (Ext.cell hu D10.out); go_simp; rfl)
    with_reducible refine grow_c1 145 (by kernel_rfl) ?_
    refine ⟨#[.float .f32 f3, .float .f32 e3], fun u => ?_, .bool false, fun u hu _ => (l01Same_any f3 e3 l3 g3 u).mono (fun e w' h => ⟨by rw [Q4.out] at h; exact h.1, by rw [← h.2]; exact Ext.refl _⟩), fun V u h => by rw [h.2.2 _ _ rfl, Q4.out], fun u => ⟨fun h => absurd h (by simp), fun h => absurd h (by simp), fun x y h => by simp at h; obtain ⟨rfl, rfl⟩ := h; rw [Q4.out]⟩, ?_⟩
    · go_simp
    (with_reducible refine grow_q (by kernel_rfl) ?_); apply Exists.intro; refine ⟨fun u hu _ => ?_, ?_⟩; focus (go_simp; rfl)
    (with_reducible refine grow_q (by kernel_rfl) ?_); apply Exists.intro; refine ⟨fun u hu _ => ?_, ?_⟩; focus (go_simp; rfl)
    iterate 9 (with_reducible refine grow_skip (by kernel_rfl) ?_)
    (with_reducible refine grow_q (by kernel_rfl) ?_); apply Exists.intro; refine ⟨fun u hu _ => ?_, ?_⟩; focus (go_simp; rfl)
    (with_reducible refine grow_q (by kernel_rfl) ?_); apply Exists.intro; refine ⟨fun u hu _ => ?_, ?_⟩; focus (go_simp; rfl)
    iterate 9 (with_reducible refine grow_skip (by kernel_rfl) ?_)
    (with_reducible refine grow_q (by kernel_rfl) ?_); apply Exists.intro; refine ⟨fun u hu _ => ?_, ?_⟩; focus (go_simp; rfl)
    (with_reducible refine grow_q (by kernel_rfl) ?_); apply Exists.intro; refine ⟨fun u hu _ => ?_, ?_⟩; focus (go_simp; rfl)
    iterate 9 (with_reducible refine grow_skip (by kernel_rfl) ?_)
    (with_reducible refine grow_q (by kernel_rfl) ?_); apply Exists.intro; refine ⟨fun u hu _ => ?_, ?_⟩; focus (go_simp; rfl)
    (with_reducible refine grow_q (by kernel_rfl) ?_); apply Exists.intro; refine ⟨fun u hu _ => ?_, ?_⟩; focus (go_simp; rfl)
    refine grow_nil (fun w4 hw4 _ => ?_)
    have HX := Lib.hid hw4
    clear hw4
    go_simp
    go_wp2
    go_ret
    exact ⟨by rw [HM.out]; rfl, HX.out⟩
  | true =>
  have Q4 := Lib.hid q4
  clear q4
  cases q5 : sameB f4 e4 with
  | false =>
    have Q5 := Lib.hid q5
    have HM : Hid (sameM W H R a n c W' H' R' a' n' c' f1 f2 f3 f4 f5 k U V S b m d U' V' S' b' m' d' e1 e2 e3 e4 e5 j xs xs' ys ys' = false) := by show _ = _; rw [HM0.out]; simp [fiveB, q5]
    clear q5
    go_enter Try.func100, Try.ntmps100
    go_wp2_with fail
    simp only [List.append_eq, List.cons_append, List.nil_append]
    refine region_grow (C := Ext w) (K := fun _ args val _ => (args = #[.pointer (some ⟨p, 0, none⟩), .pointer (some ⟨p', 0, none⟩)] → val = .bool (sameFB W H R U V S xs ys)) ∧ (args = #[.pointer (some ⟨p, 4, none⟩), .pointer (some ⟨p', 4, none⟩)] → val = .bool (sameFB W' H' R' U' V' S' xs' ys')) ∧ (∀ x y : Nat, args = #[.float .f32 x, .float .f32 y] → val = .bool (sameB x y))) ⟨fun _ _ h k => h.trans k, fun _ _ _ _ _ h _ => h⟩ (by kernel_rfl) (by kernel_rfl) ((Ext.refl w).drew) ?_
    (with_reducible refine grow_q (by kernel_rfl) ?_); apply Exists.intro; refine ⟨fun u hu _ => ?_, ?_⟩; focus (go_simp; rfl)
    (with_reducible refine grow_q (by kernel_rfl) ?_); apply Exists.intro; refine ⟨fun u hu _ => ?_, ?_⟩; focus (go_simp; rfl)
    (with_reducible refine grow_q (by kernel_rfl) ?_); apply Exists.intro; refine ⟨fun u hu _ => ?_, ?_⟩; focus (go_simp; rfl)
    (with_reducible refine grow_q (by kernel_rfl) ?_); apply Exists.intro; refine ⟨fun u hu _ => ?_, ?_⟩; focus (go_simp; rfl)
    (with_reducible refine grow_q (by kernel_rfl) ?_); apply Exists.intro; refine ⟨fun u hu _ => ?_, ?_⟩; focus (go_simp; rfl)
    (with_reducible refine grow_q (by kernel_rfl) ?_); apply Exists.intro; refine ⟨fun u hu _ => ?_, ?_⟩; focus (go_simp; rfl)
    with_reducible refine grow_c1 144 (by kernel_rfl) ?_
    refine ⟨#[.pointer (some ⟨p, 0, none⟩), .pointer (some ⟨p', 0, none⟩)], fun u => ?_, .bool true, fun u hu _ => (l02SameO_any p p' 0 W H U V R S a b n c m d xs ys hx hy hn hm wx wy u (FP0.out.ext hu) (FQ0.out.ext hu) (HA.out.ext hu) (HB.out.ext hu)).mono (fun e w' h => ⟨by rw [Q0.out] at h; exact h.1, h.2⟩), fun V u h => by rw [h.1 rfl, Q0.out], fun u => ⟨fun _ => by rw [Q0.out], fun h => absurd h (by simp), fun x y h => absurd h (by simp)⟩, ?_⟩
    · go_simp
    (with_reducible refine grow_q (by kernel_rfl) ?_); apply Exists.intro; refine ⟨fun u hu _ => ?_, ?_⟩; focus (go_simp; rfl)
    (with_reducible refine grow_q (by kernel_rfl) ?_); apply Exists.intro; refine ⟨fun u hu _ => ?_, ?_⟩; focus (go_simp; rfl)
    (with_reducible refine grow_q (by kernel_rfl) ?_); apply Exists.intro; refine ⟨fun u hu _ => ?_, ?_⟩; focus (go_simp; rfl)
    (with_reducible refine grow_q (by kernel_rfl) ?_); apply Exists.intro; refine ⟨fun u hu _ => ?_, ?_⟩; focus (go_simp; rfl)
    (with_reducible refine grow_q (by kernel_rfl) ?_); apply Exists.intro; refine ⟨fun u hu _ => ?_, ?_⟩; focus (go_simp; rfl)
    (with_reducible refine grow_q (by kernel_rfl) ?_); apply Exists.intro; refine ⟨fun u hu _ => ?_, ?_⟩; focus (go_simp; rfl)
    (with_reducible refine grow_q (by kernel_rfl) ?_); apply Exists.intro; refine ⟨fun u hu _ => ?_, ?_⟩; focus (go_simp; rfl)
    with_reducible refine grow_c1 144 (by kernel_rfl) ?_
    refine ⟨#[.pointer (some ⟨p, 4, none⟩), .pointer (some ⟨p', 4, none⟩)], fun u => ?_, .bool true, fun u hu _ => (l02SameO_any p p' 4 W' H' U' V' R' S' a' b' n' c' m' d' xs' ys' hx' hy' hn' hm' wx' wy' u (FP1.out.ext hu) (FQ1.out.ext hu) (HA'.out.ext hu) (HB'.out.ext hu)).mono (fun e w' h => ⟨by rw [Q1.out] at h; exact h.1, h.2⟩), fun V u h => by rw [h.2.1 rfl, Q1.out], fun u => ⟨fun h => absurd h (by simp), fun _ => by rw [Q1.out], fun x y h => absurd h (by simp)⟩, ?_⟩
    · go_simp
    (with_reducible refine grow_q (by kernel_rfl) ?_); apply Exists.intro; refine ⟨fun u hu _ => ?_, ?_⟩; focus (go_simp; rfl)
    (with_reducible refine grow_q (by kernel_rfl) ?_); apply Exists.intro; refine ⟨fun u hu _ => ?_, ?_⟩; focus (go_simp; rfl)
    (with_reducible refine grow_q (by kernel_rfl) ?_); apply Exists.intro; refine ⟨fun u hu _ => ?_, ?_⟩; focus (go_simp; rfl)
    (with_reducible refine grow_q (by kernel_rfl) ?_); apply Exists.intro; refine ⟨fun u hu _ => ?_, ?_⟩; focus (go_simp; rfl)
    (with_reducible refine grow_q (by kernel_rfl) ?_); apply Exists.intro; refine ⟨fun u hu _ => ?_, ?_⟩; focus (go_simp; rfl)
    (with_reducible refine grow_q (by kernel_rfl) ?_); apply Exists.intro; refine ⟨fun u hu _ => ?_, ?_⟩; focus (have cc := (Ext.cell hu C8.out); go_simp; rfl)
    (with_reducible refine grow_q (by kernel_rfl) ?_); apply Exists.intro; refine ⟨fun u hu _ => ?_, ?_⟩; focus (go_simp; rfl)
    (with_reducible refine grow_q (by kernel_rfl) ?_); apply Exists.intro; refine ⟨fun u hu _ => ?_, ?_⟩; focus (go_simp; rfl)
    (with_reducible refine grow_q (by kernel_rfl) ?_); apply Exists.intro; refine ⟨fun u hu _ => ?_, ?_⟩; focus (go_simp; rfl)
    (with_reducible refine grow_q (by kernel_rfl) ?_); apply Exists.intro; refine ⟨fun u hu _ => ?_, ?_⟩; focus (have cc := (Ext.cell hu D8.out); go_simp; rfl)
    with_reducible refine grow_c1 145 (by kernel_rfl) ?_
    refine ⟨#[.float .f32 f1, .float .f32 e1], fun u => ?_, .bool true, fun u hu _ => (l01Same_any f1 e1 l1 g1 u).mono (fun e w' h => ⟨by rw [Q2.out] at h; exact h.1, by rw [← h.2]; exact Ext.refl _⟩), fun V u h => by rw [h.2.2 _ _ rfl, Q2.out], fun u => ⟨fun h => absurd h (by simp), fun h => absurd h (by simp), fun x y h => by simp at h; obtain ⟨rfl, rfl⟩ := h; rw [Q2.out]⟩, ?_⟩
    · go_simp
    (with_reducible refine grow_q (by kernel_rfl) ?_); apply Exists.intro; refine ⟨fun u hu _ => ?_, ?_⟩; focus (go_simp; rfl)
    (with_reducible refine grow_q (by kernel_rfl) ?_); apply Exists.intro; refine ⟨fun u hu _ => ?_, ?_⟩; focus (go_simp; rfl)
    (with_reducible refine grow_q (by kernel_rfl) ?_); apply Exists.intro; refine ⟨fun u hu _ => ?_, ?_⟩; focus (go_simp; rfl)
    (with_reducible refine grow_q (by kernel_rfl) ?_); apply Exists.intro; refine ⟨fun u hu _ => ?_, ?_⟩; focus (go_simp; rfl)
    (with_reducible refine grow_q (by kernel_rfl) ?_); apply Exists.intro; refine ⟨fun u hu _ => ?_, ?_⟩; focus (go_simp; rfl)
    (with_reducible refine grow_q (by kernel_rfl) ?_); apply Exists.intro; refine ⟨fun u hu _ => ?_, ?_⟩; focus (have cc := (Ext.cell hu C9.out); go_simp; rfl)
    (with_reducible refine grow_q (by kernel_rfl) ?_); apply Exists.intro; refine ⟨fun u hu _ => ?_, ?_⟩; focus (go_simp; rfl)
    (with_reducible refine grow_q (by kernel_rfl) ?_); apply Exists.intro; refine ⟨fun u hu _ => ?_, ?_⟩; focus (go_simp; rfl)
    (with_reducible refine grow_q (by kernel_rfl) ?_); apply Exists.intro; refine ⟨fun u hu _ => ?_, ?_⟩; focus (go_simp; rfl)
    (with_reducible refine grow_q (by kernel_rfl) ?_); apply Exists.intro; refine ⟨fun u hu _ => ?_, ?_⟩; focus (have cc := (Ext.cell hu D9.out); go_simp; rfl)
    with_reducible refine grow_c1 145 (by kernel_rfl) ?_
    refine ⟨#[.float .f32 f2, .float .f32 e2], fun u => ?_, .bool true, fun u hu _ => (l01Same_any f2 e2 l2 g2 u).mono (fun e w' h => ⟨by rw [Q3.out] at h; exact h.1, by rw [← h.2]; exact Ext.refl _⟩), fun V u h => by rw [h.2.2 _ _ rfl, Q3.out], fun u => ⟨fun h => absurd h (by simp), fun h => absurd h (by simp), fun x y h => by simp at h; obtain ⟨rfl, rfl⟩ := h; rw [Q3.out]⟩, ?_⟩
    · go_simp
    (with_reducible refine grow_q (by kernel_rfl) ?_); apply Exists.intro; refine ⟨fun u hu _ => ?_, ?_⟩; focus (go_simp; rfl)
    (with_reducible refine grow_q (by kernel_rfl) ?_); apply Exists.intro; refine ⟨fun u hu _ => ?_, ?_⟩; focus (go_simp; rfl)
    (with_reducible refine grow_q (by kernel_rfl) ?_); apply Exists.intro; refine ⟨fun u hu _ => ?_, ?_⟩; focus (go_simp; rfl)
    (with_reducible refine grow_q (by kernel_rfl) ?_); apply Exists.intro; refine ⟨fun u hu _ => ?_, ?_⟩; focus (go_simp; rfl)
    (with_reducible refine grow_q (by kernel_rfl) ?_); apply Exists.intro; refine ⟨fun u hu _ => ?_, ?_⟩; focus (go_simp; rfl)
    (with_reducible refine grow_q (by kernel_rfl) ?_); apply Exists.intro; refine ⟨fun u hu _ => ?_, ?_⟩; focus (have cc := (Ext.cell hu C10.out); go_simp; rfl)
    (with_reducible refine grow_q (by kernel_rfl) ?_); apply Exists.intro; refine ⟨fun u hu _ => ?_, ?_⟩; focus (go_simp; rfl)
    (with_reducible refine grow_q (by kernel_rfl) ?_); apply Exists.intro; refine ⟨fun u hu _ => ?_, ?_⟩; focus (go_simp; rfl)
    (with_reducible refine grow_q (by kernel_rfl) ?_); apply Exists.intro; refine ⟨fun u hu _ => ?_, ?_⟩; focus (go_simp; rfl)
    (with_reducible refine grow_q (by kernel_rfl) ?_); apply Exists.intro; refine ⟨fun u hu _ => ?_, ?_⟩; focus (have cc := (Ext.cell hu D10.out); go_simp; rfl)
    with_reducible refine grow_c1 145 (by kernel_rfl) ?_
    refine ⟨#[.float .f32 f3, .float .f32 e3], fun u => ?_, .bool true, fun u hu _ => (l01Same_any f3 e3 l3 g3 u).mono (fun e w' h => ⟨by rw [Q4.out] at h; exact h.1, by rw [← h.2]; exact Ext.refl _⟩), fun V u h => by rw [h.2.2 _ _ rfl, Q4.out], fun u => ⟨fun h => absurd h (by simp), fun h => absurd h (by simp), fun x y h => by simp at h; obtain ⟨rfl, rfl⟩ := h; rw [Q4.out]⟩, ?_⟩
    · go_simp
    (with_reducible refine grow_q (by kernel_rfl) ?_); apply Exists.intro; refine ⟨fun u hu _ => ?_, ?_⟩; focus (go_simp; rfl)
    (with_reducible refine grow_q (by kernel_rfl) ?_); apply Exists.intro; refine ⟨fun u hu _ => ?_, ?_⟩; focus (go_simp; rfl)
    (with_reducible refine grow_q (by kernel_rfl) ?_); apply Exists.intro; refine ⟨fun u hu _ => ?_, ?_⟩; focus (go_simp; rfl)
    (with_reducible refine grow_q (by kernel_rfl) ?_); apply Exists.intro; refine ⟨fun u hu _ => ?_, ?_⟩; focus (go_simp; rfl)
    (with_reducible refine grow_q (by kernel_rfl) ?_); apply Exists.intro; refine ⟨fun u hu _ => ?_, ?_⟩; focus (go_simp; rfl)
    (with_reducible refine grow_q (by kernel_rfl) ?_); apply Exists.intro; refine ⟨fun u hu _ => ?_, ?_⟩; focus (have cc := (Ext.cell hu C11.out); go_simp; rfl)
    (with_reducible refine grow_q (by kernel_rfl) ?_); apply Exists.intro; refine ⟨fun u hu _ => ?_, ?_⟩; focus (go_simp; rfl)
    (with_reducible refine grow_q (by kernel_rfl) ?_); apply Exists.intro; refine ⟨fun u hu _ => ?_, ?_⟩; focus (go_simp; rfl)
    (with_reducible refine grow_q (by kernel_rfl) ?_); apply Exists.intro; refine ⟨fun u hu _ => ?_, ?_⟩; focus (go_simp; rfl)
    (with_reducible refine grow_q (by kernel_rfl) ?_); apply Exists.intro; refine ⟨fun u hu _ => ?_, ?_⟩; focus (have cc := (Ext.cell hu D11.out); go_simp; rfl)
    with_reducible refine grow_c1 145 (by kernel_rfl) ?_
    refine ⟨#[.float .f32 f4, .float .f32 e4], fun u => ?_, .bool false, fun u hu _ => (l01Same_any f4 e4 l4 g4 u).mono (fun e w' h => ⟨by rw [Q5.out] at h; exact h.1, by rw [← h.2]; exact Ext.refl _⟩), fun V u h => by rw [h.2.2 _ _ rfl, Q5.out], fun u => ⟨fun h => absurd h (by simp), fun h => absurd h (by simp), fun x y h => by simp at h; obtain ⟨rfl, rfl⟩ := h; rw [Q5.out]⟩, ?_⟩
    · go_simp
    (with_reducible refine grow_q (by kernel_rfl) ?_); apply Exists.intro; refine ⟨fun u hu _ => ?_, ?_⟩; focus (go_simp; rfl)
    (with_reducible refine grow_q (by kernel_rfl) ?_); apply Exists.intro; refine ⟨fun u hu _ => ?_, ?_⟩; focus (go_simp; rfl)
    iterate 9 (with_reducible refine grow_skip (by kernel_rfl) ?_)
    (with_reducible refine grow_q (by kernel_rfl) ?_); apply Exists.intro; refine ⟨fun u hu _ => ?_, ?_⟩; focus (go_simp; rfl)
    (with_reducible refine grow_q (by kernel_rfl) ?_); apply Exists.intro; refine ⟨fun u hu _ => ?_, ?_⟩; focus (go_simp; rfl)
    iterate 9 (with_reducible refine grow_skip (by kernel_rfl) ?_)
    (with_reducible refine grow_q (by kernel_rfl) ?_); apply Exists.intro; refine ⟨fun u hu _ => ?_, ?_⟩; focus (go_simp; rfl)
    (with_reducible refine grow_q (by kernel_rfl) ?_); apply Exists.intro; refine ⟨fun u hu _ => ?_, ?_⟩; focus (go_simp; rfl)
    refine grow_nil (fun w4 hw4 _ => ?_)
    have HX := Lib.hid hw4
    clear hw4
    go_simp
    go_wp2
    go_ret
    exact ⟨by rw [HM.out]; rfl, HX.out⟩
  | true =>
  have Q5 := Lib.hid q5
  clear q5
  cases q6 : sameB f5 e5 with
  | false =>
    have Q6 := Lib.hid q6
    have HM : Hid (sameM W H R a n c W' H' R' a' n' c' f1 f2 f3 f4 f5 k U V S b m d U' V' S' b' m' d' e1 e2 e3 e4 e5 j xs xs' ys ys' = false) := by show _ = _; rw [HM0.out]; simp [fiveB, q6]
    clear q6
    go_enter Try.func100, Try.ntmps100
    go_wp2_with fail
    simp only [List.append_eq, List.cons_append, List.nil_append]
    refine region_grow (C := Ext w) (K := fun _ args val _ => (args = #[.pointer (some ⟨p, 0, none⟩), .pointer (some ⟨p', 0, none⟩)] → val = .bool (sameFB W H R U V S xs ys)) ∧ (args = #[.pointer (some ⟨p, 4, none⟩), .pointer (some ⟨p', 4, none⟩)] → val = .bool (sameFB W' H' R' U' V' S' xs' ys')) ∧ (∀ x y : Nat, args = #[.float .f32 x, .float .f32 y] → val = .bool (sameB x y))) ⟨fun _ _ h k => h.trans k, fun _ _ _ _ _ h _ => h⟩ (by kernel_rfl) (by kernel_rfl) ((Ext.refl w).drew) ?_
    (with_reducible refine grow_q (by kernel_rfl) ?_); apply Exists.intro; refine ⟨fun u hu _ => ?_, ?_⟩; focus (go_simp; rfl)
    (with_reducible refine grow_q (by kernel_rfl) ?_); apply Exists.intro; refine ⟨fun u hu _ => ?_, ?_⟩; focus (go_simp; rfl)
    (with_reducible refine grow_q (by kernel_rfl) ?_); apply Exists.intro; refine ⟨fun u hu _ => ?_, ?_⟩; focus (go_simp; rfl)
    (with_reducible refine grow_q (by kernel_rfl) ?_); apply Exists.intro; refine ⟨fun u hu _ => ?_, ?_⟩; focus (go_simp; rfl)
    (with_reducible refine grow_q (by kernel_rfl) ?_); apply Exists.intro; refine ⟨fun u hu _ => ?_, ?_⟩; focus (go_simp; rfl)
    (with_reducible refine grow_q (by kernel_rfl) ?_); apply Exists.intro; refine ⟨fun u hu _ => ?_, ?_⟩; focus (go_simp; rfl)
    with_reducible refine grow_c1 144 (by kernel_rfl) ?_
    refine ⟨#[.pointer (some ⟨p, 0, none⟩), .pointer (some ⟨p', 0, none⟩)], fun u => ?_, .bool true, fun u hu _ => (l02SameO_any p p' 0 W H U V R S a b n c m d xs ys hx hy hn hm wx wy u (FP0.out.ext hu) (FQ0.out.ext hu) (HA.out.ext hu) (HB.out.ext hu)).mono (fun e w' h => ⟨by rw [Q0.out] at h; exact h.1, h.2⟩), fun V u h => by rw [h.1 rfl, Q0.out], fun u => ⟨fun _ => by rw [Q0.out], fun h => absurd h (by simp), fun x y h => absurd h (by simp)⟩, ?_⟩
    · go_simp
    (with_reducible refine grow_q (by kernel_rfl) ?_); apply Exists.intro; refine ⟨fun u hu _ => ?_, ?_⟩; focus (go_simp; rfl)
    (with_reducible refine grow_q (by kernel_rfl) ?_); apply Exists.intro; refine ⟨fun u hu _ => ?_, ?_⟩; focus (go_simp; rfl)
    (with_reducible refine grow_q (by kernel_rfl) ?_); apply Exists.intro; refine ⟨fun u hu _ => ?_, ?_⟩; focus (go_simp; rfl)
    (with_reducible refine grow_q (by kernel_rfl) ?_); apply Exists.intro; refine ⟨fun u hu _ => ?_, ?_⟩; focus (go_simp; rfl)
    (with_reducible refine grow_q (by kernel_rfl) ?_); apply Exists.intro; refine ⟨fun u hu _ => ?_, ?_⟩; focus (go_simp; rfl)
    (with_reducible refine grow_q (by kernel_rfl) ?_); apply Exists.intro; refine ⟨fun u hu _ => ?_, ?_⟩; focus (go_simp; rfl)
    (with_reducible refine grow_q (by kernel_rfl) ?_); apply Exists.intro; refine ⟨fun u hu _ => ?_, ?_⟩; focus (go_simp; rfl)
    with_reducible refine grow_c1 144 (by kernel_rfl) ?_
    refine ⟨#[.pointer (some ⟨p, 4, none⟩), .pointer (some ⟨p', 4, none⟩)], fun u => ?_, .bool true, fun u hu _ => (l02SameO_any p p' 4 W' H' U' V' R' S' a' b' n' c' m' d' xs' ys' hx' hy' hn' hm' wx' wy' u (FP1.out.ext hu) (FQ1.out.ext hu) (HA'.out.ext hu) (HB'.out.ext hu)).mono (fun e w' h => ⟨by rw [Q1.out] at h; exact h.1, h.2⟩), fun V u h => by rw [h.2.1 rfl, Q1.out], fun u => ⟨fun h => absurd h (by simp), fun _ => by rw [Q1.out], fun x y h => absurd h (by simp)⟩, ?_⟩
    · go_simp
    (with_reducible refine grow_q (by kernel_rfl) ?_); apply Exists.intro; refine ⟨fun u hu _ => ?_, ?_⟩; focus (go_simp; rfl)
    (with_reducible refine grow_q (by kernel_rfl) ?_); apply Exists.intro; refine ⟨fun u hu _ => ?_, ?_⟩; focus (go_simp; rfl)
    (with_reducible refine grow_q (by kernel_rfl) ?_); apply Exists.intro; refine ⟨fun u hu _ => ?_, ?_⟩; focus (go_simp; rfl)
    (with_reducible refine grow_q (by kernel_rfl) ?_); apply Exists.intro; refine ⟨fun u hu _ => ?_, ?_⟩; focus (go_simp; rfl)
    (with_reducible refine grow_q (by kernel_rfl) ?_); apply Exists.intro; refine ⟨fun u hu _ => ?_, ?_⟩; focus (go_simp; rfl)
    (with_reducible refine grow_q (by kernel_rfl) ?_); apply Exists.intro; refine ⟨fun u hu _ => ?_, ?_⟩; focus (have cc := (Ext.cell hu C8.out); go_simp; rfl)
    (with_reducible refine grow_q (by kernel_rfl) ?_); apply Exists.intro; refine ⟨fun u hu _ => ?_, ?_⟩; focus (go_simp; rfl)
    (with_reducible refine grow_q (by kernel_rfl) ?_); apply Exists.intro; refine ⟨fun u hu _ => ?_, ?_⟩; focus (go_simp; rfl)
    (with_reducible refine grow_q (by kernel_rfl) ?_); apply Exists.intro; refine ⟨fun u hu _ => ?_, ?_⟩; focus (go_simp; rfl)
    (with_reducible refine grow_q (by kernel_rfl) ?_); apply Exists.intro; refine ⟨fun u hu _ => ?_, ?_⟩; focus (have cc := (Ext.cell hu D8.out); go_simp; rfl)
    with_reducible refine grow_c1 145 (by kernel_rfl) ?_
    refine ⟨#[.float .f32 f1, .float .f32 e1], fun u => ?_, .bool true, fun u hu _ => (l01Same_any f1 e1 l1 g1 u).mono (fun e w' h => ⟨by rw [Q2.out] at h; exact h.1, by rw [← h.2]; exact Ext.refl _⟩), fun V u h => by rw [h.2.2 _ _ rfl, Q2.out], fun u => ⟨fun h => absurd h (by simp), fun h => absurd h (by simp), fun x y h => by simp at h; obtain ⟨rfl, rfl⟩ := h; rw [Q2.out]⟩, ?_⟩
    · go_simp
    (with_reducible refine grow_q (by kernel_rfl) ?_); apply Exists.intro; refine ⟨fun u hu _ => ?_, ?_⟩; focus (go_simp; rfl)
    (with_reducible refine grow_q (by kernel_rfl) ?_); apply Exists.intro; refine ⟨fun u hu _ => ?_, ?_⟩; focus (go_simp; rfl)
    (with_reducible refine grow_q (by kernel_rfl) ?_); apply Exists.intro; refine ⟨fun u hu _ => ?_, ?_⟩; focus (go_simp; rfl)
    (with_reducible refine grow_q (by kernel_rfl) ?_); apply Exists.intro; refine ⟨fun u hu _ => ?_, ?_⟩; focus (go_simp; rfl)
    (with_reducible refine grow_q (by kernel_rfl) ?_); apply Exists.intro; refine ⟨fun u hu _ => ?_, ?_⟩; focus (go_simp; rfl)
    (with_reducible refine grow_q (by kernel_rfl) ?_); apply Exists.intro; refine ⟨fun u hu _ => ?_, ?_⟩; focus (have cc := (Ext.cell hu C9.out); go_simp; rfl)
    (with_reducible refine grow_q (by kernel_rfl) ?_); apply Exists.intro; refine ⟨fun u hu _ => ?_, ?_⟩; focus (go_simp; rfl)
    (with_reducible refine grow_q (by kernel_rfl) ?_); apply Exists.intro; refine ⟨fun u hu _ => ?_, ?_⟩; focus (go_simp; rfl)
    (with_reducible refine grow_q (by kernel_rfl) ?_); apply Exists.intro; refine ⟨fun u hu _ => ?_, ?_⟩; focus (go_simp; rfl)
    (with_reducible refine grow_q (by kernel_rfl) ?_); apply Exists.intro; refine ⟨fun u hu _ => ?_, ?_⟩; focus (have cc := (Ext.cell hu D9.out); go_simp; rfl)
    with_reducible refine grow_c1 145 (by kernel_rfl) ?_
    refine ⟨#[.float .f32 f2, .float .f32 e2], fun u => ?_, .bool true, fun u hu _ => (l01Same_any f2 e2 l2 g2 u).mono (fun e w' h => ⟨by rw [Q3.out] at h; exact h.1, by rw [← h.2]; exact Ext.refl _⟩), fun V u h => by rw [h.2.2 _ _ rfl, Q3.out], fun u => ⟨fun h => absurd h (by simp), fun h => absurd h (by simp), fun x y h => by simp at h; obtain ⟨rfl, rfl⟩ := h; rw [Q3.out]⟩, ?_⟩
    · go_simp
    (with_reducible refine grow_q (by kernel_rfl) ?_); apply Exists.intro; refine ⟨fun u hu _ => ?_, ?_⟩; focus (go_simp; rfl)
    (with_reducible refine grow_q (by kernel_rfl) ?_); apply Exists.intro; refine ⟨fun u hu _ => ?_, ?_⟩; focus (go_simp; rfl)
    (with_reducible refine grow_q (by kernel_rfl) ?_); apply Exists.intro; refine ⟨fun u hu _ => ?_, ?_⟩; focus (go_simp; rfl)
    (with_reducible refine grow_q (by kernel_rfl) ?_); apply Exists.intro; refine ⟨fun u hu _ => ?_, ?_⟩; focus (go_simp; rfl)
    (with_reducible refine grow_q (by kernel_rfl) ?_); apply Exists.intro; refine ⟨fun u hu _ => ?_, ?_⟩; focus (go_simp; rfl)
    (with_reducible refine grow_q (by kernel_rfl) ?_); apply Exists.intro; refine ⟨fun u hu _ => ?_, ?_⟩; focus (have cc := (Ext.cell hu C10.out); go_simp; rfl)
    (with_reducible refine grow_q (by kernel_rfl) ?_); apply Exists.intro; refine ⟨fun u hu _ => ?_, ?_⟩; focus (go_simp; rfl)
    (with_reducible refine grow_q (by kernel_rfl) ?_); apply Exists.intro; refine ⟨fun u hu _ => ?_, ?_⟩; focus (go_simp; rfl)
    (with_reducible refine grow_q (by kernel_rfl) ?_); apply Exists.intro; refine ⟨fun u hu _ => ?_, ?_⟩; focus (go_simp; rfl)
    (with_reducible refine grow_q (by kernel_rfl) ?_); apply Exists.intro; refine ⟨fun u hu _ => ?_, ?_⟩; focus (have cc := (Ext.cell hu D10.out); go_simp; rfl)
    with_reducible refine grow_c1 145 (by kernel_rfl) ?_
    refine ⟨#[.float .f32 f3, .float .f32 e3], fun u => ?_, .bool true, fun u hu _ => (l01Same_any f3 e3 l3 g3 u).mono (fun e w' h => ⟨by rw [Q4.out] at h; exact h.1, by rw [← h.2]; exact Ext.refl _⟩), fun V u h => by rw [h.2.2 _ _ rfl, Q4.out], fun u => ⟨fun h => absurd h (by simp), fun h => absurd h (by simp), fun x y h => by simp at h; obtain ⟨rfl, rfl⟩ := h; rw [Q4.out]⟩, ?_⟩
    · go_simp
    (with_reducible refine grow_q (by kernel_rfl) ?_); apply Exists.intro; refine ⟨fun u hu _ => ?_, ?_⟩; focus (go_simp; rfl)
    (with_reducible refine grow_q (by kernel_rfl) ?_); apply Exists.intro; refine ⟨fun u hu _ => ?_, ?_⟩; focus (go_simp; rfl)
    (with_reducible refine grow_q (by kernel_rfl) ?_); apply Exists.intro; refine ⟨fun u hu _ => ?_, ?_⟩; focus (go_simp; rfl)
    (with_reducible refine grow_q (by kernel_rfl) ?_); apply Exists.intro; refine ⟨fun u hu _ => ?_, ?_⟩; focus (go_simp; rfl)
    (with_reducible refine grow_q (by kernel_rfl) ?_); apply Exists.intro; refine ⟨fun u hu _ => ?_, ?_⟩; focus (go_simp; rfl)
    (with_reducible refine grow_q (by kernel_rfl) ?_); apply Exists.intro; refine ⟨fun u hu _ => ?_, ?_⟩; focus (have cc := (Ext.cell hu C11.out); go_simp; rfl)
    (with_reducible refine grow_q (by kernel_rfl) ?_); apply Exists.intro; refine ⟨fun u hu _ => ?_, ?_⟩; focus (go_simp; rfl)
    (with_reducible refine grow_q (by kernel_rfl) ?_); apply Exists.intro; refine ⟨fun u hu _ => ?_, ?_⟩; focus (go_simp; rfl)
    (with_reducible refine grow_q (by kernel_rfl) ?_); apply Exists.intro; refine ⟨fun u hu _ => ?_, ?_⟩; focus (go_simp; rfl)
    (with_reducible refine grow_q (by kernel_rfl) ?_); apply Exists.intro; refine ⟨fun u hu _ => ?_, ?_⟩; focus (have cc := (Ext.cell hu D11.out); go_simp; rfl)
    with_reducible refine grow_c1 145 (by kernel_rfl) ?_
    refine ⟨#[.float .f32 f4, .float .f32 e4], fun u => ?_, .bool true, fun u hu _ => (l01Same_any f4 e4 l4 g4 u).mono (fun e w' h => ⟨by rw [Q5.out] at h; exact h.1, by rw [← h.2]; exact Ext.refl _⟩), fun V u h => by rw [h.2.2 _ _ rfl, Q5.out], fun u => ⟨fun h => absurd h (by simp), fun h => absurd h (by simp), fun x y h => by simp at h; obtain ⟨rfl, rfl⟩ := h; rw [Q5.out]⟩, ?_⟩
    · go_simp
    (with_reducible refine grow_q (by kernel_rfl) ?_); apply Exists.intro; refine ⟨fun u hu _ => ?_, ?_⟩; focus (go_simp; rfl)
    (with_reducible refine grow_q (by kernel_rfl) ?_); apply Exists.intro; refine ⟨fun u hu _ => ?_, ?_⟩; focus (go_simp; rfl)
    (with_reducible refine grow_q (by kernel_rfl) ?_); apply Exists.intro; refine ⟨fun u hu _ => ?_, ?_⟩; focus (go_simp; rfl)
    (with_reducible refine grow_q (by kernel_rfl) ?_); apply Exists.intro; refine ⟨fun u hu _ => ?_, ?_⟩; focus (go_simp; rfl)
    (with_reducible refine grow_q (by kernel_rfl) ?_); apply Exists.intro; refine ⟨fun u hu _ => ?_, ?_⟩; focus (go_simp; rfl)
    (with_reducible refine grow_q (by kernel_rfl) ?_); apply Exists.intro; refine ⟨fun u hu _ => ?_, ?_⟩; focus (have cc := (Ext.cell hu C12.out); go_simp; rfl)
    (with_reducible refine grow_q (by kernel_rfl) ?_); apply Exists.intro; refine ⟨fun u hu _ => ?_, ?_⟩; focus (go_simp; rfl)
    (with_reducible refine grow_q (by kernel_rfl) ?_); apply Exists.intro; refine ⟨fun u hu _ => ?_, ?_⟩; focus (go_simp; rfl)
    (with_reducible refine grow_q (by kernel_rfl) ?_); apply Exists.intro; refine ⟨fun u hu _ => ?_, ?_⟩; focus (go_simp; rfl)
    (with_reducible refine grow_q (by kernel_rfl) ?_); apply Exists.intro; refine ⟨fun u hu _ => ?_, ?_⟩; focus (have cc := (Ext.cell hu D12.out); go_simp; rfl)
    with_reducible refine grow_c1 145 (by kernel_rfl) ?_
    refine ⟨#[.float .f32 f5, .float .f32 e5], fun u => ?_, .bool false, fun u hu _ => (l01Same_any f5 e5 l5 g5 u).mono (fun e w' h => ⟨by rw [Q6.out] at h; exact h.1, by rw [← h.2]; exact Ext.refl _⟩), fun V u h => by rw [h.2.2 _ _ rfl, Q6.out], fun u => ⟨fun h => absurd h (by simp), fun h => absurd h (by simp), fun x y h => by simp at h; obtain ⟨rfl, rfl⟩ := h; rw [Q6.out]⟩, ?_⟩
    · go_simp
    (with_reducible refine grow_q (by kernel_rfl) ?_); apply Exists.intro; refine ⟨fun u hu _ => ?_, ?_⟩; focus (go_simp; rfl)
    (with_reducible refine grow_q (by kernel_rfl) ?_); apply Exists.intro; refine ⟨fun u hu _ => ?_, ?_⟩; focus (go_simp; rfl)
    iterate 9 (with_reducible refine grow_skip (by kernel_rfl) ?_)
    (with_reducible refine grow_q (by kernel_rfl) ?_); apply Exists.intro; refine ⟨fun u hu _ => ?_, ?_⟩; focus (go_simp; rfl)
    (with_reducible refine grow_q (by kernel_rfl) ?_); apply Exists.intro; refine ⟨fun u hu _ => ?_, ?_⟩; focus (go_simp; rfl)
    refine grow_nil (fun w4 hw4 _ => ?_)
    have HX := Lib.hid hw4
    clear hw4
    go_simp
    go_wp2
    go_ret
    exact ⟨by rw [HM.out]; rfl, HX.out⟩
  | true =>
  have Q6 := Lib.hid q6
  clear q6
  have HM : Hid (sameM W H R a n c W' H' R' a' n' c' f1 f2 f3 f4 f5 k U V S b m d U' V' S' b' m' d' e1 e2 e3 e4 e5 j xs xs' ys ys' = (k == j)) := by show _ = _; rw [HM0.out, Q0.out, Q1.out]; simp [fiveB, Q2.out, Q3.out, Q4.out, Q5.out, Q6.out]
  go_enter Try.func100, Try.ntmps100
  go_wp2_with fail
  simp only [List.append_eq, List.cons_append, List.nil_append]
  refine region_grow (C := Ext w) (K := fun _ args val _ => (args = #[.pointer (some ⟨p, 0, none⟩), .pointer (some ⟨p', 0, none⟩)] → val = .bool (sameFB W H R U V S xs ys)) ∧ (args = #[.pointer (some ⟨p, 4, none⟩), .pointer (some ⟨p', 4, none⟩)] → val = .bool (sameFB W' H' R' U' V' S' xs' ys')) ∧ (∀ x y : Nat, args = #[.float .f32 x, .float .f32 y] → val = .bool (sameB x y))) ⟨fun _ _ h k => h.trans k, fun _ _ _ _ _ h _ => h⟩ (by kernel_rfl) (by kernel_rfl) ((Ext.refl w).drew) ?_
  (with_reducible refine grow_q (by kernel_rfl) ?_); apply Exists.intro; refine ⟨fun u hu _ => ?_, ?_⟩; focus (go_simp; rfl)
  (with_reducible refine grow_q (by kernel_rfl) ?_); apply Exists.intro; refine ⟨fun u hu _ => ?_, ?_⟩; focus (go_simp; rfl)
  (with_reducible refine grow_q (by kernel_rfl) ?_); apply Exists.intro; refine ⟨fun u hu _ => ?_, ?_⟩; focus (go_simp; rfl)
  (with_reducible refine grow_q (by kernel_rfl) ?_); apply Exists.intro; refine ⟨fun u hu _ => ?_, ?_⟩; focus (go_simp; rfl)
  (with_reducible refine grow_q (by kernel_rfl) ?_); apply Exists.intro; refine ⟨fun u hu _ => ?_, ?_⟩; focus (go_simp; rfl)
  (with_reducible refine grow_q (by kernel_rfl) ?_); apply Exists.intro; refine ⟨fun u hu _ => ?_, ?_⟩; focus (go_simp; rfl)
  with_reducible refine grow_c1 144 (by kernel_rfl) ?_
  refine ⟨#[.pointer (some ⟨p, 0, none⟩), .pointer (some ⟨p', 0, none⟩)], fun u => ?_, .bool true, fun u hu _ => (l02SameO_any p p' 0 W H U V R S a b n c m d xs ys hx hy hn hm wx wy u (FP0.out.ext hu) (FQ0.out.ext hu) (HA.out.ext hu) (HB.out.ext hu)).mono (fun e w' h => ⟨by rw [Q0.out] at h; exact h.1, h.2⟩), fun V u h => by rw [h.1 rfl, Q0.out], fun u => ⟨fun _ => by rw [Q0.out], fun h => absurd h (by simp), fun x y h => absurd h (by simp)⟩, ?_⟩
  · go_simp
  (with_reducible refine grow_q (by kernel_rfl) ?_); apply Exists.intro; refine ⟨fun u hu _ => ?_, ?_⟩; focus (go_simp; rfl)
  (with_reducible refine grow_q (by kernel_rfl) ?_); apply Exists.intro; refine ⟨fun u hu _ => ?_, ?_⟩; focus (go_simp; rfl)
  (with_reducible refine grow_q (by kernel_rfl) ?_); apply Exists.intro; refine ⟨fun u hu _ => ?_, ?_⟩; focus (go_simp; rfl)
  (with_reducible refine grow_q (by kernel_rfl) ?_); apply Exists.intro; refine ⟨fun u hu _ => ?_, ?_⟩; focus (go_simp; rfl)
  (with_reducible refine grow_q (by kernel_rfl) ?_); apply Exists.intro; refine ⟨fun u hu _ => ?_, ?_⟩; focus (go_simp; rfl)
  (with_reducible refine grow_q (by kernel_rfl) ?_); apply Exists.intro; refine ⟨fun u hu _ => ?_, ?_⟩; focus (go_simp; rfl)
  (with_reducible refine grow_q (by kernel_rfl) ?_); apply Exists.intro; refine ⟨fun u hu _ => ?_, ?_⟩; focus (go_simp; rfl)
  with_reducible refine grow_c1 144 (by kernel_rfl) ?_
  refine ⟨#[.pointer (some ⟨p, 4, none⟩), .pointer (some ⟨p', 4, none⟩)], fun u => ?_, .bool true, fun u hu _ => (l02SameO_any p p' 4 W' H' U' V' R' S' a' b' n' c' m' d' xs' ys' hx' hy' hn' hm' wx' wy' u (FP1.out.ext hu) (FQ1.out.ext hu) (HA'.out.ext hu) (HB'.out.ext hu)).mono (fun e w' h => ⟨by rw [Q1.out] at h; exact h.1, h.2⟩), fun V u h => by rw [h.2.1 rfl, Q1.out], fun u => ⟨fun h => absurd h (by simp), fun _ => by rw [Q1.out], fun x y h => absurd h (by simp)⟩, ?_⟩
  · go_simp
  (with_reducible refine grow_q (by kernel_rfl) ?_); apply Exists.intro; refine ⟨fun u hu _ => ?_, ?_⟩; focus (go_simp; rfl)
  (with_reducible refine grow_q (by kernel_rfl) ?_); apply Exists.intro; refine ⟨fun u hu _ => ?_, ?_⟩; focus (go_simp; rfl)
  (with_reducible refine grow_q (by kernel_rfl) ?_); apply Exists.intro; refine ⟨fun u hu _ => ?_, ?_⟩; focus (go_simp; rfl)
  (with_reducible refine grow_q (by kernel_rfl) ?_); apply Exists.intro; refine ⟨fun u hu _ => ?_, ?_⟩; focus (go_simp; rfl)
  (with_reducible refine grow_q (by kernel_rfl) ?_); apply Exists.intro; refine ⟨fun u hu _ => ?_, ?_⟩; focus (go_simp; rfl)
  (with_reducible refine grow_q (by kernel_rfl) ?_); apply Exists.intro; refine ⟨fun u hu _ => ?_, ?_⟩; focus (have cc := (Ext.cell hu C8.out); go_simp; rfl)
  (with_reducible refine grow_q (by kernel_rfl) ?_); apply Exists.intro; refine ⟨fun u hu _ => ?_, ?_⟩; focus (go_simp; rfl)
  (with_reducible refine grow_q (by kernel_rfl) ?_); apply Exists.intro; refine ⟨fun u hu _ => ?_, ?_⟩; focus (go_simp; rfl)
  (with_reducible refine grow_q (by kernel_rfl) ?_); apply Exists.intro; refine ⟨fun u hu _ => ?_, ?_⟩; focus (go_simp; rfl)
  (with_reducible refine grow_q (by kernel_rfl) ?_); apply Exists.intro; refine ⟨fun u hu _ => ?_, ?_⟩; focus (have cc := (Ext.cell hu D8.out); go_simp; rfl)
  with_reducible refine grow_c1 145 (by kernel_rfl) ?_
  refine ⟨#[.float .f32 f1, .float .f32 e1], fun u => ?_, .bool true, fun u hu _ => (l01Same_any f1 e1 l1 g1 u).mono (fun e w' h => ⟨by rw [Q2.out] at h; exact h.1, by rw [← h.2]; exact Ext.refl _⟩), fun V u h => by rw [h.2.2 _ _ rfl, Q2.out], fun u => ⟨fun h => absurd h (by simp), fun h => absurd h (by simp), fun x y h => by simp at h; obtain ⟨rfl, rfl⟩ := h; rw [Q2.out]⟩, ?_⟩
  · go_simp
  (with_reducible refine grow_q (by kernel_rfl) ?_); apply Exists.intro; refine ⟨fun u hu _ => ?_, ?_⟩; focus (go_simp; rfl)
  (with_reducible refine grow_q (by kernel_rfl) ?_); apply Exists.intro; refine ⟨fun u hu _ => ?_, ?_⟩; focus (go_simp; rfl)
  (with_reducible refine grow_q (by kernel_rfl) ?_); apply Exists.intro; refine ⟨fun u hu _ => ?_, ?_⟩; focus (go_simp; rfl)
  (with_reducible refine grow_q (by kernel_rfl) ?_); apply Exists.intro; refine ⟨fun u hu _ => ?_, ?_⟩; focus (go_simp; rfl)
  (with_reducible refine grow_q (by kernel_rfl) ?_); apply Exists.intro; refine ⟨fun u hu _ => ?_, ?_⟩; focus (go_simp; rfl)
  (with_reducible refine grow_q (by kernel_rfl) ?_); apply Exists.intro; refine ⟨fun u hu _ => ?_, ?_⟩; focus (have cc := (Ext.cell hu C9.out); go_simp; rfl)
  (with_reducible refine grow_q (by kernel_rfl) ?_); apply Exists.intro; refine ⟨fun u hu _ => ?_, ?_⟩; focus (go_simp; rfl)
  (with_reducible refine grow_q (by kernel_rfl) ?_); apply Exists.intro; refine ⟨fun u hu _ => ?_, ?_⟩; focus (go_simp; rfl)
  (with_reducible refine grow_q (by kernel_rfl) ?_); apply Exists.intro; refine ⟨fun u hu _ => ?_, ?_⟩; focus (go_simp; rfl)
  (with_reducible refine grow_q (by kernel_rfl) ?_); apply Exists.intro; refine ⟨fun u hu _ => ?_, ?_⟩; focus (have cc := (Ext.cell hu D9.out); go_simp; rfl)
  with_reducible refine grow_c1 145 (by kernel_rfl) ?_
  refine ⟨#[.float .f32 f2, .float .f32 e2], fun u => ?_, .bool true, fun u hu _ => (l01Same_any f2 e2 l2 g2 u).mono (fun e w' h => ⟨by rw [Q3.out] at h; exact h.1, by rw [← h.2]; exact Ext.refl _⟩), fun V u h => by rw [h.2.2 _ _ rfl, Q3.out], fun u => ⟨fun h => absurd h (by simp), fun h => absurd h (by simp), fun x y h => by simp at h; obtain ⟨rfl, rfl⟩ := h; rw [Q3.out]⟩, ?_⟩
  · go_simp
  (with_reducible refine grow_q (by kernel_rfl) ?_); apply Exists.intro; refine ⟨fun u hu _ => ?_, ?_⟩; focus (go_simp; rfl)
  (with_reducible refine grow_q (by kernel_rfl) ?_); apply Exists.intro; refine ⟨fun u hu _ => ?_, ?_⟩; focus (go_simp; rfl)
  (with_reducible refine grow_q (by kernel_rfl) ?_); apply Exists.intro; refine ⟨fun u hu _ => ?_, ?_⟩; focus (go_simp; rfl)
  (with_reducible refine grow_q (by kernel_rfl) ?_); apply Exists.intro; refine ⟨fun u hu _ => ?_, ?_⟩; focus (go_simp; rfl)
  (with_reducible refine grow_q (by kernel_rfl) ?_); apply Exists.intro; refine ⟨fun u hu _ => ?_, ?_⟩; focus (go_simp; rfl)
  (with_reducible refine grow_q (by kernel_rfl) ?_); apply Exists.intro; refine ⟨fun u hu _ => ?_, ?_⟩; focus (have cc := (Ext.cell hu C10.out); go_simp; rfl)
  (with_reducible refine grow_q (by kernel_rfl) ?_); apply Exists.intro; refine ⟨fun u hu _ => ?_, ?_⟩; focus (go_simp; rfl)
  (with_reducible refine grow_q (by kernel_rfl) ?_); apply Exists.intro; refine ⟨fun u hu _ => ?_, ?_⟩; focus (go_simp; rfl)
  (with_reducible refine grow_q (by kernel_rfl) ?_); apply Exists.intro; refine ⟨fun u hu _ => ?_, ?_⟩; focus (go_simp; rfl)
  (with_reducible refine grow_q (by kernel_rfl) ?_); apply Exists.intro; refine ⟨fun u hu _ => ?_, ?_⟩; focus (have cc := (Ext.cell hu D10.out); go_simp; rfl)
  with_reducible refine grow_c1 145 (by kernel_rfl) ?_
  refine ⟨#[.float .f32 f3, .float .f32 e3], fun u => ?_, .bool true, fun u hu _ => (l01Same_any f3 e3 l3 g3 u).mono (fun e w' h => ⟨by rw [Q4.out] at h; exact h.1, by rw [← h.2]; exact Ext.refl _⟩), fun V u h => by rw [h.2.2 _ _ rfl, Q4.out], fun u => ⟨fun h => absurd h (by simp), fun h => absurd h (by simp), fun x y h => by simp at h; obtain ⟨rfl, rfl⟩ := h; rw [Q4.out]⟩, ?_⟩
  · go_simp
  (with_reducible refine grow_q (by kernel_rfl) ?_); apply Exists.intro; refine ⟨fun u hu _ => ?_, ?_⟩; focus (go_simp; rfl)
  (with_reducible refine grow_q (by kernel_rfl) ?_); apply Exists.intro; refine ⟨fun u hu _ => ?_, ?_⟩; focus (go_simp; rfl)
  (with_reducible refine grow_q (by kernel_rfl) ?_); apply Exists.intro; refine ⟨fun u hu _ => ?_, ?_⟩; focus (go_simp; rfl)
  (with_reducible refine grow_q (by kernel_rfl) ?_); apply Exists.intro; refine ⟨fun u hu _ => ?_, ?_⟩; focus (go_simp; rfl)
  (with_reducible refine grow_q (by kernel_rfl) ?_); apply Exists.intro; refine ⟨fun u hu _ => ?_, ?_⟩; focus (go_simp; rfl)
  (with_reducible refine grow_q (by kernel_rfl) ?_); apply Exists.intro; refine ⟨fun u hu _ => ?_, ?_⟩; focus (have cc := (Ext.cell hu C11.out); go_simp; rfl)
  (with_reducible refine grow_q (by kernel_rfl) ?_); apply Exists.intro; refine ⟨fun u hu _ => ?_, ?_⟩; focus (go_simp; rfl)
  (with_reducible refine grow_q (by kernel_rfl) ?_); apply Exists.intro; refine ⟨fun u hu _ => ?_, ?_⟩; focus (go_simp; rfl)
  (with_reducible refine grow_q (by kernel_rfl) ?_); apply Exists.intro; refine ⟨fun u hu _ => ?_, ?_⟩; focus (go_simp; rfl)
  (with_reducible refine grow_q (by kernel_rfl) ?_); apply Exists.intro; refine ⟨fun u hu _ => ?_, ?_⟩; focus (have cc := (Ext.cell hu D11.out); go_simp; rfl)
  with_reducible refine grow_c1 145 (by kernel_rfl) ?_
  refine ⟨#[.float .f32 f4, .float .f32 e4], fun u => ?_, .bool true, fun u hu _ => (l01Same_any f4 e4 l4 g4 u).mono (fun e w' h => ⟨by rw [Q5.out] at h; exact h.1, by rw [← h.2]; exact Ext.refl _⟩), fun V u h => by rw [h.2.2 _ _ rfl, Q5.out], fun u => ⟨fun h => absurd h (by simp), fun h => absurd h (by simp), fun x y h => by simp at h; obtain ⟨rfl, rfl⟩ := h; rw [Q5.out]⟩, ?_⟩
  · go_simp
  (with_reducible refine grow_q (by kernel_rfl) ?_); apply Exists.intro; refine ⟨fun u hu _ => ?_, ?_⟩; focus (go_simp; rfl)
  (with_reducible refine grow_q (by kernel_rfl) ?_); apply Exists.intro; refine ⟨fun u hu _ => ?_, ?_⟩; focus (go_simp; rfl)
  (with_reducible refine grow_q (by kernel_rfl) ?_); apply Exists.intro; refine ⟨fun u hu _ => ?_, ?_⟩; focus (go_simp; rfl)
  (with_reducible refine grow_q (by kernel_rfl) ?_); apply Exists.intro; refine ⟨fun u hu _ => ?_, ?_⟩; focus (go_simp; rfl)
  (with_reducible refine grow_q (by kernel_rfl) ?_); apply Exists.intro; refine ⟨fun u hu _ => ?_, ?_⟩; focus (go_simp; rfl)
  (with_reducible refine grow_q (by kernel_rfl) ?_); apply Exists.intro; refine ⟨fun u hu _ => ?_, ?_⟩; focus (have cc := (Ext.cell hu C12.out); go_simp; rfl)
  (with_reducible refine grow_q (by kernel_rfl) ?_); apply Exists.intro; refine ⟨fun u hu _ => ?_, ?_⟩; focus (go_simp; rfl)
  (with_reducible refine grow_q (by kernel_rfl) ?_); apply Exists.intro; refine ⟨fun u hu _ => ?_, ?_⟩; focus (go_simp; rfl)
  (with_reducible refine grow_q (by kernel_rfl) ?_); apply Exists.intro; refine ⟨fun u hu _ => ?_, ?_⟩; focus (go_simp; rfl)
  (with_reducible refine grow_q (by kernel_rfl) ?_); apply Exists.intro; refine ⟨fun u hu _ => ?_, ?_⟩; focus (have cc := (Ext.cell hu D12.out); go_simp; rfl)
  with_reducible refine grow_c1 145 (by kernel_rfl) ?_
  refine ⟨#[.float .f32 f5, .float .f32 e5], fun u => ?_, .bool true, fun u hu _ => (l01Same_any f5 e5 l5 g5 u).mono (fun e w' h => ⟨by rw [Q6.out] at h; exact h.1, by rw [← h.2]; exact Ext.refl _⟩), fun V u h => by rw [h.2.2 _ _ rfl, Q6.out], fun u => ⟨fun h => absurd h (by simp), fun h => absurd h (by simp), fun x y h => by simp at h; obtain ⟨rfl, rfl⟩ := h; rw [Q6.out]⟩, ?_⟩
  · go_simp
  (with_reducible refine grow_q (by kernel_rfl) ?_); apply Exists.intro; refine ⟨fun u hu _ => ?_, ?_⟩; focus (go_simp; rfl)
  (with_reducible refine grow_q (by kernel_rfl) ?_); apply Exists.intro; refine ⟨fun u hu _ => ?_, ?_⟩; focus (go_simp; rfl)
  (with_reducible refine grow_q (by kernel_rfl) ?_); apply Exists.intro; refine ⟨fun u hu _ => ?_, ?_⟩; focus (go_simp; rfl)
  (with_reducible refine grow_q (by kernel_rfl) ?_); apply Exists.intro; refine ⟨fun u hu _ => ?_, ?_⟩; focus (go_simp; rfl)
  (with_reducible refine grow_q (by kernel_rfl) ?_); apply Exists.intro; refine ⟨fun u hu _ => ?_, ?_⟩; focus (go_simp; rfl)
  (with_reducible refine grow_q (by kernel_rfl) ?_); apply Exists.intro; refine ⟨fun u hu _ => ?_, ?_⟩; focus (have cc := (Ext.cell hu C13.out); go_simp; rfl)
  (with_reducible refine grow_q (by kernel_rfl) ?_); apply Exists.intro; refine ⟨fun u hu _ => ?_, ?_⟩; focus (go_simp; rfl)
  (with_reducible refine grow_q (by kernel_rfl) ?_); apply Exists.intro; refine ⟨fun u hu _ => ?_, ?_⟩; focus (go_simp; rfl)
  (with_reducible refine grow_q (by kernel_rfl) ?_); apply Exists.intro; refine ⟨fun u hu _ => ?_, ?_⟩; focus (go_simp; rfl)
  (with_reducible refine grow_q (by kernel_rfl) ?_); apply Exists.intro; refine ⟨fun u hu _ => ?_, ?_⟩; focus (have cc := (Ext.cell hu D13.out); go_simp; rfl)
  (with_reducible refine grow_q (by kernel_rfl) ?_); apply Exists.intro; refine ⟨fun u hu _ => ?_, ?_⟩; focus (go_simp; rfl)
  (with_reducible refine grow_q (by kernel_rfl) ?_); apply Exists.intro; refine ⟨fun u hu _ => ?_, ?_⟩; focus (go_simp; rfl)
  (with_reducible refine grow_q (by kernel_rfl) ?_); apply Exists.intro; refine ⟨fun u hu _ => ?_, ?_⟩; focus (go_simp; rfl)
  refine grow_nil (fun w4 hw4 _ => ?_)
  have HX := Lib.hid hw4
  clear hw4
  go_simp
  go_wp2
  go_ret
  exact ⟨by rw [HM.out]; rfl, HX.out⟩

set_option maxRecDepth 100000 in
theorem specSameM_any (W H : Int) (R : Bool) (a : Option Addr) (n c : Nat) (W' H' : Int) (R' : Bool) (a' : Option Addr) (n' c' : Nat) (f1 f2 f3 f4 f5 : Nat) (k : Int) (U V : Int) (S : Bool) (b : Option Addr) (m d : Nat) (U' V' : Int) (S' : Bool) (b' : Option Addr) (m' d' : Nat) (e1 e2 e3 e4 e5 : Nat) (j : Int) (xs xs' ys ys' : List Nat) (hx : xs.length = n) (hx' : xs'.length = n') (hy : ys.length = m) (hy' : ys'.length = m') (hn : n ≤ 1048576) (hn' : n' ≤ 1048576) (hm : m ≤ 1048576) (hm' : m' ≤ 1048576) (wx : wfF xs) (wx' : wfF xs') (wy : wfF ys) (wy' : wfF ys') (hf : f1 < 4294967296 ∧ f2 < 4294967296 ∧ f3 < 4294967296 ∧ f4 < 4294967296 ∧ f5 < 4294967296) (he : e1 < 4294967296 ∧ e2 < 4294967296 ∧ e3 < 4294967296 ∧ e4 < 4294967296 ∧ e5 < 4294967296) (w : World) (hA : VArr w a (flts xs)) (hA' : VArr w a' (flts xs')) (hB : VArr w b (flts ys)) (hB' : VArr w b' (flts ys')) :
    Calls Try.prog 39 #[.agg #[.int .i64 W, .int .i64 H, .bool R, .slice a n c, .int .i64 W', .int .i64 H', .bool R', .slice a' n' c', .float .f32 f1, .float .f32 f2, .float .f32 f3, .float .f32 f4, .float .f32 f5, .int .i64 k], .agg #[.int .i64 U, .int .i64 V, .bool S, .slice b m d, .int .i64 U', .int .i64 V', .bool S', .slice b' m' d', .float .f32 e1, .float .f32 e2, .float .f32 e3, .float .f32 e4, .float .f32 e5, .int .i64 j]] w fun e w' => e = .returned (.bool (sameM W H R a n c W' H' R' a' n' c' f1 f2 f3 f4 f5 k U V S b m d U' V' S' b' m' d' e1 e2 e3 e4 e5 j xs xs' ys ys')) ∧ Ext w w' := by
  have hX := ((Ext.refl w).alloc (.cells #[.int .i64 W, .int .i64 H, .bool R, .slice a n c, .int .i64 W', .int .i64 H', .bool R', .slice a' n' c', .float .f32 f1, .float .f32 f2, .float .f32 f3, .float .f32 f4, .float .f32 f5, .int .i64 k] 62)).alloc (.cells #[.int .i64 U, .int .i64 V, .bool S, .slice b m d, .int .i64 U', .int .i64 V', .bool S', .slice b' m' d', .float .f32 e1, .float .f32 e2, .float .f32 e3, .float .f32 e4, .float .f32 e5, .int .i64 j] 62)
  have b0 := heap_mid1 w (.cells #[.int .i64 W, .int .i64 H, .bool R, .slice a n c, .int .i64 W', .int .i64 H', .bool R', .slice a' n' c', .float .f32 f1, .float .f32 f2, .float .f32 f3, .float .f32 f4, .float .f32 f5, .int .i64 k] 62) (.cells #[.int .i64 U, .int .i64 V, .bool S, .slice b m d, .int .i64 U', .int .i64 V', .bool S', .slice b' m' d', .float .f32 e1, .float .f32 e2, .float .f32 e3, .float .f32 e4, .float .f32 e5, .int .i64 j] 62)
  have b1 := heap_new1 w (.cells #[.int .i64 W, .int .i64 H, .bool R, .slice a n c, .int .i64 W', .int .i64 H', .bool R', .slice a' n' c', .float .f32 f1, .float .f32 f2, .float .f32 f3, .float .f32 f4, .float .f32 f5, .int .i64 k] 62) (.cells #[.int .i64 U, .int .i64 V, .bool S, .slice b m d, .int .i64 U', .int .i64 V', .bool S', .slice b' m' d', .float .f32 e1, .float .f32 e2, .float .f32 e3, .float .f32 e4, .float .f32 e5, .int .i64 j] 62)
  go_enter Try.func39, Try.ntmps39
  go_wp2_with fail
  refine (l03Same_any _ _ W H R a n c W' H' R' a' n' c' f1 f2 f3 f4 f5 k U V S b m d U' V' S' b' m' d' e1 e2 e3 e4 e5 j xs xs' ys ys' hx hx' hy hy' hn hn' hm hm' wx wx' wy wy' hf he _ b0 b1 (hA.ext hX) (hA'.ext hX) (hB.ext hX) (hB'.ext hX)).mono ?_
  rintro e w1 ⟨rfl, hX1⟩
  go_wp2
  go_ret
  exact ⟨rfl, hX.trans hX1⟩
end Go.Proofs.Ytajfpjggdbifjaa
