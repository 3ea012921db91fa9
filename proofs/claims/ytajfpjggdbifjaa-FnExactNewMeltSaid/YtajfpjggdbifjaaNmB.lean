/-
  New melts: which are valid, handed on or copied. (Printed by gen_newmelt.py.)
-/
import Derived.Test.YtajfpjggdbifjaaNmA
import Derived.Test.YtajfpjggdbifjaaMeE
import Derived.Test.YtajfpjggdbifjaaMeH
import Derived.Test.YtajfpjggdbifjaaFlM
import Derived.StillTail
namespace Go.Proofs.Ytajfpjggdbifjaa
open Go.RowKit
set_option linter.unusedVariables false
set_option linter.unusedSimpArgs false
set_option linter.unnecessarySimpa false

theorem finB_isN {r : Nat} (h : isN .f32 r = true) : finB r = false := by
  have := (isN_iff .f32 r).1 h
  rw [f32_sw, f32_inf] at this
  simp [finB]; omega
theorem finB_fa {x z : Nat} (h : fa .f32 x = fa .f32 z) : finB x = finB z := by
  cases hx : isN .f32 x with
  | true =>
    cases hz : isN .f32 z with
    | true => rw [finB_isN hx, finB_isN hz]
    | false => rw [fa_nan hx, fa_num hz] at h; cases h
  | false =>
    cases hz : isN .f32 z with
    | true => rw [fa_num hx, fa_nan hz] at h; cases h
    | false =>
      rw [fa_num hx, fa_num hz] at h
      rw [Option.some.inj h]
/-- All values of a flat field. -/
theorem flat_all {W H : Int} {z : Nat} {xs : List Nat} (h : fas xs = flatF W H z) : ∀ x, x ∈ xs → fa .f32 x = fa .f32 z := fun x hx => by
  have h1 : fa .f32 x ∈ fas xs := List.mem_map_of_mem hx
  rw [h] at h1
  unfold flatF gridF at h1
  obtain ⟨i, _, hi⟩ := List.mem_map.1 h1
  exact hi.symm
theorem flat_len {W H : Int} {z : Nat} {xs : List Nat} {n : Nat} (h : fas xs = flatF W H z) (hz : xs.length = n) (hs : szF W H = true) : vldF W H n = true ∧ 1 ≤ n := by
  obtain ⟨⟨t1, t2⟩, t3, t4⟩ := szF_iff.1 hs
  have h1 := congrArg List.length h
  rw [fas, List.length_map] at h1
  unfold flatF at h1
  rw [gridF_length] at h1
  obtain ⟨Wn, rfl⟩ := Int.eq_ofNat_of_zero_le (show 0 ≤ W by omega)
  obtain ⟨Hn, rfl⟩ := Int.eq_ofNat_of_zero_le (show 0 ≤ H by omega)
  simp only [Int.toNat_natCast] at h1
  have h2 : n = Hn * Wn := by omega
  refine ⟨vldF_iff.2 ⟨hs, by rw [h2, Int.natCast_mul, Int.mul_comm]⟩, ?_⟩
  rw [h2]
  exact Nat.mul_pos (by omega) (by omega)
theorem phB_zero : phB 0 = true := by decide
theorem fa_zero {x : Nat} (h : fa .f32 x = fa .f32 0) : x = 0 := by
  have h0 : isN .f32 0 = false := by decide
  rw [fa_num h0] at h
  unfold fa at h
  split at h
  · cases h
  · exact Option.some.inj h
theorem consts_ok : (four 1048576000 1056964608 1056964608 1065353216 && lastB 0 4) = true := by decide
/-- A new melt is valid if its heat is finite. -/
theorem vld_new {W H : Int} {R : Bool} {z n m : Nat} {xs ys : List Nat} (hs : szF W H = true) (hx : fas xs = flatF W H 0) (hy : fas ys = flatF W H z) (hn : xs.length = n) (hm : ys.length = m) :
    vldM W H R n W H R m xs ys 1048576000 1056964608 1056964608 1065353216 0 4 = finB z := by
  obtain ⟨v1, n1⟩ := flat_len hx hn hs
  obtain ⟨v2, m1⟩ := flat_len hy hm hs
  unfold vldM
  rw [consts_ok, Bool.and_true]
  have e1 : twoB W H R n W H R m = true := by unfold twoB; rw [v1, v2, alikeB_iff.2 ⟨rfl, rfl, rfl⟩]; rfl
  have e2 : xs.all phB = true := by
    rw [List.all_eq_true]
    intro x h
    rw [fa_zero (flat_all hx x h)]; exact phB_zero
  rw [e1, e2, Bool.true_and, Bool.true_and]
  cases hf : finB z with
  | true =>
    rw [List.all_eq_true]
    intro y h
    rw [finB_fa (flat_all hy y h)]; exact hf
  | false =>
    rw [Bool.eq_false_iff]
    intro ha
    rw [List.all_eq_true] at ha
    have hy0 : ys[0]'(by omega) ∈ ys := List.getElem_mem _
    have h1 := ha _ hy0
    rw [finB_fa (flat_all hy _ hy0), hf] at h1
    cases h1

/-- A row of another kind is in no melt's box. -/
theorem row_ne {w : World} {base q : Nat} {e T : TypeId} {v : Value} {n : Nat} {xs : List Value} {ca : Array Value} {fr : Nat × Nat} (hT : T ≠ e) (hO : w.ownsRow base e 1 v n xs) (D : w.heap[q]? = some (.cells ca T fr)) : v.ownBlock ≠ some q := fun hh => by
  rcases hO.2 with ⟨rfl, _⟩ | ⟨g, cap, cur, rfl, hb, hg, _⟩
  · simp [Value.ownBlock] at hh
  · simp only [Value.ownBlock, Option.some.injEq] at hh
    subst hh
    rw [hg] at D
    simp only [Option.some.injEq, Obj.cells.injEq] at D
    exact hT D.2.1.symm
/-- A melt's box filled whole. -/
theorem fill14_ext {w w1 : World} {q : Nat} (h : Ext w w1) (hq : w.heap.size ≤ q) (v0 v1 v2 v3 v4 v5 v6 v7 v8 v9 v10 v11 v12 v13 : Value) : Ext w ((((((((((((((w1.setCell ⟨q, 0, none⟩ (v0)).setCell ⟨q, 1, none⟩ (v1)).setCell ⟨q, 2, none⟩ (v2)).setCell ⟨q, 3, none⟩ (v3)).setCell ⟨q, 4, none⟩ (v4)).setCell ⟨q, 5, none⟩ (v5)).setCell ⟨q, 6, none⟩ (v6)).setCell ⟨q, 7, none⟩ (v7)).setCell ⟨q, 8, none⟩ (v8)).setCell ⟨q, 9, none⟩ (v9)).setCell ⟨q, 10, none⟩ (v10)).setCell ⟨q, 11, none⟩ (v11)).setCell ⟨q, 12, none⟩ (v12)).setCell ⟨q, 13, none⟩ (v13)) :=
  (Below.setCell ((Below.setCell ((Below.setCell ((Below.setCell ((Below.setCell ((Below.setCell ((Below.setCell ((Below.setCell ((Below.setCell ((Below.setCell ((Below.setCell ((Below.setCell ((Below.setCell ((Below.setCell (h) (hq) _)) (hq) _)) (hq) _)) (hq) _)) (hq) _)) (hq) _)) (hq) _)) (hq) _)) (hq) _)) (hq) _)) (hq) _)) (hq) _)) (hq) _)) (hq) _)
theorem fill14_row {w1 : World} {base q : Nat} {e : TypeId} {v : Value} {n : Nat} {xs : List Value} (h : w1.ownsRow base e 1 v n xs) (hq : v.ownBlock ≠ some q) (v0 v1 v2 v3 v4 v5 v6 v7 v8 v9 v10 v11 v12 v13 : Value) : ((((((((((((((w1.setCell ⟨q, 0, none⟩ (v0)).setCell ⟨q, 1, none⟩ (v1)).setCell ⟨q, 2, none⟩ (v2)).setCell ⟨q, 3, none⟩ (v3)).setCell ⟨q, 4, none⟩ (v4)).setCell ⟨q, 5, none⟩ (v5)).setCell ⟨q, 6, none⟩ (v6)).setCell ⟨q, 7, none⟩ (v7)).setCell ⟨q, 8, none⟩ (v8)).setCell ⟨q, 9, none⟩ (v9)).setCell ⟨q, 10, none⟩ (v10)).setCell ⟨q, 11, none⟩ (v11)).setCell ⟨q, 12, none⟩ (v12)).setCell ⟨q, 13, none⟩ (v13)).ownsRow base e 1 v n xs :=
  (ownsRow_setCell_other ((ownsRow_setCell_other ((ownsRow_setCell_other ((ownsRow_setCell_other ((ownsRow_setCell_other ((ownsRow_setCell_other ((ownsRow_setCell_other ((ownsRow_setCell_other ((ownsRow_setCell_other ((ownsRow_setCell_other ((ownsRow_setCell_other ((ownsRow_setCell_other ((ownsRow_setCell_other ((ownsRow_setCell_other (h) (hq) _)) (hq) _)) (hq) _)) (hq) _)) (hq) _)) (hq) _)) (hq) _)) (hq) _)) (hq) _)) (hq) _)) (hq) _)) (hq) _)) (hq) _)) (hq) _)

set_option maxRecDepth 100000 in
set_option maxHeartbeats 4000000 in
theorem l03Give_any (W H : Int) (R : Bool) (a : Option Addr) (n c : Nat) (W' H' : Int) (R' : Bool) (a' : Option Addr) (n' c' : Nat) (f1 f2 f3 f4 f5 : Nat) (k : Int) (xs xs' : List Nat) (hz : xs.length = n) (hz' : xs'.length = n') (hn : n ≤ 1048576) (hn' : n' ≤ 1048576) (w : World) (hA : VArr w a (flts xs)) (hA' : VArr w a' (flts xs')) :
    Calls Try.prog 112 #[.agg #[.int .i64 W, .int .i64 H, .bool R, .slice a n c, .int .i64 W', .int .i64 H', .bool R', .slice a' n' c', .float .f32 f1, .float .f32 f2, .float .f32 f3, .float .f32 f4, .float .f32 f5, .int .i64 k]] w fun e w' => (vldM W H R n W' H' R' n' xs xs' f1 f2 f3 f4 f5 k = true ∧ e = .returned (.tuple #[.agg #[.int .i64 W, .int .i64 H, .bool R, .slice a n c, .int .i64 W', .int .i64 H', .bool R', .slice a' n' c', .float .f32 f1, .float .f32 f2, .float .f32 f3, .float .f32 f4, .float .f32 f5, .int .i64 k], .bool true]) ∧ Ext w w') ∨ (vldM W H R n W' H' R' n' xs xs' f1 f2 f3 f4 f5 k = false ∧ e = .returned (.tuple #[.agg #[.int .i64 0, .int .i64 0, .bool false, .slice none 0 0, .int .i64 0, .int .i64 0, .bool false, .slice none 0 0, .float .f32 0, .float .f32 0, .float .f32 0, .float .f32 0, .float .f32 0, .int .i64 0], .bool false]) ∧ Ext w w') := by
  have hX := ((Ext.refl w).alloc (.cells #[.int .i64 W, .int .i64 H, .bool R, .slice a n c, .int .i64 W', .int .i64 H', .bool R', .slice a' n' c', .float .f32 f1, .float .f32 f2, .float .f32 f3, .float .f32 f4, .float .f32 f5, .int .i64 k] 62)).alloc (.cells #[.int .i64 0, .int .i64 0, .bool false, .slice none 0 0, .int .i64 0, .int .i64 0, .bool false, .slice none 0 0, .float .f32 0, .float .f32 0, .float .f32 0, .float .f32 0, .float .f32 0, .int .i64 0] 62)
  have b0 := heap_mid1 w (.cells #[.int .i64 W, .int .i64 H, .bool R, .slice a n c, .int .i64 W', .int .i64 H', .bool R', .slice a' n' c', .float .f32 f1, .float .f32 f2, .float .f32 f3, .float .f32 f4, .float .f32 f5, .int .i64 k] 62) (.cells #[.int .i64 0, .int .i64 0, .bool false, .slice none 0 0, .int .i64 0, .int .i64 0, .bool false, .slice none 0 0, .float .f32 0, .float .f32 0, .float .f32 0, .float .f32 0, .float .f32 0, .int .i64 0] 62)
  have b1 := heap_new1 w (.cells #[.int .i64 W, .int .i64 H, .bool R, .slice a n c, .int .i64 W', .int .i64 H', .bool R', .slice a' n' c', .float .f32 f1, .float .f32 f2, .float .f32 f3, .float .f32 f4, .float .f32 f5, .int .i64 k] 62) (.cells #[.int .i64 0, .int .i64 0, .bool false, .slice none 0 0, .int .i64 0, .int .i64 0, .bool false, .slice none 0 0, .float .f32 0, .float .f32 0, .float .f32 0, .float .f32 0, .float .f32 0, .int .i64 0] 62)
  go_enter Try.func112, Try.ntmps112
  go_wp2_with fail
  refine (l03Is_any _ W H R a n c W' H' R' a' n' c' f1 f2 f3 f4 f5 k xs xs' hz hz' hn hn' _ b0 (hA.ext hX) (hA'.ext hX)).mono ?_
  generalize (w.alloc (.cells #[.int .i64 W, .int .i64 H, .bool R, .slice a n c, .int .i64 W', .int .i64 H', .bool R', .slice a' n' c', .float .f32 f1, .float .f32 f2, .float .f32 f3, .float .f32 f4, .float .f32 f5, .int .i64 k] 62)).alloc (.cells #[.int .i64 0, .int .i64 0, .bool false, .slice none 0 0, .int .i64 0, .int .i64 0, .bool false, .slice none 0 0, .float .f32 0, .float .f32 0, .float .f32 0, .float .f32 0, .float .f32 0, .int .i64 0] 62) = w0 at *
  rintro e w1 ⟨rfl, hX1⟩
  have HX := Lib.hid (hX.trans hX1)
  have B0 := Lib.hid (hX1.block b0)
  have B1 := Lib.hid (hX1.block b1)
  clear hX hX1 b0 b1 hA hA'
  cases hv : vldM W H R n W' H' R' n' xs xs' f1 f2 f3 f4 f5 k with
  | false =>
    have HV := Lib.hid hv
    clear hv
    obtain ⟨⟨d0, d1, d2, d3, d4, d5, d6, d7, d8, d9, d10, d11, d12, d13⟩, fd0, fd1, fd2, fd3, fd4, fd5, fd6, fd7, fd8, fd9, fd10, fd11, fd12, fd13⟩ := block14 (B1.out)
    go_wp2
    refine bodyPost_ret (v := .tuple #[.agg #[.int .i64 0, .int .i64 0, .bool false, .slice none 0 0, .int .i64 0, .int .i64 0, .bool false, .slice none 0 0, .float .f32 0, .float .f32 0, .float .f32 0, .float .f32 0, .float .f32 0, .int .i64 0], .bool false]) ?_ rfl (Or.inr ⟨HV.out, rfl, fill14_ext HX.out (show w.heap.size ≤ w.heap.size + 1 by omega) _ _ _ _ _ _ _ _ _ _ _ _ _ _⟩)
    simp only [results, Try.results112]
    go_simp
  | true =>
    have HV := Lib.hid hv
    clear hv
    obtain ⟨⟨c0, c1, c2, c3, c4, c5, c6, c7, c8, c9, c10, c11, c12, c13⟩, _⟩ := block14 (B0.out)
    obtain ⟨⟨d0, d1, d2, d3, d4, d5, d6, d7, d8, d9, d10, d11, d12, d13⟩, fd0, fd1, fd2, fd3, fd4, fd5, fd6, fd7, fd8, fd9, fd10, fd11, fd12, fd13⟩ := block14 (B1.out)
    go_wp2
    refine bodyPost_ret (v := .tuple #[.agg #[.int .i64 W, .int .i64 H, .bool R, .slice a n c, .int .i64 W', .int .i64 H', .bool R', .slice a' n' c', .float .f32 f1, .float .f32 f2, .float .f32 f3, .float .f32 f4, .float .f32 f5, .int .i64 k], .bool true]) ?_ rfl (Or.inl ⟨HV.out, rfl, fill14_ext HX.out (show w.heap.size ≤ w.heap.size + 1 by omega) _ _ _ _ _ _ _ _ _ _ _ _ _ _⟩)
    simp only [results, Try.results112]
    go_simp

set_option maxRecDepth 100000 in
set_option maxHeartbeats 16000000 in
theorem cloned_any (W H : Int) (R : Bool) (a : Option Addr) (n c : Nat) (W' H' : Int) (R' : Bool) (a' : Option Addr) (n' c' : Nat) (f1 f2 f3 f4 f5 : Nat) (k : Int) (xs xs' : List Nat) (hz : xs.length = n) (hz' : xs'.length = n') (hn : n ≤ 1048576) (hn' : n' ≤ 1048576) (w : World) (hn0 : 1 ≤ n) (hn0' : 1 ≤ n') (hA : VArr w a (flts xs)) (hA' : VArr w a' (flts xs')) :
    Calls Try.prog 113 #[.agg #[.int .i64 W, .int .i64 H, .bool R, .slice a n c, .int .i64 W', .int .i64 H', .bool R', .slice a' n' c', .float .f32 f1, .float .f32 f2, .float .f32 f3, .float .f32 f4, .float .f32 f5, .int .i64 k]] w fun e w' => (vldM W H R n W' H' R' n' xs xs' f1 f2 f3 f4 f5 k = false ∧ e = .returned (.tuple #[.agg #[.int .i64 0, .int .i64 0, .bool false, .slice none 0 0, .int .i64 0, .int .i64 0, .bool false, .slice none 0 0, .float .f32 0, .float .f32 0, .float .f32 0, .float .f32 0, .float .f32 0, .int .i64 0], .bool false]) ∧ Ext w w') ∨ (vldM W H R n W' H' R' n' xs xs' f1 f2 f3 f4 f5 k = true ∧ ∃ aX cX aY cY, e = .returned (.tuple #[.agg #[.int .i64 W, .int .i64 H, .bool R, .slice aX n cX, .int .i64 W', .int .i64 H', .bool R', .slice aY n' cY, .float .f32 f1, .float .f32 f2, .float .f32 f3, .float .f32 f4, .float .f32 f5, .int .i64 k], .bool true]) ∧ Ext w w' ∧ w'.ownsRow w.heap.size 28 1 (.slice aX n cX) n (flts xs) ∧ w'.ownsRow w.heap.size 28 1 (.slice aY n' cY) n' (flts xs') ∧ ∀ g, (Value.slice aX n cX).ownBlock = some g → (Value.slice aY n' cY).ownBlock ≠ some g) := by
  have hX := ((Ext.refl w).alloc (.cells #[.int .i64 W, .int .i64 H, .bool R, .slice a n c, .int .i64 W', .int .i64 H', .bool R', .slice a' n' c', .float .f32 f1, .float .f32 f2, .float .f32 f3, .float .f32 f4, .float .f32 f5, .int .i64 k] 62)).alloc (.cells #[.int .i64 0, .int .i64 0, .bool false, .slice none 0 0, .int .i64 0, .int .i64 0, .bool false, .slice none 0 0, .float .f32 0, .float .f32 0, .float .f32 0, .float .f32 0, .float .f32 0, .int .i64 0] 62)
  have b0 := heap_mid1 w (.cells #[.int .i64 W, .int .i64 H, .bool R, .slice a n c, .int .i64 W', .int .i64 H', .bool R', .slice a' n' c', .float .f32 f1, .float .f32 f2, .float .f32 f3, .float .f32 f4, .float .f32 f5, .int .i64 k] 62) (.cells #[.int .i64 0, .int .i64 0, .bool false, .slice none 0 0, .int .i64 0, .int .i64 0, .bool false, .slice none 0 0, .float .f32 0, .float .f32 0, .float .f32 0, .float .f32 0, .float .f32 0, .int .i64 0] 62)
  have b1 := heap_new1 w (.cells #[.int .i64 W, .int .i64 H, .bool R, .slice a n c, .int .i64 W', .int .i64 H', .bool R', .slice a' n' c', .float .f32 f1, .float .f32 f2, .float .f32 f3, .float .f32 f4, .float .f32 f5, .int .i64 k] 62) (.cells #[.int .i64 0, .int .i64 0, .bool false, .slice none 0 0, .int .i64 0, .int .i64 0, .bool false, .slice none 0 0, .float .f32 0, .float .f32 0, .float .f32 0, .float .f32 0, .float .f32 0, .int .i64 0] 62)
  obtain ⟨⟨c0, c1, c2, c3, c4, c5, c6, c7, c8, c9, c10, c11, c12, c13⟩, _⟩ := block14 (b0)
  go_enter Try.func113, Try.ntmps113
  go_wp2_with fail
  clear c0 c1 c2 c3 c4 c5 c6 c7 c8 c9 c10 c11 c12 c13
  refine (implValidM_any W H R a n c W' H' R' a' n' c' f1 f2 f3 f4 f5 k xs xs' hz hz' hn hn' _ (hA.ext hX) (hA'.ext hX)).mono ?_
  generalize (w.alloc (.cells #[.int .i64 W, .int .i64 H, .bool R, .slice a n c, .int .i64 W', .int .i64 H', .bool R', .slice a' n' c', .float .f32 f1, .float .f32 f2, .float .f32 f3, .float .f32 f4, .float .f32 f5, .int .i64 k] 62)).alloc (.cells #[.int .i64 0, .int .i64 0, .bool false, .slice none 0 0, .int .i64 0, .int .i64 0, .bool false, .slice none 0 0, .float .f32 0, .float .f32 0, .float .f32 0, .float .f32 0, .float .f32 0, .int .i64 0] 62) = w0 at *
  rintro e w1 ⟨rfl, hX1⟩
  have HX := Lib.hid (hX.trans hX1)
  have B0 := Lib.hid (hX1.block b0)
  have B1 := Lib.hid (hX1.block b1)
  clear hX1 b0 b1
  cases hv : vldM W H R n W' H' R' n' xs xs' f1 f2 f3 f4 f5 k with
  | false =>
    have HV := Lib.hid hv
    clear hv
    obtain ⟨⟨d0, d1, d2, d3, d4, d5, d6, d7, d8, d9, d10, d11, d12, d13⟩, fd0, fd1, fd2, fd3, fd4, fd5, fd6, fd7, fd8, fd9, fd10, fd11, fd12, fd13⟩ := block14 (B1.out)
    go_wp2
    refine bodyPost_ret (v := .tuple #[.agg #[.int .i64 0, .int .i64 0, .bool false, .slice none 0 0, .int .i64 0, .int .i64 0, .bool false, .slice none 0 0, .float .f32 0, .float .f32 0, .float .f32 0, .float .f32 0, .float .f32 0, .int .i64 0], .bool false]) ?_ rfl (Or.inl ⟨HV.out, rfl, fill14_ext HX.out (show w.heap.size ≤ w.heap.size + 1 by omega) _ _ _ _ _ _ _ _ _ _ _ _ _ _⟩)
    simp only [results, Try.results113]
    go_simp
  | true =>
    have HV := Lib.hid hv
    clear hv
    obtain ⟨bX, oX, rfl⟩ := hA.starts (i := 0) (by simp; omega)
    obtain ⟨bY, oY, rfl⟩ := hA'.starts (i := 0) (by simp; omega)
    have HZ := Lib.hid hz
    have HZ' := Lib.hid hz'
    have HA := Lib.hid (hA.ext HX.out)
    have HA' := Lib.hid (hA'.ext HX.out)
    have BD := B0
    have RD := B1
    clear hz hz' hA hA' hX
    go_wp2_with fail
    refine wp_region_any (by kernel_rfl) ?_
    change wpAny _ _ _ _ _ _ _ w1.drew
    have Ewd : Hid (Ext w1 w1.drew) := (Ext.refl w1).drew
    generalize w1.drew = wd at *
    refine wpAny_take (i := 0) (v := ?_) rfl (by kernel_rfl) (by kernel_rfl) (by kernel_rfl) (fun _ _ _ h => h) (Or.inl ⟨by rfl, ?_⟩) ?_
    rotate_left
    · intro w; go_simp
      rfl
    refine wpAny_take (i := 1) (v := ?_) rfl (by kernel_rfl) (by kernel_rfl) (by kernel_rfl) (fun _ _ _ h => h) (Or.inl ⟨by rfl, ?_⟩) ?_
    rotate_left
    · intro w; go_simp
      rfl
    refine wpAny_take (i := 4) (v := ?_) rfl (by kernel_rfl) (by kernel_rfl) (by kernel_rfl) (fun _ _ _ h => h) (Or.inl ⟨by rfl, ?_⟩) ?_
    rotate_left
    · intro w; go_simp
      rfl
    refine wpAny_take (i := 5) (v := ?_) rfl (by kernel_rfl) (by kernel_rfl) (by kernel_rfl) (fun _ _ _ h => h) (Or.inl ⟨by rfl, ?_⟩) ?_
    rotate_left
    · intro w; go_simp
      rfl
    refine wpAny_ready (rs := [2, 6]) (by kernel_rfl) (by simp) (AllReady.cons rfl (fun K hK => ?_) (AllReady.cons rfl (fun K hK => ?_) AllReady.nil))
    · obtain ⟨m0, m1, m2, m3, m4, m5, m6, m7, m8, m9, m10, m11, m12, m13⟩ := (block14 (Ewd.out.block BD.out)).1
      go_simp
      refine hK _ _ ?_
      clear hK K m0 m1 m2 m3 m4 m5 m6 m7 m8 m9 m10 m11 m12 m13
      refine wpAny_ready (rs := [3, 6]) (by kernel_rfl) (by simp) (AllReady.cons rfl (fun K hK => ?_) (AllReady.cons rfl (fun K hK => ?_) AllReady.nil))
      · go_simp
        refine (cloneF_any bX oX n c xs HZ.out hn _ (HA.out.ext Ewd.out)).mono ?_
        rintro e wdX ⟨aX, cX, rfl, hXX, hOX⟩
        have EwdX := Lib.hid (Ewd.out.trans hXX)
        have OX := Lib.hid hOX
        clear hXX hOX
        go_simp
        refine hK _ _ ?_
        clear hK K
        refine wpAny_ready (rs := [6]) (by kernel_rfl) (by simp) (AllReady.cons rfl (fun K hK => ?_) AllReady.nil)
        obtain ⟨m0, m1, m2, m3, m4, m5, m6, m7, m8, m9, m10, m11, m12, m13⟩ := (block14 (EwdX.out.block BD.out)).1
        go_simp
        refine hK _ _ ?_
        clear hK K m0 m1 m2 m3 m4 m5 m6 m7 m8 m9 m10 m11 m12 m13
        refine wpAny_take (i := 8) (v := ?_) rfl (by kernel_rfl) (by kernel_rfl) (by kernel_rfl) (fun _ _ _ h => h) (Or.inl ⟨by rfl, ?_⟩) ?_
        rotate_left
        · intro w; go_simp
          rfl
        refine wpAny_take (i := 9) (v := ?_) rfl (by kernel_rfl) (by kernel_rfl) (by kernel_rfl) (fun _ _ _ h => h) (Or.inl ⟨by rfl, ?_⟩) ?_
        rotate_left
        · intro w; go_simp
          rfl
        refine wpAny_ready (rs := [7]) (by kernel_rfl) (by simp) (AllReady.cons rfl (fun K hK => ?_) AllReady.nil)
        go_simp
        refine (cloneF_any bY oY n' c' xs' HZ'.out hn' _ (HA'.out.ext EwdX.out)).mono ?_
        rintro e wdXY ⟨aY, cY, rfl, hXY, hOY⟩
        have EwdXY := Lib.hid (EwdX.out.trans hXY)
        have OY := Lib.hid hOY
        have OX2 := Lib.hid (ownsRow_ext OX.out hXY)
        have HAP : Hid (∀ g, (Value.slice aX n cX).ownBlock = some g → (Value.slice aY n' cY).ownBlock ≠ some g) := fun g h1 h2 => by
          have q1 := (OX.out.lt g h1).2
          have q2 := (hOY.lt g h2).1
          omega
        clear hXY hOY
        go_simp
        refine hK _ _ ?_
        clear hK K
        refine wpAny_of_seq _ 10 _ _ _ (fun j => ?_) (by kernel_rfl) ?_
        · rcases j with _ | _ | _ | _ | j
          · rfl
          · rfl
          · rfl
          · rfl
          · exact (List.getElem?_eq_none (by simp)).trans (Array.getElem?_eq_none (by simp; omega)).symm
        have BM := EwdXY.out.block BD.out
        have BR := EwdXY.out.block RD.out
        have B2 := cells_setCell (cells_setCell BM (i := 3) (.slice aX n cX)) (i := 7) (.slice aY n' cY)
        have R2 := keepBlock (keepBlock BR (show w.heap.size + 1 ≠ w.heap.size by omega) (j := 3) (.slice aX n cX)) (show w.heap.size + 1 ≠ w.heap.size by omega) (j := 7) (.slice aY n' cY)
        have B3 : ((wdXY.setCell ⟨w.heap.size, 3, none⟩ (.slice aX n cX)).setCell ⟨w.heap.size, 7, none⟩ (.slice aY n' cY)).heap[w.heap.size]? = some (.cells #[.int .i64 W, .int .i64 H, .bool R, .slice aX n cX, .int .i64 W', .int .i64 H', .bool R', .slice aY n' cY, .float .f32 f1, .float .f32 f2, .float .f32 f3, .float .f32 f4, .float .f32 f5, .int .i64 k] 62 (0, 0)) := by simpa using B2
        have nX := row_ne (by decide) OX2.out BM
        have nY := row_ne (by decide) OY.out BM
        have nX1 := row_ne (by decide) OX2.out BR
        have nY1 := row_ne (by decide) OY.out BR
        have RX := Lib.hid (fill14_row (ownsRow_setCell_other (ownsRow_setCell_other OX2.out (a := ⟨w.heap.size, 3, none⟩) nX (.slice aX n cX)) (a := ⟨w.heap.size, 7, none⟩) nX (.slice aY n' cY)) nX1 (.int .i64 W) (.int .i64 H) (.bool R) (.slice aX n cX) (.int .i64 W') (.int .i64 H') (.bool R') (.slice aY n' cY) (.float .f32 f1) (.float .f32 f2) (.float .f32 f3) (.float .f32 f4) (.float .f32 f5) (.int .i64 k))
        have RY := Lib.hid (fill14_row (ownsRow_setCell_other (ownsRow_setCell_other OY.out (a := ⟨w.heap.size, 3, none⟩) nY (.slice aX n cX)) (a := ⟨w.heap.size, 7, none⟩) nY (.slice aY n' cY)) nY1 (.int .i64 W) (.int .i64 H) (.bool R) (.slice aX n cX) (.int .i64 W') (.int .i64 H') (.bool R') (.slice aY n' cY) (.float .f32 f1) (.float .f32 f2) (.float .f32 f3) (.float .f32 f4) (.float .f32 f5) (.int .i64 k))
        have EE := Lib.hid (fill14_ext (Below.setCell (p := ⟨w.heap.size, 7, none⟩) (Below.setCell (p := ⟨w.heap.size, 3, none⟩) (HX.out.trans EwdXY.out) (Nat.le_refl _) (.slice aX n cX)) (Nat.le_refl _) (.slice aY n' cY)) (show w.heap.size ≤ w.heap.size + 1 by omega) (.int .i64 W) (.int .i64 H) (.bool R) (.slice aX n cX) (.int .i64 W') (.int .i64 H') (.bool R') (.slice aY n' cY) (.float .f32 f1) (.float .f32 f2) (.float .f32 f3) (.float .f32 f4) (.float .f32 f5) (.int .i64 k))
        obtain ⟨_, fm0, fm1, fm2, fm3, fm4, fm5, fm6, fm7, fm8, fm9, fm10, fm11, fm12, fm13⟩ := block14 BM
        obtain ⟨⟨e0, e1, e2, e3, e4, e5, e6, e7, e8, e9, e10, e11, e12, e13⟩, _⟩ := block14 (B3)
        obtain ⟨⟨d0, d1, d2, d3, d4, d5, d6, d7, d8, d9, d10, d11, d12, d13⟩, fd0, fd1, fd2, fd3, fd4, fd5, fd6, fd7, fd8, fd9, fd10, fd11, fd12, fd13⟩ := block14 (R2)
        clear B2 B3 R2 BM BR nX nY nX1 nY1
        go_simp
        go_wp2
        refine bodyPost_ret (v := .tuple #[.agg #[.int .i64 W, .int .i64 H, .bool R, .slice aX n cX, .int .i64 W', .int .i64 H', .bool R', .slice aY n' cY, .float .f32 f1, .float .f32 f2, .float .f32 f3, .float .f32 f4, .float .f32 f5, .int .i64 k], .bool true]) ?_ rfl (Or.inr ⟨HV.out, aX, cX, aY, cY, rfl, EE.out, ownsRow_mono RX.out (HX.out.trans Ewd.out).size, ownsRow_mono RY.out (HX.out.trans EwdX.out).size, HAP.out⟩)
        simp only [results, Try.results113]
        go_simp
      · obtain ⟨m0, m1, m2, m3, m4, m5, m6, m7, m8, m9, m10, m11, m12, m13⟩ := (block14 (Ewd.out.block BD.out)).1
        go_simp
        refine hK _ _ ?_
        clear hK K m0 m1 m2 m3 m4 m5 m6 m7 m8 m9 m10 m11 m12 m13
        refine wpAny_ready (rs := [3]) (by kernel_rfl) (by simp) (AllReady.cons rfl (fun K hK => ?_) AllReady.nil)
        go_simp
        refine (cloneF_any bX oX n c xs HZ.out hn _ (HA.out.ext Ewd.out)).mono ?_
        rintro e wdX ⟨aX, cX, rfl, hXX, hOX⟩
        have EwdX := Lib.hid (Ewd.out.trans hXX)
        have OX := Lib.hid hOX
        clear hXX hOX
        go_simp
        refine hK _ _ ?_
        clear hK K
        refine wpAny_take (i := 8) (v := ?_) rfl (by kernel_rfl) (by kernel_rfl) (by kernel_rfl) (fun _ _ _ h => h) (Or.inl ⟨by rfl, ?_⟩) ?_
        rotate_left
        · intro w; go_simp
          rfl
        refine wpAny_take (i := 9) (v := ?_) rfl (by kernel_rfl) (by kernel_rfl) (by kernel_rfl) (fun _ _ _ h => h) (Or.inl ⟨by rfl, ?_⟩) ?_
        rotate_left
        · intro w; go_simp
          rfl
        refine wpAny_ready (rs := [7]) (by kernel_rfl) (by simp) (AllReady.cons rfl (fun K hK => ?_) AllReady.nil)
        go_simp
        refine (cloneF_any bY oY n' c' xs' HZ'.out hn' _ (HA'.out.ext EwdX.out)).mono ?_
        rintro e wdXY ⟨aY, cY, rfl, hXY, hOY⟩
        have EwdXY := Lib.hid (EwdX.out.trans hXY)
        have OY := Lib.hid hOY
        have OX2 := Lib.hid (ownsRow_ext OX.out hXY)
        have HAP : Hid (∀ g, (Value.slice aX n cX).ownBlock = some g → (Value.slice aY n' cY).ownBlock ≠ some g) := fun g h1 h2 => by
          have q1 := (OX.out.lt g h1).2
          have q2 := (hOY.lt g h2).1
          omega
        clear hXY hOY
        go_simp
        refine hK _ _ ?_
        clear hK K
        refine wpAny_of_seq _ 10 _ _ _ (fun j => ?_) (by kernel_rfl) ?_
        · rcases j with _ | _ | _ | _ | j
          · rfl
          · rfl
          · rfl
          · rfl
          · exact (List.getElem?_eq_none (by simp)).trans (Array.getElem?_eq_none (by simp; omega)).symm
        have BM := EwdXY.out.block BD.out
        have BR := EwdXY.out.block RD.out
        have B2 := cells_setCell (cells_setCell BM (i := 3) (.slice aX n cX)) (i := 7) (.slice aY n' cY)
        have R2 := keepBlock (keepBlock BR (show w.heap.size + 1 ≠ w.heap.size by omega) (j := 3) (.slice aX n cX)) (show w.heap.size + 1 ≠ w.heap.size by omega) (j := 7) (.slice aY n' cY)
        have B3 : ((wdXY.setCell ⟨w.heap.size, 3, none⟩ (.slice aX n cX)).setCell ⟨w.heap.size, 7, none⟩ (.slice aY n' cY)).heap[w.heap.size]? = some (.cells #[.int .i64 W, .int .i64 H, .bool R, .slice aX n cX, .int .i64 W', .int .i64 H', .bool R', .slice aY n' cY, .float .f32 f1, .float .f32 f2, .float .f32 f3, .float .f32 f4, .float .f32 f5, .int .i64 k] 62 (0, 0)) := by simpa using B2
        have nX := row_ne (by decide) OX2.out BM
        have nY := row_ne (by decide) OY.out BM
        have nX1 := row_ne (by decide) OX2.out BR
        have nY1 := row_ne (by decide) OY.out BR
        have RX := Lib.hid (fill14_row (ownsRow_setCell_other (ownsRow_setCell_other OX2.out (a := ⟨w.heap.size, 3, none⟩) nX (.slice aX n cX)) (a := ⟨w.heap.size, 7, none⟩) nX (.slice aY n' cY)) nX1 (.int .i64 W) (.int .i64 H) (.bool R) (.slice aX n cX) (.int .i64 W') (.int .i64 H') (.bool R') (.slice aY n' cY) (.float .f32 f1) (.float .f32 f2) (.float .f32 f3) (.float .f32 f4) (.float .f32 f5) (.int .i64 k))
        have RY := Lib.hid (fill14_row (ownsRow_setCell_other (ownsRow_setCell_other OY.out (a := ⟨w.heap.size, 3, none⟩) nY (.slice aX n cX)) (a := ⟨w.heap.size, 7, none⟩) nY (.slice aY n' cY)) nY1 (.int .i64 W) (.int .i64 H) (.bool R) (.slice aX n cX) (.int .i64 W') (.int .i64 H') (.bool R') (.slice aY n' cY) (.float .f32 f1) (.float .f32 f2) (.float .f32 f3) (.float .f32 f4) (.float .f32 f5) (.int .i64 k))
        have EE := Lib.hid (fill14_ext (Below.setCell (p := ⟨w.heap.size, 7, none⟩) (Below.setCell (p := ⟨w.heap.size, 3, none⟩) (HX.out.trans EwdXY.out) (Nat.le_refl _) (.slice aX n cX)) (Nat.le_refl _) (.slice aY n' cY)) (show w.heap.size ≤ w.heap.size + 1 by omega) (.int .i64 W) (.int .i64 H) (.bool R) (.slice aX n cX) (.int .i64 W') (.int .i64 H') (.bool R') (.slice aY n' cY) (.float .f32 f1) (.float .f32 f2) (.float .f32 f3) (.float .f32 f4) (.float .f32 f5) (.int .i64 k))
        obtain ⟨_, fm0, fm1, fm2, fm3, fm4, fm5, fm6, fm7, fm8, fm9, fm10, fm11, fm12, fm13⟩ := block14 BM
        obtain ⟨⟨e0, e1, e2, e3, e4, e5, e6, e7, e8, e9, e10, e11, e12, e13⟩, _⟩ := block14 (B3)
        obtain ⟨⟨d0, d1, d2, d3, d4, d5, d6, d7, d8, d9, d10, d11, d12, d13⟩, fd0, fd1, fd2, fd3, fd4, fd5, fd6, fd7, fd8, fd9, fd10, fd11, fd12, fd13⟩ := block14 (R2)
        clear B2 B3 R2 BM BR nX nY nX1 nY1
        go_simp
        go_wp2
        refine bodyPost_ret (v := .tuple #[.agg #[.int .i64 W, .int .i64 H, .bool R, .slice aX n cX, .int .i64 W', .int .i64 H', .bool R', .slice aY n' cY, .float .f32 f1, .float .f32 f2, .float .f32 f3, .float .f32 f4, .float .f32 f5, .int .i64 k], .bool true]) ?_ rfl (Or.inr ⟨HV.out, aX, cX, aY, cY, rfl, EE.out, ownsRow_mono RX.out (HX.out.trans Ewd.out).size, ownsRow_mono RY.out (HX.out.trans EwdX.out).size, HAP.out⟩)
        simp only [results, Try.results113]
        go_simp
    · obtain ⟨m0, m1, m2, m3, m4, m5, m6, m7, m8, m9, m10, m11, m12, m13⟩ := (block14 (Ewd.out.block BD.out)).1
      go_simp
      refine hK _ _ ?_
      clear hK K m0 m1 m2 m3 m4 m5 m6 m7 m8 m9 m10 m11 m12 m13
      refine wpAny_ready (rs := [2]) (by kernel_rfl) (by simp) (AllReady.cons rfl (fun K hK => ?_) AllReady.nil)
      obtain ⟨m0, m1, m2, m3, m4, m5, m6, m7, m8, m9, m10, m11, m12, m13⟩ := (block14 (Ewd.out.block BD.out)).1
      go_simp
      refine hK _ _ ?_
      clear hK K m0 m1 m2 m3 m4 m5 m6 m7 m8 m9 m10 m11 m12 m13
      refine wpAny_ready (rs := [3]) (by kernel_rfl) (by simp) (AllReady.cons rfl (fun K hK => ?_) AllReady.nil)
      go_simp
      refine (cloneF_any bX oX n c xs HZ.out hn _ (HA.out.ext Ewd.out)).mono ?_
      rintro e wdX ⟨aX, cX, rfl, hXX, hOX⟩
      have EwdX := Lib.hid (Ewd.out.trans hXX)
      have OX := Lib.hid hOX
      clear hXX hOX
      go_simp
      refine hK _ _ ?_
      clear hK K
      refine wpAny_take (i := 8) (v := ?_) rfl (by kernel_rfl) (by kernel_rfl) (by kernel_rfl) (fun _ _ _ h => h) (Or.inl ⟨by rfl, ?_⟩) ?_
      rotate_left
      · intro w; go_simp
        rfl
      refine wpAny_take (i := 9) (v := ?_) rfl (by kernel_rfl) (by kernel_rfl) (by kernel_rfl) (fun _ _ _ h => h) (Or.inl ⟨by rfl, ?_⟩) ?_
      rotate_left
      · intro w; go_simp
        rfl
      refine wpAny_ready (rs := [7]) (by kernel_rfl) (by simp) (AllReady.cons rfl (fun K hK => ?_) AllReady.nil)
      go_simp
      refine (cloneF_any bY oY n' c' xs' HZ'.out hn' _ (HA'.out.ext EwdX.out)).mono ?_
      rintro e wdXY ⟨aY, cY, rfl, hXY, hOY⟩
      have EwdXY := Lib.hid (EwdX.out.trans hXY)
      have OY := Lib.hid hOY
      have OX2 := Lib.hid (ownsRow_ext OX.out hXY)
      have HAP : Hid (∀ g, (Value.slice aX n cX).ownBlock = some g → (Value.slice aY n' cY).ownBlock ≠ some g) := fun g h1 h2 => by
        have q1 := (OX.out.lt g h1).2
        have q2 := (hOY.lt g h2).1
        omega
      clear hXY hOY
      go_simp
      refine hK _ _ ?_
      clear hK K
      refine wpAny_of_seq _ 10 _ _ _ (fun j => ?_) (by kernel_rfl) ?_
      · rcases j with _ | _ | _ | _ | j
        · rfl
        · rfl
        · rfl
        · rfl
        · exact (List.getElem?_eq_none (by simp)).trans (Array.getElem?_eq_none (by simp; omega)).symm
      have BM := EwdXY.out.block BD.out
      have BR := EwdXY.out.block RD.out
      have B2 := cells_setCell (cells_setCell BM (i := 3) (.slice aX n cX)) (i := 7) (.slice aY n' cY)
      have R2 := keepBlock (keepBlock BR (show w.heap.size + 1 ≠ w.heap.size by omega) (j := 3) (.slice aX n cX)) (show w.heap.size + 1 ≠ w.heap.size by omega) (j := 7) (.slice aY n' cY)
      have B3 : ((wdXY.setCell ⟨w.heap.size, 3, none⟩ (.slice aX n cX)).setCell ⟨w.heap.size, 7, none⟩ (.slice aY n' cY)).heap[w.heap.size]? = some (.cells #[.int .i64 W, .int .i64 H, .bool R, .slice aX n cX, .int .i64 W', .int .i64 H', .bool R', .slice aY n' cY, .float .f32 f1, .float .f32 f2, .float .f32 f3, .float .f32 f4, .float .f32 f5, .int .i64 k] 62 (0, 0)) := by simpa using B2
      have nX := row_ne (by decide) OX2.out BM
      have nY := row_ne (by decide) OY.out BM
      have nX1 := row_ne (by decide) OX2.out BR
      have nY1 := row_ne (by decide) OY.out BR
      have RX := Lib.hid (fill14_row (ownsRow_setCell_other (ownsRow_setCell_other OX2.out (a := ⟨w.heap.size, 3, none⟩) nX (.slice aX n cX)) (a := ⟨w.heap.size, 7, none⟩) nX (.slice aY n' cY)) nX1 (.int .i64 W) (.int .i64 H) (.bool R) (.slice aX n cX) (.int .i64 W') (.int .i64 H') (.bool R') (.slice aY n' cY) (.float .f32 f1) (.float .f32 f2) (.float .f32 f3) (.float .f32 f4) (.float .f32 f5) (.int .i64 k))
      have RY := Lib.hid (fill14_row (ownsRow_setCell_other (ownsRow_setCell_other OY.out (a := ⟨w.heap.size, 3, none⟩) nY (.slice aX n cX)) (a := ⟨w.heap.size, 7, none⟩) nY (.slice aY n' cY)) nY1 (.int .i64 W) (.int .i64 H) (.bool R) (.slice aX n cX) (.int .i64 W') (.int .i64 H') (.bool R') (.slice aY n' cY) (.float .f32 f1) (.float .f32 f2) (.float .f32 f3) (.float .f32 f4) (.float .f32 f5) (.int .i64 k))
      have EE := Lib.hid (fill14_ext (Below.setCell (p := ⟨w.heap.size, 7, none⟩) (Below.setCell (p := ⟨w.heap.size, 3, none⟩) (HX.out.trans EwdXY.out) (Nat.le_refl _) (.slice aX n cX)) (Nat.le_refl _) (.slice aY n' cY)) (show w.heap.size ≤ w.heap.size + 1 by omega) (.int .i64 W) (.int .i64 H) (.bool R) (.slice aX n cX) (.int .i64 W') (.int .i64 H') (.bool R') (.slice aY n' cY) (.float .f32 f1) (.float .f32 f2) (.float .f32 f3) (.float .f32 f4) (.float .f32 f5) (.int .i64 k))
      obtain ⟨_, fm0, fm1, fm2, fm3, fm4, fm5, fm6, fm7, fm8, fm9, fm10, fm11, fm12, fm13⟩ := block14 BM
      obtain ⟨⟨e0, e1, e2, e3, e4, e5, e6, e7, e8, e9, e10, e11, e12, e13⟩, _⟩ := block14 (B3)
      obtain ⟨⟨d0, d1, d2, d3, d4, d5, d6, d7, d8, d9, d10, d11, d12, d13⟩, fd0, fd1, fd2, fd3, fd4, fd5, fd6, fd7, fd8, fd9, fd10, fd11, fd12, fd13⟩ := block14 (R2)
      clear B2 B3 R2 BM BR nX nY nX1 nY1
      go_simp
      go_wp2
      refine bodyPost_ret (v := .tuple #[.agg #[.int .i64 W, .int .i64 H, .bool R, .slice aX n cX, .int .i64 W', .int .i64 H', .bool R', .slice aY n' cY, .float .f32 f1, .float .f32 f2, .float .f32 f3, .float .f32 f4, .float .f32 f5, .int .i64 k], .bool true]) ?_ rfl (Or.inr ⟨HV.out, aX, cX, aY, cY, rfl, EE.out, ownsRow_mono RX.out (HX.out.trans Ewd.out).size, ownsRow_mono RY.out (HX.out.trans EwdX.out).size, HAP.out⟩)
      simp only [results, Try.results113]
      go_simp
end Go.Proofs.Ytajfpjggdbifjaa
