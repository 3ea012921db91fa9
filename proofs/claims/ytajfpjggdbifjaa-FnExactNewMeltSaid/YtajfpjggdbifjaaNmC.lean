/-
  NewMelt by the program and by the reference; a melt marked and held. (Printed by gen_newmelt2.py.)
-/
import Derived.Test.YtajfpjggdbifjaaNmB
import Derived.Test.YtajfpjggdbifjaaApB
namespace Go.Proofs.Ytajfpjggdbifjaa
open Go.RowKit
set_option linter.unusedVariables false
set_option linter.unusedSimpArgs false
set_option linter.unnecessarySimpa false

def newOk (W H : Int) (z : Nat) : Bool := szF W H && finB z
def kN (b : Bool) (x : Nat) : Nat := if b then x else 0
/-- A melt of one's own, and whether there is one. -/
def newM (w : World) (W H : Int) (R : Bool) (fs gs : List (Option Nat)) (f1 f2 f3 f4 f5 : Nat) (k : Int) (ok : Bool) (e : Ending) (w' : World) : Prop :=
  ∃ a n c xs b m d ys, e = .returned (.tuple #[.agg #[.int .i64 W, .int .i64 H, .bool R, .slice a n c, .int .i64 W, .int .i64 H, .bool R, .slice b m d, .float .f32 f1, .float .f32 f2, .float .f32 f3, .float .f32 f4, .float .f32 f5, .int .i64 k], .bool ok]) ∧ Ext w w' ∧ w'.ownsRow w.heap.size 28 1 (.slice a n c) n (flts xs) ∧ xs.length = n ∧ n ≤ 1048576 ∧ fas xs = fs ∧ w'.ownsRow w.heap.size 28 1 (.slice b m d) m (flts ys) ∧ ys.length = m ∧ m ≤ 1048576 ∧ fas ys = gs ∧ ∀ g, (Value.slice a n c).ownBlock = some g → (Value.slice b m d).ownBlock ≠ some g
def keepM (w : World) (ok : Bool) (W H : Int) (R : Bool) (z : Nat) (e : Ending) (w' : World) : Prop :=
  newM w (kI ok W) (kI ok H) (kB ok R) (kL ok (flatF W H 0)) (kL ok (flatF W H z)) (kN ok 1048576000) (kN ok 1056964608) (kN ok 1056964608) (kN ok 1065353216) 0 (kI ok 4) ok e w'
theorem keepM_no {w : World} {ok : Bool} {W H : Int} {R : Bool} {z : Nat} {e : Ending} {w' : World} (h : ok = false) (he : e = .returned (.tuple #[.agg #[.int .i64 0, .int .i64 0, .bool false, .slice none 0 0, .int .i64 0, .int .i64 0, .bool false, .slice none 0 0, .float .f32 0, .float .f32 0, .float .f32 0, .float .f32 0, .float .f32 0, .int .i64 0], .bool false])) (hX : Ext w w') : keepM w ok W H R z e w' := by
  unfold keepM; rw [h]
  exact ⟨none, 0, 0, [], none, 0, 0, [], he, hX, World.ownsRow_nil _ _ _ _, rfl, by omega, rfl, World.ownsRow_nil _ _ _ _, rfl, by omega, rfl, fun g hg => by simp [Value.ownBlock] at hg⟩
theorem keepM_yes {w : World} {ok : Bool} {W H : Int} {R : Bool} {z : Nat} {e : Ending} {w' : World} (h : ok = true) (k : newM w W H R (flatF W H 0) (flatF W H z) 1048576000 1056964608 1056964608 1065353216 0 4 true e w') : keepM w ok W H R z e w' := by
  unfold keepM; rw [h]; exact k

theorem specFlatY (W H : Int) (R : Bool) (z : Nat) (hs : szF W H = true) (w : World) : Calls Try.prog 111 #[.int .i64 W, .int .i64 H, .bool R, .float .f32 z] w (twoF w W H R (flatF W H z) true) := by
  have h := specFlatF_any W H R z w
  rw [hs] at h
  exact h
theorem specFlatYN (W H : Int) (R : Bool) (z : Nat) (hs : szF W H = false) (w : World) : Calls Try.prog 111 #[.int .i64 W, .int .i64 H, .bool R, .float .f32 z] w (twoF w 0 0 false [] false) := by
  have h := specFlatF_any W H R z w
  rw [hs] at h
  exact h

theorem implFlatY (W H : Int) (R : Bool) (z : Nat) (hs : szF W H = true) (w : World) : Calls Try.prog 21 #[.int .i64 W, .int .i64 H, .bool R, .float .f32 z] w (twoF w W H R (flatF W H z) true) := by
  have h := implFlatF_any W H R z w
  rw [hs] at h
  exact h
theorem implFlatYN (W H : Int) (R : Bool) (z : Nat) (hs : szF W H = false) (w : World) : Calls Try.prog 21 #[.int .i64 W, .int .i64 H, .bool R, .float .f32 z] w (twoF w 0 0 false [] false) := by
  have h := implFlatF_any W H R z w
  rw [hs] at h
  exact h

set_option maxRecDepth 100000 in
set_option maxHeartbeats 8000000 in
theorem specNew_any (W H : Int) (R : Bool) (z : Nat) (w : World) : Calls Try.prog 50 #[.int .i64 W, .int .i64 H, .bool R, .float .f32 z] w (keepM w (newOk W H z) W H R z) := by
  have hX0 := (Ext.refl w).alloc (.cells #[.int .i64 0, .int .i64 0, .bool false, .slice none 0 0, .int .i64 0, .int .i64 0, .bool false, .slice none 0 0, .float .f32 0, .float .f32 0, .float .f32 0, .float .f32 0, .float .f32 0, .int .i64 0] 62)
  have b0 := heap_new w (.cells #[.int .i64 0, .int .i64 0, .bool false, .slice none 0 0, .int .i64 0, .int .i64 0, .bool false, .slice none 0 0, .float .f32 0, .float .f32 0, .float .f32 0, .float .f32 0, .float .f32 0, .int .i64 0] 62)
  cases hs : szF W H with
  | false =>
    have HOK : Hid (newOk W H z = false) := by show _ = _; simp [newOk, hs]
    go_enter Try.func50, Try.ntmps50
    go_wp2_with fail
    refine (specFlatYN W H R 0 hs _).mono ?_
    generalize w.alloc (.cells #[.int .i64 0, .int .i64 0, .bool false, .slice none 0 0, .int .i64 0, .int .i64 0, .bool false, .slice none 0 0, .float .f32 0, .float .f32 0, .float .f32 0, .float .f32 0, .float .f32 0, .int .i64 0] 62) = w0 at *
    rintro e w1 ⟨a1, n1, c1, x1, rfl, hX1, _⟩
    have E1 := Lib.hid (hX0.trans hX1)
    have B1 := Lib.hid (hX1.block b0)
    clear hX0 hX1 b0
    have hYa := (Ext.refl w1).alloc (.cells #[.int .i64 0, .int .i64 0, .bool false, .slice a1 n1 c1] 26)
    go_wp2_with fail
    refine (specFlatYN W H R z hs _).mono ?_
    generalize w1.alloc (.cells #[.int .i64 0, .int .i64 0, .bool false, .slice a1 n1 c1] 26) = w2 at *
    rintro e w3 ⟨a2, n2, c2, x2, rfl, hX3, _⟩
    have E3 := Lib.hid (E1.out.trans (hYa.trans hX3))
    have B3 := Lib.hid ((hYa.trans hX3).block B1.out)
    clear hYa hX3
    have hYb := (Ext.refl w3).alloc (.cells #[.int .i64 0, .int .i64 0, .bool false, .slice a2 n2 c2] 26)
    have E4 := Lib.hid (E3.out.trans hYb)
    have B4 := hYb.block B3.out
    clear hYb
    have lb := lt_of_block B3.out
    obtain ⟨⟨d0, d1, d2, d3, d4, d5, d6, d7, d8, d9, d10, d11, d12, d13⟩, fd0, fd1, fd2, fd3, fd4, fd5, fd6, fd7, fd8, fd9, fd10, fd11, fd12, fd13⟩ := block14 (B3.out)
    go_wp2
    refine bodyPost_ret (v := .tuple #[.agg #[.int .i64 0, .int .i64 0, .bool false, .slice none 0 0, .int .i64 0, .int .i64 0, .bool false, .slice none 0 0, .float .f32 0, .float .f32 0, .float .f32 0, .float .f32 0, .float .f32 0, .int .i64 0], .bool false]) ?_ rfl (keepM_no HOK.out rfl ((fill14_ext E3.out (Nat.le_refl _) _ _ _ _ _ _ _ _ _ _ _ _ _ _).alloc _))
    simp only [results, Try.results50]
    go_simp
  | true =>
    go_enter Try.func50, Try.ntmps50
    go_wp2_with fail
    refine (specFlatY W H R 0 hs _).mono ?_
    generalize w.alloc (.cells #[.int .i64 0, .int .i64 0, .bool false, .slice none 0 0, .int .i64 0, .int .i64 0, .bool false, .slice none 0 0, .float .f32 0, .float .f32 0, .float .f32 0, .float .f32 0, .float .f32 0, .int .i64 0] 62) = w0 at *
    rintro e w1 ⟨a1, n1, c1, xs, rfl, hX1, hO1, hl1, hle1, hf1⟩
    have E1 := Lib.hid (hX0.trans hX1)
    have B1 := Lib.hid (hX1.block b0)
    have O1 := Lib.hid (ownsRow_mono hO1 hX0.size)
    clear hX0 hX1 b0 hO1
    have hYa := (Ext.refl w1).alloc (.cells #[.int .i64 W, .int .i64 H, .bool R, .slice a1 n1 c1] 26)
    have D1 := heap_new w1 (.cells #[.int .i64 W, .int .i64 H, .bool R, .slice a1 n1 c1] 26)
    go_wp2_with fail
    refine (specFlatY W H R z hs _).mono ?_
    generalize w1.alloc (.cells #[.int .i64 W, .int .i64 H, .bool R, .slice a1 n1 c1] 26) = w2 at *
    generalize w1.heap.size = q1 at *
    rintro e w3 ⟨a2, n2, c2, ys, rfl, hX3, hO2, hl2, hle2, hf2⟩
    have HAP : Hid (∀ g, (Value.slice a1 n1 c1).ownBlock = some g → (Value.slice a2 n2 c2).ownBlock ≠ some g) := fun g h1 h2 => by
      have p1 := (O1.out.lt g h1).2
      have p2 := (hO2.lt g h2).1
      have p3 := hYa.size
      omega
    have E3 := Lib.hid (E1.out.trans (hYa.trans hX3))
    have B3 := Lib.hid ((hYa.trans hX3).block B1.out)
    have O3 := Lib.hid (ownsRow_ext O1.out (hYa.trans hX3))
    have P3 := Lib.hid (ownsRow_mono hO2 (E1.out.trans hYa).size)
    have D3 := Lib.hid (hX3.block D1)
    clear hYa hX3 hO2 D1
    obtain ⟨⟨q0, q1', q2, q3⟩, _⟩ := block4 D3.out
    have lq := lt_of_block D3.out
    have hYb := (Ext.refl w3).alloc (.cells #[.int .i64 W, .int .i64 H, .bool R, .slice a2 n2 c2] 26)
    have D4 := heap_new w3 (.cells #[.int .i64 W, .int .i64 H, .bool R, .slice a2 n2 c2] 26)
    have HV := Lib.hid (vld_new (R := R) hs hf1 hf2 hl1 hl2)
    have hn1 := (flat_len hf1 hl1 hs).2
    have hn2 := (flat_len hf2 hl2 hs).2
    go_wp2_with fail
    clear q0 q1' q2 q3 lq
    refine (l03Give_any W H R a1 n1 c1 W H R a2 n2 c2 1048576000 1056964608 1056964608 1065353216 0 4 xs ys hl1 hl2 hle1 hle2 _ (ownsRow_varr (ownsRow_ext O3.out hYb)) (ownsRow_varr (ownsRow_ext P3.out hYb))).mono ?_
    generalize w3.alloc (.cells #[.int .i64 W, .int .i64 H, .bool R, .slice a2 n2 c2] 26) = w4 at *
    have E4 := Lib.hid (E3.out.trans hYb)
    have B4 := Lib.hid (hYb.block B3.out)
    have O4 := Lib.hid (ownsRow_ext O3.out hYb)
    have P4 := Lib.hid (ownsRow_ext P3.out hYb)
    have HS := Lib.hid hs
    have HL1 := Lib.hid hl1
    have HL2 := Lib.hid hl2
    have HF1 := Lib.hid hf1
    have HF2 := Lib.hid hf2
    clear hYb D4 hs hl1 hl2 hf1 hf2
    rintro e w5 h
    rcases h with ⟨hv, rfl, hX5⟩ | ⟨hv, rfl, hX5⟩
    · have hz := hv
      rw [HV.out] at hz
      have HOK : Hid (newOk W H z = true) := by show _ = _; unfold newOk; rw [HS.out, hz]; rfl
      clear hv hz
      have B5 := hX5.block B4.out
      have E5 := Lib.hid (E4.out.trans hX5)
      have O5 := Lib.hid (ownsRow_ext O4.out hX5)
      have P5 := Lib.hid (ownsRow_ext P4.out hX5)
      have HAQ := HAP
      clear hX5
      have nO := row_ne (by decide) O5.out B5
      have nP := row_ne (by decide) P5.out B5
      have HO' := Lib.hid (fun u0 u1 u2 u3 u4 u5 u6 u7 u8 u9 u10 u11 u12 u13 => fill14_row O5.out nO u0 u1 u2 u3 u4 u5 u6 u7 u8 u9 u10 u11 u12 u13)
      have HP' := Lib.hid (fun u0 u1 u2 u3 u4 u5 u6 u7 u8 u9 u10 u11 u12 u13 => fill14_row P5.out nP u0 u1 u2 u3 u4 u5 u6 u7 u8 u9 u10 u11 u12 u13)
      clear nO nP
      obtain ⟨⟨d0, d1, d2, d3, d4, d5, d6, d7, d8, d9, d10, d11, d12, d13⟩, fd0, fd1, fd2, fd3, fd4, fd5, fd6, fd7, fd8, fd9, fd10, fd11, fd12, fd13⟩ := block14 (B5)
      go_wp2
      refine bodyPost_ret (v := .tuple #[.agg #[.int .i64 W, .int .i64 H, .bool R, .slice a1 n1 c1, .int .i64 W, .int .i64 H, .bool R, .slice a2 n2 c2, .float .f32 1048576000, .float .f32 1056964608, .float .f32 1056964608, .float .f32 1065353216, .float .f32 0, .int .i64 4], .bool true]) ?_ rfl (keepM_yes HOK.out ⟨a1, n1, c1, xs, a2, n2, c2, ys, rfl, fill14_ext E5.out (Nat.le_refl _) _ _ _ _ _ _ _ _ _ _ _ _ _ _, HO'.out _ _ _ _ _ _ _ _ _ _ _ _ _ _, HL1.out, hle1, HF1.out, HP'.out _ _ _ _ _ _ _ _ _ _ _ _ _ _, HL2.out, hle2, HF2.out, HAQ.out⟩)
      simp only [results, Try.results50]
      go_simp
    · have hz := hv
      rw [HV.out] at hz
      have HOK : Hid (newOk W H z = false) := by show _ = _; unfold newOk; rw [HS.out, hz]; rfl
      clear hv hz
      have B5 := hX5.block B4.out
      have E5 := Lib.hid (E4.out.trans hX5)
      clear hX5
      obtain ⟨⟨d0, d1, d2, d3, d4, d5, d6, d7, d8, d9, d10, d11, d12, d13⟩, fd0, fd1, fd2, fd3, fd4, fd5, fd6, fd7, fd8, fd9, fd10, fd11, fd12, fd13⟩ := block14 (B5)
      go_wp2
      refine bodyPost_ret (v := .tuple #[.agg #[.int .i64 0, .int .i64 0, .bool false, .slice none 0 0, .int .i64 0, .int .i64 0, .bool false, .slice none 0 0, .float .f32 0, .float .f32 0, .float .f32 0, .float .f32 0, .float .f32 0, .int .i64 0], .bool false]) ?_ rfl (keepM_no HOK.out rfl (fill14_ext E5.out (Nat.le_refl _) _ _ _ _ _ _ _ _ _ _ _ _ _ _))
      simp only [results, Try.results50]
      go_simp

set_option maxRecDepth 100000 in
set_option maxHeartbeats 8000000 in
theorem implNew_any (W H : Int) (R : Bool) (z : Nat) (w : World) : Calls Try.prog 51 #[.int .i64 W, .int .i64 H, .bool R, .float .f32 z] w (keepM w (newOk W H z) W H R z) := by
  have hX0 := (Ext.refl w).alloc (.cells #[.int .i64 0, .int .i64 0, .bool false, .slice none 0 0, .int .i64 0, .int .i64 0, .bool false, .slice none 0 0, .float .f32 0, .float .f32 0, .float .f32 0, .float .f32 0, .float .f32 0, .int .i64 0] 62)
  have b0 := heap_new w (.cells #[.int .i64 0, .int .i64 0, .bool false, .slice none 0 0, .int .i64 0, .int .i64 0, .bool false, .slice none 0 0, .float .f32 0, .float .f32 0, .float .f32 0, .float .f32 0, .float .f32 0, .int .i64 0] 62)
  cases hs : szF W H with
  | false =>
    have HOK : Hid (newOk W H z = false) := by show _ = _; simp [newOk, hs]
    go_enter Try.func51, Try.ntmps51
    go_wp2_with fail
    refine (implFlatYN W H R 0 hs _).mono ?_
    generalize w.alloc (.cells #[.int .i64 0, .int .i64 0, .bool false, .slice none 0 0, .int .i64 0, .int .i64 0, .bool false, .slice none 0 0, .float .f32 0, .float .f32 0, .float .f32 0, .float .f32 0, .float .f32 0, .int .i64 0] 62) = w0 at *
    rintro e w1 ⟨a1, n1, c1, x1, rfl, hX1, _⟩
    have E1 := Lib.hid (hX0.trans hX1)
    have B1 := Lib.hid (hX1.block b0)
    clear hX0 hX1 b0
    have hYa := (Ext.refl w1).alloc (.cells #[.int .i64 0, .int .i64 0, .bool false, .slice a1 n1 c1] 26)
    go_wp2_with fail
    refine (implFlatYN W H R z hs _).mono ?_
    generalize w1.alloc (.cells #[.int .i64 0, .int .i64 0, .bool false, .slice a1 n1 c1] 26) = w2 at *
    rintro e w3 ⟨a2, n2, c2, x2, rfl, hX3, _⟩
    have E3 := Lib.hid (E1.out.trans (hYa.trans hX3))
    have B3 := Lib.hid ((hYa.trans hX3).block B1.out)
    clear hYa hX3
    have hYb := (Ext.refl w3).alloc (.cells #[.int .i64 0, .int .i64 0, .bool false, .slice a2 n2 c2] 26)
    have E4 := Lib.hid (E3.out.trans hYb)
    have B4 := hYb.block B3.out
    clear hYb
    have lb := lt_of_block B3.out
    obtain ⟨⟨d0, d1, d2, d3, d4, d5, d6, d7, d8, d9, d10, d11, d12, d13⟩, fd0, fd1, fd2, fd3, fd4, fd5, fd6, fd7, fd8, fd9, fd10, fd11, fd12, fd13⟩ := block14 (B3.out)
    go_wp2
    refine bodyPost_ret (v := .tuple #[.agg #[.int .i64 0, .int .i64 0, .bool false, .slice none 0 0, .int .i64 0, .int .i64 0, .bool false, .slice none 0 0, .float .f32 0, .float .f32 0, .float .f32 0, .float .f32 0, .float .f32 0, .int .i64 0], .bool false]) ?_ rfl (keepM_no HOK.out rfl ((fill14_ext E3.out (Nat.le_refl _) _ _ _ _ _ _ _ _ _ _ _ _ _ _).alloc _))
    simp only [results, Try.results51]
    go_simp
  | true =>
    go_enter Try.func51, Try.ntmps51
    go_wp2_with fail
    refine (implFlatY W H R 0 hs _).mono ?_
    generalize w.alloc (.cells #[.int .i64 0, .int .i64 0, .bool false, .slice none 0 0, .int .i64 0, .int .i64 0, .bool false, .slice none 0 0, .float .f32 0, .float .f32 0, .float .f32 0, .float .f32 0, .float .f32 0, .int .i64 0] 62) = w0 at *
    rintro e w1 ⟨a1, n1, c1, xs, rfl, hX1, hO1, hl1, hle1, hf1⟩
    have E1 := Lib.hid (hX0.trans hX1)
    have B1 := Lib.hid (hX1.block b0)
    have O1 := Lib.hid (ownsRow_mono hO1 hX0.size)
    clear hX0 hX1 b0 hO1
    have hYa := (Ext.refl w1).alloc (.cells #[.int .i64 W, .int .i64 H, .bool R, .slice a1 n1 c1] 26)
    have D1 := heap_new w1 (.cells #[.int .i64 W, .int .i64 H, .bool R, .slice a1 n1 c1] 26)
    go_wp2_with fail
    refine (implFlatY W H R z hs _).mono ?_
    generalize w1.alloc (.cells #[.int .i64 W, .int .i64 H, .bool R, .slice a1 n1 c1] 26) = w2 at *
    generalize w1.heap.size = q1 at *
    rintro e w3 ⟨a2, n2, c2, ys, rfl, hX3, hO2, hl2, hle2, hf2⟩
    have HAP : Hid (∀ g, (Value.slice a1 n1 c1).ownBlock = some g → (Value.slice a2 n2 c2).ownBlock ≠ some g) := fun g h1 h2 => by
      have p1 := (O1.out.lt g h1).2
      have p2 := (hO2.lt g h2).1
      have p3 := hYa.size
      omega
    have E3 := Lib.hid (E1.out.trans (hYa.trans hX3))
    have B3 := Lib.hid ((hYa.trans hX3).block B1.out)
    have O3 := Lib.hid (ownsRow_ext O1.out (hYa.trans hX3))
    have P3 := Lib.hid (ownsRow_mono hO2 (E1.out.trans hYa).size)
    have D3 := Lib.hid (hX3.block D1)
    clear hYa hX3 hO2 D1
    obtain ⟨⟨q0, q1', q2, q3⟩, _⟩ := block4 D3.out
    have lq := lt_of_block D3.out
    have hYb := (Ext.refl w3).alloc (.cells #[.int .i64 W, .int .i64 H, .bool R, .slice a2 n2 c2] 26)
    have D4 := heap_new w3 (.cells #[.int .i64 W, .int .i64 H, .bool R, .slice a2 n2 c2] 26)
    have HV := Lib.hid (vld_new (R := R) hs hf1 hf2 hl1 hl2)
    have hn1 := (flat_len hf1 hl1 hs).2
    have hn2 := (flat_len hf2 hl2 hs).2
    go_wp2_with fail
    clear q0 q1' q2 q3 lq
    refine (cloned_any W H R a1 n1 c1 W H R a2 n2 c2 1048576000 1056964608 1056964608 1065353216 0 4 xs ys hl1 hl2 hle1 hle2 _ hn1 hn2 (ownsRow_varr (ownsRow_ext O3.out hYb)) (ownsRow_varr (ownsRow_ext P3.out hYb))).mono ?_
    generalize w3.alloc (.cells #[.int .i64 W, .int .i64 H, .bool R, .slice a2 n2 c2] 26) = w4 at *
    have E4 := Lib.hid (E3.out.trans hYb)
    have B4 := Lib.hid (hYb.block B3.out)
    have O4 := Lib.hid (ownsRow_ext O3.out hYb)
    have P4 := Lib.hid (ownsRow_ext P3.out hYb)
    have HS := Lib.hid hs
    have HL1 := Lib.hid hl1
    have HL2 := Lib.hid hl2
    have HF1 := Lib.hid hf1
    have HF2 := Lib.hid hf2
    clear hYb D4 hs hl1 hl2 hf1 hf2
    rintro e w5 h
    rcases h with ⟨hv, rfl, hX5⟩ | ⟨hv, aX, cX, aY, cY, rfl, hX5, hOX, hOY, hap⟩
    · have hz := hv
      rw [HV.out] at hz
      have HOK : Hid (newOk W H z = false) := by show _ = _; unfold newOk; rw [HS.out, hz]; rfl
      clear hv hz
      have B5 := hX5.block B4.out
      have E5 := Lib.hid (E4.out.trans hX5)
      clear hX5
      obtain ⟨⟨d0, d1, d2, d3, d4, d5, d6, d7, d8, d9, d10, d11, d12, d13⟩, fd0, fd1, fd2, fd3, fd4, fd5, fd6, fd7, fd8, fd9, fd10, fd11, fd12, fd13⟩ := block14 (B5)
      go_wp2
      refine bodyPost_ret (v := .tuple #[.agg #[.int .i64 0, .int .i64 0, .bool false, .slice none 0 0, .int .i64 0, .int .i64 0, .bool false, .slice none 0 0, .float .f32 0, .float .f32 0, .float .f32 0, .float .f32 0, .float .f32 0, .int .i64 0], .bool false]) ?_ rfl (keepM_no HOK.out rfl (fill14_ext E5.out (Nat.le_refl _) _ _ _ _ _ _ _ _ _ _ _ _ _ _))
      simp only [results, Try.results51]
      go_simp
    · have hz := hv
      rw [HV.out] at hz
      have HOK : Hid (newOk W H z = true) := by show _ = _; unfold newOk; rw [HS.out, hz]; rfl
      clear hv hz
      have B5 := hX5.block B4.out
      have E5 := Lib.hid (E4.out.trans hX5)
      have O5 := Lib.hid (ownsRow_mono hOX E4.out.size)
      have P5 := Lib.hid (ownsRow_mono hOY E4.out.size)
      have HAQ := Lib.hid hap
      clear hX5
      have nO := row_ne (by decide) O5.out B5
      have nP := row_ne (by decide) P5.out B5
      have HO' := Lib.hid (fun u0 u1 u2 u3 u4 u5 u6 u7 u8 u9 u10 u11 u12 u13 => fill14_row O5.out nO u0 u1 u2 u3 u4 u5 u6 u7 u8 u9 u10 u11 u12 u13)
      have HP' := Lib.hid (fun u0 u1 u2 u3 u4 u5 u6 u7 u8 u9 u10 u11 u12 u13 => fill14_row P5.out nP u0 u1 u2 u3 u4 u5 u6 u7 u8 u9 u10 u11 u12 u13)
      clear nO nP
      obtain ⟨⟨d0, d1, d2, d3, d4, d5, d6, d7, d8, d9, d10, d11, d12, d13⟩, fd0, fd1, fd2, fd3, fd4, fd5, fd6, fd7, fd8, fd9, fd10, fd11, fd12, fd13⟩ := block14 (B5)
      go_wp2
      refine bodyPost_ret (v := .tuple #[.agg #[.int .i64 W, .int .i64 H, .bool R, .slice aX n1 cX, .int .i64 W, .int .i64 H, .bool R, .slice aY n2 cY, .float .f32 1048576000, .float .f32 1056964608, .float .f32 1056964608, .float .f32 1065353216, .float .f32 0, .int .i64 4], .bool true]) ?_ rfl (keepM_yes HOK.out ⟨aX, n1, cX, xs, aY, n2, cY, ys, rfl, fill14_ext E5.out (Nat.le_refl _) _ _ _ _ _ _ _ _ _ _ _ _ _ _, HO'.out _ _ _ _ _ _ _ _ _ _ _ _ _ _, HL1.out, hle1, HF1.out, HP'.out _ _ _ _ _ _ _ _ _ _ _ _ _ _, HL2.out, hle2, HF2.out, HAQ.out⟩)
      simp only [results, Try.results51]
      go_simp

set_option maxRecDepth 100000 in
set_option maxHeartbeats 4000000 in
theorem markMelt_any (W H : Int) (R : Bool) (a : Option Addr) (n c : Nat) (W' H' : Int) (R' : Bool) (a' : Option Addr) (n' c' : Nat) (f1 f2 f3 f4 f5 : Nat) (k : Int) (wb w : World) (base : Nat) (zs zs' : List Nat) (hb : wb.heap.size ≤ base) (E : Ext wb w) (hn : n ≤ 1048576) (hn' : n' ≤ 1048576) (hO : w.ownsRow base 28 1 (.slice a n c) n (flts zs)) (hO' : w.ownsRow base 28 1 (.slice a' n' c') n' (flts zs')) (hap : ∀ g, (Value.slice a n c).ownBlock = some g → (Value.slice a' n' c').ownBlock ≠ some g) :
    Calls Try.prog 52 #[.agg #[.int .i64 W, .int .i64 H, .bool R, .slice a n c, .int .i64 W', .int .i64 H', .bool R', .slice a' n' c', .float .f32 f1, .float .f32 f2, .float .f32 f3, .float .f32 f4, .float .f32 f5, .int .i64 k], .int .i64 1] w fun e w' => e = .returned (.int .i64 (1 + n + n')) ∧ (∃ w1, Ext w w1 ∧ ∃ w2, w1.grownBy w2 (Value.slice a n c).ownBlock ∧ Ext wb w2 ∧ ∃ w3, Ext w2 w3 ∧ w3.grownBy w' (Value.slice a' n' c').ownBlock) ∧ Ext wb w' ∧ VArr w' a (flts (markF 1 n)) ∧ VArr w' a' (flts (markF (1 + n) n')) := by
  have hX := (Ext.refl w).alloc (.cells #[.int .i64 W, .int .i64 H, .bool R, .slice a n c, .int .i64 W', .int .i64 H', .bool R', .slice a' n' c', .float .f32 f1, .float .f32 f2, .float .f32 f3, .float .f32 f4, .float .f32 f5, .int .i64 k] 62)
  have b0 := heap_new w (.cells #[.int .i64 W, .int .i64 H, .bool R, .slice a n c, .int .i64 W', .int .i64 H', .bool R', .slice a' n' c', .float .f32 f1, .float .f32 f2, .float .f32 f3, .float .f32 f4, .float .f32 f5, .int .i64 k] 62)
  go_enter Try.func52, Try.ntmps52
  obtain ⟨⟨c0, c1, c2, c3, c4, c5, c6, c7, c8, c9, c10, c11, c12, c13⟩, _⟩ := block14 (b0)
  go_wp2_with fail
  clear c0 c1 c2 c3 c4 c5 c6 c7 c8 c9 c10 c11 c12 c13
  generalize w.alloc (.cells #[.int .i64 W, .int .i64 H, .bool R, .slice a n c, .int .i64 W', .int .i64 H', .bool R', .slice a' n' c', .float .f32 f1, .float .f32 f2, .float .f32 f3, .float .f32 f4, .float .f32 f5, .int .i64 k] 62) = w0 at *
  have O1 := ownsRow_ext hO hX
  have P1 := ownsRow_ext hO' hX
  refine (markField_any W H R a n c _ zs 1 (by omega) (by omega) hn _ O1).mono ?_
  rintro e w2 ⟨rfl, hG, hM⟩
  have b2 := block_keep (by decide) O1 hG b0
  have P2 := row_keepA P1 (apart_symm hap) hG
  have E2 : Ext wb w2 := Ext.rowv (E.trans hX) O1 hb hG
  have HB2 := Lib.hid b2
  have HP2 := Lib.hid P2
  have HE2 := Lib.hid E2
  have HM := Lib.hid hM
  have HG := Lib.hid hG
  have HX := Lib.hid hX
  clear hX b0 O1 P1 hO hO' hG hM b2 P2 E2 E
  obtain ⟨⟨c0, c1, c2, c3, c4, c5, c6, c7, c8, c9, c10, c11, c12, c13⟩, _⟩ := block14 (HB2.out)
  go_wp2_with fail
  clear c0 c1 c2 c3 c4 c5 c6 c7 c8 c9 c10 c11 c12 c13
  refine (markField_any W' H' R' a' n' c' _ zs' (1 + n) (by omega) (by omega) hn' _ HP2.out).mono ?_
  rintro e w4 ⟨rfl, hG4, hM4⟩
  have M4 := Lib.hid (row_keepA HM.out hap hG4)
  have E4 := Lib.hid (Ext.rowv HE2.out HP2.out hb hG4)
  have HM4 := Lib.hid hM4
  have HG4 := Lib.hid hG4
  clear hG4 hM4
  go_wp2
  refine bodyPost_ret (v := .int .i64 (1 + n + n')) ?_ rfl ⟨rfl, ⟨_, HX.out, _, HG.out, HE2.out, _, Ext.refl _, HG4.out⟩, E4.out, ownsRow_varr M4.out, ownsRow_varr HM4.out⟩
  simp only [results, Try.results52]
  go_simp
set_option maxRecDepth 100000 in
set_option maxHeartbeats 4000000 in
theorem heldMelt_any (W H : Int) (R : Bool) (a : Option Addr) (n c : Nat) (W' H' : Int) (R' : Bool) (a' : Option Addr) (n' c' : Nat) (f1 f2 f3 f4 f5 : Nat) (k : Int) (w : World) (hn : n ≤ 1048576) (hn' : n' ≤ 1048576) (hA : VArr w a (flts (markF 1 n))) (hA' : VArr w a' (flts (markF (1 + n) n'))) :
    Calls Try.prog 53 #[.agg #[.int .i64 W, .int .i64 H, .bool R, .slice a n c, .int .i64 W', .int .i64 H', .bool R', .slice a' n' c', .float .f32 f1, .float .f32 f2, .float .f32 f3, .float .f32 f4, .float .f32 f5, .int .i64 k], .int .i64 1] w fun e w' => e = .returned (.int .i64 (1 + n + n')) ∧ Ext w w' := by
  have hX := (Ext.refl w).alloc (.cells #[.int .i64 W, .int .i64 H, .bool R, .slice a n c, .int .i64 W', .int .i64 H', .bool R', .slice a' n' c', .float .f32 f1, .float .f32 f2, .float .f32 f3, .float .f32 f4, .float .f32 f5, .int .i64 k] 62)
  have b0 := heap_new w (.cells #[.int .i64 W, .int .i64 H, .bool R, .slice a n c, .int .i64 W', .int .i64 H', .bool R', .slice a' n' c', .float .f32 f1, .float .f32 f2, .float .f32 f3, .float .f32 f4, .float .f32 f5, .int .i64 k] 62)
  go_enter Try.func53, Try.ntmps53
  obtain ⟨⟨c0, c1, c2, c3, c4, c5, c6, c7, c8, c9, c10, c11, c12, c13⟩, _⟩ := block14 (b0)
  go_wp2_with fail
  clear c0 c1 c2 c3 c4 c5 c6 c7 c8 c9 c10 c11 c12 c13
  generalize w.alloc (.cells #[.int .i64 W, .int .i64 H, .bool R, .slice a n c, .int .i64 W', .int .i64 H', .bool R', .slice a' n' c', .float .f32 f1, .float .f32 f2, .float .f32 f3, .float .f32 f4, .float .f32 f5, .int .i64 k] 62) = w0 at *
  refine (heldField_any W H R a n c 1 (by omega) (by omega) hn _ (hA.ext hX)).mono ?_
  rintro e w2 ⟨rfl, hX2⟩
  have HB2 := Lib.hid (hX2.block b0)
  have HX2 := Lib.hid (hX.trans hX2)
  clear hX hX2 b0
  obtain ⟨⟨c0, c1, c2, c3, c4, c5, c6, c7, c8, c9, c10, c11, c12, c13⟩, _⟩ := block14 (HB2.out)
  go_wp2_with fail
  clear c0 c1 c2 c3 c4 c5 c6 c7 c8 c9 c10 c11 c12 c13
  refine (heldField_any W' H' R' a' n' c' (1 + n) (by omega) (by omega) hn' _ (hA'.ext HX2.out)).mono ?_
  rintro e w4 ⟨rfl, hX4⟩
  have HX4 := Lib.hid (HX2.out.trans hX4)
  clear hX4
  go_wp2
  refine bodyPost_ret (v := .int .i64 (1 + n + n')) ?_ rfl ⟨rfl, HX4.out⟩
  simp only [results, Try.results53]
  go_simp
end Go.Proofs.Ytajfpjggdbifjaa
