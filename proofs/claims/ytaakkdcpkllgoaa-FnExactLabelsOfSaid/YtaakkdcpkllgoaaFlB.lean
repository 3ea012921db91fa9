/-
  Places, cells and values of fields, by the program and by the reference.
-/
import Derived.Test.YtaakkdcpkllgoaaFlA
namespace Go.Proofs.Ytaakkdcpkllgoaa
open Go.RowKit
set_option linter.unusedVariables false
set_option linter.unusedSimpArgs false
set_option linter.unnecessarySimpa false

theorem tmodF_bd (x s : Int) (h : 1 ≤ s) : 0 < x.tmod s + s ∧ x.tmod s + s < 2 * s := by
  have h1 := Int.tmod_lt_of_pos x (b := s) (by omega)
  have h2 := Int.lt_tmod_of_pos x (b := s) (by omega)
  omega
theorem roundF_mod (x s : Int) (h : 1 ≤ s) : (x.tmod s + s) % s = x % s := by
  rw [Int.add_emod_right]
  have e := Int.mul_tdiv_add_tmod x s
  conv => rhs; rw [← e]
  rw [Int.add_comm, Int.add_mul_emod_self_left]
theorem roundF_mod' (x s : Int) (h : 1 ≤ s) : x.tmod s % s = x % s := by rw [← roundF_mod x s h, Int.add_emod_right]

/-- The number that is meant by a coordinate. -/
def placeR (R : Bool) (x s : Int) : Int := if R then x % s else max 0 (min (s - 1) x)
theorem placeR_bd (R : Bool) (x : Int) {s : Int} (h : 1 ≤ s) : 0 ≤ placeR R x s ∧ placeR R x s < s := by
  unfold placeR
  cases R
  · simp; omega
  · exact ⟨Int.emod_nonneg x (by omega), Int.emod_lt_of_pos x (by omega)⟩
theorem placeR_id (R : Bool) {x s : Int} (h1 : 0 ≤ x) (h2 : x < s) : placeR R x s = x := by
  unfold placeR
  cases R
  · simp; omega
  · exact Int.emod_eq_of_lt h1 h2
def cellR (W H : Int) (R : Bool) (x y : Int) : Int := placeR R x W + W * placeR R y H
theorem cellR_bd {W H : Int} (R : Bool) (x y : Int) (h1 : 1 ≤ W) (h3 : 1 ≤ H) : 0 ≤ cellR W H R x y ∧ cellR W H R x y < W * H := by
  obtain ⟨a1, a2⟩ := placeR_bd R x h1
  obtain ⟨b1, b2⟩ := placeR_bd R y h3
  unfold cellR
  have m1 := Int.mul_nonneg (a := W) (b := placeR R y H) (by omega) b1
  have m2 := Int.mul_le_mul_of_nonneg_left (a := placeR R y H) (b := H - 1) (c := W) (by omega) (by omega)
  rw [Int.mul_sub] at m2
  omega
theorem cellR_id {W H : Int} (R : Bool) {x y : Int} (h1 : 0 ≤ x) (h2 : x < W) (h3 : 0 ≤ y) (h4 : y < H) : cellR W H R x y = x + W * y := by
  unfold cellR; rw [placeR_id R h1 h2, placeR_id R h3 h4]

theorem place_R (R : Bool) (x s : Int) (h : 1 ≤ s) (h2 : s ≤ 10000) (w : World) : Calls Try.prog 100 #[.int .i64 x, .int .i64 s, .bool R] w fun e w' => e = .returned (.int .i64 (placeR R x s)) ∧ w = w' := by
  obtain ⟨b1, b2⟩ := tmodF_bd x s h
  have HR := Lib.hid (roundF_mod x s h)
  cases R with
  | true =>
    go_enter Try.func100, Try.ntmps100
    go_wp2
    go_ret
    exact ⟨by show _ = Ending.returned (.int .i64 (x % s)); rw [← HR.out]; rfl, rfl⟩
  | false =>
    clear b1 b2 HR
    have HP : Hid (placeR false x s = if s - 1 < (if 0 < x then x else 0) then s - 1 else if 0 < x then x else 0) := by
      show placeR false x s = _
      unfold placeR; simp; split <;> split <;> omega
    go_enter Try.func100, Try.ntmps100
    go_wp2
    all_goals go_ret
    all_goals (rw [HP.out]; simp_all <;> omega)

theorem l00Max_any (x y : Int) (w : World) : Calls Try.prog 108 #[.int .i64 x, .int .i64 y] w fun e w' => e = .returned (.int .i64 (max x y)) ∧ w = w' := by
  go_enter Try.func108, Try.ntmps108
  by_cases h : y < x
  · have e : decide (y < x) = true := by simpa using h
    have HM := Lib.hid (show max x y = x by omega)
    go_wp2
    go_ret
    exact ⟨by rw [HM.out]; rfl, rfl⟩
  · have e : decide (y < x) = false := by simpa using h
    have HM := Lib.hid (show max x y = y by omega)
    go_wp2
    go_ret
    exact ⟨by rw [HM.out]; rfl, rfl⟩
theorem l00Min_any (x y : Int) (w : World) : Calls Try.prog 109 #[.int .i64 x, .int .i64 y] w fun e w' => e = .returned (.int .i64 (min x y)) ∧ w = w' := by
  go_enter Try.func109, Try.ntmps109
  by_cases h : x < y
  · have e : decide (x < y) = true := by simpa using h
    have HM := Lib.hid (show min x y = x by omega)
    go_wp2
    go_ret
    exact ⟨by rw [HM.out]; rfl, rfl⟩
  · have e : decide (x < y) = false := by simpa using h
    have HM := Lib.hid (show min x y = y by omega)
    go_wp2
    go_ret
    exact ⟨by rw [HM.out]; rfl, rfl⟩

theorem l02Place_R (R : Bool) (x s : Int) (h : 1 ≤ s) (h2 : s ≤ 10000) (w : World) : Calls Try.prog 98 #[.int .i64 x, .int .i64 s, .bool R] w fun e w' => e = .returned (.int .i64 (placeR R x s)) ∧ w = w' := by
  obtain ⟨b1, b2⟩ := tmodF_bd x s h
  have HR := Lib.hid (roundF_mod x s h)
  cases R with
  | true =>
    go_enter Try.func98, Try.ntmps98
    go_wp2
    go_ret
    exact ⟨by show _ = Ending.returned (.int .i64 (x % s)); rw [← HR.out]; rfl, rfl⟩
  | false =>
    clear b1 b2 HR
    go_enter Try.func98, Try.ntmps98
    go_wp2_with (first | (go_at_call 109; refine (l00Min_any _ _ _).mono ?_; rintro e w' ⟨rfl, rfl⟩) | (go_at_call 108; refine (l00Max_any _ _ _).mono ?_; rintro e w' ⟨rfl, rfl⟩))
    go_ret
    exact ⟨rfl, rfl⟩

theorem cellR_any (W H x y : Int) (R : Bool) (a : Option Addr) (n c : Nat) (hW : 1 ≤ W ∧ W ≤ 16) (hH : 1 ≤ H ∧ H ≤ 16) (w : World) :
    Calls Try.prog 112 #[.agg #[.int .i64 W, .int .i64 H, .bool R, .slice a n c], .int .i64 x, .int .i64 y] w fun e w' => e = .returned (.int .i64 (cellR W H R x y)) ∧ Ext w w' := by
  obtain ⟨w1, w2⟩ := hW
  obtain ⟨h1, h2⟩ := hH
  have hb := cellR_bd R x y w1 h1
  have hm := mulF_bd w1 w2 h1 h2
  obtain ⟨a1, a2⟩ := placeR_bd R x w1
  obtain ⟨b1, b2⟩ := placeR_bd R y h1
  unfold cellR at hb ⊢
  have m1 := Int.mul_nonneg (a := W) (b := placeR R y H) (by omega) b1
  obtain ⟨hb1, hb2⟩ := hb
  obtain ⟨hm1, hm2⟩ := hm
  go_enter Try.func112, Try.ntmps112
  go_wp2
  go_quiet ((go_at_call 100; exact Calls.quiet_of_same ((place_R R _ _ (by omega) (by omega) _).mono fun _ _ h => ⟨h.1, h.2.symm⟩)))
  go_wp2
  go_ret
  exact ⟨rfl, ((Ext.refl _).alloc _).drewN _⟩

/-- The value about a place, to the bit. -/
def aboutB (W H : Int) (R : Bool) (xs : List Nat) (x y : Int) : Nat := xs[(cellR W H R x y).toNat]?.getD 0
/-- .. and up to which not-a-number. -/
def aboutV (W H : Int) (R : Bool) (fs : List (Option Nat)) (x y : Int) : Option Nat := fat fs (cellR W H R x y).toNat
theorem fa_about {W H : Int} {R : Bool} {xs : List Nat} {fs : List (Option Nat)} (h : fas xs = fs) (hv : vldF W H xs.length = true) (x y : Int) : fa .f32 (aboutB W H R xs x y) = aboutV W H R fs x y := by
  obtain ⟨hs, hl⟩ := vldF_iff.1 hv
  obtain ⟨⟨h1, h2⟩, h3, h4⟩ := szF_iff.1 hs
  have := cellR_bd R x y h1 h3
  exact fas_at h (by omega)

end Go.Proofs.Ytaakkdcpkllgoaa
