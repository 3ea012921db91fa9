/-
  The walks of the statements on NextSeed and UseSeed.
-/
import Derived.Test.YtdggpkgbncmlbaaNum
namespace Go.Proofs.Ytdggpkgbncmlbaa
open Go.RowKit
set_option linter.unusedVariables false
set_option linter.unusedSimpArgs false
set_option linter.unnecessarySimpa false

def nextF (s : Int) : Int := (1103515245 * s + 12345) % 2147483648
theorem nextF_bd (s : Int) : 0 ≤ nextF s ∧ nextF s ≤ 2147483647 := by unfold nextF; omega

theorem walk_FnExactNextSeed (a0 : Int) (w0 : (Lit.int .i64 a0).wf = true) (w : World) :
    Calls Try.prog 3 #[.int .i64 a0] w fun e w' => e = .returned (.bool true) ∧ Ext w w' := by
  by_cases h1 : 0 ≤ a0
  · by_cases h2 : a0 ≤ 2147483647
    · go_enter Try.func3, Try.ntmps3
      go_wp2
      go_ret
      exact ⟨rfl, Ext.refl _⟩
    · go_enter Try.func3, Try.ntmps3
      go_wp2
      go_ret
      exact ⟨rfl, Ext.refl _⟩
  · go_enter Try.func3, Try.ntmps3
    go_wp2
    go_ret
    exact ⟨rfl, Ext.refl _⟩

/-- What UseSeed answers. -/
def okU (s n : Int) : Bool := inB s 0 2147483647 && inB n 1 32768
def useF (s n : Int) : Int := if okU s n = true then nextF s / 65536 % n else 0
def seedU (s n : Int) : Int := if okU s n = true then nextF s else 0
theorem okU_iff {s n : Int} : okU s n = true ↔ (0 ≤ s ∧ s ≤ 2147483647) ∧ 1 ≤ n ∧ n ≤ 32768 := by simp [okU, inB_iff]
theorem okU_yes {s n : Int} (h : (0 ≤ s ∧ s ≤ 2147483647) ∧ 1 ≤ n ∧ n ≤ 32768) : useF s n = nextF s / 65536 % n ∧ seedU s n = nextF s ∧ okU s n = true := by
  have := okU_iff.2 h
  exact ⟨by simp [useF, this], by simp [seedU, this], this⟩
theorem okU_no {s n : Int} (h : ¬ ((0 ≤ s ∧ s ≤ 2147483647) ∧ 1 ≤ n ∧ n ≤ 32768)) : useF s n = 0 ∧ seedU s n = 0 ∧ okU s n = false := by
  have : okU s n = false := by rw [Bool.eq_false_iff]; intro e; exact h (okU_iff.1 e)
  exact ⟨by simp [useF, this], by simp [seedU, this], this⟩

theorem specUseSeed_any (s n : Int) (w : World) : Calls Try.prog 21 #[.int .i64 s, .int .i64 n] w fun e w' => e = .returned (.tuple #[.int .i64 (useF s n), .int .i64 (seedU s n), .bool (okU s n)]) ∧ Ext w w' := by
  by_cases h1 : 0 ≤ s
  · by_cases h2 : s ≤ 2147483647
    · by_cases h3 : 1 ≤ n
      · by_cases h4 : n ≤ 32768
        · have HR := Lib.hid (okU_yes ⟨⟨h1, h2⟩, h3, h4⟩)
          go_enter Try.func21, Try.ntmps21
          go_wp2
          go_ret3
          refine ⟨?_, Ext.refl _⟩
          rw [HR.out.1, HR.out.2.1, HR.out.2.2]; rfl
        · have HR := Lib.hid (okU_no (s := s) (n := n) (by omega))
          go_enter Try.func21, Try.ntmps21
          go_wp2
          go_ret3
          refine ⟨?_, Ext.refl _⟩
          rw [HR.out.1, HR.out.2.1, HR.out.2.2]; rfl
      · have HR := Lib.hid (okU_no (s := s) (n := n) (by omega))
        go_enter Try.func21, Try.ntmps21
        go_wp2
        go_ret3
        refine ⟨?_, Ext.refl _⟩
        rw [HR.out.1, HR.out.2.1, HR.out.2.2]; rfl
    · have HR := Lib.hid (okU_no (s := s) (n := n) (by omega))
      go_enter Try.func21, Try.ntmps21
      go_wp2
      go_ret3
      refine ⟨?_, Ext.refl _⟩
      rw [HR.out.1, HR.out.2.1, HR.out.2.2]; rfl
  · have HR := Lib.hid (okU_no (s := s) (n := n) (by omega))
    go_enter Try.func21, Try.ntmps21
    go_wp2
    go_ret3
    refine ⟨?_, Ext.refl _⟩
    rw [HR.out.1, HR.out.2.1, HR.out.2.2]; rfl

theorem implUseSeed_any (s n : Int) (w : World) : Calls Try.prog 22 #[.int .i64 s, .int .i64 n] w fun e w' => e = .returned (.tuple #[.int .i64 (useF s n), .int .i64 (seedU s n), .bool (okU s n)]) ∧ Ext w w' := by
  by_cases h1 : 0 ≤ s
  · by_cases h2 : s ≤ 2147483647
    · by_cases h3 : 1 ≤ n
      · by_cases h4 : n ≤ 32768
        · have HR := Lib.hid (okU_yes ⟨⟨h1, h2⟩, h3, h4⟩)
          go_enter Try.func22, Try.ntmps22
          go_wp2
          go_quiet (fail)
          go_wp2
          go_ret3
          refine ⟨?_, ?_⟩
          · rw [HR.out.1, HR.out.2.1, HR.out.2.2]; rfl
          · exact ((Ext.refl _).alloc _).drewN _
        · have HR := Lib.hid (okU_no (s := s) (n := n) (by omega))
          go_enter Try.func22, Try.ntmps22
          go_wp2
          go_ret3
          refine ⟨?_, (Ext.refl _).alloc _⟩
          rw [HR.out.1, HR.out.2.1, HR.out.2.2]; rfl
      · have HR := Lib.hid (okU_no (s := s) (n := n) (by omega))
        go_enter Try.func22, Try.ntmps22
        go_wp2
        go_ret3
        refine ⟨?_, (Ext.refl _).alloc _⟩
        rw [HR.out.1, HR.out.2.1, HR.out.2.2]; rfl
    · have HR := Lib.hid (okU_no (s := s) (n := n) (by omega))
      go_enter Try.func22, Try.ntmps22
      go_wp2
      go_ret3
      refine ⟨?_, (Ext.refl _).alloc _⟩
      rw [HR.out.1, HR.out.2.1, HR.out.2.2]; rfl
  · have HR := Lib.hid (okU_no (s := s) (n := n) (by omega))
    go_enter Try.func22, Try.ntmps22
    go_wp2
    go_ret3
    refine ⟨?_, (Ext.refl _).alloc _⟩
    rw [HR.out.1, HR.out.2.1, HR.out.2.2]; rfl

theorem walk_FnExactUseSeed (a0 : Int) (w0 : (Lit.int .i64 a0).wf = true) (a1 : Int) (w1 : (Lit.int .i64 a1).wf = true) (w : World) :
    Calls Try.prog 4 #[.int .i64 a0, .int .i64 a1] w fun e w' => e = .returned (.bool true) ∧ Ext w w' := by
  go_enter Try.func4, Try.ntmps4
  go_wp2_with fail
  refine (specUseSeed_any a0 a1 _).mono ?_
  rintro e w2 ⟨rfl, hX⟩
  have HX := Lib.hid hX
  clear hX
  go_wp2_with fail
  refine (implUseSeed_any a0 a1 _).mono ?_
  rintro e w3 ⟨rfl, hX3⟩
  have HX3 := Lib.hid (HX.out.trans hX3)
  clear hX3
  go_wp2
  go_ret
  exact ⟨rfl, HX3.out⟩
end Go.Proofs.Ytdggpkgbncmlbaa
