/-
  Sums over pairs of neighbours, by the program and by the reference. (Printed by gen_pairs.py.)
-/
import Derived.Test.YtajfpjggdbifjaaAtI
import Derived.Test.YtajfpjggdbifjaaAtM
namespace Go.Proofs.Ytajfpjggdbifjaa
open Go.RowKit
set_option linter.unusedVariables false
set_option linter.unusedSimpArgs false
set_option linter.unnecessarySimpa false

def topZ (W H : Int) (zs : List Int) (u v : Int) : Int := zs[(cellF W H u v).toNat]?.getD 0
def pairS (g : Int → Int → Int) (Wn Hn : Nat) (zs : List Int) : Nat → Int
  | 0 => 0
  | k + 1 => pairS g Wn Hn zs k + (g (zs[k]?.getD 0) (topZ Wn Hn zs ((k % Wn : Nat) + 1 : Int) ((k / Wn : Nat) : Int)) + g (zs[k]?.getD 0) (topZ Wn Hn zs ((k % Wn : Nat) : Int) ((k / Wn : Nat) + 1 : Int)))
/-- A measure of two tops. -/
def pairG (g : Int → Int → Int) : Prop := ∀ a b, 0 ≤ a → a ≤ 1000 → 0 ≤ b → b ≤ 1000 → 0 ≤ g a b ∧ g a b ≤ 1000
theorem topZ_bd {W H : Int} {zs : List Int} {n : Nat} (h : ∀ k, k < n → 0 ≤ zs[k]?.getD 0 ∧ zs[k]?.getD 0 ≤ 1000) (hW : 1 ≤ W) (hH : 1 ≤ H) (hn : (n : Int) = W * H) (u v : Int) : 0 ≤ topZ W H zs u v ∧ topZ W H zs u v ≤ 1000 := by
  have := cellF_bd u v hW hH
  exact h _ (by omega)
theorem pairS_bd {g : Int → Int → Int} (hg : pairG g) {Wn Hn n : Nat} {zs : List Int} (h : ∀ k, k < n → 0 ≤ zs[k]?.getD 0 ∧ zs[k]?.getD 0 ≤ 1000) (hW : 1 ≤ Wn) (hH : 1 ≤ Hn) (hn : (n : Int) = Wn * Hn) : ∀ k : Nat, k ≤ n → 0 ≤ pairS g Wn Hn zs k ∧ pairS g Wn Hn zs k ≤ 2000 * k
  | 0, _ => by simp [pairS]
  | k + 1, hk => by
    have h1 := pairS_bd hg h hW hH hn k (by omega)
    have h2 := h k (by omega)
    have t1 := topZ_bd h (by omega : (1 : Int) ≤ Wn) (by omega : (1 : Int) ≤ Hn) hn ((k % Wn : Nat) + 1 : Int) ((k / Wn : Nat) : Int)
    have t2 := topZ_bd h (by omega : (1 : Int) ≤ Wn) (by omega : (1 : Int) ≤ Hn) hn ((k % Wn : Nat) : Int) ((k / Wn : Nat) + 1 : Int)
    have g1 := hg _ _ h2.1 h2.2 t1.1 t1.2
    have g2 := hg _ _ h2.1 h2.2 t2.1 t2.2
    unfold pairS
    omega
def pairN (g : Int → Int → Int) (W H : Int) (zs : List Int) : Int := pairS g W.toNat H.toNat zs (H.toNat * W.toNat)
def pairR (g : Int → Int → Int) (W H : Int) (zs : List Int) : Int := if vldH W H zs then pairN g W H zs else 0
theorem pairR_no {g : Int → Int → Int} {W H : Int} {zs : List Int} (h : vldH W H zs = false) : pairR g W H zs = 0 := by simp [pairR, h]
theorem pairR_yes {g : Int → Int → Int} {W H : Int} {zs : List Int} (h : vldH W H zs = true) : pairR g W H zs = pairN g W H zs := by simp [pairR, h]
def minG (a b : Int) : Int := min a b
def difG (a b : Int) : Int := max (a - b) (b - a)
theorem minG_ok : pairG minG := fun a b _ _ _ _ => by unfold minG; omega
theorem difG_ok : pairG difG := fun a b _ _ _ _ => by unfold difG; omega

theorem l00MinH_any (x y : Int) (w : World) : Calls Try.prog 183 #[.int .i64 x, .int .i64 y] w fun e w' => e = .returned (.int .i64 (min x y)) ∧ w = w' := by
  go_enter Try.func183, Try.ntmps183
  by_cases h : x < y
  · have e : decide (x < y) = true := by simpa using h
    have HM := Lib.hid (show min x y = x by omega)
    go_wp2
    go_ret
    exact ⟨by rw [HM.out]; rfl, rfl⟩
  · have e : decide (x < y) = false := by simpa using h
    have HM := Lib.hid (show min x y = y by omega)
    go_wp2
    go_ret
    exact ⟨by rw [HM.out]; rfl, rfl⟩

theorem ne_args {A B : Value} {a b c d : Int} (h : #[A, .int .i64 a, .int .i64 b] = #[B, Value.int .i64 c, .int .i64 d]) : a = c ∧ b = d := by simp at h; exact ⟨h.2.1, h.2.2⟩
theorem eq_arg {a b c d : Int} (h : #[Value.int .i64 a, .int .i64 b] = #[Value.int .i64 c, .int .i64 d]) : a = c ∧ b = d := by simpa using h
theorem size_args {A B C D E : Value} (h : #[A, B, C] = #[D, E]) : False := by simp at h
theorem size_args' {A B C D E : Value} (h : #[D, E] = #[A, B, C]) : False := by simp at h

end Go.Proofs.Ytajfpjggdbifjaa
