/-
  DrawnGrains: a closure that draws (it reads and writes the captured seed), and grains grown by it.
-/
import Derived.Test.YtaakkdcpkllgoaaGrA
import Derived.Deep.RegionWith
namespace Go.Proofs.Ytaakkdcpkllgoaa
open Go.RowKit
set_option linter.unusedVariables false
set_option linter.unusedSimpArgs false
set_option linter.unnecessarySimpa false

/-- The seed that follows. -/
def nxtS (s : Int) : Int := (1103515245 * s + 12345) % 2147483648
theorem nxtS_bd (s : Int) : 0 ≤ nxtS s ∧ nxtS s ≤ 2147483647 := by unfold nxtS; omega
/-- The k-th seed behind s. -/
def seedN (s : Int) : Nat → Int
  | 0 => s
  | k + 1 => nxtS (seedN s k)
theorem seedN_bd {s : Int} (h : 0 ≤ s ∧ s ≤ 2147483647) : ∀ k, 0 ≤ seedN s k ∧ seedN s k ≤ 2147483647
  | 0 => h
  | k + 1 => nxtS_bd _
/-- What is drawn: k labels. -/
def drawZ (s c : Int) (k : Nat) : List Int := (List.range k).map fun i => seedN s (i + 1) / 65536 % c
theorem drawZ_zero (s c : Int) : drawZ s c 0 = [] := rfl
theorem drawZ_succ (s c : Int) (k : Nat) : drawZ s c (k + 1) = drawZ s c k ++ [nxtS (seedN s k) / 65536 % c] := by
  unfold drawZ
  rw [List.range_succ, List.map_append]
  rfl
@[simp] theorem drawZ_length (s c : Int) (k : Nat) : (drawZ s c k).length = k := by simp [drawZ]

theorem draw_any (s : Int) (h1 : 0 ≤ s) (h2 : s ≤ 2147483647) (w : World) : Calls Try.prog 67 #[.int .i64 s] w fun e w' => e = .returned (.tuple #[.int .i64 (nxtS s), .int .i64 (nxtS s / 65536)]) ∧ w = w' := by
  have HR : Hid (nxtS s = (1103515245 * s + 12345) % 2147483648) := rfl
  go_enter Try.func67, Try.ntmps67
  go_wp2
  go_ret2
  rw [HR.out]
  exact ⟨rfl, rfl⟩

/-- The closure: the captured seed moves on. -/
theorem drawn1_any (x y s c : Int) (pa pb : Nat) (h1 : 0 ≤ s) (h2 : s ≤ 2147483647) (h3 : 1 ≤ c) (h4 : c ≤ 64) (hne : pb ≠ pa) (w : World)
    (hA : w.cell? ⟨pa, 0, none⟩ = some (.int .i64 s)) (hf : w.frozen? ⟨pa, 0, none⟩ = false) (hB : w.cell? ⟨pb, 0, none⟩ = some (.int .i64 c)) :
    Calls Try.prog 66 #[.int .i64 x, .int .i64 y, .pointer (some ⟨pa, 0, none⟩), .pointer (some ⟨pb, 0, none⟩)] w fun e w' => e = .returned (.int .i64 (nxtS s / 65536 % c)) ∧ w' = w.setCell ⟨pa, 0, none⟩ (.int .i64 (nxtS s)) := by
  have hb2 := nxtS_bd s
  have hB' : ∀ v, (w.setCell ⟨pa, 0, none⟩ v).cell? ⟨pb, 0, none⟩ = some (.int .i64 c) := fun v => by rw [World.cell?_setCell_other _ _ _ _ (by intro e; cases e; exact hne rfl)]; exact hB
  have hc0 : c ≠ 0 := by omega
  go_enter Try.func66, Try.ntmps66
  go_wp2_with (go_at_call 67; refine (draw_any s h1 h2 _).mono ?_; rintro e w' ⟨rfl, rfl⟩)
  go_ret
  exact ⟨rfl, rfl⟩
end Go.Proofs.Ytaakkdcpkllgoaa
