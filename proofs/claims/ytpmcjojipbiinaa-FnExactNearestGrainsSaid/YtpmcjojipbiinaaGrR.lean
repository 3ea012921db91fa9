/-
  UnlikeAround, by the program and by the reference.
-/
import Derived.Test.YtpmcjojipbiinaaGrQ
import Derived.Test.YtpmcjojipbiinaaGrM
namespace Go.Proofs.Ytpmcjojipbiinaa
open Go.RowKit
set_option linter.unusedVariables false
set_option linter.unusedSimpArgs false
set_option linter.unnecessarySimpa false

/-- How many of the first k differ. -/
def unlC (L : List Int) (l : Int) (k : Nat) : Nat := ((L.take k).filter fun z => z != l).length
theorem unlC_zero (L : List Int) (l : Int) : unlC L l 0 = 0 := by simp [unlC]
theorem unlC_yes {L : List Int} {l : Int} {k : Nat} (hk : k < L.length) (h : (L[k]?.getD 0 != l) = true) : unlC L l (k + 1) = unlC L l k + 1 := by
  unfold unlC
  rw [List.take_succ_eq_append_getElem hk, List.filter_append]
  have : L[k]?.getD 0 = L[k] := by simp [hk]
  rw [this] at h
  simp [h]
theorem unlC_no {L : List Int} {l : Int} {k : Nat} (hk : k < L.length) (h : (L[k]?.getD 0 != l) = false) : unlC L l (k + 1) = unlC L l k := by
  unfold unlC
  rw [List.take_succ_eq_append_getElem hk, List.filter_append]
  have : L[k]?.getD 0 = L[k] := by simp [hk]
  rw [this] at h
  simp [h]
theorem unlC_le (L : List Int) (l : Int) (k : Nat) : unlC L l k ≤ k := by
  unfold unlC
  exact Nat.le_trans (List.length_filter_le _ _) (by simp; omega)
def unlN (W H : Int) (zs : List Int) (x y l : Int) : Int := (unlC (arL W H zs x y) l 8 : Nat)
theorem unlN_bd (W H : Int) (zs : List Int) (x y l : Int) : 0 ≤ unlN W H zs x y l ∧ unlN W H zs x y l ≤ 8 := by
  have := unlC_le (arL W H zs x y) l 8
  unfold unlN; omega

set_option maxRecDepth 100000 in
theorem l04Unlike_any (p : Nat) (W H x y l : Int) (b o n c : Nat) (zs : List Int) (hz : zs.length = n) (hv : vldG W H zs = true) (hx : -10000 ≤ x ∧ x ≤ 10000) (hy : -10000 ≤ y ∧ y ≤ 10000) (w : World) (hp : GrsAt w p W H (some ⟨b, o, none⟩) n c) (hA : VArr w (some ⟨b, o, none⟩) (ints zs)) :
    Calls Try.prog 45 #[.pointer (some ⟨p, 0, none⟩), .int .i64 x, .int .i64 y, .int .i64 l] w fun e w' => e = .returned (.int .i64 (unlN W H zs x y l)) ∧ Ext w w' := by
  unfold unlN
  obtain ⟨L, hL0⟩ : ∃ L, arL W H zs x y = L := ⟨_, rfl⟩
  have hL := arL_length W H zs x y
  rw [hL0] at hL ⊢
  have HL0 := Lib.hid hL0
  clear hL0
  go_enter Try.func45, Try.ntmps45
  go_wp2_with fail
  refine (l04Around_any p W H x y b o n c zs hz hv hx hy w hp hA).mono ?_
  rintro e w1 ⟨a', c', rfl, hX, hO⟩
  rw [HL0.out] at hO
  obtain ⟨g, rfl, _, _⟩ := own_int hO (k := 0) (by omega)
  have HO := Lib.hid hO
  have HX := Lib.hid hX
  have HL := Lib.hid hL
  clear hO hX hL hz hv hp hA
  go_wp2
  go_loopw [10, 11] (fun v i wr => ∃ k : Nat, k ≤ 8 ∧ i = .int .i64 k ∧ v = .int .i64 (unlC L l k : Nat) ∧ w1 = wr) (fun _ i _ => 8 - (intOf i).toNat)
  case atStart => exact ⟨0, Nat.zero_le _, rfl, by rw [unlC_zero]; rfl, by first | rfl | trivial⟩
  case round =>
    obtain ⟨k, hk, rfl, rfl, rfl⟩ := hrel
    by_cases hlt : k < 8
    · have hc := (own_int_at HO.out (k := k) (by rw [HL.out]; exact hlt)).1
      have hle := unlC_le L l k
      cases hne : (L[k]?.getD 0 != l) with
      | true =>
        have HS := Lib.hid (unlC_yes (l := l) (k := k) (by rw [HL.out]; exact hlt) hne)
        generalize unlC L l k = m at *
        generalize L[k]?.getD 0 = z at *
        go_wp2
        go_roundw
        case rel => exact ⟨k + 1, by omega, by go_num, by rw [HS.out]; simp, by first | rfl | trivial⟩
        case measure => simp [intOf]; omega
      | false =>
        have HS := Lib.hid (unlC_no (l := l) (k := k) (by rw [HL.out]; exact hlt) hne)
        generalize unlC L l k = m at *
        generalize L[k]?.getD 0 = z at *
        go_wp2
        go_roundw
        case rel => exact ⟨k + 1, by omega, by go_num, by rw [HS.out], by first | rfl | trivial⟩
        case measure => simp [intOf]; omega
    · obtain rfl : k = 8 := by omega
      go_wp2
      go_ret
      exact ⟨rfl, HX.out⟩

set_option maxRecDepth 100000 in
theorem unlike_any (W H x y l : Int) (b o n c : Nat) (zs : List Int) (hz : zs.length = n) (hv : vldG W H zs = true) (hx : -10000 ≤ x ∧ x ≤ 10000) (hy : -10000 ≤ y ∧ y ≤ 10000) (w : World) (hA : VArr w (some ⟨b, o, none⟩) (ints zs)) :
    Calls Try.prog 53 #[.agg #[.int .i64 W, .int .i64 H, .slice (some ⟨b, o, none⟩) n c], .int .i64 x, .int .i64 y, .int .i64 l] w fun e w' => e = .returned (.int .i64 (unlN W H zs x y l)) ∧ Ext w w' := by
  have hX0 := (Ext.refl w).alloc (.cells #[.int .i64 W, .int .i64 H, .slice (some ⟨b, o, none⟩) n c] 25)
  have hA1 := hA.ext hX0
  unfold unlN
  obtain ⟨L, hL0⟩ : ∃ L, arL W H zs x y = L := ⟨_, rfl⟩
  have hL := arL_length W H zs x y
  rw [hL0] at hL ⊢
  have HL0 := Lib.hid hL0
  clear hL0
  go_enter Try.func53, Try.ntmps53
  go_wp2_with fail
  refine (around_any W H x y b o n c zs hz hv hx hy _ hA1).mono ?_
  generalize w.alloc (.cells #[.int .i64 W, .int .i64 H, .slice (some ⟨b, o, none⟩) n c] 25) = w0 at *
  rintro e w1 ⟨a', c', rfl, hX, hO⟩
  rw [HL0.out] at hO
  obtain ⟨g, rfl, _, _⟩ := own_int hO (k := 0) (by omega)
  have HO := Lib.hid hO
  have HX := Lib.hid (hX0.trans hX)
  have HL := Lib.hid hL
  clear hO hX hX0 hL hz hv hA hA1
  go_wp2
  go_loopw [9, 17] (fun v i wr => ∃ k : Nat, k ≤ 8 ∧ i = .int .i64 k ∧ v = .int .i64 (unlC L l k : Nat) ∧ w1 = wr) (fun _ i _ => 8 - (intOf i).toNat)
  case atStart => exact ⟨0, Nat.zero_le _, rfl, by rw [unlC_zero]; rfl, by first | rfl | trivial⟩
  case round =>
    obtain ⟨k, hk, rfl, rfl, rfl⟩ := hrel
    by_cases hlt : k < 8
    · have hc := (own_int_at HO.out (k := k) (by rw [HL.out]; exact hlt)).1
      have hle := unlC_le L l k
      cases hne : (L[k]?.getD 0 != l) with
      | true =>
        have HS := Lib.hid (unlC_yes (l := l) (k := k) (by rw [HL.out]; exact hlt) hne)
        generalize unlC L l k = m at *
        generalize L[k]?.getD 0 = z at *
        go_wp2
        go_roundw
        case rel => exact ⟨k + 1, by omega, by go_num, by rw [HS.out]; simp, by first | rfl | trivial⟩
        case measure => simp [intOf]; omega
      | false =>
        have HS := Lib.hid (unlC_no (l := l) (k := k) (by rw [HL.out]; exact hlt) hne)
        generalize unlC L l k = m at *
        generalize L[k]?.getD 0 = z at *
        go_wp2
        go_roundw
        case rel => exact ⟨k + 1, by omega, by go_num, by rw [HS.out], by first | rfl | trivial⟩
        case measure => simp [intOf]; omega
    · obtain rfl : k = 8 := by omega
      go_wp2
      go_ret
      exact ⟨rfl, HX.out⟩

def unlOk (W H : Int) (zs : List Int) (x y l : Int) : Bool := hasF W H zs x y && inB l 0 63
def unlR (W H : Int) (zs : List Int) (x y l : Int) : Int := if unlOk W H zs x y l then unlN W H zs x y l else 0
theorem unlR_no {W H : Int} {zs : List Int} {x y l : Int} (h : unlOk W H zs x y l = false) : unlR W H zs x y l = 0 := by simp [unlR, h]
theorem unlR_yes {W H : Int} {zs : List Int} {x y l : Int} (h : unlOk W H zs x y l = true) : unlR W H zs x y l = unlN W H zs x y l := by simp [unlR, h]

end Go.Proofs.Ytpmcjojipbiinaa
