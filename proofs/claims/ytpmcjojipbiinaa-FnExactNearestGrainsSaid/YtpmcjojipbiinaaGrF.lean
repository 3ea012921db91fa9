/-
  CountOfLabel, by the program and by the reference.
-/
import Derived.Test.YtpmcjojipbiinaaGrE
namespace Go.Proofs.Ytpmcjojipbiinaa
open Go.RowKit
set_option linter.unusedVariables false
set_option linter.unusedSimpArgs false
set_option linter.unnecessarySimpa false

def cntTo (zs : List Int) (l : Int) (k : Nat) : Nat := ((zs.take k).filter fun z => decide (z = l)).length
theorem cntTo_zero (zs : List Int) (l : Int) : cntTo zs l 0 = 0 := by simp [cntTo]
theorem cntTo_le (zs : List Int) (l : Int) (k : Nat) : cntTo zs l k ≤ k := by
  unfold cntTo
  exact Nat.le_trans (List.length_filter_le _ _) (by simp; omega)
theorem cntTo_succ (zs : List Int) (l : Int) {k : Nat} (h : k < zs.length) : cntTo zs l (k + 1) = cntTo zs l k + if zs[k]?.getD 0 = l then 1 else 0 := by
  unfold cntTo
  rw [List.take_succ_eq_append_getElem h, List.filter_append, List.length_append]
  simp only [List.getElem?_eq_getElem h, Option.getD_some]
  by_cases hh : zs[k] = l <;> simp [hh]

theorem l04Count_any (p : Nat) (W H l : Int) (a : Option Addr) (n c : Nat) (zs : List Int) (hz : zs.length = n) (hn : n ≤ 1048576) (w : World) (hp : GrsAt w p W H a n c) (hA : VArr w a (ints zs)) :
    Calls Try.prog 56 #[.pointer (some ⟨p, 0, none⟩), .int .i64 l] w fun e w' => e = .returned (.int .i64 (cntTo zs l n)) ∧ Ext w w' := by
  have HZ := Lib.hid hz
  clear hz
  obtain ⟨p0, p1, p2⟩ := hp
  go_enter Try.func56, Try.ntmps56
  go_wp2
  go_loopw [5, 6] (fun s i wr => ∃ k : Nat, k ≤ n ∧ i = .int .i64 k ∧ s = .int .i64 (cntTo zs l k) ∧ Ext w wr) (fun _ i _ => n - (intOf i).toNat)
  case atStart => exact ⟨0, Nat.zero_le _, rfl, by rw [cntTo_zero]; rfl, Ext.refl _⟩
  case round =>
    obtain ⟨k, hk, rfl, rfl, hX⟩ := hrel
    have HX := Lib.hid hX
    have a2 := hX.cell p2
    have hcl := cntTo_le zs l k
    clear p0 p1 p2
    by_cases hlt : k < n
    · have h1 := hA.ext hX
      obtain ⟨b, o, rfl⟩ := hA.starts (i := k) (by simpa [HZ.out] using hlt)
      have hc := h1.ofInts k (by rw [HZ.out]; exact hlt)
      have HS := Lib.hid (cntTo_succ zs l (k := k) (by rw [HZ.out]; exact hlt))
      rw [List.getD_eq_getElem?_getD] at hc
      obtain ⟨z, hzv⟩ : ∃ z, zs[k]?.getD 0 = z := ⟨_, rfl⟩
      rw [hzv] at hc HS
      clear h1 hX hA hzv
      generalize cntTo zs l k = m at *
      by_cases hzl : z = l
      · subst hzl
        have hS := HS.out
        rw [if_pos rfl] at hS
        have HS' := Lib.hid hS
        clear HS hS
        go_wp2
        go_roundw
        case rel => exact ⟨k + 1, by omega, by go_num, by rw [HS'.out]; go_num, HX.out⟩
        case measure => simp [intOf]; omega
      · have hS := HS.out
        rw [if_neg hzl] at hS
        have HS' := Lib.hid hS
        clear HS hS
        go_wp2
        go_roundw
        case rel => exact ⟨k + 1, by omega, by go_num, by rw [HS'.out]; rfl, HX.out⟩
        case measure => simp [intOf]; omega
    · obtain rfl : k = n := by omega
      clear hX hA
      go_wp2
      go_ret
      exact ⟨rfl, HX.out⟩

def countOk (W H : Int) (zs : List Int) (l : Int) : Bool := vldG W H zs && inB l 0 63
def countR (W H : Int) (zs : List Int) (l : Int) : Int := keepI (countOk W H zs l) (cntTo zs l zs.length)

set_option maxRecDepth 100000 in
theorem implCount_any (W H l : Int) (a : Option Addr) (n c : Nat) (zs : List Int) (hz : zs.length = n) (hn : n ≤ 1048576) (w : World) (hA : VArr w a (ints zs)) :
    Calls Try.prog 59 #[.agg #[.int .i64 W, .int .i64 H, .slice a n c], .int .i64 l] w fun e w' => e = .returned (.tuple #[.int .i64 (countR W H zs l), .bool (countOk W H zs l)]) ∧ Ext w w' := by
  have hX := (Ext.refl w).alloc (.cells #[.int .i64 W, .int .i64 H, .slice a n c] 25)
  have b0 := heap_new w (.cells #[.int .i64 W, .int .i64 H, .slice a n c] 25)
  have hA1 := hA.ext hX
  go_enter Try.func59, Try.ntmps59
  go_wp2_with fail
  refine (implValid_any W H a n c zs hz (by omega) _ hA1).mono ?_
  generalize w.alloc (.cells #[.int .i64 W, .int .i64 H, .slice a n c] 25) = w0 at *
  rintro e w1 ⟨rfl, hX1⟩
  cases hv : vldG W H zs with
  | false =>
    have hk : countOk W H zs l = false := by simp [countOk, hv]
    have HR : Hid (countOk W H zs l = false ∧ countR W H zs l = 0) := ⟨hk, keepI_no hk⟩
    have HE := Lib.hid (hX.trans hX1)
    clear hX hX1 b0 hA hA1 hv hk
    go_wp2
    go_ret2
    exact ⟨by rw [HR.out.1, HR.out.2]; rfl, HE.out⟩
  | true =>
    cases hx : inB l 0 63 with
    | false =>
      have hk : countOk W H zs l = false := by simp [countOk, hx]
      have HR : Hid (countOk W H zs l = false ∧ countR W H zs l = 0) := ⟨hk, keepI_no hk⟩
      have HE := Lib.hid (hX.trans hX1)
      have HXX := Lib.hid hx
      clear hX hX1 b0 hA hA1 hv hk hx
      go_wp2_with (go_at_call 77; refine (isLabel_any _ _).mono ?_; rw [HXX.out]; rintro e w' ⟨rfl, rfl⟩)
      go_ret2
      exact ⟨by rw [HR.out.1, HR.out.2]; rfl, HE.out⟩
    | true =>
      have hk : countOk W H zs l = true := by simp [countOk, hx, hv]
      have HR : Hid (countOk W H zs l = true ∧ countR W H zs l = cntTo zs l n) := ⟨hk, by unfold countR; rw [keepI_yes hk, hz]⟩
      have HXX := Lib.hid hx
      have hE := hX.trans hX1
      have HZ := Lib.hid hz
      obtain ⟨⟨c0, c1, c2⟩, _⟩ := block3 (hX1.block b0)
      clear hv hx hk b0 hX hX1 hA1 hz
      go_wp2_with fail
      refine (isLabel_any _ _).mono ?_
      rw [HXX.out]
      rintro e w' ⟨rfl, rfl⟩
      go_wp2
      go_loopw [6, 20] (fun s i wr => ∃ k : Nat, k ≤ n ∧ i = .int .i64 k ∧ s = .int .i64 (cntTo zs l k) ∧ Ext w wr) (fun _ i _ => n - (intOf i).toNat)
      case atStart => exact ⟨0, Nat.zero_le _, rfl, by rw [cntTo_zero]; rfl, hE⟩
      case round =>
        obtain ⟨k, hk, rfl, rfl, hX⟩ := hrel
        have HX := Lib.hid hX
        have hcl := cntTo_le zs l k
        clear c0 c1 c2
        by_cases hlt : k < n
        · have h1 := hA.ext hX
          obtain ⟨b, o, rfl⟩ := hA.starts (i := k) (by simpa [HZ.out] using hlt)
          have hc := h1.ofInts k (by rw [HZ.out]; exact hlt)
          have HS := Lib.hid (cntTo_succ zs l (k := k) (by rw [HZ.out]; exact hlt))
          rw [List.getD_eq_getElem?_getD] at hc
          obtain ⟨z, hzv⟩ : ∃ z, zs[k]?.getD 0 = z := ⟨_, rfl⟩
          rw [hzv] at hc HS
          clear h1 hX hA hzv
          generalize cntTo zs l k = m at *
          by_cases hzl : z = l
          · subst hzl
            have hS := HS.out
            rw [if_pos rfl] at hS
            have HS' := Lib.hid hS
            clear HS hS
            go_wp2
            go_roundw
            case rel => exact ⟨k + 1, by omega, by go_num, by rw [HS'.out]; go_num, HX.out⟩
            case measure => simp [intOf]; omega
          · have hS := HS.out
            rw [if_neg hzl] at hS
            have HS' := Lib.hid hS
            clear HS hS
            go_wp2
            go_roundw
            case rel => exact ⟨k + 1, by omega, by go_num, by rw [HS'.out]; rfl, HX.out⟩
            case measure => simp [intOf]; omega
        · obtain rfl : k = n := by omega
          clear hX hA
          go_wp2
          go_ret2
          exact ⟨by rw [HR.out.1, HR.out.2]; rfl, HX.out⟩
end Go.Proofs.Ytpmcjojipbiinaa
