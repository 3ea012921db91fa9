/-
  Contracts of TopAt and SameHeights, by the reference and by the program.
-/
import Derived.Test.YtdggpkgbncmlbaaAtB
namespace Go.Proofs.Ytdggpkgbncmlbaa
open Go.RowKit
set_option linter.unusedVariables false
set_option linter.unusedSimpArgs false
set_option linter.unnecessarySimpa false

/-- What TopAt answers. -/
def topR (W H : Int) (zs : List Int) (x y : Int) : Int := if hasF W H zs x y = true then zs[(cellF W H x y).toNat]?.getD 0 else 0

theorem implTopAt_any (W H x y : Int) (a : Option Addr) (n c : Nat) (zs : List Int) (hz : zs.length = n) (hn : n ≤ 1048576) (w : World) (hA : VArr w a (ints zs)) :
    Calls Try.prog 33 #[.agg #[.int .i64 W, .int .i64 H, .slice a n c], .int .i64 x, .int .i64 y] w fun e w' => e = .returned (.tuple #[.int .i64 (topR W H zs x y), .bool (hasF W H zs x y)]) ∧ Ext w w' := by
  have hX := (Ext.refl w).alloc (.cells #[.int .i64 W, .int .i64 H, .slice a n c] 33)
  have hA1 := hA.ext hX
  have B0 := heap_new w (.cells #[.int .i64 W, .int .i64 H, .slice a n c] 33)
  go_enter Try.func33, Try.ntmps33
  go_wp2_with fail
  refine (has_any W H x y a n c zs hz hn _ hA1).mono ?_
  generalize w.alloc (.cells #[.int .i64 W, .int .i64 H, .slice a n c] 33) = w0 at *
  generalize w.heap.size = p at *
  cases hv : hasF W H zs x y with
  | false =>
    rintro e w1 ⟨rfl, hX1⟩
    have HX := Lib.hid (hX.trans hX1)
    have HR : Hid (topR W H zs x y = 0) := by show _ = _; simp [topR, hv]
    clear hX hX1 B0 hA1 hA
    have HV := Lib.hid hv
    clear hv
    go_wp2
    go_ret2
    exact ⟨by rw [HR.out, HV.out]; rfl, HX.out⟩
  | true =>
    rintro e w1 ⟨rfl, hX1⟩
    obtain ⟨⟨c0, c1, c2⟩, _⟩ := block3 (hX1.block B0)
    have hA2 := hA1.ext hX1
    have HX := Lib.hid (hX.trans hX1)
    have hvv := (hasF_iff.1 hv).1
    obtain ⟨_, _, _, ⟨hn4, _⟩, _⟩ := vld_facts hvv hz
    obtain ⟨b, o, rfl⟩ := hA.starts (i := 0) (by simp; omega)
    have HR : Hid (topR W H zs x y = zs[(cellF W H x y).toNat]?.getD 0) := by show _ = _; simp [topR, hv]
    clear hX hX1 B0 hA1 hA
    have HV := Lib.hid hv
    have HVV := Lib.hid hvv
    clear hv hvv
    go_wp2_with (go_at_call 77; refine (top_any W H x y b o n c zs hz HVV.out _ hA2).mono ?_; rintro e w2 ⟨rfl, hX2⟩)
    go_ret2
    exact ⟨by rw [HR.out, HV.out]; rfl, HX.out.trans (by assumption)⟩

theorem specTopAt_any (W H x y : Int) (a : Option Addr) (n c : Nat) (zs : List Int) (hz : zs.length = n) (hn : n ≤ 1048576) (w : World) (hA : VArr w a (ints zs)) :
    Calls Try.prog 32 #[.agg #[.int .i64 W, .int .i64 H, .slice a n c], .int .i64 x, .int .i64 y] w fun e w' => e = .returned (.tuple #[.int .i64 (topR W H zs x y), .bool (hasF W H zs x y)]) ∧ Ext w w' := by
  have hX := (Ext.refl w).alloc (.cells #[.int .i64 W, .int .i64 H, .slice a n c] 33)
  have hA1 := hA.ext hX
  have hp : HtsAt (w.alloc (.cells #[.int .i64 W, .int .i64 H, .slice a n c] 33)) w.heap.size W H a n c := (block3 (heap_new w _)).1
  go_enter Try.func32, Try.ntmps32
  go_wp2_with fail
  refine (l05Cell_any _ W H x y a n c zs hz hn _ hp hA1).mono ?_
  generalize w.alloc (.cells #[.int .i64 W, .int .i64 H, .slice a n c] 33) = w0 at *
  generalize w.heap.size = p at *
  cases hv : hasF W H zs x y with
  | false =>
    rintro e w1 ⟨rfl, hX1⟩
    have HX := Lib.hid (hX.trans hX1)
    have HR : Hid (topR W H zs x y = 0) := by show _ = _; simp [topR, hv]
    clear hX hX1 hp hA1 hA
    have HV := Lib.hid hv
    clear hv
    go_wp2
    go_ret2
    exact ⟨by rw [HR.out, HV.out]; rfl, HX.out⟩
  | true =>
    rintro e w1 ⟨rfl, hX1⟩
    obtain ⟨p0, p1, p2⟩ := hp.ext hX1
    have hA2 := hA1.ext hX1
    have HX := Lib.hid (hX.trans hX1)
    obtain ⟨hvv, hx, hy⟩ := hasF_iff.1 hv
    obtain ⟨x1, x2⟩ := inB_iff.1 hx
    obtain ⟨y1, y2⟩ := inB_iff.1 hy
    obtain ⟨hW, hH, hnn, ⟨hn4, hn5⟩, _⟩ := vld_facts hvv hz
    obtain ⟨b, o, rfl⟩ := hA.starts (i := 0) (by simp; omega)
    have hcell := cellF_id (W := W) (H := H) x1 (by omega) y1 (by omega)
    have hbd := cellF_bd (W := W) (H := H) x y (by omega) (by omega)
    have HR : Hid (topR W H zs x y = zs[(cellF W H x y).toNat]?.getD 0) := by show _ = _; simp [topR, hv]
    rw [hcell] at hbd
    obtain ⟨i, hi⟩ : ∃ i : Nat, x + W * y = i := ⟨(x + W * y).toNat, by omega⟩
    have hic : (cellF W H x y).toNat = i := by rw [hcell, hi]; simp
    rw [hic] at HR
    have m1 := Int.mul_nonneg (a := W) (b := y) (by omega) y1
    have hc := hA2.ofInts i (by omega)
    have hc' : w1.cell? ⟨b, o + (x + W * y).toNat, none⟩ = some (.int .i64 (zs.getD i 0)) := by rw [hi]; exact hc
    have hi1 : 0 ≤ x + W * y := by omega
    have hi2 : x + W * y < n := by omega
    have hi3 : x + W * y ≤ 256 := by omega
    clear hc
    have HV := Lib.hid hv
    clear hX hX1 hp hA1 hA hv hvv hi hx hy hic hbd hcell hA2 hnn
    go_wp2
    go_ret2
    exact ⟨by rw [HR.out, HV.out]; rfl, HX.out⟩

/-- Which heights are the same. -/
def sameH (W H W' H' : Int) (zs zs' : List Int) : Bool := W == W' && H == H' && decide (zs = zs')

theorem equal_any (a a' : Option Addr) (n c n' c' : Nat) (zs zs' : List Int) (hz : zs.length = n) (hz' : zs'.length = n') (hn : n ≤ 1152921504606846976) (hn' : n' ≤ 1152921504606846976) (w : World) (hA : VArr w a (ints zs)) (hA' : VArr w a' (ints zs')) :
    Calls Try.prog 70 #[.slice a n c, .slice a' n' c'] w fun e w' => e = .returned (.bool (decide (zs = zs'))) ∧ Ext w w' := by
  have HZ := Lib.hid hz
  have HZ' := Lib.hid hz'
  clear hz hz'
  by_cases hnn : n = n'
  · subst hnn
    go_enter Try.func70, Try.ntmps70
    go_wp2
    go_loopw [13] (fun i wr => ∃ k : Nat, k ≤ n ∧ i = .int .i64 k ∧ Ext w wr ∧ zs.take k = zs'.take k) (fun i _ => n - (intOf i).toNat)
    case atStart => exact ⟨0, Nat.zero_le _, rfl, Ext.refl _, by simp⟩
    case round =>
      obtain ⟨k, hk, rfl, hX, hT⟩ := hrel
      have HX := Lib.hid hX
      have HT := Lib.hid hT
      clear hT
      by_cases hlt : k < n
      · have h1 := hA.ext hX
        have h2 := hA'.ext hX
        obtain ⟨b, o, rfl⟩ := hA.starts (i := k) (by simpa [HZ.out] using hlt)
        obtain ⟨b', o', rfl⟩ := hA'.starts (i := k) (by simpa [HZ'.out] using hlt)
        have hc := h1.ofInts k (by rw [HZ.out]; exact hlt)
        have hc' := h2.ofInts k (by rw [HZ'.out]; exact hlt)
        clear h1 h2 hX hA hA'
        go_wp2
        go_quiet (fail)
        by_cases heq : zs[k]?.getD 0 = zs'[k]?.getD 0
        · have e1 : (zs[k]?.getD 0 != zs'[k]?.getD 0) = false := by simp [heq]
          have HE := Lib.hid heq
          clear heq
          go_wp2
          go_roundw
          case rel => exact ⟨k + 1, by omega, by go_num, Ext.trans HX.out ((Ext.refl _).drewN _), by rw [List.take_add_one, List.take_add_one, HT.out, getElem?_of_getD HZ.out hlt, getElem?_of_getD HZ'.out hlt, HE.out]⟩
          case measure => simp [intOf]; omega
        · have e1 : (zs[k]?.getD 0 != zs'[k]?.getD 0) = true := by simp [heq]
          have HE := Lib.hid heq
          clear heq
          go_wp2
          go_ret
          refine ⟨?_, Ext.trans HX.out ((Ext.refl _).drewN _)⟩
          have : ¬ zs = zs' := fun e => HE.out (by rw [e])
          simp [this]
      · obtain rfl : k = n := by omega
        clear hX
        go_wp2
        go_ret
        refine ⟨?_, HX.out⟩
        have := HT.out
        rw [List.take_of_length_le (Nat.le_of_eq HZ.out), List.take_of_length_le (Nat.le_of_eq HZ'.out)] at this
        simp [this]
  · have e1 : ((n : Int) != (n' : Int)) = true := by simp; omega
    go_enter Try.func70, Try.ntmps70
    go_wp2
    go_ret
    refine ⟨?_, Ext.refl _⟩
    have : ¬ zs = zs' := fun e => hnn (by rw [← HZ.out, ← HZ'.out, e])
    simp [this]

theorem implSame_any (W H W' H' : Int) (a a' : Option Addr) (n c n' c' : Nat) (zs zs' : List Int) (hz : zs.length = n) (hz' : zs'.length = n') (hn : n ≤ 1048576) (hn' : n' ≤ 1048576) (w : World) (hA : VArr w a (ints zs)) (hA' : VArr w a' (ints zs')) :
    Calls Try.prog 26 #[.agg #[.int .i64 W, .int .i64 H, .slice a n c], .agg #[.int .i64 W', .int .i64 H', .slice a' n' c']] w fun e w' => e = .returned (.bool (sameH W H W' H' zs zs')) ∧ Ext w w' := by
  have hX0 : Ext w ((w.alloc (.cells #[.int .i64 W, .int .i64 H, .slice a n c] 33)).alloc (.cells #[.int .i64 W', .int .i64 H', .slice a' n' c'] 33)) := ((Ext.refl w).alloc _).alloc _
  have hA1 := hA.ext hX0
  have hA1' := hA'.ext hX0
  have HX := Lib.hid hX0
  clear hX0 hA hA'
  cases e1 : (W == W') with
  | false =>
    have HR : Hid (sameH W H W' H' zs zs' = false) := by show _ = _; simp [sameH, e1]
    go_enter Try.func26, Try.ntmps26
    go_wp2
    go_ret
    exact ⟨by rw [HR.out]; rfl, HX.out⟩
  | true =>
    cases e2 : (H == H') with
    | false =>
      have HR : Hid (sameH W H W' H' zs zs' = false) := by show _ = _; simp [sameH, e2]
      go_enter Try.func26, Try.ntmps26
      go_wp2
      go_ret
      exact ⟨by rw [HR.out]; rfl, HX.out⟩
    | true =>
      have HR : Hid (sameH W H W' H' zs zs' = decide (zs = zs')) := by show _ = _; simp [sameH, e1, e2]
      go_enter Try.func26, Try.ntmps26
      go_wp2_with (go_at_call 70; refine (equal_any a a' n c n' c' zs zs' hz hz' (by omega) (by omega) _ hA1 hA1').mono ?_; rintro e w' ⟨rfl, hw⟩)
      go_ret
      exact ⟨by rw [HR.out]; rfl, HX.out.trans (by assumption)⟩

theorem specSame_any (W H W' H' : Int) (a a' : Option Addr) (n c n' c' : Nat) (zs zs' : List Int) (hz : zs.length = n) (hz' : zs'.length = n') (hn : n ≤ 1048576) (hn' : n' ≤ 1048576) (w : World) (hA : VArr w a (ints zs)) (hA' : VArr w a' (ints zs')) :
    Calls Try.prog 24 #[.agg #[.int .i64 W, .int .i64 H, .slice a n c], .agg #[.int .i64 W', .int .i64 H', .slice a' n' c']] w fun e w' => e = .returned (.bool (sameH W H W' H' zs zs')) ∧ Ext w w' := by
  have hX0 : Ext w ((w.alloc (.cells #[.int .i64 W, .int .i64 H, .slice a n c] 33)).alloc (.cells #[.int .i64 W', .int .i64 H', .slice a' n' c'] 33)) := ((Ext.refl w).alloc _).alloc _
  have HX := Lib.hid hX0
  have HZ := Lib.hid hz
  have HZ' := Lib.hid hz'
  clear hz hz'
  cases e1 : (W != W') with
  | true =>
    have HR : Hid (sameH W H W' H' zs zs' = false) := by show _ = _; simp [sameH]; intro h; simp [h] at e1
    clear hX0 hA hA'
    go_enter Try.func24, Try.ntmps24
    go_wp2
    go_ret
    exact ⟨by rw [HR.out]; rfl, HX.out⟩
  | false =>
    cases e2 : (H != H') with
    | true =>
      have HR : Hid (sameH W H W' H' zs zs' = false) := by show _ = _; simp [sameH]; intro _ h; simp [h] at e2
      clear hX0 hA hA'
      go_enter Try.func24, Try.ntmps24
      go_wp2
      go_ret
      exact ⟨by rw [HR.out]; rfl, HX.out⟩
    | false =>
      by_cases hnn : n = n'
      · subst hnn
        have HR : Hid (sameH W H W' H' zs zs' = decide (zs = zs')) := by show _ = _; simp at e1 e2; simp [sameH, e1, e2]
        have b0 := heap_mid1 w (.cells #[.int .i64 W, .int .i64 H, .slice a n c] 33) (.cells #[.int .i64 W', .int .i64 H', .slice a' n c'] 33)
        have b1 := heap_new1 w (.cells #[.int .i64 W, .int .i64 H, .slice a n c] 33) (.cells #[.int .i64 W', .int .i64 H', .slice a' n c'] 33)
        go_enter Try.func24, Try.ntmps24
        go_wp2
        go_loopw [30] (fun i wr => ∃ k : Nat, k ≤ n ∧ i = .int .i64 k ∧ Ext ((w.alloc (.cells #[.int .i64 W, .int .i64 H, .slice a n c] 33)).alloc (.cells #[.int .i64 W', .int .i64 H', .slice a' n c'] 33)) wr ∧ zs.take k = zs'.take k) (fun i _ => n - (intOf i).toNat)
        case atStart => exact ⟨0, Nat.zero_le _, rfl, Ext.refl _, by simp⟩
        case round =>
          obtain ⟨k, hk, rfl, hX, hT⟩ := hrel
          have hX' := hX0.trans hX
          have HX' := Lib.hid hX'
          have HXX := Lib.hid hX
          have HT := Lib.hid hT
          obtain ⟨⟨c0, c1, c2⟩, _⟩ := block3 (hX.block b0)
          obtain ⟨⟨d0, d1, d2⟩, _⟩ := block3 (hX.block b1)
          clear hT b0 b1 hX0 hX
          by_cases hlt : k < n
          · have h1 := hA.ext hX'
            have h2 := hA'.ext hX'
            obtain ⟨b, o, rfl⟩ := hA.starts (i := k) (by simpa [HZ.out] using hlt)
            obtain ⟨b', o', rfl⟩ := hA'.starts (i := k) (by simpa [HZ'.out] using hlt)
            have hc := h1.ofInts k (by rw [HZ.out]; exact hlt)
            have hc' := h2.ofInts k (by rw [HZ'.out]; exact hlt)
            clear h1 h2 hX' hA hA'
            go_wp2
            go_quiet (fail)
            by_cases heq : zs[k]?.getD 0 = zs'[k]?.getD 0
            · have e1 : (zs[k]?.getD 0 != zs'[k]?.getD 0) = false := by simp [heq]
              have HE := Lib.hid heq
              clear heq
              go_wp2
              go_roundw
              case rel => exact ⟨k + 1, by omega, by go_num, HXX.out.trans ((Ext.refl _).drewN _), by rw [List.take_add_one, List.take_add_one, HT.out, getElem?_of_getD HZ.out hlt, getElem?_of_getD HZ'.out hlt, HE.out]⟩
              case measure => simp [intOf]; omega
            · have e1 : (zs[k]?.getD 0 != zs'[k]?.getD 0) = true := by simp [heq]
              have HE := Lib.hid heq
              clear heq
              go_wp2
              go_ret
              refine ⟨?_, Ext.trans HX'.out ((Ext.refl _).drewN _)⟩
              have : ¬ zs = zs' := fun e => HE.out (by rw [e])
              rw [HR.out]; simp [this]
          · obtain rfl : k = n := by omega
            clear hX'
            go_wp2
            go_ret
            refine ⟨?_, HX'.out⟩
            have := HT.out
            rw [List.take_of_length_le (Nat.le_of_eq HZ.out), List.take_of_length_le (Nat.le_of_eq HZ'.out)] at this
            rw [HR.out]; simp [this]
      · have e3 : ((n : Int) != (n' : Int)) = true := by simp; omega
        have HR : Hid (sameH W H W' H' zs zs' = false) := by
          show _ = _
          have : ¬ zs = zs' := fun e => hnn (by rw [← HZ.out, ← HZ'.out, e])
          simp [sameH, this]
        clear hX0 hA hA'
        go_enter Try.func24, Try.ntmps24
        go_wp2
        go_ret
        exact ⟨by rw [HR.out]; rfl, HX.out⟩
end Go.Proofs.Ytdggpkgbncmlbaa
