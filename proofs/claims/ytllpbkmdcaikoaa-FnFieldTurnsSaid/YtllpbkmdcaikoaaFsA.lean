/-
  SameField, by the program and by the reference.
-/
import Derived.Test.YtllpbkmdcaikoaaFbe
import Derived.Test.YtllpbkmdcaikoaaFlJ
namespace Go.Proofs.Ytllpbkmdcaikoaa
open Go.RowKit
set_option linter.unusedVariables false
set_option linter.unusedSimpArgs false
set_option linter.unnecessarySimpa false

def sameL (zs zs' : List Nat) : Bool := decide (fas zs = fas zs')
def wfF (zs : List Nat) : Prop := ∀ k, k < zs.length → zs[k]?.getD 0 < 4294967296
theorem take_step {zs zs' : List Nat} {k : Nat} (hk : k < zs.length) (hk' : k < zs'.length) (h : fas (zs.take k) = fas (zs'.take k)) (hs : sameB (zs[k]?.getD 0) (zs'[k]?.getD 0) = true) : fas (zs.take (k + 1)) = fas (zs'.take (k + 1)) := by
  have e1 : zs[k]? = some (zs[k]?.getD 0) := by rw [List.getElem?_eq_getElem hk]; rfl
  have e2 : zs'[k]? = some (zs'[k]?.getD 0) := by rw [List.getElem?_eq_getElem hk']; rfl
  unfold sameB at hs
  rw [List.take_add_one, List.take_add_one, fas_append, fas_append, h, e1, e2]
  congr 1
  simpa [fas] using hs
theorem same_not {zs zs' : List Nat} {k : Nat} (hk : k < zs.length) (hk' : k < zs'.length) (hs : sameB (zs[k]?.getD 0) (zs'[k]?.getD 0) = false) : sameL zs zs' = false := by
  unfold sameL
  simp only [decide_eq_false_iff_not]
  intro h
  have h1 := fas_at h hk
  have h2 := fas_at (rfl : fas zs' = fas zs') hk'
  unfold sameB at hs
  simp only [decide_eq_false_iff_not] at hs
  exact hs (h1.trans h2.symm)
theorem same_len {zs zs' : List Nat} (h : ¬ zs.length = zs'.length) : sameL zs zs' = false := by
  unfold sameL
  simp only [decide_eq_false_iff_not]
  intro e
  have := congrArg List.length e
  simp at this
  exact h this

set_option maxRecDepth 100000 in
theorem l01SameAll_any (a a' : Option Addr) (n c n' c' : Nat) (zs zs' : List Nat) (hz : zs.length = n) (hz' : zs'.length = n') (hn : n ≤ 1152921504606846976) (hn' : n' ≤ 1152921504606846976) (hw : wfF zs) (hw' : wfF zs') (w : World) (hA : VArr w a (flts zs)) (hA' : VArr w a' (flts zs')) :
    Calls Try.prog 106 #[.slice a n c, .slice a' n' c'] w fun e w' => e = .returned (.bool (sameL zs zs')) ∧ Ext w w' := by
  have HZ := Lib.hid hz
  have HZ' := Lib.hid hz'
  have HW := Lib.hid hw
  have HW' := Lib.hid hw'
  clear hz hz' hw hw'
  by_cases hnn : n = n'
  · subst hnn
    go_enter Try.func106, Try.ntmps106
    go_wp2
    go_loopw [5] (fun i wr => ∃ k : Nat, k ≤ n ∧ i = .int .i64 k ∧ Ext w wr ∧ fas (zs.take k) = fas (zs'.take k)) (fun i _ => n - (intOf i).toNat)
    case atStart => exact ⟨0, Nat.zero_le _, rfl, Ext.refl _, by simp⟩
    case round =>
      obtain ⟨k, hk, rfl, hX, hT⟩ := hrel
      have HX := Lib.hid hX
      have HT := Lib.hid hT
      clear hT
      by_cases hlt : k < n
      · have h1 := hA.ext hX
        have h2 := hA'.ext hX
        obtain ⟨b, o, rfl⟩ := hA.starts (i := k) (by simpa [HZ.out] using hlt)
        obtain ⟨b', o', rfl⟩ := hA'.starts (i := k) (by simpa [HZ'.out] using hlt)
        have hc := h1.ofFlts k (by rw [HZ.out]; exact hlt)
        have hc' := h2.ofFlts k (by rw [HZ'.out]; exact hlt)
        rw [List.getD_eq_getElem?_getD] at hc hc'
        have hb := HW.out k (by rw [HZ.out]; exact hlt)
        have hb' := HW'.out k (by rw [HZ'.out]; exact hlt)
        have HY : Hid (sameB (zs[k]?.getD 0) (zs'[k]?.getD 0) = true → fas (zs.take (k + 1)) = fas (zs'.take (k + 1))) := fun h => take_step (by rw [HZ.out]; exact hlt) (by rw [HZ'.out]; exact hlt) HT.out h
        have HNO : Hid (sameB (zs[k]?.getD 0) (zs'[k]?.getD 0) = false → sameL zs zs' = false) := fun h => same_not (by rw [HZ.out]; exact hlt) (by rw [HZ'.out]; exact hlt) h
        clear h1 h2 hX hA hA'
        generalize zs[k]?.getD 0 = x at *
        generalize zs'[k]?.getD 0 = y at *
        go_wp2_with fail
        refine region_grow (C := Ext wr) (K := fun _ _ V _ => V = .bool (sameB x y)) ⟨fun _ _ h k => h.trans k, fun _ _ _ _ _ h _ => h⟩ (by kernel_rfl) (by kernel_rfl) ((Ext.refl wr).drew) ?_
        iterate 8 (refine grow_q rfl ?_; apply Exists.intro; refine ⟨fun u' hu' _ => ?_, ?_⟩; focus (have g0 := hu'.cell hc; have g1 := hu'.cell hc'; go_simp; rfl))
        refine grow_c1 119 rfl ⟨#[.float .f32 x, .float .f32 y], fun u' => ?_, _, fun u' hu' _ => (l01Same_any x y hb hb' u').mono (fun e w' h => ⟨h.1, by rw [h.2]; exact Ext.refl _⟩), fun V u h => h, fun u => rfl, ?_⟩
        · go_simp
        iterate 1 (refine grow_q rfl ?_; apply Exists.intro; refine ⟨fun u' hu' _ => ?_, ?_⟩; focus (go_simp; rfl))
        refine grow_nil (fun w4 hw4 _ => ?_)
        have HX4 := Lib.hid (HX.out.trans hw4)
        clear hw4 hc hc' HX
        go_simp
        cases hsb : sameB x y with
        | true =>
          have HY2 := Lib.hid (HY.out hsb)
          clear hsb HNO HY
          go_wp2
          go_roundw
          case rel => exact ⟨k + 1, by omega, by go_num, HX4.out, HY2.out⟩
          case measure => simp [intOf]; omega
        | false =>
          have HN2 := Lib.hid (HNO.out hsb)
          clear hsb HNO HY
          go_wp2
          go_ret
          exact ⟨by rw [HN2.out]; rfl, HX4.out⟩
      · obtain rfl : k = n := by omega
        have HS : Hid (sameL zs zs' = true) := by
          have := HT.out
          rw [List.take_of_length_le (Nat.le_of_eq HZ.out), List.take_of_length_le (Nat.le_of_eq HZ'.out)] at this
          show _ = _
          simp [sameL, this]
        clear hX
        go_wp2
        go_ret
        exact ⟨by rw [HS.out]; rfl, HX.out⟩
  · have e1 : ((n : Int) != (n' : Int)) = true := by simp; omega
    have HS := Lib.hid (same_len (zs := zs) (zs' := zs') (by rw [HZ.out, HZ'.out]; exact hnn))
    go_enter Try.func106, Try.ntmps106
    go_wp2
    go_ret
    exact ⟨by rw [HS.out]; rfl, Ext.refl _⟩

set_option maxRecDepth 100000 in
theorem equalFunc_any (a a' : Option Addr) (n c n' c' : Nat) (zs zs' : List Nat) (hz : zs.length = n) (hz' : zs'.length = n') (hn : n ≤ 1152921504606846976) (hn' : n' ≤ 1152921504606846976) (hw : wfF zs) (hw' : wfF zs') (w : World) (hA : VArr w a (flts zs)) (hA' : VArr w a' (flts zs')) :
    Calls Try.prog 107 #[.slice a n c, .slice a' n' c', .func (.func 108) #[] #[]] w fun e w' => e = .returned (.bool (sameL zs zs')) ∧ Ext w w' := by
  have HZ := Lib.hid hz
  have HZ' := Lib.hid hz'
  have HW := Lib.hid hw
  have HW' := Lib.hid hw'
  clear hz hz' hw hw'
  by_cases hnn : n = n'
  · subst hnn
    go_enter Try.func107, Try.ntmps107
    go_wp2
    go_loopw [17] (fun i wr => ∃ k : Nat, k ≤ n ∧ i = .int .i64 k ∧ Ext w wr ∧ fas (zs.take k) = fas (zs'.take k)) (fun i _ => n - (intOf i).toNat)
    case atStart => exact ⟨0, Nat.zero_le _, rfl, Ext.refl _, by simp⟩
    case round =>
      obtain ⟨k, hk, rfl, hX, hT⟩ := hrel
      have HX := Lib.hid hX
      have HT := Lib.hid hT
      clear hT
      by_cases hlt : k < n
      · have h1 := hA.ext hX
        have h2 := hA'.ext hX
        obtain ⟨b, o, rfl⟩ := hA.starts (i := k) (by simpa [HZ.out] using hlt)
        obtain ⟨b', o', rfl⟩ := hA'.starts (i := k) (by simpa [HZ'.out] using hlt)
        have hc := h1.ofFlts k (by rw [HZ.out]; exact hlt)
        have hc' := h2.ofFlts k (by rw [HZ'.out]; exact hlt)
        rw [List.getD_eq_getElem?_getD] at hc hc'
        have hb := HW.out k (by rw [HZ.out]; exact hlt)
        have hb' := HW'.out k (by rw [HZ'.out]; exact hlt)
        have HY : Hid (sameB (zs[k]?.getD 0) (zs'[k]?.getD 0) = true → fas (zs.take (k + 1)) = fas (zs'.take (k + 1))) := fun h => take_step (by rw [HZ.out]; exact hlt) (by rw [HZ'.out]; exact hlt) HT.out h
        have HNO : Hid (sameB (zs[k]?.getD 0) (zs'[k]?.getD 0) = false → sameL zs zs' = false) := fun h => same_not (by rw [HZ.out]; exact hlt) (by rw [HZ'.out]; exact hlt) h
        clear h1 h2 hX hA hA'
        generalize zs[k]?.getD 0 = x at *
        generalize zs'[k]?.getD 0 = y at *
        go_wp2_with fail
        refine (sameNumber_any x y hb hb' _).mono ?_
        rintro e w4 ⟨rfl, hX4⟩
        have HX4 := Lib.hid (HX.out.trans hX4)
        clear hX4 hc hc' HX
        cases hsb : sameB x y with
        | true =>
          have HY2 := Lib.hid (HY.out hsb)
          clear hsb HNO HY
          go_wp2
          go_roundw
          case rel => exact ⟨k + 1, by omega, by go_num, HX4.out, HY2.out⟩
          case measure => simp [intOf]; omega
        | false =>
          have HN2 := Lib.hid (HNO.out hsb)
          clear hsb HNO HY
          go_wp2
          go_ret
          exact ⟨by rw [HN2.out]; rfl, HX4.out⟩
      · obtain rfl : k = n := by omega
        have HS : Hid (sameL zs zs' = true) := by
          have := HT.out
          rw [List.take_of_length_le (Nat.le_of_eq HZ.out), List.take_of_length_le (Nat.le_of_eq HZ'.out)] at this
          show _ = _
          simp [sameL, this]
        clear hX
        go_wp2
        go_ret
        exact ⟨by rw [HS.out]; rfl, HX.out⟩
  · have e1 : ((n : Int) != (n' : Int)) = true := by simp; omega
    have HS := Lib.hid (same_len (zs := zs) (zs' := zs') (by rw [HZ.out, HZ'.out]; exact hnn))
    go_enter Try.func107, Try.ntmps107
    go_wp2
    go_ret
    exact ⟨by rw [HS.out]; rfl, Ext.refl _⟩

theorem sameNumbers_any (a a' : Option Addr) (n c n' c' : Nat) (zs zs' : List Nat) (hz : zs.length = n) (hz' : zs'.length = n') (hn : n ≤ 1152921504606846976) (hn' : n' ≤ 1152921504606846976) (hw : wfF zs) (hw' : wfF zs') (w : World) (hA : VArr w a (flts zs)) (hA' : VArr w a' (flts zs')) :
    Calls Try.prog 62 #[.slice a n c, .slice a' n' c'] w fun e w' => e = .returned (.bool (sameL zs zs')) ∧ Ext w w' := by
  go_enter Try.func62, Try.ntmps62
  go_wp2_with fail
  refine (equalFunc_any a a' n c n' c' zs zs' hz hz' hn hn' hw hw' _ hA hA').mono ?_
  rintro e w1 ⟨rfl, hX⟩
  clear hA hA' hz hz'
  go_wp2
  go_ret
  exact ⟨rfl, hX⟩

def sameFB (W H : Int) (R : Bool) (W' H' : Int) (R' : Bool) (zs zs' : List Nat) : Bool := alikeB W H R W' H' R' && sameL zs zs'

set_option maxRecDepth 100000 in
theorem implSameF_any (W H W' H' : Int) (R R' : Bool) (a a' : Option Addr) (n c n' c' : Nat) (zs zs' : List Nat) (hz : zs.length = n) (hz' : zs'.length = n') (hn : n ≤ 1048576) (hn' : n' ≤ 1048576) (hw : wfF zs) (hw' : wfF zs') (w : World) (hA : VArr w a (flts zs)) (hA' : VArr w a' (flts zs')) :
    Calls Try.prog 20 #[.agg #[.int .i64 W, .int .i64 H, .bool R, .slice a n c], .agg #[.int .i64 W', .int .i64 H', .bool R', .slice a' n' c']] w fun e w' => e = .returned (.bool (sameFB W H R W' H' R' zs zs')) ∧ Ext w w' := by
  have hX0 : Ext w ((w.alloc (.cells #[.int .i64 W, .int .i64 H, .bool R, .slice a n c] 27)).alloc (.cells #[.int .i64 W', .int .i64 H', .bool R', .slice a' n' c'] 27)) := ((Ext.refl w).alloc _).alloc _
  have b0 := heap_mid1 w (.cells #[.int .i64 W, .int .i64 H, .bool R, .slice a n c] 27) (.cells #[.int .i64 W', .int .i64 H', .bool R', .slice a' n' c'] 27)
  have b1 := heap_new1 w (.cells #[.int .i64 W, .int .i64 H, .bool R, .slice a n c] 27) (.cells #[.int .i64 W', .int .i64 H', .bool R', .slice a' n' c'] 27)
  go_enter Try.func20, Try.ntmps20
  go_wp2_with fail
  refine (alike_any W H W' H' R R' a a' n c n' c' _).mono ?_
  generalize (w.alloc (.cells #[.int .i64 W, .int .i64 H, .bool R, .slice a n c] 27)).alloc (.cells #[.int .i64 W', .int .i64 H', .bool R', .slice a' n' c'] 27) = w0 at *
  rintro e w1 ⟨rfl, hX1⟩
  obtain ⟨⟨c0, c1, c2, c3⟩, _⟩ := block4 (hX1.block b0)
  obtain ⟨⟨d0, d1, d2, d3⟩, _⟩ := block4 (hX1.block b1)
  have HE := Lib.hid (hX0.trans hX1)
  have HA := Lib.hid (hA.ext (hX0.trans hX1))
  have HA' := Lib.hid (hA'.ext (hX0.trans hX1))
  clear hA hA' hX0 hX1 b0 b1
  cases ha : alikeB W H R W' H' R' with
  | false =>
    have HS : Hid (sameFB W H R W' H' R' zs zs' = false) := by show _ = _; simp [sameFB, ha]
    clear ha
    go_wp2
    go_ret
    exact ⟨by rw [HS.out]; rfl, HE.out⟩
  | true =>
    have HS : Hid (sameFB W H R W' H' R' zs zs' = sameL zs zs') := by show _ = _; simp [sameFB, ha]
    clear ha
    go_wp2_with fail
    refine (sameNumbers_any a a' n c n' c' zs zs' hz hz' (by omega) (by omega) hw hw' _ HA.out HA'.out).mono ?_
    rintro e w2 ⟨rfl, hX2⟩
    clear c0 c1 c2 c3 d0 d1 d2 d3
    go_wp2
    go_ret
    exact ⟨by rw [HS.out]; rfl, HE.out.trans hX2⟩
end Go.Proofs.Ytllpbkmdcaikoaa
