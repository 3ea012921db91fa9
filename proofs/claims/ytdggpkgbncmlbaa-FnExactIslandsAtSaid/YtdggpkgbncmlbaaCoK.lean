/-
  IslandsAt by the reference; LargestIsland by both.
-/
import Derived.Test.YtdggpkgbncmlbaaCoJ
namespace Go.Proofs.Ytdggpkgbncmlbaa
open Go.RowKit
set_option linter.unusedVariables false
set_option linter.unusedSimpArgs false
set_option linter.unnecessarySimpa false

set_option maxRecDepth 100000 in
set_option maxHeartbeats 2000000 in
theorem specIsl_any (W H l : Int) (a : Option Addr) (n c : Nat) (zs : List Int) (hz : zs.length = n) (hn : n ≤ 1048576) (Z : List Int) (M : Nat) (hC : islR W H zs n l Z M) (w : World) (hA : VArr w a (ints zs)) :
    Calls Try.prog 54 #[.agg #[.int .i64 W, .int .i64 H, .slice a n c], .int .i64 l] w (list2P w Z (szOf Z M) (islOk W H zs l)) := by
  have hX := (Ext.refl w).alloc (.cells #[.int .i64 W, .int .i64 H, .slice a n c] 33)
  have b0 := heap_new w (.cells #[.int .i64 W, .int .i64 H, .slice a n c] 33)
  have hA1 := hA.ext hX
  go_enter Try.func54, Try.ntmps54
  go_wp2_with fail
  refine (l05Is_any _ W H a n c zs hz (by omega) _ (block3 b0).1 hA1).mono ?_
  generalize w.alloc (.cells #[.int .i64 W, .int .i64 H, .slice a n c] 33) = w0 at *
  generalize hpp : w.heap.size = p at *
  have HPP := Lib.hid hpp
  clear hpp
  rintro e w1 ⟨rfl, hX1⟩
  have HB0 := Lib.hid (hX1.block b0)
  have HX := Lib.hid (hX.trans hX1)
  have HA := Lib.hid (hA1.ext hX1)
  clear b0 hX hX1 hA1
  cases hv : vldH W H zs with
  | false =>
    have hok : islOk W H zs l = false := by simp [islOk, hv]
    obtain ⟨rfl, rfl⟩ := islR_no hC hok
    have HK := Lib.hid hok
    clear hA hv hz hC hok
    go_wp2
    refine bodyPost_ret (v := .tuple #[.slice none 0 0, .slice none 0 0, .bool false]) ?_ rfl (by rw [HK.out]; exact list2P_none HX.out rfl rfl)
    simp only [results, Try.results54]
    go_simp
  | true =>
    cases hl : inB l 0 1000 with
    | false =>
      have hok : islOk W H zs l = false := by simp [islOk, hv, hl]
      obtain ⟨rfl, rfl⟩ := islR_no hC hok
      have HK := Lib.hid hok
      have HL := Lib.hid hl
      clear hA hv hz hC hok hl
      go_wp2_with (go_at_call 64; refine (l00In_any _ _ _ _).mono ?_; rw [HL.out]; rintro e w' ⟨rfl, rfl⟩)
      refine bodyPost_ret (v := .tuple #[.slice none 0 0, .slice none 0 0, .bool false]) ?_ rfl (by rw [HK.out]; exact list2P_none HX.out rfl rfl)
      simp only [results, Try.results54]
      go_simp
    | true =>
      have hok : islOk W H zs l = true := by simp [islOk, hv, hl]
      have HST := Lib.hid (islR_yes hC hok)
      have HK := Lib.hid hok
      obtain ⟨hW, hH, hnn, ⟨hn1, hn2⟩, _⟩ := vld_facts hv hz
      obtain ⟨Wn, rfl⟩ := Int.eq_ofNat_of_zero_le (show 0 ≤ W by omega)
      obtain ⟨Hn, rfl⟩ := Int.eq_ofNat_of_zero_le (show 0 ≤ H by omega)
      have hnn' : n = Hn * Wn := by
        have : ((Hn * Wn : Nat) : Int) = Wn * Hn := by rw [Int.natCast_mul, Int.mul_comm]
        omega
      have k1 : 1 ≤ Wn := by omega
      have k2 : Wn ≤ 16 := by omega
      have k3 : 1 ≤ Hn := by omega
      have k4 : Hn ≤ 16 := by omega
      obtain ⟨b, o, rfl⟩ := hA.starts (i := 0) (by simp; omega)
      have HZ := Lib.hid hz
      have HNN := Lib.hid hnn'
      have HL := Lib.hid hl
      simp only [Int.toNat_natCast] at HST
      clear hA hv hz hC hnn hnn' hW hH hok hl
      go_wp2_with fail
      refine (l00In_any _ _ _ _).mono ?_
      rw [HL.out]
      rintro e w' ⟨rfl, rfl⟩
      go_wp2_with fail
      refine (l05Islands_any p Wn Hn l b o n c zs HZ.out ⟨k1, k2⟩ ⟨k3, k4⟩ HNN.out Z M HST.out _ (block3 HB0.out).1 HA.out).mono ?_
      rintro e w2 ⟨a1, n1, c1, a2, n2, c2, B, rfl, hX2, hO, hl1, hl2, hO2, hl3, hl4, hB, hlt⟩
      have HXX := Lib.hid (HX.out.trans hX2)
      have HO := Lib.hid (ownsRow_mono hO HX.out.size)
      have HBB := Lib.hid (Nat.le_trans HX.out.size hB)
      clear hX2 hO hB
      go_wp2
      refine bodyPost_ret (v := .tuple #[.slice a1 n1 c1, .slice a2 n2 c2, .bool true]) ?_ rfl ⟨a1, n1, c1, a2, n2, c2, B, by rw [HK.out], HXX.out, HO.out, hl1, hl2, hO2, hl3, hl4, HBB.out, hlt⟩
      simp only [results, Try.results54]
      go_simp

/-! ### The largest -/
def bestN (S : List Int) : Nat → Nat
  | 0 => 0
  | k + 1 => if S[bestN S k]?.getD 0 < S[k]?.getD 0 then k else bestN S k
theorem bestN_lt (S : List Int) : ∀ k, 0 < k → bestN S k < k
  | 1, _ => by
    unfold bestN
    split <;> simp [bestN]
  | k + 2, _ => by
    have := bestN_lt S (k + 1) (by omega)
    rw [bestN]
    split <;> omega
theorem bestN_one (S : List Int) : bestN S 1 = 0 := by have := bestN_lt S 1 (by omega); omega
theorem bestN_max {S : List Int} (h0 : (0 : Int) ≤ (S[0]?).getD 0) : ∀ k, 0 < k → S[bestN S k]?.getD 0 = mxI S k ∧ ∀ j, j < bestN S k → S[j]?.getD 0 < mxI S k
  | 1, _ => by
    rw [bestN_one]
    refine ⟨?_, fun j hj => by omega⟩
    simp only [mxI]
    omega
  | k + 2, _ => by
    obtain ⟨h1, h2⟩ := bestN_max h0 (k + 1) (by omega)
    have h3 : mxI S (k + 2) = max (mxI S (k + 1)) (S[k + 1]?.getD 0) := rfl
    rw [bestN]
    split
    · rename_i hlt
      rw [h1] at hlt
      refine ⟨by rw [h3]; omega, fun j hj => ?_⟩
      have := mxI_ge S (k + 1) j hj
      rw [h3]
      omega
    · rename_i hge
      rw [h1] at hge
      refine ⟨by rw [h1, h3]; omega, fun j hj => ?_⟩
      have := h2 j hj
      rw [h3]
      omega
def lgOk (W H : Int) (zs : List Int) (l : Int) (M : Nat) : Bool := islOk W H zs l && decide (0 < M)
def lgI (ok : Bool) (S : List Int) (M : Nat) : Int := if ok then (bestN S M : Int) else 0
def lgV (ok : Bool) (S : List Int) (M : Nat) : Int := if ok then mxI S M else 0
/-- What the largest island is told as. -/
def lgP (w : World) (ok : Bool) (S : List Int) (M : Nat) (e : Ending) (w' : World) : Prop := e = .returned (.tuple #[.int .i64 (lgI ok S M), .int .i64 (lgV ok S M), .bool ok]) ∧ Ext w w'

set_option maxRecDepth 100000 in
theorem indexS_any (b o n c m : Nat) (v : Int) (zs : List Int) (hz : zs.length = n) (hn : n ≤ 1048576) (hm : m < n) (hv : zs[m]?.getD 0 = v) (hj : ∀ j, j < m → zs[j]?.getD 0 < v) (w : World) (hA : VArr w (some ⟨b, o, none⟩) (ints zs)) :
    Calls Try.prog 99 #[.slice (some ⟨b, o, none⟩) n c, .int .i64 v] w fun e w' => e = .returned (.int .i64 (m : Nat)) ∧ w = w' := by
  have HZ := Lib.hid hz
  have HV := Lib.hid hv
  have HJ := Lib.hid hj
  clear hz hv hj
  go_enter Try.func99, Try.ntmps99
  go_wp2
  go_loopw [8] (fun i wr => ∃ k : Nat, k ≤ m ∧ i = .int .i64 k ∧ w = wr) (fun i _ => n - (intOf i).toNat)
  case atStart => exact ⟨0, Nat.zero_le _, rfl, by first | rfl | trivial⟩
  case round =>
    obtain ⟨k, hk, rfl, rfl⟩ := hrel
    have hkn : k < n := by omega
    have hc := hA.ofInts k (by rw [HZ.out]; exact hkn)
    rw [List.getD_eq_getElem?_getD] at hc
    by_cases hlt : k < m
    · have h1 := HJ.out k hlt
      have e1 : (v == zs[k]?.getD 0) = false := by simp; omega
      generalize zs[k]?.getD 0 = z at *
      clear hA
      go_wp2
      go_roundw
      case rel => exact ⟨k + 1, by omega, by go_num, by first | rfl | trivial⟩
      case measure => simp [intOf]; omega
    · obtain rfl : k = m := by omega
      rw [HV.out] at hc
      clear hA
      go_wp2
      go_ret
      exact ⟨rfl, rfl⟩

set_option maxRecDepth 100000 in
set_option maxHeartbeats 2000000 in
theorem implLarge_any (W H l : Int) (a : Option Addr) (n c : Nat) (zs : List Int) (hz : zs.length = n) (hn : n ≤ 1048576) (Z : List Int) (M : Nat) (hC : islR W H zs n l Z M) (w : World) (hA : VArr w a (ints zs)) :
    Calls Try.prog 57 #[.agg #[.int .i64 W, .int .i64 H, .slice a n c], .int .i64 l] w (lgP w (lgOk W H zs l M) (szOf Z M) M) := by
  have hX := (Ext.refl w).alloc (.cells #[.int .i64 W, .int .i64 H, .slice a n c] 33)
  have b0 := heap_new w (.cells #[.int .i64 W, .int .i64 H, .slice a n c] 33)
  have hA1 := hA.ext hX
  obtain ⟨⟨c0, c1, c2⟩, _⟩ := block3 b0
  go_enter Try.func57, Try.ntmps57
  go_wp2_with fail
  refine (implIsl_any W H l a n c zs hz hn Z M hC _ hA1).mono ?_
  generalize w.alloc (.cells #[.int .i64 W, .int .i64 H, .slice a n c] 33) = w0 at *
  clear c0 c1 c2 b0
  rintro e w1 ⟨a1, n1, c1, a2, n2, c2, B, rfl, hX1, hO, hl1, hl2, hO2, hl3, hl4, hB, hlt⟩
  have HX := Lib.hid (hX.trans hX1)
  have hM : n2 = M := by rw [← hl3]; simp
  subst hM
  clear hX hX1 hO hl1 hl2 hB hlt hl3 hA hA1
  cases hok : islOk W H zs l with
  | false =>
    have HK : Hid (lgOk W H zs l n2 = false) := by show _ = _; simp [lgOk, hok]
    clear hok hC
    go_wp2
    refine bodyPost_ret (v := .tuple #[.int .i64 0, .int .i64 0, .bool false]) ?_ rfl ⟨by rw [HK.out]; rfl, HX.out⟩
    simp only [results, Try.results57]
    go_simp
  | true =>
    by_cases h0 : n2 = 0
    · have HK : Hid (lgOk W H zs l n2 = false) := by show _ = _; simp [lgOk, h0]
      clear hok hC
      subst h0
      go_wp2
      refine bodyPost_ret (v := .tuple #[.int .i64 0, .int .i64 0, .bool false]) ?_ rfl ⟨by rw [HK.out]; rfl, HX.out⟩
      simp only [results, Try.results57]
      go_simp
    · have HK : Hid (lgOk W H zs l n2 = true) := by show _ = _; simp [lgOk, hok]; omega
      have e0 : ((n2 : Int) == 0) = false := by simp; omega
      obtain ⟨g2, rfl, _, _⟩ := own_int hO2 (k := 0) (by simp; omega)
      have hS0 : (0 : Int) ≤ ((szOf Z n2)[0]?).getD 0 := by rw [szOf_get (by omega)]; omega
      have hb := bestN_max hS0 n2 (by omega)
      have hbl := bestN_lt (szOf Z n2) n2 (by omega)
      have hv := ownsRow_varr hO2
      have HB := Lib.hid hb
      have HL := Lib.hid hbl
      have HV := Lib.hid hv
      have HS := Lib.hid hS0
      have HSL : Hid ((szOf Z n2).length = n2) := szOf_length _ _
      clear hok hC hb hbl hv hS0 hO2
      generalize szOf Z n2 = S at *
      go_wp2_with fail
      refine (maxS_any g2 0 n2 c2 S HSL.out (by omega) hl4 HS.out _ HV.out).mono ?_
      rintro e w' ⟨rfl, rfl⟩
      go_wp2_with fail
      refine (indexS_any g2 0 n2 c2 (bestN S n2) (mxI S n2) S HSL.out hl4 HL.out HB.out.1 HB.out.2 _ HV.out).mono ?_
      rintro e w' ⟨rfl, rfl⟩
      go_wp2
      refine bodyPost_ret (v := .tuple #[.int .i64 (bestN S n2 : Nat), .int .i64 (mxI S n2), .bool true]) ?_ rfl ⟨by rw [HK.out]; rfl, HX.out⟩
      simp only [results, Try.results57]
      go_simp

set_option maxRecDepth 100000 in
set_option maxHeartbeats 2000000 in
theorem specLarge_any (W H l : Int) (a : Option Addr) (n c : Nat) (zs : List Int) (hz : zs.length = n) (hn : n ≤ 1048576) (Z : List Int) (M : Nat) (hC : islR W H zs n l Z M) (w : World) (hA : VArr w a (ints zs)) :
    Calls Try.prog 56 #[.agg #[.int .i64 W, .int .i64 H, .slice a n c], .int .i64 l] w (lgP w (lgOk W H zs l M) (szOf Z M) M) := by
  have hX := (Ext.refl w).alloc (.cells #[.int .i64 W, .int .i64 H, .slice a n c] 33)
  have b0 := heap_new w (.cells #[.int .i64 W, .int .i64 H, .slice a n c] 33)
  have hA1 := hA.ext hX
  go_enter Try.func56, Try.ntmps56
  go_wp2_with fail
  refine (l05Is_any _ W H a n c zs hz (by omega) _ (block3 b0).1 hA1).mono ?_
  generalize w.alloc (.cells #[.int .i64 W, .int .i64 H, .slice a n c] 33) = w0 at *
  generalize hpp : w.heap.size = p at *
  have HPP := Lib.hid hpp
  clear hpp
  rintro e w1 ⟨rfl, hX1⟩
  have HB0 := Lib.hid (hX1.block b0)
  have HX := Lib.hid (hX.trans hX1)
  have HA := Lib.hid (hA1.ext hX1)
  clear b0 hX hX1 hA1
  cases hv : vldH W H zs with
  | false =>
    have HK : Hid (lgOk W H zs l M = false) := by show _ = _; simp [lgOk, islOk, hv]
    clear hA hv hz hC
    go_wp2
    refine bodyPost_ret (v := .tuple #[.int .i64 0, .int .i64 0, .bool false]) ?_ rfl ⟨by rw [HK.out]; rfl, HX.out⟩
    simp only [results, Try.results56]
    go_simp
  | true =>
    cases hl : inB l 0 1000 with
    | false =>
      have HK : Hid (lgOk W H zs l M = false) := by show _ = _; simp [lgOk, islOk, hl]
      have HL := Lib.hid hl
      clear hA hv hz hC hl
      go_wp2_with (go_at_call 64; refine (l00In_any _ _ _ _).mono ?_; rw [HL.out]; rintro e w' ⟨rfl, rfl⟩)
      refine bodyPost_ret (v := .tuple #[.int .i64 0, .int .i64 0, .bool false]) ?_ rfl ⟨by rw [HK.out]; rfl, HX.out⟩
      simp only [results, Try.results56]
      go_simp
    | true =>
      have hok : islOk W H zs l = true := by simp [islOk, hv, hl]
      have HST := Lib.hid (islR_yes hC hok)
      have HK := Lib.hid hok
      obtain ⟨hW, hH, hnn, ⟨hn1, hn2⟩, _⟩ := vld_facts hv hz
      obtain ⟨Wn, rfl⟩ := Int.eq_ofNat_of_zero_le (show 0 ≤ W by omega)
      obtain ⟨Hn, rfl⟩ := Int.eq_ofNat_of_zero_le (show 0 ≤ H by omega)
      have hnn' : n = Hn * Wn := by
        have : ((Hn * Wn : Nat) : Int) = Wn * Hn := by rw [Int.natCast_mul, Int.mul_comm]
        omega
      have k1 : 1 ≤ Wn := by omega
      have k2 : Wn ≤ 16 := by omega
      have k3 : 1 ≤ Hn := by omega
      have k4 : Hn ≤ 16 := by omega
      obtain ⟨b, o, rfl⟩ := hA.starts (i := 0) (by simp; omega)
      have HZ := Lib.hid hz
      have HNN := Lib.hid hnn'
      have HL := Lib.hid hl
      simp only [Int.toNat_natCast] at HST
      clear hA hv hz hC hnn hnn' hW hH hok hl
      go_wp2_with fail
      refine (l00In_any _ _ _ _).mono ?_
      rw [HL.out]
      rintro e w' ⟨rfl, rfl⟩
      go_wp2_with fail
      refine (l05Islands_any p Wn Hn l b o n c zs HZ.out ⟨k1, k2⟩ ⟨k3, k4⟩ HNN.out Z M HST.out _ (block3 HB0.out).1 HA.out).mono ?_
      rintro e w2 ⟨a1, n1, c1, a2, n2, c2, B, rfl, hX2, hO, hl1, hl2, hO2, hl3, hl4, hB, hlt⟩
      have HXX := Lib.hid (HX.out.trans hX2)
      have hM : n2 = M := by rw [← hl3]; simp
      subst hM
      clear hX2 hO hB hl1 hl2 hlt hl3
      by_cases h0 : n2 = 0
      · have HK2 : Hid (lgOk Wn Hn zs l n2 = false) := by show _ = _; simp [lgOk, h0]
        subst h0
        go_wp2
        refine bodyPost_ret (v := .tuple #[.int .i64 0, .int .i64 0, .bool false]) ?_ rfl ⟨by rw [HK2.out]; rfl, HXX.out⟩
        simp only [results, Try.results56]
        go_simp
      · have HK2 : Hid (lgOk Wn Hn zs l n2 = true) := by show _ = _; simp [lgOk, HK.out]; omega
        have e0 : ((n2 : Int) == 0) = false := by simp; omega
        obtain ⟨g2, rfl, _, _⟩ := own_int hO2 (k := 0) (by simp; omega)
        have hS0 : (0 : Int) ≤ ((szOf Z n2)[0]?).getD 0 := by rw [szOf_get (by omega)]; omega
        have HB := Lib.hid (bestN_max hS0 n2 (by omega))
        have HV := Lib.hid (ownsRow_varr hO2)
        have HSL : Hid ((szOf Z n2).length = n2) := szOf_length _ _
        clear hS0 hO2 HST
        generalize szOf Z n2 = S at *
        go_wp2
        go_loopw [9, 28] (fun v i wr => ∃ k : Nat, k ≤ n2 ∧ i = .int .i64 k ∧ v = .int .i64 (bestN S k : Nat) ∧ Ext w2 wr) (fun _ i _ => n2 - (intOf i).toNat)
        case atStart => exact ⟨0, Nat.zero_le _, rfl, rfl, Ext.refl _⟩
        case round =>
          obtain ⟨k, hk, rfl, rfl, hE⟩ := hrel
          have HE := Lib.hid hE
          clear hE
          by_cases hlt : k < n2
          · have hbk : bestN S k < n2 := by
              rcases Nat.eq_zero_or_pos k with rfl | h
              · simp [bestN]; omega
              · have := bestN_lt S k h; omega
            have hcb := (HV.out.ext HE.out).ofInts (bestN S k) (by rw [HSL.out]; exact hbk)
            have hck := (HV.out.ext HE.out).ofInts k (by rw [HSL.out]; exact hlt)
            rw [List.getD_eq_getElem?_getD, Nat.zero_add] at hcb hck
            have HN : Hid (bestN S (k + 1) = if S[bestN S k]?.getD 0 < S[k]?.getD 0 then k else bestN S k) := rfl
            generalize bestN S k = q at *
            generalize S[q]?.getD 0 = x at *
            generalize S[k]?.getD 0 = y at *
            by_cases hxy : x < y
            · have e1 : decide (x < y) = true := by simpa using hxy
              have HN2 : Hid (bestN S (k + 1) = k) := by have := HN.out; rw [if_pos hxy] at this; exact this
              go_wp2
              go_quiet (fail)
              have HE2 := Lib.hid (HE.out.trans ((Ext.refl wr).drewN nq))
              clear HE hcb hck
              go_wp2
              go_roundw
              case rel => exact ⟨k + 1, by omega, by go_num, by rw [HN2.out], HE2.out⟩
              case measure => simp [intOf]; omega
            · have e1 : decide (x < y) = false := by simpa using hxy
              have HN2 : Hid (bestN S (k + 1) = q) := by have := HN.out; rw [if_neg hxy] at this; exact this
              go_wp2
              go_quiet (fail)
              have HE2 := Lib.hid (HE.out.trans ((Ext.refl wr).drewN nq))
              clear HE hcb hck
              go_wp2
              go_roundw
              case rel => exact ⟨k + 1, by omega, by go_num, by rw [HN2.out], HE2.out⟩
              case measure => simp [intOf]; omega
          · obtain rfl : k = n2 := by omega
            have hbl := bestN_lt S k (by omega)
            have hcb := (HV.out.ext HE.out).ofInts (bestN S k) (by rw [HSL.out]; exact hbl)
            rw [List.getD_eq_getElem?_getD, Nat.zero_add, HB.out.1] at hcb
            have HI : Hid (lgI true S k = (bestN S k : Nat)) := rfl
            have HI2 : Hid (lgV true S k = mxI S k) := rfl
            generalize bestN S k = q at *
            generalize mxI S k = m at *
            go_wp2
            go_quiet (fail)
            have HE2 := Lib.hid (HE.out.trans ((Ext.refl wr).drewN nq))
            clear HE hcb
            go_wp2
            refine bodyPost_ret (v := .tuple #[.int .i64 q, .int .i64 m, .bool true]) ?_ rfl ⟨by rw [HK2.out, HI.out, HI2.out], HXX.out.trans HE2.out⟩
            simp only [results, Try.results56]
            go_simp
end Go.Proofs.Ytdggpkgbncmlbaa
