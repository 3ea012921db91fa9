/-
  Contracts on heights: the statements' own copies, comparisons and marks; and which heights are valid, by the reference and by the program.
-/
import Derived.Test.YtajfpjggdbifjaaNum
namespace Go.Proofs.Ytajfpjggdbifjaa
open Go.RowKit
set_option linter.unusedVariables false
set_option linter.unusedSimpArgs false
set_option linter.unnecessarySimpa false

def szH (W H : Int) : Bool := inB W 2 16 && inB H 2 16
theorem szH_iff {W H : Int} : szH W H = true ↔ (2 ≤ W ∧ W ≤ 16) ∧ 2 ≤ H ∧ H ≤ 16 := by simp [szH, inB_iff]
def lenH (n : Nat) (W H : Int) : Bool := ((n : Int) == W * H)
def vldH (W H : Int) (zs : List Int) : Bool := szH W H && lenH zs.length W H && allIn 0 1000 zs
theorem vldH_iff {W H : Int} {zs : List Int} : vldH W H zs = true ↔ szH W H = true ∧ (zs.length : Int) = W * H ∧ allIn 0 1000 zs = true := by
  simp [vldH, lenH, and_assoc]
theorem mul_bd {W H : Int} (a : 1 ≤ W) (b : W ≤ 16) (c : 1 ≤ H) (d : H ≤ 16) : 1 ≤ W * H ∧ W * H ≤ 256 := by
  constructor
  · have := Int.mul_le_mul a c (by omega) (by omega); omega
  · have := Int.mul_le_mul b d (by omega) (by omega); omega

theorem szHeights_any (W H : Int) (a : Option Addr) (n c : Nat) (L : Int) (hn : n ≤ 9223372036854775807) (hL : L ≤ 1048576) (hL0 : 0 ≤ L) (w : World) :
    Calls Try.prog 58 #[.agg #[.int .i64 W, .int .i64 H, .slice a n c], .int .i64 L] w fun e w' => e = .returned (.int .i64 (if L - n < 0 then -1 else L - n)) ∧ Ext w w' := by
  by_cases h : L - (n : Int) < 0
  · go_enter Try.func58, Try.ntmps58
    go_wp2_with (go_at_call 122; refine (szInt64S_any a n c L hn hL (by omega) _).mono ?_; rw [if_pos h]; rintro e w' ⟨rfl, rfl⟩)
    go_ret
    exact ⟨rfl, (Ext.refl w).alloc _⟩
  · go_enter Try.func58, Try.ntmps58
    go_wp2_with (go_at_call 122; refine (szInt64S_any a n c L hn hL (by omega) _).mono ?_; rw [if_neg h]; rintro e w' ⟨rfl, rfl⟩)
    go_ret
    exact ⟨rfl, (Ext.refl w).alloc _⟩

theorem toHeights_any (W H : Int) (a : Option Addr) (n c : Nat) (zs : List Int) (hz : zs.length = n) (hn : n ≤ 1048576) (w : World) (hA : VArr w a (ints zs)) :
    Calls Try.prog 60 #[.agg #[.int .i64 W, .int .i64 H, .slice a n c]] w fun e w' => ∃ b, e = .returned (.agg #[.int .i64 W, .int .i64 H, .slice (some ⟨b, 0, none⟩) n n]) ∧ Ext w w' ∧
      w'.ownsRow w.heap.size 2 1 (.slice (some ⟨b, 0, none⟩) n n) n (ints zs) := by
  go_enter Try.func60, Try.ntmps60
  go_wp2_with fail
  have hX0 : Ext w (((w.alloc (.cells #[.int .i64 W, .int .i64 H, .slice a n c] 78)).alloc (.cells #[.int .i64 0, .int .i64 0, .slice none 0 0] 81)).alloc (.cells #[.int .i64 W, .int .i64 H, .slice none 0 0] 81)) :=
    (((Ext.refl w).alloc _).alloc _).alloc _
  have b1 := heap_mid2 w (.cells #[.int .i64 W, .int .i64 H, .slice a n c] 78) (.cells #[.int .i64 0, .int .i64 0, .slice none 0 0] 81) (.cells #[.int .i64 W, .int .i64 H, .slice none 0 0] 81)
  have b2 := heap_new2 w (.cells #[.int .i64 W, .int .i64 H, .slice a n c] 78) (.cells #[.int .i64 0, .int .i64 0, .slice none 0 0] 81) (.cells #[.int .i64 W, .int .i64 H, .slice none 0 0] 81)
  have hz0 : (((w.alloc (.cells #[.int .i64 W, .int .i64 H, .slice a n c] 78)).alloc (.cells #[.int .i64 0, .int .i64 0, .slice none 0 0] 81)).alloc (.cells #[.int .i64 W, .int .i64 H, .slice none 0 0] 81)).heap.size = w.heap.size + 3 := by simp
  refine (toInt64S_any a n c zs hz hn _ (hA.ext hX0)).mono ?_
  generalize (((w.alloc (.cells #[.int .i64 W, .int .i64 H, .slice a n c] 78)).alloc (.cells #[.int .i64 0, .int .i64 0, .slice none 0 0] 81)).alloc (.cells #[.int .i64 W, .int .i64 H, .slice none 0 0] 81)) = W0 at *
  rintro e w1 ⟨rfl, hX1, hO⟩
  have HB := Lib.hid (hz0)
  rw [hz0] at hO ⊢
  obtain ⟨⟨c10, c11, c12⟩, f10, f11, f12⟩ := block3 (hX1.block b1)
  obtain ⟨⟨c20, c21, c22⟩, f20, f21, f22⟩ := block3 (hX1.block b2)
  have HO := Lib.hid hO
  have HX := Lib.hid (hX0.trans hX1)
  clear hO hX0 hX1 b1 b2 hz0 hA
  go_wp2
  refine bodyPost_ret (v := .agg #[.int .i64 W, .int .i64 H, .slice (some ⟨w.heap.size + 3, 0, none⟩) n n]) ?_ rfl ⟨_, rfl, ?_, ?_⟩
  · simp only [results, Try.results60]
    go_simp
  · exact Below.setCell (Below.setCell (Below.setCell (Below.setCell HX.out (by simp; omega) _) (by simp) _) (by simp) _) (by simp) _
  · refine ownsRow_setCell_other (ownsRow_setCell_other (ownsRow_setCell_other (ownsRow_setCell_other (ownsRow_mono HO.out (by omega)) ?_ _) ?_ _) ?_ _) ?_ _
    all_goals simp [Value.ownBlock]

/-- Heights compare equal if they are. -/
theorem eqHeights_any (W H W' H' : Int) (a a' : Option Addr) (n c n' c' : Nat) (zs zs' : List Int) (hz : zs.length = n) (hz' : zs'.length = n') (hn : n ≤ 1152921504606846976) (hn' : n' ≤ 1152921504606846976) (hW : W = W') (hH : H = H') (hzz : zs = zs') (w : World) (hA : VArr w a (ints zs)) (hA' : VArr w a' (ints zs')) :
    Calls Try.prog 62 #[.agg #[.int .i64 W, .int .i64 H, .slice a n c], .agg #[.int .i64 W', .int .i64 H', .slice a' n' c']] w fun e w' => e = .returned (.bool true) ∧ Ext w w' := by
  subst hW hH
  have hd : decide (zs = zs') = true := by simpa using hzz
  have hX0 : Ext w ((w.alloc (.cells #[.int .i64 W, .int .i64 H, .slice a n c] 81)).alloc (.cells #[.int .i64 W, .int .i64 H, .slice a' n' c'] 81)) := ((Ext.refl w).alloc _).alloc _
  have hA1 := hA.ext hX0
  have hA1' := hA'.ext hX0
  have HX := Lib.hid hX0
  clear hX0 hzz
  go_enter Try.func62, Try.ntmps62
  go_wp2_with (go_at_call 130; refine (eqInt64S_any a a' n c n' c' zs zs' hz hz' hn hn' _ hA1 hA1').mono ?_; rw [hd]; rintro e w' ⟨rfl, hw⟩)
  go_ret
  exact ⟨rfl, HX.out.trans (by assumption)⟩

/-! ### Which heights are valid -/
theorem l05Size_any (W H : Int) (w : World) : Calls Try.prog 159 #[.int .i64 W, .int .i64 H] w fun e w' => e = .returned (.bool (szH W H)) ∧ w = w' := by
  cases h1 : inB W 2 16 with
  | true =>
    have e0 : szH W H = inB H 2 16 := by simp [szH, h1]
    go_enter Try.func159, Try.ntmps159
    go_wp2_with (go_at_call 151; refine (l00In_any _ _ _ _).mono ?_; rintro e w' ⟨rfl, rfl⟩)
    go_ret
    exact ⟨by simp [szH, h1], rfl⟩
  | false =>
    have e0 : szH W H = false := by simp [szH, h1]
    go_enter Try.func159, Try.ntmps159
    go_wp2_with (go_at_call 151; refine (l00In_any _ _ _ _).mono ?_; rintro e w' ⟨rfl, rfl⟩)
    go_ret
    exact ⟨by simp [szH, h1], rfl⟩

theorem l05Size_b (W H : Int) (b : Bool) (hb : szH W H = b) (w : World) : Calls Try.prog 159 #[.int .i64 W, .int .i64 H] w fun e w' => e = .returned (.bool b) ∧ w' = w :=
  (l05Size_any W H w).mono fun _ _ h => ⟨by rw [h.1, hb], h.2.symm⟩

/-- The cells of heights behind a pointer. -/
def HtsAt (w : World) (p : Nat) (W H : Int) (a : Option Addr) (n c : Nat) : Prop :=
  w.cell? ⟨p, 0, none⟩ = some (.int .i64 W) ∧ w.cell? ⟨p, 1, none⟩ = some (.int .i64 H) ∧ w.cell? ⟨p, 2, none⟩ = some (.slice a n c)
theorem HtsAt.ext {w w' : World} {p : Nat} {W H : Int} {a : Option Addr} {n c : Nat} (h : HtsAt w p W H a n c) (e : Ext w w') : HtsAt w' p W H a n c := ⟨e.cell h.1, e.cell h.2.1, e.cell h.2.2⟩

theorem l05Is_any (p : Nat) (W H : Int) (a : Option Addr) (n c : Nat) (zs : List Int) (hz : zs.length = n) (hn : n ≤ 1152921504606846976) (w : World) (hp : HtsAt w p W H a n c) (hA : VArr w a (ints zs)) :
    Calls Try.prog 123 #[.pointer (some ⟨p, 0, none⟩)] w fun e w' => e = .returned (.bool (vldH W H zs)) ∧ Ext w w' := by
  have HZ := Lib.hid hz
  clear hz
  cases hall : allIn 0 1000 zs with
  | false =>
    obtain ⟨q, hq, hq1, hq2⟩ := allIn_false hall
    have hv : vldH W H zs = false := by simp [vldH, hall]
    have HV := Lib.hid hv
    have HQ := Lib.hid hq2
    rw [HZ.out] at hq
    have HQ1 := Lib.hid hq1
    clear hv hq2 hq1 hall
    obtain ⟨p0, p1, p2⟩ := hp
    go_enter Try.func123, Try.ntmps123
    go_wp2
    go_loopw [9] (fun i wr => ∃ k : Nat, k ≤ q ∧ i = .int .i64 k ∧ Ext w wr) (fun i _ => q - (intOf i).toNat)
    case atStart => exact ⟨0, Nat.zero_le _, rfl, Ext.refl _⟩
    case round =>
      obtain ⟨k, hk, rfl, hX⟩ := hrel
      have HX := Lib.hid hX
      have hlt : k < n := by omega
      have h1 := hA.ext hX
      have a2 := hX.cell p2
      obtain ⟨b, o, rfl⟩ := hA.starts (i := k) (by simpa [HZ.out] using hlt)
      have hc := h1.ofInts k (by rw [HZ.out]; exact hlt)
      clear h1 hX hA p0 p1 p2
      by_cases hkq : k < q
      · have e1 := HQ.out k hkq
        go_wp2_with (go_at_call 151; refine (l00In_any _ _ _ _).mono ?_; rw [e1]; rintro e w' ⟨rfl, rfl⟩)
        go_roundw
        case rel => exact ⟨k + 1, by omega, by go_num, HX.out⟩
        case measure => simp [intOf]; omega
      · obtain rfl : k = q := by omega
        have e1 := HQ1.out
        go_wp2_with (go_at_call 151; refine (l00In_any _ _ _ _).mono ?_; rw [e1]; rintro e w' ⟨rfl, rfl⟩)
        go_ret
        exact ⟨by rw [HV.out]; rfl, HX.out⟩
  | true =>
    have HALL := Lib.hid hall
    clear hall
    obtain ⟨p0, p1, p2⟩ := hp
    go_enter Try.func123, Try.ntmps123
    go_wp2
    go_loopw [9] (fun i wr => ∃ k : Nat, k ≤ n ∧ i = .int .i64 k ∧ Ext w wr) (fun i _ => n - (intOf i).toNat)
    case atStart => exact ⟨0, Nat.zero_le _, rfl, Ext.refl _⟩
    case round =>
      obtain ⟨k, hk, rfl, hX⟩ := hrel
      have HX := Lib.hid hX
      have a0 := hX.cell p0
      have a1 := hX.cell p1
      have a2 := hX.cell p2
      clear p0 p1 p2
      by_cases hlt : k < n
      · have h1 := hA.ext hX
        obtain ⟨b, o, rfl⟩ := hA.starts (i := k) (by simpa [HZ.out] using hlt)
        have hc := h1.ofInts k (by rw [HZ.out]; exact hlt)
        clear h1 hX hA
        have e1 := allIn_true HALL.out (k := k) (by rw [HZ.out]; exact hlt)
        go_wp2_with (go_at_call 151; refine (l00In_any _ _ _ _).mono ?_; rw [e1]; rintro e w' ⟨rfl, rfl⟩)
        go_roundw
        case rel => exact ⟨k + 1, by omega, by go_num, HX.out⟩
        case measure => simp [intOf]; omega
      · obtain rfl : k = n := by omega
        clear hX hA
        cases hs : szH W H with
        | true =>
          obtain ⟨⟨h1, h2⟩, h3, h4⟩ := szH_iff.1 hs
          have hm := mul_bd (by omega) h2 (by omega) h4
          obtain ⟨hm1, hm2⟩ := hm
          go_wp2
          go_quiet ((go_at_call 159; exact Calls.quiet_of_same (l05Size_b W H _ hs _)))
          go_wp2
          go_ret
          refine ⟨?_, HX.out.trans ((Ext.refl _).drewN _)⟩
          simp [vldH, lenH, hs, HALL.out, HZ.out]
        | false =>
          go_wp2
          go_quiet ((go_at_call 159; exact Calls.quiet_of_same (l05Size_b W H _ hs _)))
          go_wp2
          go_ret
          refine ⟨?_, HX.out.trans ((Ext.refl _).drewN _)⟩
          simp [vldH, hs]

theorem ints_two (x y : Int) : ints [x, y] = [.int .i64 x, .int .i64 y] := rfl
theorem VArr.two {w : World} {b : Nat} {x y : Int} {T : TypeId} (h : w.heap[b]? = some (.cells #[.int .i64 x, .int .i64 y] T (0, 0))) : VArr w (some ⟨b, 0, none⟩) (ints [x, y]) := by
  intro i v hv
  refine ⟨b, 0, rfl, ?_⟩
  rw [Nat.zero_add, block_cell h i]
  match i with
  | 0 => simpa [ints] using hv
  | 1 => simpa [ints] using hv
  | i + 2 => simp [ints] at hv

end Go.Proofs.Ytajfpjggdbifjaa
