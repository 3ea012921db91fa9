/-
  Contracts on grains: the statements' own copies, comparisons and marks; and which grains are valid, by the reference and by the program.
-/
import Derived.Test.YtpmcjojipbiinaaNum
namespace Go.Proofs.Ytpmcjojipbiinaa
open Go.RowKit
set_option linter.unusedVariables false
set_option linter.unusedSimpArgs false
set_option linter.unnecessarySimpa false

def szG (W H : Int) : Bool := inB W 1 16 && inB H 1 16
theorem szG_iff {W H : Int} : szG W H = true ↔ (1 ≤ W ∧ W ≤ 16) ∧ 1 ≤ H ∧ H ≤ 16 := by simp [szG, inB_iff]
def lenG (n : Nat) (W H : Int) : Bool := ((n : Int) == W * H)
def vldG (W H : Int) (zs : List Int) : Bool := szG W H && lenG zs.length W H && allIn 0 63 zs
theorem vldG_iff {W H : Int} {zs : List Int} : vldG W H zs = true ↔ szG W H = true ∧ (zs.length : Int) = W * H ∧ allIn 0 63 zs = true := by
  simp [vldG, lenG, and_assoc]
theorem mul_bd {W H : Int} (a : 1 ≤ W) (b : W ≤ 16) (c : 1 ≤ H) (d : H ≤ 16) : 1 ≤ W * H ∧ W * H ≤ 256 := by
  constructor
  · have := Int.mul_le_mul a c (by omega) (by omega); omega
  · have := Int.mul_le_mul b d (by omega) (by omega); omega

theorem szGrains_any (W H : Int) (a : Option Addr) (n c : Nat) (L : Int) (hn : n ≤ 9223372036854775807) (hL : L ≤ 1048576) (hL0 : 0 ≤ L) (w : World) :
    Calls Try.prog 15 #[.agg #[.int .i64 W, .int .i64 H, .slice a n c], .int .i64 L] w fun e w' => e = .returned (.int .i64 (if L - n < 0 then -1 else L - n)) ∧ Ext w w' := by
  by_cases h : L - (n : Int) < 0
  · go_enter Try.func15, Try.ntmps15
    go_wp2_with (go_at_call 38; refine (szInt64S_any a n c L hn hL (by omega) _).mono ?_; rw [if_pos h]; rintro e w' ⟨rfl, rfl⟩)
    go_ret
    exact ⟨rfl, (Ext.refl w).alloc _⟩
  · go_enter Try.func15, Try.ntmps15
    go_wp2_with (go_at_call 38; refine (szInt64S_any a n c L hn hL (by omega) _).mono ?_; rw [if_neg h]; rintro e w' ⟨rfl, rfl⟩)
    go_ret
    exact ⟨rfl, (Ext.refl w).alloc _⟩

theorem toGrains_any (W H : Int) (a : Option Addr) (n c : Nat) (zs : List Int) (hz : zs.length = n) (hn : n ≤ 1048576) (w : World) (hA : VArr w a (ints zs)) :
    Calls Try.prog 17 #[.agg #[.int .i64 W, .int .i64 H, .slice a n c]] w fun e w' => ∃ b, e = .returned (.agg #[.int .i64 W, .int .i64 H, .slice (some ⟨b, 0, none⟩) n n]) ∧ Ext w w' ∧
      w'.ownsRow w.heap.size 2 1 (.slice (some ⟨b, 0, none⟩) n n) n (ints zs) := by
  go_enter Try.func17, Try.ntmps17
  go_wp2_with fail
  have hX0 : Ext w (((w.alloc (.cells #[.int .i64 W, .int .i64 H, .slice a n c] 34)).alloc (.cells #[.int .i64 0, .int .i64 0, .slice none 0 0] 25)).alloc (.cells #[.int .i64 W, .int .i64 H, .slice none 0 0] 25)) :=
    (((Ext.refl w).alloc _).alloc _).alloc _
  have b1 := heap_mid2 w (.cells #[.int .i64 W, .int .i64 H, .slice a n c] 34) (.cells #[.int .i64 0, .int .i64 0, .slice none 0 0] 25) (.cells #[.int .i64 W, .int .i64 H, .slice none 0 0] 25)
  have b2 := heap_new2 w (.cells #[.int .i64 W, .int .i64 H, .slice a n c] 34) (.cells #[.int .i64 0, .int .i64 0, .slice none 0 0] 25) (.cells #[.int .i64 W, .int .i64 H, .slice none 0 0] 25)
  have hz0 : (((w.alloc (.cells #[.int .i64 W, .int .i64 H, .slice a n c] 34)).alloc (.cells #[.int .i64 0, .int .i64 0, .slice none 0 0] 25)).alloc (.cells #[.int .i64 W, .int .i64 H, .slice none 0 0] 25)).heap.size = w.heap.size + 3 := by simp
  refine (toInt64S_any a n c zs hz hn _ (hA.ext hX0)).mono ?_
  generalize (((w.alloc (.cells #[.int .i64 W, .int .i64 H, .slice a n c] 34)).alloc (.cells #[.int .i64 0, .int .i64 0, .slice none 0 0] 25)).alloc (.cells #[.int .i64 W, .int .i64 H, .slice none 0 0] 25)) = W0 at *
  rintro e w1 ⟨rfl, hX1, hO⟩
  have HB := Lib.hid (hz0)
  rw [hz0] at hO ⊢
  obtain ⟨⟨c10, c11, c12⟩, f10, f11, f12⟩ := block3 (hX1.block b1)
  obtain ⟨⟨c20, c21, c22⟩, f20, f21, f22⟩ := block3 (hX1.block b2)
  have HO := Lib.hid hO
  have HX := Lib.hid (hX0.trans hX1)
  clear hO hX0 hX1 b1 b2 hz0 hA
  go_wp2
  refine bodyPost_ret (v := .agg #[.int .i64 W, .int .i64 H, .slice (some ⟨w.heap.size + 3, 0, none⟩) n n]) ?_ rfl ⟨_, rfl, ?_, ?_⟩
  · simp only [results, Try.results17]
    go_simp
  · exact Below.setCell (Below.setCell (Below.setCell (Below.setCell HX.out (by simp; omega) _) (by simp) _) (by simp) _) (by simp) _
  · refine ownsRow_setCell_other (ownsRow_setCell_other (ownsRow_setCell_other (ownsRow_setCell_other (ownsRow_mono HO.out (by omega)) ?_ _) ?_ _) ?_ _) ?_ _
    all_goals simp [Value.ownBlock]

/-- Heights compare equal if they are. -/
theorem eqGrains_any (W H W' H' : Int) (a a' : Option Addr) (n c n' c' : Nat) (zs zs' : List Int) (hz : zs.length = n) (hz' : zs'.length = n') (hn : n ≤ 1152921504606846976) (hn' : n' ≤ 1152921504606846976) (hW : W = W') (hH : H = H') (hzz : zs = zs') (w : World) (hA : VArr w a (ints zs)) (hA' : VArr w a' (ints zs')) :
    Calls Try.prog 10 #[.agg #[.int .i64 W, .int .i64 H, .slice a n c], .agg #[.int .i64 W', .int .i64 H', .slice a' n' c']] w fun e w' => e = .returned (.bool true) ∧ Ext w w' := by
  subst hW hH
  have hd : decide (zs = zs') = true := by simpa using hzz
  have hX0 : Ext w ((w.alloc (.cells #[.int .i64 W, .int .i64 H, .slice a n c] 25)).alloc (.cells #[.int .i64 W, .int .i64 H, .slice a' n' c'] 25)) := ((Ext.refl w).alloc _).alloc _
  have hA1 := hA.ext hX0
  have hA1' := hA'.ext hX0
  have HX := Lib.hid hX0
  clear hX0 hzz
  go_enter Try.func10, Try.ntmps10
  go_wp2_with (go_at_call 35; refine (eqInt64S_any a a' n c n' c' zs zs' hz hz' hn hn' _ hA1 hA1').mono ?_; rw [hd]; rintro e w' ⟨rfl, hw⟩)
  go_ret
  exact ⟨rfl, HX.out.trans (by assumption)⟩

theorem markGrains_any (W H : Int) (a : Option Addr) (n c base : Nat) (zs : List Int) (k0 : Int) (h0 : 0 ≤ k0) (hk0 : k0 ≤ 16777216) (hn : n ≤ 1048576) (w : World) (hO : w.ownsRow base 2 1 (.slice a n c) n (ints zs)) :
    Calls Try.prog 13 #[.agg #[.int .i64 W, .int .i64 H, .slice a n c], .int .i64 k0] w fun e w' => e = .returned (.int .i64 (k0 + n)) ∧ w.grownBy w' (Value.slice a n c).ownBlock ∧
      w'.ownsRow base 2 1 (.slice a n c) n (ints (marks k0 n)) := by
  have HG := Lib.hid (World.grownBy_alloc w (.cells #[.int .i64 W, .int .i64 H, .slice a n c] 25) (Value.slice a n c).ownBlock)
  have hO1 := hO.alloc (.cells #[.int .i64 W, .int .i64 H, .slice a n c] 25)
  go_enter Try.func13, Try.ntmps13
  go_wp2_with (go_at_call 36; refine (markInt64S_any a n c base zs k0 h0 hk0 hn _ hO1).mono ?_; rintro e w' ⟨rfl, hg, ho⟩)
  go_ret
  exact ⟨rfl, grownBy_trans HG.out (by assumption), by assumption⟩

theorem heldGrains_any (W H : Int) (a : Option Addr) (n c : Nat) (k0 : Int) (h0 : 0 ≤ k0) (hk0 : k0 ≤ 16777216) (hn : n ≤ 1048576) (w : World) (hA : VArr w a (ints (marks k0 n))) :
    Calls Try.prog 14 #[.agg #[.int .i64 W, .int .i64 H, .slice a n c], .int .i64 k0] w fun e w' => e = .returned (.int .i64 (k0 + n)) ∧ Ext w w' := by
  have hX : Ext w (w.alloc (.cells #[.int .i64 W, .int .i64 H, .slice a n c] 25)) := (Ext.refl w).alloc _
  have hA1 := hA.ext hX
  have HX := Lib.hid hX
  clear hX
  go_enter Try.func14, Try.ntmps14
  go_wp2_with (go_at_call 37; refine (heldInt64S_any a n c k0 h0 hk0 hn _ hA1).mono ?_; rintro e w' ⟨rfl, hw⟩)
  go_ret
  exact ⟨rfl, HX.out.trans (by assumption)⟩

/-! ### Which heights are valid -/
theorem l02Size_any (W H : Int) (w : World) : Calls Try.prog 25 #[.int .i64 W, .int .i64 H] w fun e w' => e = .returned (.bool (szG W H)) ∧ w = w' := by
  cases h1 : inB W 1 16 with
  | true =>
    have e0 : szG W H = inB H 1 16 := by simp [szG, h1]
    go_enter Try.func25, Try.ntmps25
    go_wp2_with (go_at_call 41; refine (l00In_any _ _ _ _).mono ?_; rintro e w' ⟨rfl, rfl⟩)
    go_ret
    exact ⟨by simp [szG, h1], rfl⟩
  | false =>
    have e0 : szG W H = false := by simp [szG, h1]
    go_enter Try.func25, Try.ntmps25
    go_wp2_with (go_at_call 41; refine (l00In_any _ _ _ _).mono ?_; rintro e w' ⟨rfl, rfl⟩)
    go_ret
    exact ⟨by simp [szG, h1], rfl⟩

theorem l02Size_b (W H : Int) (b : Bool) (hb : szG W H = b) (w : World) : Calls Try.prog 25 #[.int .i64 W, .int .i64 H] w fun e w' => e = .returned (.bool b) ∧ w' = w :=
  (l02Size_any W H w).mono fun _ _ h => ⟨by rw [h.1, hb], h.2.symm⟩

/-- The cells of heights behind a pointer. -/
def GrsAt (w : World) (p : Nat) (W H : Int) (a : Option Addr) (n c : Nat) : Prop :=
  w.cell? ⟨p, 0, none⟩ = some (.int .i64 W) ∧ w.cell? ⟨p, 1, none⟩ = some (.int .i64 H) ∧ w.cell? ⟨p, 2, none⟩ = some (.slice a n c)
theorem GrsAt.ext {w w' : World} {p : Nat} {W H : Int} {a : Option Addr} {n c : Nat} (h : GrsAt w p W H a n c) (e : Ext w w') : GrsAt w' p W H a n c := ⟨e.cell h.1, e.cell h.2.1, e.cell h.2.2⟩

theorem l04Label_any (z : Int) (w : World) : Calls Try.prog 55 #[.int .i64 z] w fun e w' => e = .returned (.bool (inB z 0 63)) ∧ w = w' := by
  go_enter Try.func55, Try.ntmps55
  go_wp2_with (go_at_call 41; refine (l00In_any _ _ _ _).mono ?_; rintro e w' ⟨rfl, rfl⟩)
  go_ret
  exact ⟨rfl, rfl⟩

set_option maxRecDepth 100000 in
theorem l04Is_any (p : Nat) (W H : Int) (a : Option Addr) (n c : Nat) (zs : List Int) (hz : zs.length = n) (hn : n ≤ 1152921504606846976) (w : World) (hp : GrsAt w p W H a n c) (hA : VArr w a (ints zs)) :
    Calls Try.prog 39 #[.pointer (some ⟨p, 0, none⟩)] w fun e w' => e = .returned (.bool (vldG W H zs)) ∧ Ext w w' := by
  have HZ := Lib.hid hz
  clear hz
  cases hs : szG W H with
  | false =>
    have HV : Hid (vldG W H zs = false) := by show _ = _; simp [vldG, hs]
    obtain ⟨p0, p1, p2⟩ := hp
    go_enter Try.func39, Try.ntmps39
    go_wp2
    go_quiet ((go_at_call 25; exact Calls.quiet_of_same (l02Size_b W H _ hs _)))
    go_wp2
    go_ret
    exact ⟨by rw [HV.out]; rfl, (Ext.refl _).drewN _⟩
  | true =>
    obtain ⟨⟨h1, h2⟩, h3, h4⟩ := szG_iff.1 hs
    obtain ⟨hm1, hm2⟩ := mul_bd (by omega) h2 (by omega) h4
    cases hl : lenG n W H with
    | false =>
      have HV : Hid (vldG W H zs = false) := by show _ = _; simp [vldG, HZ.out, hl]
      have e3 : ((n : Int) != W * H) = true := by have h : ((n : Int) == W * H) = false := hl; simpa using h
      obtain ⟨p0, p1, p2⟩ := hp
      go_enter Try.func39, Try.ntmps39
      go_wp2
      go_quiet ((go_at_call 25; exact Calls.quiet_of_same (l02Size_b W H _ hs _)))
      go_wp2
      go_ret
      exact ⟨by rw [HV.out]; rfl, (Ext.refl _).drewN _⟩
    | true =>
      have HV : Hid (vldG W H zs = allIn 0 63 zs) := by show _ = _; simp [vldG, hs, HZ.out, hl]
      have e3 : ((n : Int) != W * H) = false := by have h : ((n : Int) == W * H) = true := hl; simpa using h
      cases hall : allIn 0 63 zs with
      | false =>
        obtain ⟨q, hq, hq1, hq2⟩ := allIn_false hall
        rw [hall] at HV
        have HQ := Lib.hid hq2
        rw [HZ.out] at hq
        have HQ1 := Lib.hid hq1
        clear hq2 hq1 hall
        obtain ⟨p0, p1, p2⟩ := hp
        go_enter Try.func39, Try.ntmps39
        go_wp2
        go_quiet ((go_at_call 25; exact Calls.quiet_of_same (l02Size_b W H _ hs _)))
        go_wp2
        go_loopw [3] (fun i wr => ∃ k : Nat, k ≤ q ∧ i = .int .i64 k ∧ Ext w wr) (fun i _ => q - (intOf i).toNat)
        case atStart => exact ⟨0, Nat.zero_le _, rfl, (Ext.refl _).drewN _⟩
        case round =>
          obtain ⟨k, hk, rfl, hX⟩ := hrel
          have HX := Lib.hid hX
          have hlt : k < n := by omega
          have h1 := hA.ext hX
          have a2 := hX.cell p2
          obtain ⟨b, o, rfl⟩ := hA.starts (i := k) (by simpa [HZ.out] using hlt)
          have hc := h1.ofInts k (by rw [HZ.out]; exact hlt)
          clear h1 hX hA p0 p1 p2 e3
          by_cases hkq : k < q
          · have e1 := HQ.out k hkq
            go_wp2_with (go_at_call 55; refine (l04Label_any _ _).mono ?_; rw [e1]; rintro e w' ⟨rfl, rfl⟩)
            go_roundw
            case rel => exact ⟨k + 1, by omega, by go_num, HX.out⟩
            case measure => simp [intOf]; omega
          · obtain rfl : k = q := by omega
            have e1 := HQ1.out
            go_wp2_with (go_at_call 55; refine (l04Label_any _ _).mono ?_; rw [e1]; rintro e w' ⟨rfl, rfl⟩)
            go_ret
            exact ⟨by rw [HV.out]; rfl, HX.out⟩
      | true =>
        rw [hall] at HV
        have HALL := Lib.hid hall
        clear hall
        obtain ⟨p0, p1, p2⟩ := hp
        go_enter Try.func39, Try.ntmps39
        go_wp2
        go_quiet ((go_at_call 25; exact Calls.quiet_of_same (l02Size_b W H _ hs _)))
        go_wp2
        go_loopw [3] (fun i wr => ∃ k : Nat, k ≤ n ∧ i = .int .i64 k ∧ Ext w wr) (fun i _ => n - (intOf i).toNat)
        case atStart => exact ⟨0, Nat.zero_le _, rfl, (Ext.refl _).drewN _⟩
        case round =>
          obtain ⟨k, hk, rfl, hX⟩ := hrel
          have HX := Lib.hid hX
          have a2 := hX.cell p2
          clear p0 p1 p2 e3
          by_cases hlt : k < n
          · have h1 := hA.ext hX
            obtain ⟨b, o, rfl⟩ := hA.starts (i := k) (by simpa [HZ.out] using hlt)
            have hc := h1.ofInts k (by rw [HZ.out]; exact hlt)
            clear h1 hX hA
            have e1 := allIn_true HALL.out (k := k) (by rw [HZ.out]; exact hlt)
            go_wp2_with (go_at_call 55; refine (l04Label_any _ _).mono ?_; rw [e1]; rintro e w' ⟨rfl, rfl⟩)
            go_roundw
            case rel => exact ⟨k + 1, by omega, by go_num, HX.out⟩
            case measure => simp [intOf]; omega
          · obtain rfl : k = n := by omega
            clear hX hA
            go_wp2
            go_ret
            exact ⟨by rw [HV.out]; rfl, HX.out⟩

theorem ints_two (x y : Int) : ints [x, y] = [.int .i64 x, .int .i64 y] := rfl
theorem VArr.two {w : World} {b : Nat} {x y : Int} {T : TypeId} (h : w.heap[b]? = some (.cells #[.int .i64 x, .int .i64 y] T (0, 0))) : VArr w (some ⟨b, 0, none⟩) (ints [x, y]) := by
  intro i v hv
  refine ⟨b, 0, rfl, ?_⟩
  rw [Nat.zero_add, block_cell h i]
  match i with
  | 0 => simpa [ints] using hv
  | 1 => simpa [ints] using hv
  | i + 2 => simp [ints] at hv

end Go.Proofs.Ytpmcjojipbiinaa
