/-
  Contracts of the small functions that the statements share: a slice of singles copied, compared, marked, held against its marks.
-/
import Derived.Test.YtajfpjggdbifjaaFlo
import Derived.Test.YtajfpjggdbifjaaInts
namespace Go.Proofs.Ytajfpjggdbifjaa
open Go.RowKit
set_option linter.unusedVariables false
set_option linter.unusedSimpArgs false
set_option linter.unnecessarySimpa false

theorem info32 : (Try.prog.info? 28).map (fun i => (i.zero, i.size, i.bytes)) = some (some (.float .f32 0), 1, 4) := by kernel_rfl

theorem made_flts (n : Nat) : (madeCells #[Value.float .f32 0] n).toList = flts (List.replicate n 0) := by
  have := made_one (.float .f32 0) rfl n
  simp only [Value.cells, Nat.mul_one] at this
  rw [this]; simp [flts]
theorem take_setF (zs : List Nat) (k : Nat) {n : Nat} (hk : k < n) (hz : zs.length = n) : (zs.take k ++ List.replicate (n - k) 0).set k (zs[k]?.getD 0) = zs.take (k + 1) ++ List.replicate (n - (k + 1)) 0 := by
  have hl : (zs.take k).length = k := by simp; omega
  obtain ⟨m, hm⟩ : ∃ m, n - k = m + 1 := ⟨n - k - 1, by omega⟩
  rw [hm, List.replicate_succ, show n - (k + 1) = m by omega]
  conv => lhs; rw [show k = (zs.take k).length + 0 by omega]
  rw [show (zs.take k).length + 0 = k by omega]
  rw [List.set_append_right _ _ (by omega), hl, Nat.sub_self, List.set_cons_zero, List.take_succ_eq_append_getElem (by omega), List.append_assoc, List.singleton_append, List.getElem?_eq_getElem (by omega), Option.getD_some]
def markF (k : Int) (n : Nat) : List Nat := (List.range n).map fun (i : Nat) => floatOfInt .f32 (k + i)
theorem markF_set (k0 : Int) (zs : List Nat) (k : Nat) {n : Nat} (hk : k < n) (hz : zs.length = n) : (((List.range k).map fun (i : Nat) => floatOfInt .f32 (k0 + i)) ++ zs.drop k).set k (floatOfInt .f32 (k0 + k)) = ((List.range (k + 1)).map fun (i : Nat) => floatOfInt .f32 (k0 + i)) ++ zs.drop (k + 1) := by
  rw [List.set_append_right _ _ (by simp)]
  simp only [List.length_map, List.length_range, Nat.sub_self]
  rw [List.drop_eq_getElem_cons (by omega), List.set_cons_zero, List.range_succ]
  simp
theorem isN_ofInt (k : FloatKind) (n : Int) : isN k (floatOfInt k n) = false := isN_nearest k _ _ _
theorem order_self {k : FloatKind} {b : Nat} (h : isN k b = false) : k.format.order b b = some .eq := datum_order_self h

theorem szFloat32S_any (a : Option Addr) (n c : Nat) (L : Int) (hn : n ≤ 9223372036854775807) (hL : L ≤ 1048576) (hL0 : 0 ≤ L) (w : World) :
    Calls Try.prog 143 #[.slice a n c, .int .i64 L] w fun e w' => e = .returned (.int .i64 (if L - n < 0 then -1 else L - n)) ∧ w = w' := by
  go_enter Try.func143, Try.ntmps143
  go_wp2
  all_goals go_ret
  all_goals simp_all

/-- A copy: a row of the call's own. -/
theorem toFloat32S_any (a : Option Addr) (n c : Nat) (zs : List Nat) (hz : zs.length = n) (hn : n ≤ 1048576) (w : World) (hA : VArr w a (flts zs)) :
    Calls Try.prog 146 #[.slice a n c] w fun e w' => e = .returned (.slice (some ⟨w.heap.size, 0, none⟩) n n) ∧ Ext w w' ∧
      w'.ownsRow w.heap.size 28 1 (.slice (some ⟨w.heap.size, 0, none⟩) n n) n (flts zs) := by
  obtain ⟨i0, hi, hz0, hz1, hz2⟩ := info_parts info32
  have HZ := Lib.hid hz
  clear hz
  go_enter Try.func146, Try.ntmps146
  go_wp2_with (at_make; refine wpList_make_full _ rfl _ _ 24 rfl w.heap.size 28 i0 (.float .f32 0) 1 Try.underlying24 hi hz0 hz1 .i64 .i64 _ _ n rfl rfl rfl rfl (by rw [hz2]; omega) (by unfold maxLen; omega) (Nat.le_refl _) ?_)
  intro w1 hown hg
  have hE : Ext w w1 := Ext.of_grown hg
  have hown1 : w1.ownsRow w.heap.size 28 1 (.slice (some ⟨w.heap.size, 0, none⟩) n n) n (flts (List.replicate n 0)) := by
    rw [← made_flts]; exact hown
  clear hown hg
  go_wp2
  go_loopw [4] (fun i wr => ∃ k : Nat, k ≤ n ∧ i = .int .i64 k ∧ Ext w wr ∧ wr.ownsRow w.heap.size 28 1 (.slice (some ⟨w.heap.size, 0, none⟩) n n) n (flts (zs.take k ++ List.replicate (n - k) 0))) (fun i _ => n - (intOf i).toNat)
  case atStart => exact ⟨0, Nat.zero_le _, rfl, hE, by simpa using hown1⟩
  case round =>
    obtain ⟨k, hk, rfl, hX, hO⟩ := hrel
    clear hE hown1
    by_cases hlt : k < n
    · have hA' := hA.ext hX
      obtain ⟨b, o, rfl⟩ := hA.starts (i := k) (by simpa [HZ.out] using hlt)
      have hc := hA'.ofFlts k (by rw [HZ.out]; exact hlt)
      obtain ⟨old, hd⟩ := ownsRow_cell hO (i := k) hlt
      have hf := ownsRow_frozen hO k
      have HO := Lib.hid hO
      have HX := Lib.hid hX
      clear hO hX hA hA'
      go_wp2
      go_roundw
      case rel =>
        refine ⟨k + 1, by omega, by go_num, Below.setCell HX.out (Nat.le_refl _) _, ?_⟩
        have h := oneCell_setCell HO.out (i := k) (.float .f32 (zs[k]?.getD 0))
        rw [flts_set, take_setF _ _ (by omega) HZ.out] at h
        exact h
      case measure => simp [intOf]; omega
    · obtain rfl : k = n := by omega
      have HO := Lib.hid hO
      have HX := Lib.hid hX
      clear hO hX
      go_wp2
      go_ret
      refine ⟨rfl, HX.out, ?_⟩
      have := HO.out
      simpa [HZ.out, List.take_of_length_le (Nat.le_of_eq HZ.out)] using this

theorem order_nan1 {k : FloatKind} {x y : Nat} (h : isN k x = true) : k.format.order x y = none := by
  rw [order_fa, fa_nan h]; rfl
theorem isN_of_fa {k : FloatKind} {x y : Nat} (h : fa k x = fa k y) (hx : isN k x = true) : isN k y = true := by
  rw [fa_nan hx] at h
  unfold fa at h
  split at h
  · assumption
  · cases h
theorem eq_of_fa {k : FloatKind} {x y : Nat} (h : fa k x = fa k y) (hx : isN k x = false) : y = x := by
  rw [fa_num hx] at h
  unfold fa at h
  split at h
  · cases h
  · simpa using h.symm
theorem order_frr {op : BinOp} {k : FloatKind} (x y z : Nat) (w w' : World) : k.format.order (frr op k x y w) z = k.format.order (frr op k x y w') z := by
  rw [order_fa, order_fa, fa_frr, fa_frr]

/-- Floats that are the same up to which not-a-number are the same to 'sameFloat'. -/
theorem sameFloat_any (x y : Nat) (h : fa .f64 x = fa .f64 y) (w : World) :
    Calls Try.prog 47 #[.float .f64 x, .float .f64 y] w fun e w' => e = .returned (.bool true) ∧ Ext w w' := by
  cases hx : isN .f64 x with
  | true =>
    have hy := isN_of_fa h hx
    have e1 : FloatKind.f64.format.order x x = none := order_nan1 hx
    have e2 : FloatKind.f64.format.order y y = none := order_nan1 hy
    clear h hx hy
    go_enter Try.func47, Try.ntmps47
    go_wp2
    go_ret
    exact ⟨rfl, Ext.refl _⟩
  | false =>
    obtain rfl := eq_of_fa h hx
    have e1 : FloatKind.f64.format.order y y = some .eq := order_self hx
    clear h hx
    cases hz : FloatKind.f64.format.order y 0 == some .eq with
    | true =>
      have HF : ∀ w1 w2 : World, FloatKind.f64.format.order (frr .quo .f64 4607182418800017408 y w1) 0 = FloatKind.f64.format.order (frr .quo .f64 4607182418800017408 y w2) 0 := fun w1 w2 => order_frr _ _ _ _ _
      have HF' := Lib.hid HF
      clear HF
      go_enter Try.func47, Try.ntmps47
      go_wp2
      go_ret
      exact ⟨by rw [HF'.out (w.drewN _) w]; simp, (Ext.refl _).drewN _⟩
    | false =>
      go_enter Try.func47, Try.ntmps47
      go_wp2
      go_ret
      exact ⟨rfl, Ext.refl _⟩

/-- Slices that are the same up to which not-a-number compare equal. -/
theorem eqFloat32S_any (a a' : Option Addr) (n c n' c' : Nat) (zs zs' : List Nat) (hz : zs.length = n) (hz' : zs'.length = n') (hn : n ≤ 1152921504606846976) (hn' : n' ≤ 1152921504606846976) (hzz : fas zs = fas zs') (w : World) (hA : VArr w a (flts zs)) (hA' : VArr w a' (flts zs')) :
    Calls Try.prog 147 #[.slice a n c, .slice a' n' c'] w fun e w' => e = .returned (.bool true) ∧ Ext w w' := by
  have HZ := Lib.hid hz
  have HZ' := Lib.hid hz'
  obtain rfl : n = n' := by have := congrArg List.length hzz; simpa [hz, hz'] using this
  have HF : Hid (∀ i, i < n → fa .f32 (zs[i]?.getD 0) = fa .f32 (zs'[i]?.getD 0)) := fun i hi => by
    rw [fas_at hzz (by omega), fas_at rfl (by omega)]
  clear hz hz' hzz
  go_enter Try.func147, Try.ntmps147
  go_wp2
  go_loopw [5] (fun i wr => ∃ k : Nat, k ≤ n ∧ i = .int .i64 k ∧ Ext w wr) (fun i _ => n - (intOf i).toNat)
  case atStart => exact ⟨0, Nat.zero_le _, rfl, Ext.refl _⟩
  case round =>
    obtain ⟨k, hk, rfl, hX⟩ := hrel
    have HX := Lib.hid hX
    by_cases hlt : k < n
    · have h1 := hA.ext hX
      have h2 := hA'.ext hX
      obtain ⟨b, o, rfl⟩ := hA.starts (i := k) (by simpa [HZ.out] using hlt)
      obtain ⟨b', o', rfl⟩ := hA'.starts (i := k) (by simpa [HZ'.out] using hlt)
      have hc := h1.ofFlts k (by rw [HZ.out]; exact hlt)
      have hc' := h2.ofFlts k (by rw [HZ'.out]; exact hlt)
      rw [List.getD_eq_getElem?_getD] at hc hc'
      have HE := Lib.hid (HF.out k hlt)
      clear h1 h2 hX hA hA' HF
      generalize zs[k]?.getD 0 = x at *
      generalize zs'[k]?.getD 0 = y at *
      go_wp2_with fail
      refine region_grow (C := Ext wr) (K := fun _ _ v _ => v = .bool true) ⟨fun _ _ h k => h.trans k, fun _ _ _ _ _ h _ => h⟩ (by kernel_rfl) (by kernel_rfl) ((Ext.refl wr).drew) ?_
      iterate 3 (refine grow_q rfl ?_; apply Exists.intro; refine ⟨fun u hu _ => ?_, ?_⟩; focus (go_simp; rfl))
      refine grow_q rfl ?_; apply Exists.intro; refine ⟨fun u hu _ => ?_, ?_⟩; focus (have := hu.cell hc; go_simp; rfl)
      refine grow_f .f64 rfl ⟨wdr x, wdn x, fun u hu _ => ?_, fwid (fa .f32 x), fun u => fa_wdr x u, fun r hr => ?_⟩
      · go_simp
      iterate 3 (refine grow_q rfl ?_; apply Exists.intro; refine ⟨fun u hu _ => ?_, ?_⟩; focus (go_simp; rfl))
      refine grow_q rfl ?_; apply Exists.intro; refine ⟨fun u hu _ => ?_, ?_⟩; focus (have := hu.cell hc'; go_simp; rfl)
      refine grow_f .f64 rfl ⟨wdr y, wdn y, fun u hu _ => ?_, fwid (fa .f32 y), fun u => fa_wdr y u, fun r' hr' => ?_⟩
      · go_simp
      refine grow_c1 47 rfl ?_
      refine ⟨#[.float .f64 r, .float .f64 r'], fun u => ?_, .bool true, fun u hu _ => ?_, fun v u h => h, fun u => rfl, ?_⟩
      · go_simp
      · exact sameFloat_any r r' (by rw [hr, hr', HE.out]) u
      refine grow_q rfl ?_; apply Exists.intro; refine ⟨fun u hu _ => ?_, ?_⟩; focus (go_simp; rfl)
      refine grow_nil (fun w2 hw _ => ?_)
      clear hr hr'
      go_simp
      go_wp2
      go_roundw
      case rel => exact ⟨k + 1, by omega, by go_num, HX.out.trans hw⟩
      case measure => simp [intOf]; omega
    · obtain rfl : k = n := by omega
      clear hX
      go_wp2
      go_ret
      exact ⟨rfl, HX.out⟩

theorem markFloat32S_any (a : Option Addr) (n c base : Nat) (zs : List Nat) (k0 : Int) (h0 : 0 ≤ k0) (hk0 : k0 ≤ 16777216) (hn : n ≤ 1048576) (w : World) (hO : w.ownsRow base 28 1 (.slice a n c) n (flts zs)) :
    Calls Try.prog 155 #[.slice a n c, .int .i64 k0] w fun e w' => e = .returned (.int .i64 (k0 + n)) ∧ w.grownBy w' (Value.slice a n c).ownBlock ∧
      w'.ownsRow base 28 1 (.slice a n c) n (flts (markF k0 n)) := by
  have hl := ownsRow_len hO
  rcases ownsRow_cases hO with ⟨rfl, rfl, rfl, hx, _⟩ | ⟨g, rfl, hb, hg, hnc, hcm, _⟩
  · clear hx hl
    go_enter Try.func155, Try.ntmps155
    have HO := Lib.hid hO
    clear hO
    go_wp2
    go_loopw [1, 5] (fun x i wr => x = .int .i64 k0 ∧ i = .int .i64 0 ∧ wr = w) (fun x i _ => 0)
    case atStart => exact ⟨rfl, rfl, rfl⟩
    case round =>
      obtain ⟨rfl, rfl, rfl⟩ := hrel
      go_wp2
      go_ret
      refine ⟨by simp, World.grownBy.refl _ _, ?_⟩
      have := HO.out
      rcases this with ⟨h1, h2⟩
      exact ⟨by simp [markF], .inl ⟨rfl, rfl⟩⟩
  · have HZ : Hid (zs.length = n) := by have := hl.1; simp at this; exact this.symm
    have HO := Lib.hid hO
    clear hO hl
    go_enter Try.func155, Try.ntmps155
    go_wp2
    go_loopw [1, 5] (fun x i wr => ∃ k : Nat, k ≤ n ∧ i = .int .i64 k ∧ x = .int .i64 (k0 + k) ∧ w.grownBy wr (some g) ∧ wr.ownsRow base 28 1 (.slice (some ⟨g, 0, none⟩) n c) n (flts (markF k0 k ++ zs.drop k))) (fun _ i _ => n - (intOf i).toNat)
    case atStart => exact ⟨0, Nat.zero_le _, rfl, by simp, World.grownBy.refl _ _, by simpa [markF] using HO.out⟩
    case round =>
      obtain ⟨k, hk, rfl, rfl, hG, hO⟩ := hrel
      by_cases hlt : k < n
      · obtain ⟨old, hd⟩ := ownsRow_cell hO (i := k) hlt
        have hf := ownsRow_frozen hO k
        have HO := Lib.hid hO
        have HG := Lib.hid hG
        clear hO hG
        go_wp2
        go_roundw
        case rel =>
          refine ⟨k + 1, by omega, by go_num, by simp; omega, grownBy_setCell HG.out _, ?_⟩
          have h := oneCell_setCell HO.out (i := k) (.float .f32 (floatOfInt .f32 (k0 + k)))
          unfold markF at h
          rw [flts_set, markF_set _ _ _ (by omega) HZ.out] at h
          exact h
        case measure => simp [intOf]; omega
      · obtain rfl : k = n := by omega
        have HO := Lib.hid hO
        have HG := Lib.hid hG
        clear hO hG
        go_wp2
        go_ret
        refine ⟨rfl, HG.out, ?_⟩
        have := HO.out
        simpa [HZ.out, List.drop_of_length_le (Nat.le_of_eq HZ.out)] using this

theorem heldFloat32S_any (a : Option Addr) (n c : Nat) (k0 : Int) (h0 : 0 ≤ k0) (hk0 : k0 ≤ 16777216) (hn : n ≤ 1048576) (w : World) (hA : VArr w a (flts (markF k0 n))) :
    Calls Try.prog 156 #[.slice a n c, .int .i64 k0] w fun e w' => e = .returned (.int .i64 (k0 + n)) ∧ Ext w w' := by
  go_enter Try.func156, Try.ntmps156
  go_wp2
  go_loopw [1, 5] (fun x i wr => ∃ k : Nat, k ≤ n ∧ i = .int .i64 k ∧ x = .int .i64 (k0 + k) ∧ Ext w wr) (fun _ i _ => n - (intOf i).toNat)
  case atStart => exact ⟨0, Nat.zero_le _, rfl, by simp, Ext.refl _⟩
  case round =>
    obtain ⟨k, hk, rfl, rfl, hX⟩ := hrel
    have HX := Lib.hid hX
    by_cases hlt : k < n
    · have h1 := hA.ext hX
      obtain ⟨b, o, rfl⟩ := hA.starts (i := k) (by simpa [markF] using hlt)
      have hc := h1.ofFlts k (by simpa [markF] using hlt)
      rw [show (markF k0 n).getD k 0 = floatOfInt .f32 (k0 + k) by simp [markF, hlt]] at hc
      have hs := order_self (isN_ofInt .f32 (k0 + k))
      clear h1 hX hA
      go_wp2
      go_roundw
      case rel => exact ⟨k + 1, by omega, by go_num, by simp; omega, HX.out⟩
      case measure => simp [intOf]; omega
    · obtain rfl : k = n := by omega
      clear hX
      go_wp2
      go_ret
      exact ⟨rfl, HX.out⟩
end Go.Proofs.Ytajfpjggdbifjaa
