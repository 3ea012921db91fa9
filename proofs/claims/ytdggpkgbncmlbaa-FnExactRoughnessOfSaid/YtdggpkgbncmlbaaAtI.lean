/-
  ShiftHeights by the reference.
-/
import Derived.Test.YtdggpkgbncmlbaaAtH
namespace Go.Proofs.Ytdggpkgbncmlbaa
open Go.RowKit
set_option linter.unusedVariables false
set_option linter.unusedSimpArgs false
set_option linter.unnecessarySimpa false

theorem l05Shift_any (x y : Int) (w : World) : Calls Try.prog 92 #[.int .i64 x, .int .i64 y] w fun e w' => e = .returned (.bool (inB x (-16) 16 && inB y (-16) 16)) ∧ w = w' := by
  cases hx : inB x (-16) 16 with
  | false =>
    go_enter Try.func92, Try.ntmps92
    go_wp2_with (go_at_call 64; refine (l00In_any _ _ _ _).mono ?_; rw [hx]; rintro e w' ⟨rfl, rfl⟩)
    go_ret
    exact ⟨rfl, rfl⟩
  | true =>
    go_enter Try.func92, Try.ntmps92
    go_wp2_with fail
    refine (l00In_any _ _ _ _).mono ?_
    rw [hx]
    rintro e w' ⟨rfl, rfl⟩
    go_wp2_with (go_at_call 64; refine (l00In_any _ _ _ _).mono ?_; rintro e w' ⟨rfl, rfl⟩)
    go_ret
    exact ⟨rfl, rfl⟩

/-- What stands while a copy is filled anew. -/
structure Refill (w : World) (p r q : Nat) (W H : Int) (a : Option Addr) (n c : Nat) (g c' : Nat) (zs : List Int) (wr : World) : Prop where
  ext : Ext w wr
  arg : wr.heap[p]? = some (.cells #[.int .i64 W, .int .i64 H, .slice a n c] 33 (0, 0))
  res : wr.heap[r]? = some (.cells #[.int .i64 0, .int .i64 0, .slice none 0 0] 33 (0, 0))
  box : wr.heap[q]? = some (.cells #[.int .i64 W, .int .i64 H, .slice (some ⟨g, 0, none⟩) n c'] 33 (0, 0))
  row : wr.ownsRow w.heap.size 2 1 (.slice (some ⟨g, 0, none⟩) n c') n (ints zs)

theorem Refill.of_ext {w : World} {p r q : Nat} {W H : Int} {a : Option Addr} {n c g c' : Nat} {zs : List Int} {wr wr' : World} (h : Refill w p r q W H a n c g c' zs wr) (e : Ext wr wr') : Refill w p r q W H a n c g c' zs wr' :=
  ⟨h.ext.trans e, e.block h.arg, e.block h.res, e.block h.box, ownsRow_ext h.row e⟩
theorem ne_of_row {w : World} {base e n m c g q : Nat} {T : TypeId} {xs : List Value} {ca : Array Value} {fr : Nat × Nat} (hO : w.ownsRow base e 1 (.slice (some ⟨g, 0, none⟩) n c) m xs) (hT : T ≠ e) (D : w.heap[q]? = some (.cells ca T fr)) : q ≠ g := by
  rintro rfl
  rcases hO.2 with ⟨h, _⟩ | ⟨g', cap, cur, h, hb, hg, _⟩
  · simp at h
  · simp only [Value.slice.injEq, Option.some.injEq, Addr.mk.injEq, and_true, true_and] at h
    obtain ⟨rfl, rfl, rfl⟩ := h
    rw [hg] at D
    simp only [Option.some.injEq, Obj.cells.injEq] at D
    exact hT D.2.1.symm
theorem Refill.set {w : World} {p r q : Nat} {W H : Int} {a : Option Addr} {n c g c' : Nat} {zs : List Int} {wr : World} (h : Refill w p r q W H a n c g c' zs wr) (hg : w.heap.size ≤ g) (k : Nat) (z : Int) : Refill w p r q W H a n c g c' (zs.set k z) (wr.setCell ⟨g, k, none⟩ (.int .i64 z)) :=
  ⟨Below.setCell h.ext hg _, by rw [cells_setOther (ne_of_row h.row (by decide) h.arg)]; exact h.arg, by rw [cells_setOther (ne_of_row h.row (by decide) h.res)]; exact h.res,
    by rw [cells_setOther (ne_of_row h.row (by decide) h.box)]; exact h.box, by rw [← ints_set]; exact oneCell_setCell h.row _⟩

theorem own_int_at {w : World} {base : Nat} {e : TypeId} {g n m c : Nat} {zs : List Int} (h : w.ownsRow base e 1 (.slice (some ⟨g, 0, none⟩) n c) m (ints zs)) {k : Nat} (hk : k < zs.length) : w.cell? ⟨g, k, none⟩ = some (.int .i64 (zs[k]?.getD 0)) ∧ w.frozen? ⟨g, k, none⟩ = false := by
  have := (ownsRow_varr h).ofInts k hk
  simp only [Nat.zero_add, List.getD_eq_getElem?_getD] at this
  exact ⟨this, ownsRow_frozen h k⟩

theorem tmod_nat (k W : Nat) : (k : Int).tmod (W : Int) = ((k % W : Nat) : Int) := rfl
theorem tdiv_nat (k W : Nat) : (k : Int).tdiv (W : Int) = ((k / W : Nat) : Int) := rfl

set_option maxRecDepth 100000 in
set_option maxHeartbeats 1000000 in
theorem specShift_any (W H x y : Int) (a : Option Addr) (n c : Nat) (zs : List Int) (hz : zs.length = n) (hn : n ≤ 1048576) (w : World) (hA : VArr w a (ints zs)) :
    Calls Try.prog 52 #[.agg #[.int .i64 W, .int .i64 H, .slice a n c], .int .i64 x, .int .i64 y] w (keepH w (shiftOk W H zs x y) W H (shiftZ W H zs x y)) := by
  have hX := ((Ext.refl w).alloc (.cells #[.int .i64 W, .int .i64 H, .slice a n c] 33)).alloc (.cells #[.int .i64 0, .int .i64 0, .slice none 0 0] 33)
  have b0 := heap_mid1 w (.cells #[.int .i64 W, .int .i64 H, .slice a n c] 33) (.cells #[.int .i64 0, .int .i64 0, .slice none 0 0] 33)
  have b1 := heap_new1 w (.cells #[.int .i64 W, .int .i64 H, .slice a n c] 33) (.cells #[.int .i64 0, .int .i64 0, .slice none 0 0] 33)
  have hA1 := hA.ext hX
  go_enter Try.func52, Try.ntmps52
  go_wp2_with fail
  refine (l05Is_any _ W H a n c zs hz (by omega) _ (block3 b0).1 hA1).mono ?_
  generalize (w.alloc (.cells #[.int .i64 W, .int .i64 H, .slice a n c] 33)).alloc (.cells #[.int .i64 0, .int .i64 0, .slice none 0 0] 33) = w0 at *
  rintro e w1 ⟨rfl, hX1⟩
  obtain ⟨⟨d0, d1, d2⟩, f0, f1, f2⟩ := block3 (hX1.block b1)
  cases hv : vldH W H zs with
  | false =>
    have HR : Hid (shiftOk W H zs x y = false) := by show _ = _; simp [shiftOk, hv]
    have HE := Lib.hid ((hX.trans hX1).fin3 (q := w.heap.size + 1) (by omega) (.int .i64 0) (.int .i64 0) (.slice none 0 0))
    clear hX hX1 b0 b1 hA hA1 hv
    go_wp2
    refine bodyPost_ret (v := .tuple #[.agg #[.int .i64 0, .int .i64 0, .slice none 0 0], .bool false]) ?_ rfl (keepH_no HR.out ⟨none, 0, 0, rfl, HE.out, World.ownsRow_nil _ _ _ _, rfl, by omega⟩)
    simp only [results, Try.results52]
    go_simp
  | true =>
    cases hxy : (inB x (-16) 16 && inB y (-16) 16) with
    | false =>
      have HR : Hid (shiftOk W H zs x y = false) := by show _ = _; simp [shiftOk, hxy]
      have HE := Lib.hid ((hX.trans hX1).fin3 (q := w.heap.size + 1) (by omega) (.int .i64 0) (.int .i64 0) (.slice none 0 0))
      have HXY := Lib.hid hxy
      clear hX hX1 b0 b1 hA hA1 hv hxy
      go_wp2_with (go_at_call 92; refine (l05Shift_any _ _ _).mono ?_; rw [HXY.out]; rintro e w' ⟨rfl, rfl⟩)
      refine bodyPost_ret (v := .tuple #[.agg #[.int .i64 0, .int .i64 0, .slice none 0 0], .bool false]) ?_ rfl (keepH_no HR.out ⟨none, 0, 0, rfl, HE.out, World.ownsRow_nil _ _ _ _, rfl, by omega⟩)
      simp only [results, Try.results52]
      go_simp
    | true =>
      have HR : Hid (shiftOk W H zs x y = true) := by show _ = _; simp [shiftOk, hxy, hv]
      obtain ⟨hx, hy⟩ := (Bool.and_eq_true_iff).1 hxy
      obtain ⟨x0, x1⟩ := inB_iff.1 hx
      obtain ⟨y0, y1⟩ := inB_iff.1 hy
      obtain ⟨hW, hH, hnn, ⟨hn1, hn2⟩, hb⟩ := vld_facts hv hz
      have HV := Lib.hid hv
      have HXY := Lib.hid hxy
      clear hv hxy hx hy d0 d1 d2 f0 f1 f2
      go_wp2_with fail
      refine (l05Shift_any _ _ _).mono ?_
      rw [HXY.out]
      rintro e w1' ⟨rfl, rfl⟩
      go_wp2_with fail
      refine (l05Own_any _ W H a n c zs hz hn _ (block3 (hX1.block b0)).1 (hA1.ext hX1)).mono ?_
      rintro e w2 ⟨a', c', rfl, hX2, hO⟩
      have hXa := (Ext.refl w2).alloc (.cells #[.int .i64 W, .int .i64 H, .slice a' n c'] 33)
      have bq := heap_new w2 (.cells #[.int .i64 W, .int .i64 H, .slice a' n c'] 33)
      obtain ⟨g, rfl, hg, _⟩ := own_int hO (k := 0) (by omega)
      obtain ⟨Wn, rfl⟩ := Int.eq_ofNat_of_zero_le (show 0 ≤ W by omega)
      obtain ⟨Hn, rfl⟩ := Int.eq_ofNat_of_zero_le (show 0 ≤ H by omega)
      have hnn' : n = Hn * Wn := by
        have : ((Hn * Wn : Nat) : Int) = Wn * Hn := by rw [Int.natCast_mul, Int.mul_comm]
        omega
      have HNN := Lib.hid hnn'
      clear hnn hnn'
      have F0 : Refill w w.heap.size (w.heap.size + 1) w2.heap.size Wn Hn a n c g c' zs (w2.alloc (.cells #[.int .i64 Wn, .int .i64 Hn, .slice (some ⟨g, 0, none⟩) n c'] 33)) :=
        ⟨((hX.trans hX1).trans hX2).trans hXa, hXa.block (hX2.block (hX1.block b0)), hXa.block (hX2.block (hX1.block b1)), bq, ownsRow_ext (ownsRow_mono hO (hX.trans hX1).size) hXa⟩
      have hg' : w.heap.size ≤ g := Nat.le_trans (hX.trans hX1).size hg
      obtain ⟨⟨c0, c1, c2⟩, _⟩ := block3 F0.box
      clear hX hX1 hX2 hXa b0 b1 bq hA1 hO hg
      go_wp2
      generalize w2.alloc (.cells #[.int .i64 Wn, .int .i64 Hn, .slice (some ⟨g, 0, none⟩) n c'] 33) = w3 at *
      clear c0 c1 c2
      generalize w2.heap.size = q at *
      go_loopw [25] (fun i wr => ∃ k : Nat, k ≤ n ∧ i = .int .i64 k ∧ Refill w w.heap.size (w.heap.size + 1) q Wn Hn a n c g c' (((List.range k).map fun i => shiftG Wn Hn zs x y ((i % Wn : Nat) : Int) ((i / Wn : Nat) : Int)) ++ zs.drop k) wr) (fun i _ => n - (intOf i).toNat)
      case atStart => exact ⟨0, Nat.zero_le _, rfl, by simpa using F0⟩
      case round =>
        obtain ⟨k, hk, rfl, hF⟩ := hrel
        clear F0
        obtain ⟨⟨c0, c1, c2⟩, _⟩ := block3 hF.box
        by_cases hlt : k < n
        · obtain ⟨⟨d0, d1, d2⟩, _⟩ := block3 hF.arg
          have hu := tmod_nat k Wn
          have hv := tdiv_nat k Wn
          have hu2 : k % Wn < Wn := Nat.mod_lt _ (by omega)
          have hv2 : k / Wn < Hn := Nat.div_lt_of_lt_mul (by rw [Nat.mul_comm]; have := HNN.out; omega)
          have HK := Lib.hid hF
          have HA := Lib.hid (hA.ext hF.ext)
          obtain ⟨b, o, rfl⟩ := hA.starts (i := k) (by simp; omega)
          obtain ⟨m, hm⟩ : ∃ m : Nat, cellF Wn Hn ((k % Wn : Nat) - x) ((k / Wn : Nat) - y) = m := ⟨_, (Int.toNat_of_nonneg (cellF_bd _ _ (by omega) (by omega)).1).symm⟩
          have hmn : m < n := by
            have := (cellF_bd (W := Wn) (H := Hn) ((k % Wn : Nat) - x) ((k / Wn : Nat) - y) (by omega) (by omega)).2
            rw [hm, Int.mul_comm, ← Int.natCast_mul, ← HNN.out] at this
            omega
          have hcm := HA.out.ofInts m (by omega)
          obtain ⟨z, hzm⟩ : ∃ z, zs[m]?.getD 0 = z := ⟨_, rfl⟩
          rw [List.getD_eq_getElem?_getD, hzm] at hcm
          have HGV : Hid (shiftG Wn Hn zs x y ((k % Wn : Nat) : Int) ((k / Wn : Nat) : Int) = z) := by
            show _ = _
            unfold shiftG; rw [hm]; exact hzm
          have HM := Lib.hid hm
          clear hm hzm
          generalize hku : k % Wn = u at *
          generalize hkv : k / Wn = v at *
          have HKU := Lib.hid (And.intro hku hkv)
          clear hku hkv hF
          go_wp2_with fail
          refine region_grow_tail 14 (C := Ext wr) (K := fun _ _ v _ => v = .int .i64 m) ⟨fun _ _ h k => h.trans k, fun _ _ _ _ _ h _ => h⟩ (by kernel_rfl) (by kernel_rfl) ((Ext.refl wr).drew) ?_
          simp only [List.take_succ_cons, List.take_zero, List.drop_succ_cons, List.drop_zero]
          iterate 11 (refine grow_q rfl ?_; apply Exists.intro; refine ⟨fun u' hz _ => ?_, ?_⟩; focus (obtain ⟨⟨c0, c1, c2⟩, _⟩ := block3 (hz.block HK.out.box); obtain ⟨⟨d0, d1, d2⟩, _⟩ := block3 (hz.block HK.out.arg); go_simp; rfl))
          refine grow_c1 93 rfl ?_
          refine ⟨#[.pointer (some ⟨w.heap.size, 0, none⟩), .int .i64 (u - x), .int .i64 (v - y)], fun u' => ?_, .int .i64 m, fun u' hz _ => ?_, fun v u h => h, fun u => rfl, ?_⟩
          · go_simp
            exact ⟨wrapS (by omega) (by omega), wrapS (by omega) (by omega)⟩
          · refine (l05Index_any w.heap.size Wn Hn (u - x) (v - y) _ n c (by omega) (by omega) u' (block3 (hz.block HK.out.arg)).1).mono fun e w' h => ?_
            rw [HM.out] at h; exact h
          iterate 2 (refine grow_q rfl ?_; apply Exists.intro; refine ⟨fun u' hz _ => ?_, ?_⟩; focus (have hcm' := hz.cell hcm; go_simp; rfl))
          refine grow_nil (fun w4 hz _ => ?_)
          have HK4 := Lib.hid (HK.out.of_ext hz)
          obtain ⟨hd, hf⟩ := own_int_at HK4.out.row (k := k) (by simp; omega)
          clear hz hcm HA c0 c1 c2 d0 d1 d2
          go_simp
          go_wp2
          go_roundw
          case rel =>
            refine ⟨k + 1, by omega, by go_num, ?_⟩
            have h1 := HK4.out.set hg' k z
            obtain ⟨rfl, rfl⟩ := HKU.out
            rw [← HGV.out] at h1 ⊢
            rw [← fill_set (fun i => shiftG Wn Hn zs x y ((i % Wn : Nat) : Int) ((i / Wn : Nat) : Int)) zs (by omega)]
            exact h1
          case measure => simp [intOf]; omega
        · obtain rfl : k = n := by omega
          obtain ⟨⟨d0, d1, d2⟩, f0, f1, f2⟩ := block3 hF.res
          obtain ⟨HE, HO⟩ := stored3 (T := 33) (u0 := .int .i64 Wn) (u1 := .int .i64 Hn) (u2 := .slice (some ⟨g, 0, none⟩) k c') hF.ext (by decide) (by omega) hF.res hF.row
          have HE' := Lib.hid HE
          have HO' := Lib.hid HO
          clear HE HO hF
          go_wp2
          refine bodyPost_ret (v := .tuple #[.agg #[.int .i64 Wn, .int .i64 Hn, .slice (some ⟨g, 0, none⟩) k c'], .bool true]) ?_ rfl (keepH_yes HR.out ⟨_, k, c', rfl, HE'.out, ?_, ?_, by omega⟩)
          · simp only [results, Try.results52]
            go_simp
          · have h := HO'.out
            rw [show zs.drop k = [] by rw [← hz]; exact List.drop_length, List.append_nil] at h
            unfold shiftZ gridV
            simp only [Int.toNat_natCast]
            rw [← HNN.out]
            exact h
          · unfold shiftZ; rw [gridV_length]; simp only [Int.toNat_natCast]; exact HNN.out.symm
end Go.Proofs.Ytdggpkgbncmlbaa
