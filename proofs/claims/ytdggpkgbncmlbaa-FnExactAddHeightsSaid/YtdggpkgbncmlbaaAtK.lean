/-
  AddHeights by the reference.
-/
import Derived.Test.YtdggpkgbncmlbaaAtJ
namespace Go.Proofs.Ytdggpkgbncmlbaa
open Go.RowKit
set_option linter.unusedVariables false
set_option linter.unusedSimpArgs false
set_option linter.unnecessarySimpa false

theorem cellF_nat {W H k : Nat} (h0 : 0 < W) (h : k < H * W) : cellF W H ((k % W : Nat) : Int) ((k / W : Nat) : Int) = k := by
  have hu2 : k % W < W := Nat.mod_lt _ h0
  have hv2 : k / W < H := Nat.div_lt_of_lt_mul (by rw [Nat.mul_comm]; omega)
  have hm := Nat.mod_add_div k W
  generalize k % W = u at *
  generalize k / W = v at *
  rw [cellF_id (by omega) (by omega) (by omega) (by omega), ← Int.natCast_mul]
  omega
theorem addG_nat {W H k : Nat} (zs zs' : List Int) (h0 : 0 < W) (h : k < H * W) : addG W H zs zs' ((k % W : Nat) : Int) ((k / W : Nat) : Int) = zs[k]?.getD 0 + zs'[k]?.getD 0 := by
  unfold addG; rw [cellF_nat h0 h]; rfl

set_option maxRecDepth 100000 in
set_option maxHeartbeats 1000000 in
theorem specAdd_any (W H W' H' : Int) (a a' : Option Addr) (n c n' c' : Nat) (zs zs' : List Int) (hz : zs.length = n) (hz' : zs'.length = n') (hn : n ≤ 1048576) (hn' : n' ≤ 1048576) (w : World) (hA : VArr w a (ints zs)) (hA' : VArr w a' (ints zs')) :
    Calls Try.prog 50 #[.agg #[.int .i64 W, .int .i64 H, .slice a n c], .agg #[.int .i64 W', .int .i64 H', .slice a' n' c']] w (keepH w (addOk W H W' H' zs zs') W H (addZ W H zs zs')) := by
  have hX := (((Ext.refl w).alloc (.cells #[.int .i64 W, .int .i64 H, .slice a n c] 33)).alloc (.cells #[.int .i64 W', .int .i64 H', .slice a' n' c'] 33)).alloc (.cells #[.int .i64 0, .int .i64 0, .slice none 0 0] 33)
  have b0 := heap_mid3 w (.cells #[.int .i64 W, .int .i64 H, .slice a n c] 33) (.cells #[.int .i64 W', .int .i64 H', .slice a' n' c'] 33) (.cells #[.int .i64 0, .int .i64 0, .slice none 0 0] 33)
  have b1 := heap_mid2 w (.cells #[.int .i64 W, .int .i64 H, .slice a n c] 33) (.cells #[.int .i64 W', .int .i64 H', .slice a' n' c'] 33) (.cells #[.int .i64 0, .int .i64 0, .slice none 0 0] 33)
  have b2 := heap_new2 w (.cells #[.int .i64 W, .int .i64 H, .slice a n c] 33) (.cells #[.int .i64 W', .int .i64 H', .slice a' n' c'] 33) (.cells #[.int .i64 0, .int .i64 0, .slice none 0 0] 33)
  have hA1 := hA.ext hX
  have hA2 := hA'.ext hX
  go_enter Try.func50, Try.ntmps50
  go_wp2_with fail
  refine (l05Is_any _ W H a n c zs hz (by omega) _ (block3 b0).1 hA1).mono ?_
  generalize ((w.alloc (.cells #[.int .i64 W, .int .i64 H, .slice a n c] 33)).alloc (.cells #[.int .i64 W', .int .i64 H', .slice a' n' c'] 33)).alloc (.cells #[.int .i64 0, .int .i64 0, .slice none 0 0] 33) = w0 at *
  rintro e w1 ⟨rfl, hX1⟩
  cases hv : vldH W H zs with
  | false =>
    have HR : Hid (addOk W H W' H' zs zs' = false) := by show _ = _; simp [addOk, addIn, hv]
    obtain ⟨⟨d0, d1, d2⟩, f0, f1, f2⟩ := block3 (hX1.block b2)
    have HE := Lib.hid ((hX.trans hX1).fin3 (q := w.heap.size + 2) (by omega) (.int .i64 0) (.int .i64 0) (.slice none 0 0))
    clear hX hX1 b0 b1 b2 hA hA' hA1 hA2 hv
    go_wp2
    refine bodyPost_ret (v := .tuple #[.agg #[.int .i64 0, .int .i64 0, .slice none 0 0], .bool false]) ?_ rfl (keepH_no HR.out ⟨none, 0, 0, rfl, HE.out, World.ownsRow_nil _ _ _ _, rfl, by omega⟩)
    simp only [results, Try.results50]
    go_simp
  | true =>
    go_wp2_with fail
    refine (l05Is_any _ W' H' a' n' c' zs' hz' (by omega) _ (block3 (hX1.block b1)).1 (hA2.ext hX1)).mono ?_
    rintro e w2 ⟨rfl, hX2⟩
    have hX3 := hX1.trans hX2
    clear hX1 hX2
    obtain ⟨⟨d0, d1, d2⟩, f0, f1, f2⟩ := block3 (hX3.block b2)
    obtain ⟨⟨c0, c1, c2⟩, _⟩ := block3 (hX3.block b0)
    obtain ⟨⟨e0, e1, e2⟩, _⟩ := block3 (hX3.block b1)
    cases hi : addIn W H W' H' zs zs' with
    | false =>
      have HR : Hid (addOk W H W' H' zs zs' = false) := by show _ = _; simp [addOk, hi]
      have HE := Lib.hid ((hX.trans hX3).fin3 (q := w.heap.size + 2) (by omega) (.int .i64 0) (.int .i64 0) (.slice none 0 0))
      cases hv' : vldH W' H' zs' with
      | false =>
        clear hX hX3 b0 b1 b2 hA hA' hA1 hA2 hv hv' hi
        go_wp2
        refine bodyPost_ret (v := .tuple #[.agg #[.int .i64 0, .int .i64 0, .slice none 0 0], .bool false]) ?_ rfl (keepH_no HR.out ⟨none, 0, 0, rfl, HE.out, World.ownsRow_nil _ _ _ _, rfl, by omega⟩)
        simp only [results, Try.results50]
        go_simp
      | true =>
        by_cases hw : W = W'
        · have hh : ¬ H = H' := by
            rintro rfl
            subst hw
            simp [addIn, hv, hv'] at hi
          have hw2 : W' = W := hw.symm
          clear hX hX3 b0 b1 b2 hA hA' hA1 hA2 hv hv' hi hw
          subst hw2
          go_wp2
          refine bodyPost_ret (v := .tuple #[.agg #[.int .i64 0, .int .i64 0, .slice none 0 0], .bool false]) ?_ rfl (keepH_no HR.out ⟨none, 0, 0, rfl, HE.out, World.ownsRow_nil _ _ _ _, rfl, by omega⟩)
          simp only [results, Try.results50]
          go_simp
        · clear hX hX3 b0 b1 b2 hA hA' hA1 hA2 hv hv' hi
          go_wp2
          refine bodyPost_ret (v := .tuple #[.agg #[.int .i64 0, .int .i64 0, .slice none 0 0], .bool false]) ?_ rfl (keepH_no HR.out ⟨none, 0, 0, rfl, HE.out, World.ownsRow_nil _ _ _ _, rfl, by omega⟩)
          simp only [results, Try.results50]
          go_simp
    | true =>
      have HI := Lib.hid hi
      simp only [addIn, Bool.and_eq_true, decide_eq_true_eq] at hi
      obtain ⟨⟨⟨_, hv'⟩, rfl⟩, rfl⟩ := hi
      rw [hv']
      obtain ⟨hW, hH, hnn, ⟨hn1, hn2⟩, hb⟩ := vld_facts hv hz
      obtain ⟨_, _, hnn', _, hb'⟩ := vld_facts hv' hz'
      obtain rfl : n' = n := by omega
      clear hv hv' hnn' d0 d1 d2 f0 f1 f2
      go_wp2_with fail
      refine (l05Own_any _ W H a n' c zs hz hn _ (block3 (hX3.block b0)).1 (hA1.ext hX3)).mono ?_
      rintro e w3 ⟨a2, c2', rfl, hX2, hO⟩
      have hXa := (Ext.refl w3).alloc (.cells #[.int .i64 W, .int .i64 H, .slice a2 n' c2'] 33)
      have bq := heap_new w3 (.cells #[.int .i64 W, .int .i64 H, .slice a2 n' c2'] 33)
      obtain ⟨g, rfl, hg, _⟩ := own_int hO (k := 0) (by omega)
      obtain ⟨Wn, rfl⟩ := Int.eq_ofNat_of_zero_le (show 0 ≤ W by omega)
      obtain ⟨Hn, rfl⟩ := Int.eq_ofNat_of_zero_le (show 0 ≤ H by omega)
      have hnn' : n' = Hn * Wn := by
        have : ((Hn * Wn : Nat) : Int) = Wn * Hn := by rw [Int.natCast_mul, Int.mul_comm]
        omega
      have HNN := Lib.hid hnn'
      clear hnn hnn'
      have F0 : Refill w (w.heap.size + 1) (w.heap.size + 1 + 1) w3.heap.size Wn Hn a' n' c' g c2' zs (w3.alloc (.cells #[.int .i64 Wn, .int .i64 Hn, .slice (some ⟨g, 0, none⟩) n' c2'] 33)) :=
        ⟨((hX.trans hX3).trans hX2).trans hXa, hXa.block (hX2.block (hX3.block b1)), hXa.block (hX2.block (hX3.block b2)), bq, ownsRow_ext (ownsRow_mono hO (hX.trans hX3).size) hXa⟩
      have hg' : w.heap.size ≤ g := Nat.le_trans (hX.trans hX3).size hg
      clear c0 c1 c2 e0 e1 e2
      obtain ⟨⟨c0, c1, c2⟩, _⟩ := block3 F0.box
      clear hX hX3 hX2 hXa b0 b1 b2 bq hA1 hA2 hO hg
      go_wp2
      generalize w3.alloc (.cells #[.int .i64 Wn, .int .i64 Hn, .slice (some ⟨g, 0, none⟩) n' c2'] 33) = w4 at *
      clear c0 c1 c2
      generalize w3.heap.size = q at *
      go_loopw [33] (fun i wr => ∃ k : Nat, k ≤ n' ∧ i = .int .i64 k ∧ Refill w (w.heap.size + 1) (w.heap.size + 1 + 1) q Wn Hn a' n' c' g c2' (((List.range k).map fun i => addG Wn Hn zs zs' ((i % Wn : Nat) : Int) ((i / Wn : Nat) : Int)) ++ zs.drop k) wr) (fun i _ => n' - (intOf i).toNat)
      case atStart => exact ⟨0, Nat.zero_le _, rfl, by simpa using F0⟩
      case round =>
        obtain ⟨k, hk, rfl, hF⟩ := hrel
        clear F0
        obtain ⟨⟨c0, c1, c2⟩, _⟩ := block3 hF.box
        by_cases hlt : k < n'
        · obtain ⟨⟨d0, d1, d2⟩, _⟩ := block3 hF.arg
          have HK := Lib.hid hF
          have hA3 := hA'.ext hF.ext
          obtain ⟨b, o, rfl⟩ := hA'.starts (i := k) (by simp; omega)
          have hcm := hA3.ofInts k (by omega)
          obtain ⟨hd, hf⟩ := own_int_at hF.row (k := k) (by simp; omega)
          rw [fill_get _ _ (Nat.le_refl k) (by omega)] at hd
          obtain ⟨z, hzm⟩ : ∃ z, zs[k]?.getD 0 = z := ⟨_, rfl⟩
          obtain ⟨z', hzm'⟩ : ∃ z', zs'[k]?.getD 0 = z' := ⟨_, rfl⟩
          have hb1 := hb k hlt
          have hb2 := hb' k hlt
          rw [List.getD_eq_getElem?_getD, hzm'] at hcm
          rw [hzm] at hd hb1
          rw [hzm'] at hb2
          have HGV : Hid (addG Wn Hn zs zs' ((k % Wn : Nat) : Int) ((k / Wn : Nat) : Int) = z + z') := by
            show _ = _
            rw [addG_nat zs zs' (by omega) (by have := HNN.out; omega), hzm, hzm']
          clear hzm hzm' hF hA3 hb hb'
          go_wp2_with fail
          refine region_grow_tail 11 (C := Ext wr) (K := fun _ _ v _ => True) ⟨fun _ _ h k => h.trans k, fun _ _ _ _ _ h _ => h⟩ (by kernel_rfl) (by kernel_rfl) ((Ext.refl wr).drew) ?_
          simp only [List.take_succ_cons, List.take_zero, List.drop_succ_cons, List.drop_zero]
          iterate 11 (refine grow_q rfl ?_; apply Exists.intro; refine ⟨fun u' hz _ => ?_, ?_⟩; focus (obtain ⟨⟨c0, c1, c2⟩, _⟩ := block3 (hz.block HK.out.box); obtain ⟨⟨d0, d1, d2⟩, _⟩ := block3 (hz.block HK.out.arg); have hcm' := hz.cell hcm; have hd' := hz.cell hd; go_simp; rfl))
          refine grow_nil (fun w5 hz _ => ?_)
          have HK4 := Lib.hid (HK.out.of_ext hz)
          clear hd hf
          obtain ⟨hd, hf⟩ := own_int_at HK4.out.row (k := k) (by simp; omega)
          clear hz hcm c0 c1 c2 d0 d1 d2
          go_simp
          rw [wrapS (by omega) (by omega)]
          go_wp2
          go_roundw
          case rel =>
            refine ⟨k + 1, by omega, by go_num, ?_⟩
            have h1 := HK4.out.set hg' k (z + z')
            rw [← HGV.out] at h1 ⊢
            rw [← fill_set (fun i => addG Wn Hn zs zs' ((i % Wn : Nat) : Int) ((i / Wn : Nat) : Int)) zs (by omega)]
            exact h1
          case measure => simp [intOf]; omega
        · obtain rfl : k = n' := by omega
          have hrow : wr.ownsRow w.heap.size 2 1 (.slice (some ⟨g, 0, none⟩) k c2') k (ints (addZ Wn Hn zs zs')) := by
            have h := hF.row
            rw [show zs.drop k = [] by rw [← hz]; exact List.drop_length, List.append_nil] at h
            unfold addZ gridV
            simp only [Int.toNat_natCast]
            rw [← HNN.out]
            exact h
          have hlen : (addZ Wn Hn zs zs').length = k := by unfold addZ; rw [gridV_length]; simp only [Int.toNat_natCast]; exact HNN.out.symm
          have HROW := Lib.hid hrow
          have HLEN := Lib.hid hlen
          have HF := Lib.hid hF
          clear hrow hlen hF
          cases hv : vldH Wn Hn (addZ Wn Hn zs zs') with
          | true =>
            go_wp2_with fail
            refine (give_yes Wn Hn _ k c2' _ HLEN.out (by omega) _ (ownsRow_varr HROW.out) hv).mono ?_
            rintro e w5 ⟨rfl, hX5⟩
            obtain ⟨⟨d0, d1, d2⟩, f0, f1, f2⟩ := block3 (hX5.block HF.out.res)
            obtain ⟨HE, HO⟩ := stored3 (T := 33) (u0 := .int .i64 Wn) (u1 := .int .i64 Hn) (u2 := .slice (some ⟨g, 0, none⟩) k c2') (HF.out.ext.trans hX5) (by decide) (by omega) (hX5.block HF.out.res) (ownsRow_ext HROW.out hX5)
            have HE' := Lib.hid HE
            have HO' := Lib.hid HO
            have HV := Lib.hid hv
            clear hX5 HE HO hv c0 c1 c2
            go_wp2
            refine bodyPost_ret (v := .tuple #[.agg #[.int .i64 Wn, .int .i64 Hn, .slice (some ⟨g, 0, none⟩) k c2'], .bool true]) ?_ rfl (keepH_give HI.out (giveH_yes HV.out ⟨_, k, c2', rfl, HE'.out, HO'.out, HLEN.out, by omega⟩))
            simp only [results, Try.results50]
            go_simp
          | false =>
            go_wp2_with fail
            refine (give_no Wn Hn _ k c2' _ HLEN.out (by omega) _ (ownsRow_varr HROW.out) hv).mono ?_
            rintro e w5 ⟨rfl, hX5⟩
            obtain ⟨⟨d0, d1, d2⟩, f0, f1, f2⟩ := block3 (hX5.block HF.out.res)
            have HE := Lib.hid ((HF.out.ext.trans hX5).fin3 (q := w.heap.size + 1 + 1) (by omega) (.int .i64 0) (.int .i64 0) (.slice none 0 0))
            have HR : Hid (addOk Wn Hn Wn Hn zs zs' = false) := by show _ = _; simp [addOk, hv]
            clear hX5 hv c0 c1 c2
            go_wp2
            refine bodyPost_ret (v := .tuple #[.agg #[.int .i64 0, .int .i64 0, .slice none 0 0], .bool false]) ?_ rfl (keepH_no HR.out ⟨none, 0, 0, rfl, HE.out, World.ownsRow_nil _ _ _ _, rfl, by omega⟩)
            simp only [results, Try.results50]
            go_simp
end Go.Proofs.Ytdggpkgbncmlbaa
