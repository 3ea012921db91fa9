/-
  FieldOfLabel, by the program and by the reference.
-/
import Derived.Test.YtaakkdcpkllgoaaGrE
import Derived.Test.YtaakkdcpkllgoaaGrG
import Derived.Test.YtaakkdcpkllgoaaFlA
namespace Go.Proofs.Ytaakkdcpkllgoaa
open Go.RowKit
set_option linter.unusedVariables false
set_option linter.unusedSimpArgs false
set_option linter.unnecessarySimpa false

def folG (W H : Int) (zs : List Int) (l u v : Int) : Option Nat := fa .f32 (if (zs[(cellF W H u v).toNat]?.getD 0 == l) = true then 1065353216 else 0)
def folOk (W H : Int) (zs : List Int) (l : Int) : Bool := vldG W H zs && inB l 0 63
theorem cellF_nat {Wn Hn k : Nat} (hW : 1 ≤ Wn) (h : k < Hn * Wn) : (cellF Wn Hn ((k % Wn : Nat) : Int) ((k / Wn : Nat) : Int)).toNat = k := by
  have h1 : k % Wn < Wn := Nat.mod_lt _ (by omega)
  have h2 : k / Wn < Hn := Nat.div_lt_of_lt_mul (by rw [Nat.mul_comm]; omega)
  rw [cellF_id (Int.natCast_nonneg _) (by exact_mod_cast h1) (Int.natCast_nonneg _) (by exact_mod_cast h2)]
  have h3 := Nat.mod_add_div k Wn
  have : ((k % Wn : Nat) : Int) + (Wn : Int) * ((k / Wn : Nat) : Int) = (k : Int) := by exact_mod_cast h3
  omega

set_option maxRecDepth 100000 in
theorem fol1_any (W H l u v : Int) (b o n c : Nat) (zs : List Int) (hz : zs.length = n) (hv : vldG W H zs = true) (p q : Nat) (w : World) (hA : VArr w (some ⟨b, o, none⟩) (ints zs))
    (hp : w.heap[p]? = some (.cells #[.int .i64 W, .int .i64 H, .slice (some ⟨b, o, none⟩) n c] 24 (0, 0))) (hq : w.heap[q]? = some (.cells #[.int .i64 l] 2 (0, 0))) :
    Calls Try.prog 87 #[.int .i64 u, .int .i64 v, .pointer (some ⟨p, 0, none⟩), .pointer (some ⟨q, 0, none⟩)] w fun e w' => ∃ r, e = .returned (.float .f32 r) ∧ fa .f32 r = folG W H zs l u v ∧ Ext w w' := by
  have HC := Lib.hid (fun w' (h : Ext w w') => about_any W H u v b o n c zs hz hv w' (hA.ext h))
  unfold folG
  clear hz hv hA
  generalize zs[(cellF W H u v).toNat]?.getD 0 = z at *
  go_enter Try.func87, Try.ntmps87
  go_wp2_with fail
  refine region_grow (C := Ext w) (K := fun _ _ V _ => V = .int .i64 z) ⟨fun _ _ h k => h.trans k, fun _ _ _ _ _ h _ => h⟩ (by kernel_rfl) (by kernel_rfl) ((Ext.refl w).drew) ?_
  iterate 3 (refine grow_q rfl ?_; apply Exists.intro; refine ⟨fun u' hu _ => ?_, ?_⟩; focus (obtain ⟨⟨c0, c1, c2⟩, _⟩ := block3 (hu.block hp); obtain ⟨d0, _⟩ := block1 (hu.block hq); go_simp; rfl))
  refine grow_c1 73 rfl ⟨#[.agg #[.int .i64 W, .int .i64 H, .slice (some ⟨b, o, none⟩) n c], .int .i64 u, .int .i64 v], fun u' => ?_, _, fun u' hu _ => HC.out u' hu, fun V u h => h, fun u => rfl, ?_⟩
  · go_simp
  iterate 2 (refine grow_q rfl ?_; apply Exists.intro; refine ⟨fun u' hu _ => ?_, ?_⟩; focus (obtain ⟨⟨c0, c1, c2⟩, _⟩ := block3 (hu.block hp); obtain ⟨d0, _⟩ := block1 (hu.block hq); go_simp; rfl))
  refine grow_nil (fun w2 hw _ => ?_)
  have HW := Lib.hid hw
  clear hw hp hq
  cases hzl : z == l with
  | true =>
    go_simp
    go_wp2
    go_ret
    exact ⟨_, rfl, by simp, HW.out⟩
  | false =>
    go_simp
    go_wp2
    go_ret
    exact ⟨_, rfl, by simp, HW.out⟩

theorem made_fol (W H l : Int) (b o n c : Nat) (zs : List Int) (hz : zs.length = n) (hv : vldG W H zs = true) (p q : Nat) (w : World) (hA : VArr w (some ⟨b, o, none⟩) (ints zs))
    (hp : w.heap[p]? = some (.cells #[.int .i64 W, .int .i64 H, .slice (some ⟨b, o, none⟩) n c] 24 (0, 0))) (hq : w.heap[q]? = some (.cells #[.int .i64 l] 2 (0, 0))) :
    Calls Try.prog 86 #[.int .i64 W, .int .i64 H, .bool true, .func (.func 87) #[] #[.pointer (some ⟨p, 0, none⟩), .pointer (some ⟨q, 0, none⟩)]] w (newF w W H true (gridF W.toNat (folG W H zs l) (H.toNat * W.toNat))) :=
  made_any W H true 87 #[] #[.pointer (some ⟨p, 0, none⟩), .pointer (some ⟨q, 0, none⟩)] (folG W H zs l) (vldG_iff.1 hv).1 w (fun args u => by go_simp)
    (fun u v w' h u0 u1 v0 v1 => by simpa using fol1_any W H l u v b o n c zs hz hv p q w' (hA.ext h) (h.block hp) (h.block hq))

set_option maxRecDepth 100000 in
theorem implFol_any (W H l : Int) (a : Option Addr) (n c : Nat) (zs : List Int) (hz : zs.length = n) (hn : n ≤ 1048576) (w : World) (hA : VArr w a (ints zs)) :
    Calls Try.prog 45 #[.agg #[.int .i64 W, .int .i64 H, .slice a n c], .int .i64 l] w (keepF w (folOk W H zs l) W H true (gridF W.toNat (folG W H zs l) (H.toNat * W.toNat))) := by
  have hX := (((Ext.refl w).alloc (.cells #[.int .i64 W, .int .i64 H, .slice a n c] 24)).alloc (.cells #[.int .i64 l] 2)).alloc (.cells #[.int .i64 0, .int .i64 0, .bool false, .slice none 0 0] 55)
  have b0 := heap_mid3 w (.cells #[.int .i64 W, .int .i64 H, .slice a n c] 24) (.cells #[.int .i64 l] 2) (.cells #[.int .i64 0, .int .i64 0, .bool false, .slice none 0 0] 55)
  have b1 := heap_mid2 w (.cells #[.int .i64 W, .int .i64 H, .slice a n c] 24) (.cells #[.int .i64 l] 2) (.cells #[.int .i64 0, .int .i64 0, .bool false, .slice none 0 0] 55)
  have b2 := heap_new2 w (.cells #[.int .i64 W, .int .i64 H, .slice a n c] 24) (.cells #[.int .i64 l] 2) (.cells #[.int .i64 0, .int .i64 0, .bool false, .slice none 0 0] 55)
  have hA1 := hA.ext hX
  go_enter Try.func45, Try.ntmps45
  go_wp2_with fail
  refine (implValid_any W H a n c zs hz (by omega) _ hA1).mono ?_
  generalize ((w.alloc (.cells #[.int .i64 W, .int .i64 H, .slice a n c] 24)).alloc (.cells #[.int .i64 l] 2)).alloc (.cells #[.int .i64 0, .int .i64 0, .bool false, .slice none 0 0] 55) = w0 at *
  rintro e w1 ⟨rfl, hX1⟩
  cases hv : vldG W H zs with
  | false =>
    have HR : Hid (folOk W H zs l = false) := by show _ = _; simp [folOk, hv]
    obtain ⟨⟨d0, d1, d2, d3⟩, f0, f1, f2, f3⟩ := block4 (hX1.block b2)
    have HE := Lib.hid ((hX.trans hX1).fin4 (q := w.heap.size + 1 + 1) (by omega) (.int .i64 0) (.int .i64 0) (.bool false) (.slice none 0 0))
    clear hX hX1 b0 b1 b2 hA hA1 hv
    go_wp2
    refine bodyPost_ret (v := .tuple #[.agg #[.int .i64 0, .int .i64 0, .bool false, .slice none 0 0], .bool false]) ?_ rfl (keepF_no HR.out (twoF_none HE.out))
    simp only [results, Try.results45]
    go_simp
  | true =>
    obtain ⟨x0, _⟩ := block1 (hX1.block b1)
    cases hl : inB l 0 63 with
    | false =>
      have HR : Hid (folOk W H zs l = false) := by show _ = _; simp [folOk, hl]
      have HL := Lib.hid hl
      obtain ⟨⟨d0, d1, d2, d3⟩, f0, f1, f2, f3⟩ := block4 (hX1.block b2)
      have HE := Lib.hid ((hX.trans hX1).fin4 (q := w.heap.size + 1 + 1) (by omega) (.int .i64 0) (.int .i64 0) (.bool false) (.slice none 0 0))
      clear hX hX1 b0 b1 b2 hA hA1 hv hl
      go_wp2_with (go_at_call 58; refine (isLabel_any _ _).mono ?_; rw [HL.out]; rintro e w' ⟨rfl, rfl⟩)
      refine bodyPost_ret (v := .tuple #[.agg #[.int .i64 0, .int .i64 0, .bool false, .slice none 0 0], .bool false]) ?_ rfl (keepF_no HR.out (twoF_none HE.out))
      simp only [results, Try.results45]
      go_simp
    | true =>
      have HR : Hid (folOk W H zs l = true) := by show _ = _; simp [folOk, hl, hv]
      have HL := Lib.hid hl
      have HV := Lib.hid hv
      have hn1 : 0 < n := by have := (vld_facts hv hz).2.2.2.1.1; omega
      obtain ⟨b, o, rfl⟩ := hA.starts (i := 0) (by simp; omega)
      obtain ⟨⟨c0, c1, c2⟩, _⟩ := block3 (hX1.block b0)
      clear hl hv
      go_wp2_with fail
      refine (isLabel_any _ _).mono ?_
      rw [HL.out]
      rintro e w' ⟨rfl, rfl⟩
      go_wp2_with fail
      refine (made_fol W H l b o n c zs hz HV.out _ _ _ (hA1.ext hX1) (hX1.block b0) (hX1.block b1)).mono ?_
      rintro e w4 ⟨a', n', c', xs, rfl, hX4, hO, hl, hle, hf⟩
      clear x0 c0 c1 c2
      obtain ⟨⟨d0, d1, d2, d3⟩, f0, f1, f2, f3⟩ := block4 (hX4.block (hX1.block b2))
      obtain ⟨HE, HO⟩ := stored4 (T := 55) (u0 := .int .i64 W) (u1 := .int .i64 H) (u2 := .bool true) (u3 := .slice a' n' c') ((hX.trans hX1).trans hX4) (by decide) (by omega) (hX4.block (hX1.block b2)) (ownsRow_mono hO (hX.trans hX1).size)
      have HE' := Lib.hid HE
      have HO' := Lib.hid HO
      have HLL := Lib.hid hl
      have HFF := Lib.hid hf
      clear HE HO hl hX hX1 hX4 hO b0 b1 b2 hA hA1 hf
      go_wp2
      refine bodyPost_ret (v := .tuple #[.agg #[.int .i64 W, .int .i64 H, .bool true, .slice a' n' c'], .bool true]) ?_ rfl (keepF_yes HR.out ⟨a', n', c', xs, rfl, HE'.out, HO'.out, HLL.out, hle, HFF.out⟩)
      simp only [results, Try.results45]
      go_simp

set_option maxRecDepth 100000 in
set_option maxHeartbeats 2000000 in
theorem specFol_any (W H l : Int) (a : Option Addr) (n c : Nat) (zs : List Int) (hz : zs.length = n) (hn : n ≤ 1048576) (w : World) (hA : VArr w a (ints zs)) :
    Calls Try.prog 44 #[.agg #[.int .i64 W, .int .i64 H, .slice a n c], .int .i64 l] w (keepF w (folOk W H zs l) W H true (gridF W.toNat (folG W H zs l) (H.toNat * W.toNat))) := by
  obtain ⟨i0, hi, hz0, hz1, hz2⟩ := info_parts info32
  have hX := ((Ext.refl w).alloc (.cells #[.int .i64 W, .int .i64 H, .slice a n c] 24)).alloc (.cells #[.int .i64 0, .int .i64 0, .bool false, .slice none 0 0] 55)
  have b0 := heap_mid1 w (.cells #[.int .i64 W, .int .i64 H, .slice a n c] 24) (.cells #[.int .i64 0, .int .i64 0, .bool false, .slice none 0 0] 55)
  have b1 := heap_new1 w (.cells #[.int .i64 W, .int .i64 H, .slice a n c] 24) (.cells #[.int .i64 0, .int .i64 0, .bool false, .slice none 0 0] 55)
  have hA1 := hA.ext hX
  go_enter Try.func44, Try.ntmps44
  go_wp2_with fail
  refine (l04Is_any _ W H a n c zs hz (by omega) _ (block3 b0).1 hA1).mono ?_
  generalize (w.alloc (.cells #[.int .i64 W, .int .i64 H, .slice a n c] 24)).alloc (.cells #[.int .i64 0, .int .i64 0, .bool false, .slice none 0 0] 55) = w0 at *
  rintro e w1 ⟨rfl, hX1⟩
  cases hv : vldG W H zs with
  | false =>
    have HR : Hid (folOk W H zs l = false) := by show _ = _; simp [folOk, hv]
    obtain ⟨⟨d0, d1, d2, d3⟩, f0, f1, f2, f3⟩ := block4 (hX1.block b1)
    have HE := Lib.hid ((hX.trans hX1).fin4 (q := w.heap.size + 1) (by omega) (.int .i64 0) (.int .i64 0) (.bool false) (.slice none 0 0))
    clear hX hX1 b0 b1 hA hA1 hv
    go_wp2
    refine bodyPost_ret (v := .tuple #[.agg #[.int .i64 0, .int .i64 0, .bool false, .slice none 0 0], .bool false]) ?_ rfl (keepF_no HR.out (twoF_none HE.out))
    simp only [results, Try.results44]
    go_simp
  | true =>
    cases hl : inB l 0 63 with
    | false =>
      have HR : Hid (folOk W H zs l = false) := by show _ = _; simp [folOk, hl]
      have HL := Lib.hid hl
      obtain ⟨⟨d0, d1, d2, d3⟩, f0, f1, f2, f3⟩ := block4 (hX1.block b1)
      have HE := Lib.hid ((hX.trans hX1).fin4 (q := w.heap.size + 1) (by omega) (.int .i64 0) (.int .i64 0) (.bool false) (.slice none 0 0))
      clear hX hX1 b0 b1 hA hA1 hv hl
      go_wp2_with (go_at_call 55; refine (l04Label_any _ _).mono ?_; rw [HL.out]; rintro e w' ⟨rfl, rfl⟩)
      refine bodyPost_ret (v := .tuple #[.agg #[.int .i64 0, .int .i64 0, .bool false, .slice none 0 0], .bool false]) ?_ rfl (keepF_no HR.out (twoF_none HE.out))
      simp only [results, Try.results44]
      go_simp
    | true =>
      have HR : Hid (folOk W H zs l = true) := by show _ = _; simp [folOk, hl, hv]
      have HL := Lib.hid hl
      obtain ⟨hW, hH, hnn, ⟨hn1, hn2⟩, _⟩ := vld_facts hv hz
      obtain ⟨Wn, rfl⟩ := Int.eq_ofNat_of_zero_le (show 0 ≤ W by omega)
      obtain ⟨Hn, rfl⟩ := Int.eq_ofNat_of_zero_le (show 0 ≤ H by omega)
      have hnn' : n = Hn * Wn := by
        have : ((Hn * Wn : Nat) : Int) = Wn * Hn := by rw [Int.natCast_mul, Int.mul_comm]
        omega
      have HNN := Lib.hid hnn'
      have HZ := Lib.hid hz
      obtain ⟨b, o, rfl⟩ := hA.starts (i := 0) (by simp; omega)
      have HA := Lib.hid (hA1.ext hX1)
      clear hv hnn hnn' hl hz hA hA1
      go_wp2_with fail
      refine (l04Label_any _ _).mono ?_
      rw [HL.out]
      rintro e w' ⟨rfl, rfl⟩
      obtain ⟨⟨c0, c1, c2⟩, _⟩ := block3 (hX1.block b0)
      go_wp2_with fail
      refine (l02New_any Wn Hn true _).mono ?_
      rintro e w2 ⟨bb, rfl, hX2, hbb, hO⟩
      have hXa := (Ext.refl w2).alloc (.cells #[.int .i64 Wn, .int .i64 Hn, .bool true, .slice (some ⟨bb, 0, none⟩) 0 0] 55)
      have bq := heap_new w2 (.cells #[.int .i64 Wn, .int .i64 Hn, .bool true, .slice (some ⟨bb, 0, none⟩) 0 0] 55)
      have hq : w1.heap.size ≤ w2.heap.size := hX2.size
      have hr : w.heap.size + 1 < w1.heap.size := lt_of_block (hX1.block b1)
      have hw : w.heap.size ≤ w1.heap.size := (hX.trans hX1).size
      have F0 : FillF w1 (w.heap.size + 1) w2.heap.size Wn Hn true [] (w2.alloc (.cells #[.int .i64 Wn, .int .i64 Hn, .bool true, .slice (some ⟨bb, 0, none⟩) 0 0] 55)) 0 :=
        ⟨hX2.trans hXa, hXa.block (hX2.block (hX1.block b1)), _, 0, bq, ownsRow_ext hO hXa⟩
      have HP := Lib.hid (hX1.block b0)
      have HX := Lib.hid (hX.trans hX1)
      clear hX hX1 hX2 hXa b0 b1 bq hO hbb c0 c1 c2
      go_wp2
      generalize w2.alloc (.cells #[.int .i64 Wn, .int .i64 Hn, .bool true, .slice (some ⟨bb, 0, none⟩) 0 0] 55) = w3 at *
      generalize w2.heap.size = q at *
      go_loopw [7] (fun i wr => ∃ (k : Nat) (xs : List Nat), k ≤ n ∧ i = .int .i64 k ∧ fas xs = gridF Wn (folG Wn Hn zs l) k ∧ FillF w1 (w.heap.size + 1) q Wn Hn true xs wr k) (fun i _ => n - (intOf i).toNat)
      case atStart => exact ⟨0, [], Nat.zero_le _, rfl, rfl, F0⟩
      case round =>
        obtain ⟨k, xs, hk, rfl, hxs, hF⟩ := hrel
        clear F0
        have HXS := Lib.hid hxs
        clear hxs
        obtain ⟨hX, hR, a', c', hB, hO⟩ := hF
        have hP := hX.block HP.out
        obtain ⟨⟨c0, c1, c2⟩, _⟩ := block3 hP
        by_cases hlt : k < n
        · have hca := (HA.out.ext hX).ofInts k (by rw [HZ.out]; exact hlt)
          rw [List.getD_eq_getElem?_getD] at hca
          have HGN : Hid (∀ r, r = (if (zs[k]?.getD 0 == l) = true then 1065353216 else 0) → gridF Wn (folG Wn Hn zs l) (k + 1) = gridF Wn (folG Wn Hn zs l) k ++ [fa .f32 r]) := fun r hr => by
            rw [gridF_next, hr]
            unfold folG
            rw [cellF_nat (by omega) (by rw [← HNN.out]; exact hlt)]
          generalize zs[k]?.getD 0 = z at *
          obtain ⟨⟨e0, e1, e2, e3⟩, _⟩ := block4 hB
          have hbx : ∀ r : Nat, ∃ x, x = r := fun r => ⟨r, rfl⟩
          obtain ⟨fr, hfr⟩ := hbx (if (z == l) = true then 1065353216 else 0)
          have HG2 := Lib.hid (HGN.out fr hfr)
          have hYa := (Ext.refl wr).alloc (.cells #[.float .f32 fr] 84)
          have bY := heap_new wr (.cells #[.float .f32 fr] 84)
          have hXu := Lib.hid (hX.trans hYa)
          have hRu := Lib.hid (hYa.block hR)
          have hBu := Lib.hid (hYa.block hB)
          have hOu := Lib.hid (ownsRow_ext hO hYa)
          have HU := Lib.hid hXu.out.size
          clear hX hP hR hB hO hYa HGN hbx
          cases hzl : z == l with
          | true =>
            obtain rfl : fr = 1065353216 := by rw [hfr, hzl]; rfl
            clear hfr
            go_wp2_with (at_builtin; refine wpList_append_own _ rfl _ _ 53 rfl w1.heap.size 84 i0 (.float .f32 0) 1 4 Try.underlying53 hi hz0 hz1 hz2 rfl (by decide) (.slice a' k c') k (flts xs) rfl hOu.out ⟨_, 0, none⟩ 1 1 [.float .f32 1065353216] rfl rfl ?c1 ?c2 ?c3 ?c4 ?c5 ?_)
            case c1 => exact cell_one_at bY
            case c2 => intro u hu; simp at hu; subst hu; rfl
            case c3 => unfold maxLen; omega
            case c4 => omega
            case c5 => exact HU.out
            intro v' w5 hown hg _
            obtain ⟨a3, c3', rfl⟩ := ownsRow_shape hown
            have HOWN := Lib.hid hown
            have HG := Lib.hid hg
            clear hown hg
            have hb4 := FillF.cellAt hXu.out hBu.out hOu.out HG.out
            obtain ⟨⟨_, _, _, c3⟩, _, _, _, f3⟩ := block4 hb4
            clear hb4 e0 e1 e2 e3 c0 c1 c2 hca bY
            go_wp2
            go_roundw
            case rel =>
              refine ⟨k + 1, xs ++ [1065353216], by omega, by go_num, ?_, FillF.push hXu.out (by omega) (by omega) hRu.out hBu.out hOu.out HOWN.out HG.out⟩
              rw [HG2.out, fas_append, HXS.out]; rfl
            case measure => simp [intOf]; omega
          | false =>
            obtain rfl : fr = 0 := by rw [hfr, hzl]; rfl
            clear hfr
            go_wp2_with (at_builtin; refine wpList_append_own _ rfl _ _ 53 rfl w1.heap.size 84 i0 (.float .f32 0) 1 4 Try.underlying53 hi hz0 hz1 hz2 rfl (by decide) (.slice a' k c') k (flts xs) rfl hOu.out ⟨_, 0, none⟩ 1 1 [.float .f32 0] rfl rfl ?c1 ?c2 ?c3 ?c4 ?c5 ?_)
            case c1 => exact cell_one_at bY
            case c2 => intro u hu; simp at hu; subst hu; rfl
            case c3 => unfold maxLen; omega
            case c4 => omega
            case c5 => exact HU.out
            intro v' w5 hown hg _
            obtain ⟨a3, c3', rfl⟩ := ownsRow_shape hown
            have HOWN := Lib.hid hown
            have HG := Lib.hid hg
            clear hown hg
            have hb4 := FillF.cellAt hXu.out hBu.out hOu.out HG.out
            obtain ⟨⟨_, _, _, c3⟩, _, _, _, f3⟩ := block4 hb4
            clear hb4 e0 e1 e2 e3 c0 c1 c2 hca bY
            go_wp2
            go_roundw
            case rel =>
              refine ⟨k + 1, xs ++ [0], by omega, by go_num, ?_, FillF.push hXu.out (by omega) (by omega) hRu.out hBu.out hOu.out HOWN.out HG.out⟩
              rw [HG2.out, fas_append, HXS.out]; rfl
            case measure => simp [intOf]; omega
        · obtain rfl : k = n := by omega
          obtain ⟨⟨e0, e1, e2, e3⟩, _⟩ := block4 hB
          obtain ⟨⟨d0, d1, d2, d3⟩, f0, f1, f2, f3⟩ := block4 hR
          obtain ⟨HE, HO⟩ := stored4 (T := 55) (u0 := .int .i64 Wn) (u1 := .int .i64 Hn) (u2 := .bool true) (u3 := .slice a' k c') (HX.out.trans hX) (by decide) (by omega) hR hO
          have HE' := Lib.hid HE
          have HO' := Lib.hid (ownsRow_mono HO hw)
          clear hX hP hR hB hO HE HO
          go_wp2
          refine bodyPost_ret (v := .tuple #[.agg #[.int .i64 Wn, .int .i64 Hn, .bool true, .slice a' k c'], .bool true]) ?_ rfl (keepF_yes HR.out ⟨a', _, c', xs, rfl, HE'.out, HO'.out, ?_, by omega, ?_⟩)
          · simp only [results, Try.results44]
            go_simp
          · have h := congrArg List.length HXS.out
            simpa using h
          · simp only [Int.toNat_natCast]
            rw [← HNN.out]
            exact HXS.out
end Go.Proofs.Ytaakkdcpkllgoaa
