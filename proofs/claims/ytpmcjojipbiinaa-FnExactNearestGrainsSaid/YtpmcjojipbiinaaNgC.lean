/-
  NearestGrains by the reference.
-/
import Derived.Test.YtpmcjojipbiinaaNgB
namespace Go.Proofs.Ytpmcjojipbiinaa
open Go.RowKit
set_option linter.unusedVariables false
set_option linter.unusedSimpArgs false
set_option linter.unnecessarySimpa false

theorem all_fin {xs : List Nat} (h : ∀ j, j < xs.length → finB (xs[j]?.getD 0) = true) : xs.all finB = true := by
  rw [List.all_eq_true]
  intro x hx
  obtain ⟨j, hj, rfl⟩ := List.getElem_of_mem hx
  have := h j hj
  rwa [List.getElem?_eq_getElem hj] at this
theorem all_not {xs : List Nat} {k : Nat} (hk : k < xs.length) (h : finB (xs[k]?.getD 0) = false) : xs.all finB = false := by
  rw [Bool.eq_false_iff]
  intro ha
  rw [List.all_eq_true] at ha
  have := ha _ (List.getElem_mem hk)
  rw [List.getElem?_eq_getElem hk] at h
  simp only [Option.getD_some] at h
  rw [h] at this
  cases this

set_option maxRecDepth 100000 in
set_option maxHeartbeats 1000000 in
theorem l04Centres_any (s1 s2 : Option Addr) (n1 c1 n2 c2 : Nat) (xs ys : List Nat) (hx : xs.length = n1) (hy : ys.length = n2) (hn1 : n1 ≤ 1048576) (hn2 : n2 ≤ 1048576) (w : World) (hA1 : VArr w s1 (flts xs)) (hA2 : VArr w s2 (flts ys)) :
    Calls Try.prog 26 #[.slice s1 n1 c1, .slice s2 n2 c2] w fun e w' => e = .returned (.bool (ctrOk n1 n2 xs ys)) ∧ Ext w w' := by
  have HA1 := Lib.hid hA1
  have HA2 := Lib.hid hA2
  clear hA1 hA2
  by_cases hlo : 1 ≤ n1 ∧ n1 ≤ 64
  · by_cases hm : n2 = n1
    · subst hm
      obtain ⟨h1, h2⟩ := hlo
      have hin : inB (n2 : Int) 1 64 = true := inB_yes (by omega) (by omega)
      have HOK : Hid (ctrOk n2 n2 xs ys = (xs.all finB && ys.all finB)) := by show _ = _; unfold ctrOk; rw [hin]; simp
      have HX := Lib.hid hx
      have HY := Lib.hid hy
      clear hin hx hy
      go_enter Try.func26, Try.ntmps26
      go_wp2
      go_loopw [5] (fun i wr => ∃ k : Nat, k ≤ n2 ∧ i = .int .i64 k ∧ (∀ j, j < k → finB (xs[j]?.getD 0) = true ∧ finB (ys[j]?.getD 0) = true) ∧ Ext w wr) (fun i _ => n2 - (intOf i).toNat)
      case atStart => exact ⟨0, Nat.zero_le _, rfl, fun j hj => by omega, Ext.refl _⟩
      case round =>
        obtain ⟨k, hk, rfl, hup, hE⟩ := hrel
        have HU := Lib.hid hup
        have HE := Lib.hid hE
        clear hup hE
        by_cases hlt : k < n2
        · obtain ⟨b1', o1, rfl⟩ := HA1.out.starts (i := k) (by simp; rw [HX.out]; exact hlt)
          obtain ⟨b2', o2, rfl⟩ := HA2.out.starts (i := k) (by simp; rw [HY.out]; exact hlt)
          have hc1 := (HA1.out.ext HE.out).ofFlts k (by rw [HX.out]; exact hlt)
          rw [List.getD_eq_getElem?_getD] at hc1
          obtain ⟨zx, hzx⟩ : ∃ z, xs[k]?.getD 0 = z := ⟨_, rfl⟩
          obtain ⟨zy, hzy⟩ : ∃ z, ys[k]?.getD 0 = z := ⟨_, rfl⟩
          rw [hzx] at hc1
          have HZX := Lib.hid hzx
          have HZY := Lib.hid hzy
          clear hzx hzy
          go_wp2_with fail
          refine (l01Finite_any zx _).mono ?_
          rintro e w2 ⟨rfl, hX2⟩
          have HE2 := Lib.hid (HE.out.trans hX2)
          clear hc1 hX2
          cases hf : finB zx with
          | false =>
            have HR : Hid (ctrOk n2 n2 xs ys = false) := by show _ = _; rw [HOK.out, all_not (k := k) (by rw [HX.out]; exact hlt) (by rw [HZX.out]; exact hf), Bool.false_and]
            clear hf
            go_wp2
            refine bodyPost_ret (v := .bool false) ?_ rfl ⟨by rw [HR.out], HE2.out⟩
            simp only [results, Try.results26]
            go_simp
          | true =>
            have HF1 := Lib.hid hf
            have hc2 := (HA2.out.ext HE2.out).ofFlts k (by rw [HY.out]; exact hlt)
            rw [List.getD_eq_getElem?_getD, HZY.out] at hc2
            clear hf
            go_wp2_with fail
            refine (l01Finite_any zy _).mono ?_
            rintro e w3 ⟨rfl, hX3⟩
            have HE3 := Lib.hid (HE2.out.trans hX3)
            clear hc2 hX3
            cases hg : finB zy with
            | false =>
              have HR : Hid (ctrOk n2 n2 xs ys = false) := by show _ = _; rw [HOK.out, all_not (xs := ys) (k := k) (by rw [HY.out]; exact hlt) (by rw [HZY.out]; exact hg), Bool.and_false]
              clear hg
              go_wp2
              refine bodyPost_ret (v := .bool false) ?_ rfl ⟨by rw [HR.out], HE3.out⟩
              simp only [results, Try.results26]
              go_simp
            | true =>
              have HG1 := Lib.hid hg
              clear hg
              go_wp2
              go_roundw
              case rel =>
                refine ⟨k + 1, by omega, by go_num, fun j hj => ?_, HE3.out⟩
                by_cases hjk : j = k
                · subst hjk; rw [HZX.out, HZY.out]; exact ⟨HF1.out, HG1.out⟩
                · exact HU.out j (by omega)
              case measure => simp [intOf]; omega
        · obtain rfl : k = n2 := by omega
          have HR : Hid (ctrOk k k xs ys = true) := by
            show _ = _
            rw [HOK.out, all_fin fun j hj => (HU.out j (by rw [HX.out] at hj; exact hj)).1, all_fin fun j hj => (HU.out j (by rw [HY.out] at hj; exact hj)).2]; rfl
          go_wp2
          refine bodyPost_ret (v := .bool true) ?_ rfl ⟨by rw [HR.out], HE.out⟩
          simp only [results, Try.results26]
          go_simp
    · have HR : Hid (ctrOk n1 n2 xs ys = false) := by show _ = _; simp [ctrOk, hm]
      obtain ⟨h1, h2⟩ := hlo
      have hm2 : ¬ ((n2 : Int) = (n1 : Int)) := by omega
      have q1 : ¬ ((n1 : Int) < 1) := by omega
      have q2 : ¬ ((64 : Int) < (n1 : Int)) := by omega
      clear hx hy
      go_enter Try.func26, Try.ntmps26
      go_wp2
      refine bodyPost_ret (v := .bool false) ?_ rfl ⟨by rw [HR.out], Ext.refl _⟩
      simp only [results, Try.results26]
      go_simp
  · have hin : inB (n1 : Int) 1 64 = false := inB_not.2 (by omega)
    have HR : Hid (ctrOk n1 n2 xs ys = false) := by show _ = _; simp [ctrOk, hin]
    clear hin hx hy
    by_cases h1 : 1 ≤ n1
    · have h2 : ¬ n1 ≤ 64 := by omega
      have q1 : ¬ ((n1 : Int) < 1) := by omega
      have q2 : (64 : Int) < (n1 : Int) := by omega
      go_enter Try.func26, Try.ntmps26
      go_wp2
      refine bodyPost_ret (v := .bool false) ?_ rfl ⟨by rw [HR.out], Ext.refl _⟩
      simp only [results, Try.results26]
      go_simp
    · obtain rfl : n1 = 0 := by omega
      go_enter Try.func26, Try.ntmps26
      go_wp2
      refine bodyPost_ret (v := .bool false) ?_ rfl ⟨by rw [HR.out], Ext.refl _⟩
      simp only [results, Try.results26]
      go_simp

set_option maxRecDepth 100000 in
set_option maxHeartbeats 4000000 in
theorem specNear_yes (W H : Int) (s1 s2 : Option Addr) (n c1 c2 : Nat) (xs ys : List Nat) (hx : xs.length = n) (hy : ys.length = n) (hn1 : n ≤ 1048576) (hok : nearOk W H n n xs ys = true) (w : World) (hA1 : VArr w s1 (flts xs)) (hA2 : VArr w s2 (flts ys)) :
    Calls Try.prog 7 #[.int .i64 W, .int .i64 H, .slice s1 n c1, .slice s2 n c2] w (newH w W H (nearZ W H xs ys) true) := by
  obtain ⟨hs, hct⟩ : szG W H = true ∧ ctrOk n n xs ys = true := by simpa [nearOk] using hok
  have hnb : 1 ≤ n ∧ n ≤ 64 := by
    unfold ctrOk at hct
    simp only [Bool.and_eq_true] at hct
    have := inB_iff.1 hct.1.1
    omega
  obtain ⟨n0, n64⟩ := hnb
  obtain ⟨i0, hi, hz0, hz1, hz2⟩ := info_parts info64
  obtain ⟨⟨t1, t2⟩, t3, t4⟩ := szG_iff.1 hs
  obtain ⟨Wn, rfl⟩ := Int.eq_ofNat_of_zero_le (show 0 ≤ W by omega)
  obtain ⟨Hn, rfl⟩ := Int.eq_ofNat_of_zero_le (show 0 ≤ H by omega)
  have hm : Hn * Wn ≤ 256 := by
    have := Nat.mul_le_mul (show Hn ≤ 16 by omega) (show Wn ≤ 16 by omega); omega
  obtain ⟨M, hM⟩ : ∃ M, Hn * Wn = M := ⟨_, rfl⟩
  have hMI : (Wn : Int) * (Hn : Int) = (M : Int) := by rw [← hM, Int.natCast_mul, Int.mul_comm]
  have HZ : Hid (nearZ Wn Hn xs ys = gridV Wn (nearG Wn Hn xs ys) M) := by show _ = _; unfold nearZ; simp only [Int.toNat_natCast]; rw [hM]
  rw [HZ.out]
  have hMn : M ≤ 256 := by omega
  have HDIV : Hid (∀ k, k < M → k / Wn < Hn) := fun k hk => Nat.div_lt_of_lt_mul (by rw [Nat.mul_comm, hM]; exact hk)
  have hX := (Ext.refl w).alloc (.cells #[.int .i64 0, .int .i64 0, .slice none 0 0] 25)
  have b0 := heap_new w (.cells #[.int .i64 0, .int .i64 0, .slice none 0 0] 25)
  have HS := Lib.hid hs
  have HC := Lib.hid hct
  have HXX := Lib.hid hx
  have HYY := Lib.hid hy
  have HA1 := Lib.hid hA1
  have HA2 := Lib.hid hA2
  clear hs hct hx hy hA1 hA2 hok hM hm
  go_enter Try.func7, Try.ntmps7
  go_wp2_with fail
  refine (l02Size_any _ _ _).mono ?_
  rw [HS.out]
  rintro e w' ⟨rfl, rfl⟩
  go_wp2_with fail
  refine (l04Centres_any s1 s2 n c1 n c2 xs ys HXX.out HYY.out hn1 hn1 _ (HA1.out.ext hX) (HA2.out.ext hX)).mono ?_
  rw [HC.out]
  generalize w.alloc (.cells #[.int .i64 0, .int .i64 0, .slice none 0 0] 25) = w0 at *
  rintro e w0' ⟨rfl, hX0⟩
  go_wp2_with fail
  refine (l04New_any Wn Hn _).mono ?_
  rintro e w1 ⟨b, rfl, hX1, hb, hO⟩
  have hXa := (Ext.refl w1).alloc (.cells #[.int .i64 Wn, .int .i64 Hn, .slice (some ⟨b, 0, none⟩) 0 0] 25)
  have bq := heap_new w1 (.cells #[.int .i64 Wn, .int .i64 Hn, .slice (some ⟨b, 0, none⟩) 0 0] 25)
  have hwq : w.heap.size < w1.heap.size := lt_of_block ((hX0.trans hX1).block b0)
  have F0 : Filling w Wn Hn (gridV Wn (nearG Wn Hn xs ys) 0) w1.heap.size (w1.alloc (.cells #[.int .i64 Wn, .int .i64 Hn, .slice (some ⟨b, 0, none⟩) 0 0] 25)) 0 :=
    ⟨((hX.trans hX0).trans hX1).trans hXa, hXa.block (hX1.block (hX0.block b0)), _, 0, bq, ownsRow_ext (ownsRow_mono hO (hX.trans hX0).size) hXa⟩
  clear hX hX0 hX1 hXa b0 bq hO hb
  go_wp2
  generalize w1.alloc (.cells #[.int .i64 Wn, .int .i64 Hn, .slice (some ⟨b, 0, none⟩) 0 0] 25) = w2 at *
  generalize w1.heap.size = q at *
  go_loopw [11] (fun i wr => ∃ k : Nat, k ≤ M ∧ i = .int .i64 k ∧ Filling w Wn Hn (gridV Wn (nearG Wn Hn xs ys) k) q wr k) (fun i _ => M - (intOf i).toNat)
  case atStart => exact ⟨0, Nat.zero_le _, rfl, F0⟩
  case round =>
    obtain ⟨k, hk, rfl, hS⟩ := hrel
    clear F0
    have HS2 := Lib.hid hS
    clear hS
    by_cases hlt : k < M
    · have hu2 : k % Wn < Wn := Nat.mod_lt _ (by omega)
      have hv2 : k / Wn < Hn := HDIV.out k hlt
      have HGN := Lib.hid (gridV_next Wn (nearG Wn Hn xs ys) k)
      have hu : (k : Int).tmod (Wn : Int) = ((k % Wn : Nat) : Int) := rfl
      have hv : (k : Int).tdiv (Wn : Int) = ((k / Wn : Nat) : Int) := rfl
      have hne : ¬ Wn = 0 := by omega
      generalize k % Wn = u at *
      generalize k / Wn = v at *
      go_wp2
      go_loopw [12, 13, 14] (fun bv lv i wx => ∃ (j r : Nat), j ≤ n ∧ i = .int .i64 j ∧ bv = .int .i64 (nrN Wn Hn xs ys u v j).1 ∧ lv = .float .f32 r ∧ fa .f32 r = (nrN Wn Hn xs ys u v j).2 ∧ Ext wr wx) (fun _ _ i _ => n - (intOf i).toNat)
      case atStart => exact ⟨0, _, Nat.zero_le _, rfl, rfl, rfl, rfl, Ext.refl _⟩
      case round =>
        obtain ⟨j, r, hj, rfl, rfl, rfl, hr, hE⟩ := hrel
        have HR := Lib.hid hr
        have HE := Lib.hid hE
        have HB := Lib.hid (HS2.out.ext.trans HE.out)
        clear hr hE
        by_cases hjl : j < n
        · obtain ⟨b1', o1, rfl⟩ := HA1.out.starts (i := j) (by simp; rw [HXX.out]; exact hjl)
          obtain ⟨b2', o2, rfl⟩ := HA2.out.starts (i := j) (by simp; rw [HYY.out]; exact hjl)
          have hc1 := (HA1.out.ext HB.out).ofFlts j (by rw [HXX.out]; exact hjl)
          have hc2 := (HA2.out.ext HB.out).ofFlts j (by rw [HYY.out]; exact hjl)
          rw [List.getD_eq_getElem?_getD] at hc1 hc2
          obtain ⟨zx, hzx⟩ : ∃ z, xs[j]?.getD 0 = z := ⟨_, rfl⟩
          obtain ⟨zy, hzy⟩ : ∃ z, ys[j]?.getD 0 = z := ⟨_, rfl⟩
          rw [hzx] at hc1
          rw [hzy] at hc2
          have HZX := Lib.hid hzx
          have HZY := Lib.hid hzy
          have HC2 := Lib.hid hc2
          clear hzx hzy hc2
          go_wp2_with fail
          refine region_grow (C := Ext wr) (K := fun f args V _ => ∀ d1 d2 s, args = #[.float .f32 d1, .float .f32 d2, .int .i64 s, .bool true] → ∃ r, V = .float .f32 r ∧ fa .f32 r = difO (fop .sub .f32 (fa .f32 d1) (fa .f32 d2)) s) ⟨fun _ _ h k => h.trans k, fun _ _ _ _ _ h _ => h⟩ (by kernel_rfl) (by kernel_rfl) ((Ext.refl wr).drew) ?_
          iterate 9 (refine grow_q rfl ?_; apply Exists.intro; refine ⟨fun y hy _ => ?_, ?_⟩; focus (have c2 := hy.cell hc1; go_simp; rfl))
          refine grow_cf 28 .f32 rfl ⟨#[.float .f32 (floatOfInt .f32 (u : Int)), .float .f32 zx, .int .i64 Wn, .bool true], fun y => ?_, _, fun y hy _ => l02Gap_any (floatOfInt .f32 (u : Int)) zx Wn (by omega) (by omega) y, fun V y => ⟨fun h => h _ _ _ rfl, fun h d1 d2 s he => (by simp at he; obtain ⟨rfl, rfl, rfl⟩ := he; exact h)⟩, fun e1 he1 => ?_⟩
          · go_simp
          refine grow_q rfl ?_; apply Exists.intro; refine ⟨fun y hy _ => ?_, ?_⟩; focus (go_simp; rfl)
          refine grow_nil (fun w5 hX5 _ => ?_)
          have HE5 := Lib.hid (HE.out.trans hX5)
          have HC5 := Lib.hid (hX5.cell HC2.out)
          clear hX5 hc1 HC2
          go_simp
          go_wp2_with fail
          refine region_grow (C := Ext w5) (K := fun f args V _ => ∀ d1 d2 s, args = #[.float .f32 d1, .float .f32 d2, .int .i64 s, .bool true] → ∃ r, V = .float .f32 r ∧ fa .f32 r = difO (fop .sub .f32 (fa .f32 d1) (fa .f32 d2)) s) ⟨fun _ _ h k => h.trans k, fun _ _ _ _ _ h _ => h⟩ (by kernel_rfl) (by kernel_rfl) ((Ext.refl w5).drew) ?_
          iterate 9 (refine grow_q rfl ?_; apply Exists.intro; refine ⟨fun y hy _ => ?_, ?_⟩; focus (have c2 := hy.cell HC5.out; go_simp; rfl))
          refine grow_cf 28 .f32 rfl ⟨#[.float .f32 (floatOfInt .f32 (v : Int)), .float .f32 zy, .int .i64 Hn, .bool true], fun y => ?_, _, fun y hy _ => l02Gap_any (floatOfInt .f32 (v : Int)) zy Hn (by omega) (by omega) y, fun V y => ⟨fun h => h _ _ _ rfl, fun h d1 d2 s he => (by simp at he; obtain ⟨rfl, rfl, rfl⟩ := he; exact h)⟩, fun e2 he2 => ?_⟩
          · go_simp
            all_goals (first | done | ((have hvw := wrapS (n := (v : Int)) (by omega) (by omega)); ((try simp only [hu, hv, hvw]) <;> ((repeat' apply And.intro) <;> first | rfl | exact wrapS (by omega) (by omega)))))
          refine grow_q rfl ?_; apply Exists.intro; refine ⟨fun y hy _ => ?_, ?_⟩; focus (go_simp; rfl)
          refine grow_nil (fun w6 hX6 _ => ?_)
          have HE6 := Lib.hid (HE5.out.trans hX6)
          have HOW : Hid (∀ p q z, fa .f32 (frr .add .f32 (frr .mul .f32 e1 e1 p) (frr .mul .f32 e2 e2 q) z) = ownO Wn Hn xs ys u v j) := fun p q z => by
            rw [fa_frr, fa_frr, fa_frr, he1, he2]
            unfold ownO
            rw [HZX.out, HZY.out]
          clear hX6 he1 he2 HC5
          go_simp
          have hat := (nrN_bd Wn Hn xs ys u v j).1
          have hat2 := (nrN_bd Wn Hn xs ys u v j).2
          obtain ⟨bt, hbt⟩ : ∃ z, (nrN Wn Hn xs ys u v j).1 = z := ⟨_, rfl⟩
          rw [hbt] at hat hat2
          rw [hbt]
          have HBT := Lib.hid hbt
          clear hbt
          by_cases hj0 : j = 0
          · subst hj0
            go_wp2
            go_roundw
            case rel =>
              refine ⟨1, _, by omega, by go_num, ?_, rfl, ?_, HE6.out.drewN _⟩
              · rw [nrN_yes (Or.inl rfl)]
              · rw [HOW.out, nrN_yes (Or.inl rfl)]
            case measure => simp [intOf]; omega
          · have hor : ∀ p q z, (FloatKind.f32.format.order (frr .add .f32 (frr .mul .f32 e1 e1 p) (frr .mul .f32 e2 e2 q) z) r == some .lt) = lssO (ownO Wn Hn xs ys u v j) (nrN Wn Hn xs ys u v j).2 := fun p q z => by
              unfold lssO
              rw [order_fa, HOW.out, HR.out, Bool.eq_iff_iff]
              simp
            cases hl : lssO (ownO Wn Hn xs ys u v j) (nrN Wn Hn xs ys u v j).2 with
            | true =>
              have hl2 := Lib.hid hl
              rw [hl] at hor
              clear hl
              go_wp2
              go_roundw
              case rel =>
                refine ⟨j + 1, _, by omega, by go_num, ?_, rfl, ?_, HE6.out.drewN _⟩
                · rw [nrN_yes (Or.inr hl2.out)]
                · rw [HOW.out, nrN_yes (Or.inr hl2.out)]
              case measure => simp [intOf]; omega
            | false =>
              have hl2 := Lib.hid hl
              rw [hl] at hor
              clear hl
              go_wp2
              go_roundw
              case rel =>
                refine ⟨j + 1, _, by omega, by go_num, ?_, rfl, ?_, HE6.out.drewN _⟩
                · rw [nrN_no hj0 hl2.out, HBT.out]
                · rw [HR.out, nrN_no hj0 hl2.out]
              case measure => simp [intOf]; omega
        · obtain rfl : j = n := by omega
          obtain ⟨z, hz⟩ : ∃ z, (nrN Wn Hn xs ys u v j).1 = z := ⟨_, rfl⟩
          have HZV : Hid (nearG Wn Hn xs ys u v = z) := by show _ = _; unfold nearG; rw [HXX.out]; exact hz
          have HS3 := Lib.hid (HS2.out.of_ext HE.out)
          rw [hz]
          clear hz
          obtain ⟨hX, hR, a, cc, hB, hO⟩ := HS3.out
          obtain ⟨⟨c0', c1', c2'⟩, _⟩ := block3 hB
          have HXu := Lib.hid (hX.alloc (.cells #[.int .i64 z] 2))
          have HRu := Lib.hid (((Ext.refl wr).alloc (.cells #[.int .i64 z] 2)).block hR)
          have HBu := Lib.hid (((Ext.refl wr).alloc (.cells #[.int .i64 z] 2)).block hB)
          have HOu := Lib.hid (ownsRow_alloc' hO (.cells #[.int .i64 z] 2))
          clear hX hR hB hO HS3
          go_wp2_with (first | (at_builtin; refine wpList_append_own _ rfl _ _ 23 rfl w.heap.size 2 i0 (.int .i64 0) 1 8 Try.underlying23 hi hz0 hz1 hz2 rfl (by decide) (.slice a k cc) k (ints (gridV Wn (nearG Wn Hn xs ys) k)) rfl HOu.out ⟨wr.heap.size, 0, none⟩ 1 1 [.int .i64 z] rfl rfl ?c1 ?c2 ?c3 ?c4 ?c5 ?_) | go_in)
          case c1 => exact cell_one_new _ _ _
          case c2 => intro u hu; simp at hu; subst hu; rfl
          case c3 => unfold maxLen; omega
          case c4 => omega
          case c5 => exact HXu.out.size
          intro v' w4 hown hg _
          obtain ⟨a', c', rfl⟩ := ownsRow_shape hown
          have HOWN := Lib.hid hown
          have HG := Lib.hid hg
          clear hown hg c0' c1' c2'
          have hb4 := Filling.cellAt HXu.out HBu.out HOu.out HG.out
          obtain ⟨⟨_, _, c2''⟩, _, _, f2⟩ := block3 hb4
          clear hb4
          go_wp2
          go_roundw
          case rel =>
            refine ⟨k + 1, by omega, by go_num, ?_⟩
            rw [HGN.out, HZV.out]
            exact Filling.push HXu.out hwq HRu.out HBu.out HOu.out HOWN.out HG.out
          case measure => simp [intOf]; omega
    · obtain rfl : k = M := by omega
      obtain ⟨hX, hR, a, cc, hB, hO⟩ := HS2.out
      obtain ⟨⟨e0, e1, e2⟩, _⟩ := block3 hB
      obtain ⟨⟨d0, d1, d2⟩, f0, f1, f2⟩ := block3 hR
      obtain ⟨HE, HO⟩ := stored3 (T := 25) (u0 := .int .i64 Wn) (u1 := .int .i64 Hn) (u2 := .slice a k cc) hX (by decide) (Nat.le_refl _) hR hO
      have HE' := Lib.hid HE
      have HO' := Lib.hid HO
      clear hX hR hB hO HE HO
      go_wp2
      refine bodyPost_ret (v := .tuple #[.agg #[.int .i64 Wn, .int .i64 Hn, .slice a k cc], .bool true]) ?_ rfl ⟨a, _, cc, rfl, HE'.out, HO'.out, gridV_length _ _ _, by omega⟩
      simp only [results, Try.results7]
      go_simp

set_option maxRecDepth 100000 in
theorem specNear_any (W H : Int) (s1 s2 : Option Addr) (n1 c1 n2 c2 : Nat) (xs ys : List Nat) (hx : xs.length = n1) (hy : ys.length = n2) (hn1 : n1 ≤ 1048576) (hn2 : n2 ≤ 1048576) (w : World) (hA1 : VArr w s1 (flts xs)) (hA2 : VArr w s2 (flts ys)) :
    Calls Try.prog 7 #[.int .i64 W, .int .i64 H, .slice s1 n1 c1, .slice s2 n2 c2] w (keepH w (nearOk W H n1 n2 xs ys) W H (nearZ W H xs ys)) := by
  cases hok : nearOk W H n1 n2 xs ys with
  | true =>
    have hnn : n2 = n1 := by
      simp only [nearOk, ctrOk, Bool.and_eq_true, decide_eq_true_eq] at hok
      exact hok.2.1.2
    subst hnn
    exact (specNear_yes W H s1 s2 n2 c1 c2 xs ys hx hy hn1 hok w hA1 hA2).mono fun e w' h => keepH_yes rfl h
  | false =>
    have hX := (Ext.refl w).alloc (.cells #[.int .i64 0, .int .i64 0, .slice none 0 0] 25)
    cases hs : szG W H with
    | false =>
      have HX := Lib.hid hX
      clear hX
      go_enter Try.func7, Try.ntmps7
      go_wp2_with (go_at_call 25; refine (l02Size_any _ _ _).mono ?_; rw [hs]; rintro e w' ⟨rfl, rfl⟩)
      refine bodyPost_ret (v := .tuple #[.agg #[.int .i64 0, .int .i64 0, .slice none 0 0], .bool false]) ?_ rfl (keepH_no rfl ⟨none, 0, 0, rfl, HX.out, World.ownsRow_nil _ _ _ _, rfl, by omega⟩)
      simp only [results, Try.results7]
      go_simp
    | true =>
      have hct : ctrOk n1 n2 xs ys = false := by simpa [nearOk, hs] using hok
      have b0 := heap_new w (.cells #[.int .i64 0, .int .i64 0, .slice none 0 0] 25)
      go_enter Try.func7, Try.ntmps7
      go_wp2_with fail
      refine (l02Size_any _ _ _).mono ?_
      rw [hs]
      rintro e w' ⟨rfl, rfl⟩
      go_wp2_with fail
      refine (l04Centres_any s1 s2 n1 c1 n2 c2 xs ys hx hy hn1 hn2 _ (hA1.ext hX) (hA2.ext hX)).mono ?_
      rw [hct]
      generalize w.alloc (.cells #[.int .i64 0, .int .i64 0, .slice none 0 0] 25) = w0 at *
      rintro e w0' ⟨rfl, hX0⟩
      obtain ⟨⟨d0, d1, d2⟩, f0, f1, f2⟩ := block3 (hX0.block b0)
      have HE := Lib.hid ((hX.trans hX0).fin3 (q := w.heap.size) (Nat.le_refl _) (.int .i64 0) (.int .i64 0) (.slice none 0 0))
      clear hX hX0 b0 hA1 hA2
      go_wp2
      refine bodyPost_ret (v := .tuple #[.agg #[.int .i64 0, .int .i64 0, .slice none 0 0], .bool false]) ?_ rfl (keepH_no rfl ⟨none, 0, 0, rfl, HE.out, World.ownsRow_nil _ _ _ _, rfl, by omega⟩)
      simp only [results, Try.results7]
      go_simp
end Go.Proofs.Ytpmcjojipbiinaa
