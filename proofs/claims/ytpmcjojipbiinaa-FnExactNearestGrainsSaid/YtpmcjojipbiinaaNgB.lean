/-
  NearestGrains by the program.
-/
import Derived.Test.YtpmcjojipbiinaaNgA
namespace Go.Proofs.Ytpmcjojipbiinaa
open Go.RowKit
set_option linter.unusedVariables false
set_option linter.unusedSimpArgs false
set_option linter.unnecessarySimpa false

theorem six_new (w : World) (o0 o1 o2 o3 o4 o5 : Obj) : (((((((w.alloc o0).alloc o1).alloc o2).alloc o3).alloc o4).alloc o5).heap[w.heap.size]? = some o0) ∧ (((((((w.alloc o0).alloc o1).alloc o2).alloc o3).alloc o4).alloc o5).heap[w.heap.size + 1]? = some o1) ∧ (((((((w.alloc o0).alloc o1).alloc o2).alloc o3).alloc o4).alloc o5).heap[w.heap.size + 2]? = some o2) ∧ (((((((w.alloc o0).alloc o1).alloc o2).alloc o3).alloc o4).alloc o5).heap[w.heap.size + 3]? = some o3) ∧ (((((((w.alloc o0).alloc o1).alloc o2).alloc o3).alloc o4).alloc o5).heap[w.heap.size + 4]? = some o4) ∧ (((((((w.alloc o0).alloc o1).alloc o2).alloc o3).alloc o4).alloc o5).heap[w.heap.size + 5]? = some o5) := by
  obtain ⟨h0, h1, h2, h3⟩ := four_new w o0 o1 o2 o3
  refine ⟨?_, ?_, ?_, ?_, ?_, ?_⟩
  · rw [heap_old _ _ (by simp <;> omega), heap_old _ _ (by simp <;> omega)]; exact h0
  · rw [heap_old _ _ (by simp <;> omega), heap_old _ _ (by simp <;> omega)]; exact h1
  · rw [heap_old _ _ (by simp <;> omega), heap_old _ _ (by simp <;> omega)]; exact h2
  · rw [heap_old _ _ (by simp), heap_old _ _ (by simp)]; exact h3
  · rw [heap_old _ _ (by simp)]
    have := heap_new ((((w.alloc o0).alloc o1).alloc o2).alloc o3) o4
    simpa using this
  · have := heap_new (((((w.alloc o0).alloc o1).alloc o2).alloc o3).alloc o4) o5
    simpa using this

set_option maxRecDepth 100000 in
set_option maxHeartbeats 4000000 in
theorem near1_any (W H a b : Int) (s1 s2 : Option Addr) (n c1 c2 : Nat) (xs ys : List Nat) (hx : xs.length = n) (hy : ys.length = n) (hn0 : 1 ≤ n) (hn1 : n ≤ 64) (hs : szG W H = true) (a0 : 0 ≤ a) (a1 : a < W) (b0 : 0 ≤ b) (b1 : b < H) (p1 p2 p3 p4 : Nat) (w : World) (hA1 : VArr w s1 (flts xs)) (hA2 : VArr w s2 (flts ys))
    (P1 : w.heap[p1]? = some (.cells #[.slice s1 n c1] 22 (0, 0))) (P2 : w.heap[p2]? = some (.cells #[.int .i64 W] 2 (0, 0))) (P3 : w.heap[p3]? = some (.cells #[.slice s2 n c2] 22 (0, 0))) (P4 : w.heap[p4]? = some (.cells #[.int .i64 H] 2 (0, 0))) :
    Calls Try.prog 33 #[.int .i64 a, .int .i64 b, .pointer (some ⟨p1, 0, none⟩), .pointer (some ⟨p2, 0, none⟩), .pointer (some ⟨p3, 0, none⟩), .pointer (some ⟨p4, 0, none⟩)] w fun e w' => e = .returned (.int .i64 (nearG W H xs ys a b)) ∧ Ext w w' := by
  obtain ⟨⟨s1', s2'⟩, s3', s4'⟩ := szG_iff.1 hs
  have HA1 := Lib.hid hA1
  have HA2 := Lib.hid hA2
  have Q1 := Lib.hid P1
  have Q2 := Lib.hid P2
  have Q3 := Lib.hid P3
  have Q4 := Lib.hid P4
  have HX := Lib.hid hx
  have HY := Lib.hid hy
  obtain ⟨c0, _⟩ := block1 P1
  clear hA1 hA2 P1 P2 P3 P4 hx hy hs
  go_enter Try.func33, Try.ntmps33
  go_wp2
  clear c0
  go_loopw [9, 10, 17] (fun at_ lv i wr => ∃ (k r : Nat), k ≤ n ∧ i = .int .i64 k ∧ at_ = .int .i64 (if k = 0 then -1 else (nrN W H xs ys a b k).1) ∧ lv = .float .f32 r ∧ fa .f32 r = (nrN W H xs ys a b k).2 ∧ Ext w wr) (fun _ _ i _ => n - (intOf i).toNat)
  case atStart => exact ⟨0, _, Nat.zero_le _, rfl, rfl, rfl, rfl, Ext.refl _⟩
  case round =>
    obtain ⟨k, r, hk, rfl, rfl, rfl, hr, hE⟩ := hrel
    have HR := Lib.hid hr
    have HE := Lib.hid hE
    clear hr hE
    by_cases hlt : k < n
    · obtain ⟨at0, hat0⟩ : ∃ z, (if k = 0 then -1 else (nrN W H xs ys a b k).1) = z := ⟨_, rfl⟩
      rw [hat0]
      have HAT := Lib.hid hat0
      clear hat0
      have hcx := HA1.out
      have hn1' : 0 < n := by omega
      obtain ⟨b1', o1, rfl⟩ := HA1.out.starts (i := k) (by simp; rw [HX.out]; exact hlt)
      obtain ⟨b2', o2, rfl⟩ := HA2.out.starts (i := k) (by simp; rw [HY.out]; exact hlt)
      have hc1 := (HA1.out.ext HE.out).ofFlts k (by rw [HX.out]; exact hlt)
      have hc2 := (HA2.out.ext HE.out).ofFlts k (by rw [HY.out]; exact hlt)
      rw [List.getD_eq_getElem?_getD] at hc1 hc2
      have HO : Hid (ownO W H xs ys a b k = ownO W H xs ys a b k) := rfl
      obtain ⟨zx, hzx⟩ : ∃ z, xs[k]?.getD 0 = z := ⟨_, rfl⟩
      obtain ⟨zy, hzy⟩ : ∃ z, ys[k]?.getD 0 = z := ⟨_, rfl⟩
      rw [hzx] at hc1
      rw [hzy] at hc2
      have HZX := Lib.hid hzx
      have HZY := Lib.hid hzy
      clear hcx hzx hzy HO
      go_wp2_with fail
      refine region_grow (C := Ext wr) (K := fun f args V _ => ∀ d s, args = #[.float .f32 d, .int .i64 s, .bool true] → ∃ r, V = .float .f32 r ∧ fa .f32 r = difO (fa .f32 d) s) ⟨fun _ _ h k => h.trans k, fun _ _ _ _ _ h _ => h⟩ (by kernel_rfl) (by kernel_rfl) ((Ext.refl wr).drew) ?_
      iterate 6 (refine grow_q rfl ?_; apply Exists.intro; refine ⟨fun u hu _ => ?_, ?_⟩; focus (have c1 := (block1 (hu.block (HE.out.block Q1.out))).1; have c2 := hu.cell hc1; go_simp; rfl))
      refine grow_f .f32 rfl ⟨_, _, fun u hu _ => (by go_simp; exact ⟨rfl, rfl⟩), _, fun u => fa_frr _ _ _ _ u, fun d1 hd1 => ?_⟩
      refine grow_q rfl ?_; apply Exists.intro; refine ⟨fun u hu _ => ?_, ?_⟩; focus (have c1 := (block1 (hu.block (HE.out.block Q2.out))).1; go_simp; rfl)
      refine grow_cf 34 .f32 rfl ⟨#[.float .f32 d1, .int .i64 W, .bool true], fun u => (by go_simp), _, fun u hu _ => difference_any d1 W s1' s2' u, fun V u => ⟨fun h => h _ _ rfl, fun h d s he => (by simp at he; obtain ⟨rfl, rfl⟩ := he; exact h)⟩, fun e1 he1 => ?_⟩
      iterate 6 (refine grow_q rfl ?_; apply Exists.intro; refine ⟨fun u hu _ => ?_, ?_⟩; focus (have c1 := (block1 (hu.block (HE.out.block Q3.out))).1; have c2 := hu.cell hc2; go_simp; rfl))
      refine grow_f .f32 rfl ⟨_, _, fun u hu _ => (by go_simp; exact ⟨rfl, rfl⟩), _, fun u => fa_frr _ _ _ _ u, fun d2 hd2 => ?_⟩
      refine grow_q rfl ?_; apply Exists.intro; refine ⟨fun u hu _ => ?_, ?_⟩; focus (have c1 := (block1 (hu.block (HE.out.block Q4.out))).1; go_simp; rfl)
      refine grow_cf 34 .f32 rfl ⟨#[.float .f32 d2, .int .i64 H, .bool true], fun u => (by go_simp), _, fun u hu _ => difference_any d2 H s3' s4' u, fun V u => ⟨fun h => h _ _ rfl, fun h d s he => (by simp at he; obtain ⟨rfl, rfl⟩ := he; exact h)⟩, fun e2 he2 => ?_⟩
      iterate 2 (refine grow_q rfl ?_; apply Exists.intro; refine ⟨fun u hu _ => ?_, ?_⟩; focus (go_simp; rfl))
      refine grow_nil (fun w2 hX2 _ => ?_)
      have HE2 := Lib.hid (HE.out.trans hX2)
      have HOW : Hid (∀ u v z, fa .f32 (frr .add .f32 (frr .mul .f32 e1 e1 u) (frr .mul .f32 e2 e2 v) z) = ownO W H xs ys a b k) := fun u v z => by
        rw [fa_frr, fa_frr, fa_frr, he1, he2, hd1, hd2]
        unfold ownO
        rw [HZX.out, HZY.out]
      clear hX2 hd1 hd2 he1 he2 hc1 hc2
      go_simp
      by_cases hk0 : k = 0
      · subst hk0
        obtain rfl : at0 = -1 := HAT.out.symm
        go_wp2
        go_roundw
        case rel =>
          refine ⟨1, _, by omega, by go_num, ?_, rfl, ?_, HE2.out.drewN _⟩
          · rw [if_neg (by omega), nrN_yes (Or.inl rfl)]
          · rw [HOW.out, nrN_yes (Or.inl rfl)]
        case measure => simp [intOf]; omega
      · have hat := (nrN_bd W H xs ys a b k).1
        have hat2 := (nrN_bd W H xs ys a b k).2
        obtain ⟨bt, hbt⟩ : ∃ z, (nrN W H xs ys a b k).1 = z := ⟨_, rfl⟩
        have HBT := Lib.hid hbt
        obtain rfl : at0 = bt := by have h := HAT.out; rw [if_neg hk0, hbt] at h; exact h.symm
        rw [hbt] at hat hat2
        have hor : ∀ u v z, (FloatKind.f32.format.order (frr .add .f32 (frr .mul .f32 e1 e1 u) (frr .mul .f32 e2 e2 v) z) r == some .lt) = lssO (ownO W H xs ys a b k) (nrN W H xs ys a b k).2 := fun u v z => by
          unfold lssO
          rw [order_fa, HOW.out, HR.out, Bool.eq_iff_iff]
          simp
        clear hbt
        cases hl : lssO (ownO W H xs ys a b k) (nrN W H xs ys a b k).2 with
        | true =>
          have hl2 := Lib.hid hl
          rw [hl] at hor
          clear hl
          go_wp2
          go_roundw
          case rel =>
            refine ⟨k + 1, _, by omega, by go_num, ?_, rfl, ?_, HE2.out.drewN _⟩
            · rw [if_neg (by omega), nrN_yes (Or.inr hl2.out)]
            · rw [HOW.out, nrN_yes (Or.inr hl2.out)]
          case measure => simp [intOf]; omega
        | false =>
          have hl2 := Lib.hid hl
          rw [hl] at hor
          clear hl
          go_wp2
          go_roundw
          case rel =>
            refine ⟨k + 1, _, by omega, by go_num, ?_, rfl, ?_, HE2.out.drewN _⟩
            · rw [if_neg (by omega), nrN_no hk0 hl2.out, HBT.out]
            · rw [HR.out, nrN_no hk0 hl2.out]
          case measure => simp [intOf]; omega
    · obtain rfl : k = n := by omega
      have hk0 : ¬ k = 0 := by omega
      have hif : (if k = 0 then -1 else (nrN W H xs ys a b k).1) = nearG W H xs ys a b := by rw [if_neg hk0]; unfold nearG; rw [HX.out]
      obtain ⟨z, hz⟩ : ∃ z, nearG W H xs ys a b = z := ⟨_, rfl⟩
      rw [hif, hz]
      have HZZ := Lib.hid hz
      clear hif hz
      go_wp2
      refine bodyPost_ret (v := .int .i64 z) ?_ rfl ⟨by rw [HZZ.out], HE.out⟩
      simp only [results, Try.results33]
      go_simp

set_option maxRecDepth 100000 in
set_option maxHeartbeats 4000000 in
theorem implNear_any (W H : Int) (s1 s2 : Option Addr) (n1 c1 n2 c2 : Nat) (xs ys : List Nat) (hx : xs.length = n1) (hy : ys.length = n2) (hn1 : n1 ≤ 1048576) (hn2 : n2 ≤ 1048576) (w : World) (hA1 : VArr w s1 (flts xs)) (hA2 : VArr w s2 (flts ys)) :
    Calls Try.prog 9 #[.int .i64 W, .int .i64 H, .slice s1 n1 c1, .slice s2 n2 c2] w (keepH w (nearOk W H n1 n2 xs ys) W H (nearZ W H xs ys)) := by
  have hX := ((((((Ext.refl w).alloc (.cells #[.int .i64 W] 2)).alloc (.cells #[.int .i64 H] 2)).alloc (.cells #[.slice s1 n1 c1] 22)).alloc (.cells #[.slice s2 n2 c2] 22)).alloc (.cells #[.int .i64 0, .int .i64 0, .slice none 0 0] 25)).alloc (.cells #[.int .i64 W, .int .i64 H] 2)
  obtain ⟨b0, b1, b2, b3, b4, b5⟩ := six_new w (.cells #[.int .i64 W] 2) (.cells #[.int .i64 H] 2) (.cells #[.slice s1 n1 c1] 22) (.cells #[.slice s2 n2 c2] 22) (.cells #[.int .i64 0, .int .i64 0, .slice none 0 0] 25) (.cells #[.int .i64 W, .int .i64 H] 2)
  have e2 : allIn 1 16 [W, H] = szG W H := allIn_two
  go_enter Try.func9, Try.ntmps9
  go_wp2_with fail
  refine (areWithin_any _ 2 2 [W, H] rfl (by omega) 1 16 _ (VArr.two b5)).mono ?_
  rw [e2]
  generalize (((((w.alloc (.cells #[.int .i64 W] 2)).alloc (.cells #[.int .i64 H] 2)).alloc (.cells #[.slice s1 n1 c1] 22)).alloc (.cells #[.slice s2 n2 c2] 22)).alloc (.cells #[.int .i64 0, .int .i64 0, .slice none 0 0] 25)).alloc (.cells #[.int .i64 W, .int .i64 H] 2) = w0 at *
  rintro e w1 ⟨rfl, hX1⟩
  have HX := Lib.hid (hX.trans hX1)
  have B0 := Lib.hid (hX1.block b0)
  have B1 := Lib.hid (hX1.block b1)
  have B2 := Lib.hid (hX1.block b2)
  have B3 := Lib.hid (hX1.block b3)
  have B4 := Lib.hid (hX1.block b4)
  have HA1 := Lib.hid hA1
  have HA2 := Lib.hid hA2
  clear b0 b1 b2 b3 b4 b5 hX hX1 e2 hA1 hA2
  -- the ways to no
  have NO : ∀ u, Ext w1 u → Ext w ((((u.setCell ⟨w.heap.size + 4, 0, none⟩ (.int .i64 0)).setCell ⟨w.heap.size + 4, 1, none⟩ (.int .i64 0)).setCell ⟨w.heap.size + 4, 2, none⟩ (.slice none 0 0))) := fun u h => (HX.out.trans h).fin3 (q := w.heap.size + 4) (by omega) _ _ _
  have HNO := Lib.hid NO
  clear NO
  obtain ⟨⟨d0, d1, d2⟩, f0, f1, f2⟩ := block3 B4.out
  obtain ⟨p2, _⟩ := block1 B2.out
  obtain ⟨p3, _⟩ := block1 B3.out
  cases hs : szG W H with
  | false =>
    have HR : Hid (nearOk W H n1 n2 xs ys = false) := by show _ = _; simp [nearOk, hs]
    clear hs p2 p3
    go_wp2
    refine bodyPost_ret (v := .tuple #[.agg #[.int .i64 0, .int .i64 0, .slice none 0 0], .bool false]) ?_ rfl (keepH_no HR.out ⟨none, 0, 0, rfl, HNO.out _ (Ext.refl _), World.ownsRow_nil _ _ _ _, rfl, by omega⟩)
    simp only [results, Try.results9]
    go_simp
  | true =>
    have HS := Lib.hid hs
    cases hl : inB (n1 : Int) 1 64 with
    | false =>
      have HR : Hid (nearOk W H n1 n2 xs ys = false) := by show _ = _; simp [nearOk, ctrOk, hl]
      have HL := Lib.hid hl
      clear hs hl
      go_wp2_with (go_at_call 30; refine (within_any _ _ _ _).mono ?_; rw [HL.out]; rintro e w' ⟨rfl, rfl⟩)
      refine bodyPost_ret (v := .tuple #[.agg #[.int .i64 0, .int .i64 0, .slice none 0 0], .bool false]) ?_ rfl (keepH_no HR.out ⟨none, 0, 0, rfl, HNO.out _ (Ext.refl _), World.ownsRow_nil _ _ _ _, rfl, by omega⟩)
      simp only [results, Try.results9]
      go_simp
    | true =>
      have HL := Lib.hid hl
      by_cases hm : n2 = n1
      · subst hm
        go_wp2_with (go_at_call 30; refine (within_any _ _ _ _).mono ?_; rw [HL.out]; rintro e w' ⟨rfl, rfl⟩)
        refine (areFinite_any s1 n2 c1 xs hx hn1 _ (HA1.out.ext HX.out)).mono ?_
        rintro e w2 ⟨rfl, hX2⟩
        have HX2 := Lib.hid hX2
        clear d0 d1 d2 f0 f1 f2 p2 p3 hX2
        obtain ⟨⟨d0, d1, d2⟩, f0, f1, f2⟩ := block3 (HX2.out.block B4.out)
        obtain ⟨p3, _⟩ := block1 (HX2.out.block B3.out)
        cases hf1 : xs.all finB with
        | false =>
          have HR : Hid (nearOk W H n2 n2 xs ys = false) := by show _ = _; simp only [nearOk, ctrOk, hf1]; simp
          clear hs hl hf1
          go_wp2
          refine bodyPost_ret (v := .tuple #[.agg #[.int .i64 0, .int .i64 0, .slice none 0 0], .bool false]) ?_ rfl (keepH_no HR.out ⟨none, 0, 0, rfl, HNO.out _ HX2.out, World.ownsRow_nil _ _ _ _, rfl, by omega⟩)
          simp only [results, Try.results9]
          go_simp
        | true =>
          have HF1 := Lib.hid hf1
          go_wp2_with fail
          refine (areFinite_any s2 n2 c2 ys hy hn2 _ (HA2.out.ext (HX.out.trans HX2.out))).mono ?_
          rintro e w3 ⟨rfl, hX3⟩
          have HX3 := Lib.hid (HX2.out.trans hX3)
          clear d0 d1 d2 f0 f1 f2 p3 hX3
          cases hf2 : ys.all finB with
          | false =>
            have HR : Hid (nearOk W H n2 n2 xs ys = false) := by show _ = _; simp only [nearOk, ctrOk, hf2]; simp
            obtain ⟨⟨d0, d1, d2⟩, f0, f1, f2⟩ := block3 (HX3.out.block B4.out)
            clear hs hl hf1 hf2
            go_wp2
            refine bodyPost_ret (v := .tuple #[.agg #[.int .i64 0, .int .i64 0, .slice none 0 0], .bool false]) ?_ rfl (keepH_no HR.out ⟨none, 0, 0, rfl, HNO.out _ HX3.out, World.ownsRow_nil _ _ _ _, rfl, by omega⟩)
            simp only [results, Try.results9]
            go_simp
          | true =>
            have HR : Hid (nearOk W H n2 n2 xs ys = true) := by show _ = _; simp only [nearOk, ctrOk, hf1, hf2, hs, hl]; simp
            have hnb := inB_iff.1 hl
            obtain ⟨r0, _⟩ := block1 (HX3.out.block B0.out)
            obtain ⟨r1, _⟩ := block1 (HX3.out.block B1.out)
            obtain ⟨⟨ss1, ss2⟩, ss3, ss4⟩ := szG_iff.1 HS.out
            have HXX := Lib.hid hx
            have HYY := Lib.hid hy
            clear hs hl hf1 hf2 hx hy
            go_wp2_with fail
            refine (grown_any W H 33 #[.pointer (some ⟨w.heap.size + 2, 0, none⟩), .pointer (some ⟨w.heap.size, 0, none⟩), .pointer (some ⟨w.heap.size + 3, 0, none⟩), .pointer (some ⟨w.heap.size + 1, 0, none⟩)] (nearG W H xs ys) HS.out _ (fun args u => by go_simp) (fun x y w' hw x0 x1 y0 y1 => ?_)).mono ?_
            · have hE := HX3.out.trans hw
              simpa using near1_any W H x y s1 s2 n2 c1 c2 xs ys HXX.out HYY.out (by omega) (by omega) HS.out x0 x1 y0 y1 _ _ _ _ w' (HA1.out.ext (HX.out.trans hE)) (HA2.out.ext (HX.out.trans hE)) (hE.block B2.out) (hE.block B0.out) (hE.block B3.out) (hE.block B1.out)
            rintro e w4 ⟨a', n', c', rfl, hX4, hO, hll, hle⟩
            change w4.ownsRow w3.heap.size 2 1 (.slice a' n' c') n' (ints (nearZ W H xs ys)) at hO
            change (nearZ W H xs ys).length = n' at hll
            generalize nearZ W H xs ys = zz at *
            obtain ⟨⟨d0, d1, d2⟩, f0, f1, f2⟩ := block3 ((HX3.out.trans hX4).block B4.out)
            obtain ⟨HE, HO⟩ := stored3 (T := 25) (u0 := .int .i64 W) (u1 := .int .i64 H) (u2 := .slice a' n' c') (HX.out.trans (HX3.out.trans hX4)) (by decide) (by omega) ((HX3.out.trans hX4).block B4.out) (ownsRow_mono hO (HX.out.trans HX3.out).size)
            have HE' := Lib.hid HE
            have HO' := Lib.hid HO
            have HLL := Lib.hid hll
            clear HE HO hll hX4 hO r0 r1
            go_wp2
            refine bodyPost_ret (v := .tuple #[.agg #[.int .i64 W, .int .i64 H, .slice a' n' c'], .bool true]) ?_ rfl (keepH_yes HR.out ⟨a', n', c', rfl, HE'.out, HO'.out, HLL.out, hle⟩)
            simp only [results, Try.results9]
            go_simp
      · have HR : Hid (nearOk W H n1 n2 xs ys = false) := by show _ = _; simp [nearOk, ctrOk, hm]
        clear hs hl
        go_wp2_with (go_at_call 30; refine (within_any _ _ _ _).mono ?_; rw [HL.out]; rintro e w' ⟨rfl, rfl⟩)
        refine bodyPost_ret (v := .tuple #[.agg #[.int .i64 0, .int .i64 0, .slice none 0 0], .bool false]) ?_ rfl (keepH_no HR.out ⟨none, 0, 0, rfl, HNO.out _ (Ext.refl _), World.ownsRow_nil _ _ _ _, rfl, by omega⟩)
        simp only [results, Try.results9]
        go_simp
end Go.Proofs.Ytpmcjojipbiinaa
