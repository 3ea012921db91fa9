/-
  R8Field: a field in quarters.
-/
import Derived.Test.YtllpbkmdcaikoaaFtC
import Derived.StillTail
namespace Go.Proofs.Ytllpbkmdcaikoaa
open Go.RowKit
set_option linter.unusedVariables false
set_option linter.unusedSimpArgs false
set_option linter.unnecessarySimpa false

/-- Words of quarters. -/
def qws (xs : List Nat) : Prop := ∀ k, k < xs.length → ∃ z : Int, -8 ≤ z ∧ z ≤ 8 ∧ xs[k]?.getD 0 = qb z
theorem qws_nil : qws [] := fun k h => by simp at h
theorem qws_push {xs : List Nat} {z : Int} (h : qws xs) (h1 : -8 ≤ z) (h2 : z ≤ 8) : qws (xs ++ [qb z]) := fun k hk => by
  by_cases h3 : k < xs.length
  · rw [List.getElem?_append_left h3]; exact h k h3
  · simp at hk
    obtain rfl : k = xs.length := by omega
    rw [List.getElem?_append_right (Nat.le_refl _)]
    exact ⟨z, h1, h2, by simp⟩

set_option maxRecDepth 100000 in
set_option maxHeartbeats 4000000 in
theorem r8Field_any (s : Option Addr) (n c : Nat) (zs : List Int) (hz : zs.length = n) (hn : n ≤ 1048576) (hw : wfB zs) (w : World) (hA : VArr w s (byts zs)) :
    Calls Try.prog 53 #[.slice s n c] w fun e w' => ∃ W H R a m d xs, e = .returned (.agg #[.int .i64 W, .int .i64 H, .bool R, .slice a m d]) ∧ Ext w w' ∧ w'.ownsRow w.heap.size 30 1 (.slice a m d) m (flts xs) ∧ xs.length = m ∧ vldF W H m = true ∧ W ≤ 6 ∧ H ≤ 5 ∧ qws xs := by
  obtain ⟨i0, hi, hz0, hz1, hz2⟩ := info_parts info32
  have hX0 := (Ext.refl w).alloc (.cells #[.int .i64 0, .int .i64 0, .bool false, .slice none 0 0] 27)
  have b0 := heap_new w (.cells #[.int .i64 0, .int .i64 0, .bool false, .slice none 0 0] 27)
  have HA := Lib.hid hA
  have HW := Lib.hid hw
  have HZ := Lib.hid hz
  clear hA hw hz
  go_enter Try.func53, Try.ntmps53
  go_wp2_with fail
  refine (l00From_any s n c _).mono ?_
  generalize w.alloc (.cells #[.int .i64 0, .int .i64 0, .bool false, .slice none 0 0] 27) = w0 at *
  rintro e w1 ⟨p, rfl, hX1, hp0, hs1⟩
  have hr0 := lt_of_block b0
  have E1 := Lib.hid (hX0.trans hX1)
  have B1 := Lib.hid (hX1.block b0)
  have hp : w.heap.size ≤ p := by omega
  have hrp : w.heap.size ≠ p := by omega
  have S1 := Lib.hid hs1
  clear hX0 hX1 b0 hs1
  go_wp2_with fail
  refine (pick_any w p s n c zs 0 6 HZ.out hn HW.out (by omega) (by omega) (by omega) HA.out _ E1.out hp S1.out).mono ?_
  rintro e w2 ⟨x1, rfl, x10, x11, hg, hs2⟩
  have E2 := Lib.hid (E1.out.touch hp hg)
  have B2 := Lib.hid (block_touch B1.out hrp hg)
  have S2 := Lib.hid hs2
  clear hg hs2 E1 B1 S1
  go_wp2_with fail
  refine (pick_any w p s n c zs _ 5 HZ.out hn HW.out (by omega) (by omega) (by omega) HA.out _ E2.out hp S2.out).mono ?_
  rintro e w3 ⟨x2, rfl, x20, x21, hg, hs3⟩
  have E3 := Lib.hid (E2.out.touch hp hg)
  have B3 := Lib.hid (block_touch B2.out hrp hg)
  have S3 := Lib.hid hs3
  clear hg hs3 E2 B2 S2
  go_wp2_with fail
  refine (one_any w p s n c zs _ 2 HZ.out hn HW.out (by omega) (by omega) (by omega) HA.out _ E3.out hp S3.out).mono ?_
  rintro e w4 ⟨R, rfl, hg, hs4⟩
  have E4 := Lib.hid (E3.out.touch hp hg)
  have B4 := Lib.hid (block_touch B3.out hrp hg)
  have S4 := Lib.hid hs4
  clear hg hs4 E3 B3 S3
  obtain ⟨W, hWd⟩ : ∃ W : Int, 1 + x1 = W := ⟨_, rfl⟩
  obtain ⟨H, hHd⟩ : ∃ H : Int, 1 + x2 = H := ⟨_, rfl⟩
  rw [hWd, hHd]
  have w1' : 1 ≤ W := by omega
  have w2' : W ≤ 6 := by omega
  have h1' : 1 ≤ H := by omega
  have h2' : H ≤ 5 := by omega
  clear hWd hHd x10 x11 x20 x21
  have hm1 : 0 ≤ W * H := Int.mul_nonneg (by omega) (by omega)
  have hm2 : W * H ≤ 30 := by
    have := Int.mul_le_mul w2' h2' (by omega) (by omega); omega
  obtain ⟨M, hM⟩ := Int.eq_ofNat_of_zero_le hm1
  go_wp2_with fail
  refine (l02New_any W H R _).mono ?_
  rintro e w5 ⟨bb, rfl, hX5, hbb, hO⟩
  have hXa := (Ext.refl w5).alloc (.cells #[.int .i64 W, .int .i64 H, .bool R, .slice (some ⟨bb, 0, none⟩) 0 0] 27)
  have bq := heap_new w5 (.cells #[.int .i64 W, .int .i64 H, .bool R, .slice (some ⟨bb, 0, none⟩) 0 0] 27)
  have hs5 : SrcAt (w5.alloc (.cells #[.int .i64 W, .int .i64 H, .bool R, .slice (some ⟨bb, 0, none⟩) 0 0] 27)) p s n c (3 + (0 : Nat)) := ⟨_, (hX5.trans hXa).block S4.out.choose_spec⟩
  have hp5 : p < w5.heap.size := Nat.lt_of_lt_of_le (lt_of_block S4.out.choose_spec) hX5.size
  have hw4 := E4.out.size
  have F0 : FillF w w.heap.size w5.heap.size W H R [] (w5.alloc (.cells #[.int .i64 W, .int .i64 H, .bool R, .slice (some ⟨bb, 0, none⟩) 0 0] 27)) 0 :=
    ⟨E4.out.trans (hX5.trans hXa), (hX5.trans hXa).block B4.out, _, 0, bq, ownsRow_ext (ownsRow_mono hO E4.out.size) hXa⟩
  clear hX5 hXa bq hO hbb E4 B4 S4
  go_wp2
  generalize w5.alloc (.cells #[.int .i64 W, .int .i64 H, .bool R, .slice (some ⟨bb, 0, none⟩) 0 0] 27) = w6 at *
  have hwq : w.heap.size < w5.heap.size := by omega
  have hqp : w5.heap.size ≠ p := by omega
  have hpq : p ≠ w5.heap.size := by omega
  generalize w5.heap.size = q at *
  go_loopw [7] (fun i wr => ∃ (k : Nat) (xs : List Nat), k ≤ M ∧ i = .int .i64 k ∧ qws xs ∧ SrcAt wr p s n c (3 + k) ∧ FillF w w.heap.size q W H R xs wr k) (fun i _ => M - (intOf i).toNat)
  case atStart => exact ⟨0, [], Nat.zero_le _, rfl, qws_nil, hs5, F0⟩
  case round =>
    obtain ⟨k, xs, hk, rfl, hqs, hS, hF⟩ := hrel
    clear F0 hs5
    obtain ⟨hX, hR, a', c', hB, hO⟩ := hF
    by_cases hlt : k < M
    · have hwd := (Ext.refl wr).drew
      have ED := Lib.hid hX.drew
      have RD := Lib.hid (hwd.block hR)
      have BD := Lib.hid (hwd.block hB)
      have OD := Lib.hid (ownsRow_ext hO hwd)
      have SD : Hid (SrcAt wr.drew p s n c (3 + k)) := ⟨_, hwd.block hS.choose_spec⟩
      have HCALL := Lib.hid (pick_any w p s n c zs (3 + k) 17 HZ.out hn HW.out (by omega) (by omega) (by omega) HA.out _ ED.out hp SD.out)
      clear hX hR hB hO hS hwd
      go_wp2_with fail
      refine wp_region_any (by kernel_rfl) ?_
      change wpAny _ _ _ _ _ _ _ wr.drew
      generalize wr.drew = wd at *
      refine wpAny_take (i := 0) (v := ?_) rfl (by kernel_rfl) (by kernel_rfl) (by kernel_rfl) (fun _ _ _ h => h) (Or.inl ⟨by rfl, ?_⟩) ?_
      rotate_left
      · intro w
        go_simp
        rfl
      refine wpAny_take (i := 2) (v := ?_) rfl (by kernel_rfl) (by kernel_rfl) (by kernel_rfl) (fun _ _ _ h => h) (Or.inl ⟨by rfl, ?_⟩) ?_
      rotate_left
      · intro w
        go_simp
        rfl
      obtain ⟨⟨_, _, _, d3⟩, _⟩ := block4 BD.out
      refine wpAny_ready (rs := [1, 3]) (by kernel_rfl) (by simp) (AllReady.cons rfl (fun K hK => ?_) (AllReady.cons rfl (fun K hK => ?_) AllReady.nil))
      · go_simp
        refine hK _ _ ?_
        clear hK K
        refine wpAny_ready (rs := [3]) (by kernel_rfl) (by simp) (AllReady.cons rfl (fun K hK => ?_) AllReady.nil)
        go_simp
        refine HCALL.out.mono ?_
        rintro e u1 ⟨z, rfl, z0, z1, hg, hs⟩
        have hq := q_word (a := z - 8) (by omega)
        have hwr : IntKind.i64.wrap (z - 8) = z - 8 := wrapS (by omega) (by omega)
        have EU := Lib.hid (ED.out.touch hp hg)
        have RU := Lib.hid (block_touch RD.out hrp hg)
        have BU := Lib.hid (block_touch BD.out hqp hg)
        have OU := Lib.hid (row_touch (by decide) OD.out SD.out.choose_spec hg)
        have SU := Lib.hid hs
        clear hg hs HCALL
        obtain ⟨⟨_, _, _, g3⟩, _⟩ := block4 BU.out
        go_simp
        refine hK _ _ ?_
        clear hK K
        refine wpAny_take (i := 4) (v := ?_) rfl (by kernel_rfl) (by kernel_rfl) (by kernel_rfl) (fun _ _ _ h => h) (Or.inl ⟨by rfl, ?_⟩) ?_
        rotate_left
        · intro w
          go_simp
          rfl
        refine wpAny_take (i := 5) (v := ?_) rfl (by kernel_rfl) (by kernel_rfl) (by kernel_rfl) (fun _ _ _ h => h) (Or.inl ⟨by rfl, ?_⟩) ?_
        rotate_left
        · intro w
          go_simp
          rfl
        refine wpAny_take (i := 6) (v := .float .f32 (qb (z - 8))) rfl (by kernel_rfl) (by kernel_rfl) (by kernel_rfl) (fun _ _ _ h => h) (Or.inl ⟨by rfl, ?_⟩) ?_
        · intro w
          go_simp
          simp only [frr, frn, hwr, hq]
          exact ⟨trivial, rfl⟩
        have hY := (Ext.refl u1).alloc (.cells #[.float .f32 (qb (z - 8))] 30)
        have hb3 := heap_new u1 (.cells #[.float .f32 (qb (z - 8))] 30)
        have HEY := Lib.hid (EU.out.trans hY)
        have HRY := Lib.hid (hY.block RU.out)
        have HBY := Lib.hid (hY.block BU.out)
        have HOY := Lib.hid (ownsRow_ext OU.out hY)
        have HSY : Hid (SrcAt (u1.alloc (.cells #[.float .f32 (qb (z - 8))] 30)) p s n c (3 + k + 1)) := ⟨_, hY.block SU.out.choose_spec⟩
        clear hY
        have HU := Lib.hid HEY.out.size
        refine wpAny_of_seq _ 7 _ _ _ (fun j => ?_) (by kernel_rfl) ?_
        · rcases j with _ | _ | _ | _ | j
          · rfl
          · rfl
          · rfl
          · rfl
          · exact (List.getElem?_eq_none (by simp)).trans (Array.getElem?_eq_none (by simp; omega)).symm
        go_simp
        go_wp2_with (at_builtin; refine wpList_append_own _ rfl _ _ 22 rfl w.heap.size 30 i0 (.float .f32 0) 1 4 Try.underlying22 hi hz0 hz1 hz2 rfl (by decide) (.slice a' k c') k (flts xs) rfl HOY.out ⟨u1.heap.size, 0, none⟩ 1 1 [.float .f32 (qb (z - 8))] rfl rfl ?c1 ?c2 ?c3 ?c4 ?c5 ?_)
        case c1 => exact cell_one_at hb3
        case c2 => intro u hu; simp at hu; subst hu; rfl
        case c3 => unfold maxLen; omega
        case c4 => omega
        case c5 => exact HU.out
        intro v' w6 hown hg _
        obtain ⟨a2, c2', rfl⟩ := ownsRow_shape hown
        have HF := Lib.hid (FillF.push (z := qb (z - 8)) HEY.out (show w.heap.size ≤ q by omega) hwq HRY.out HBY.out HOY.out hown hg)
        have hap := appended HEY.out HOY.out hg
        have HS6 : Hid (SrcAt (w6.setCell ⟨q, 3, none⟩ (.slice a2 (k + 1) c2')) p s n c (3 + k + 1)) := ⟨_, (cells_setOther hpq _).trans (hap.2 (by decide) HSY.out.choose_spec)⟩
        have hb4 := hap.2 (by decide) HBY.out
        obtain ⟨⟨_, _, _, c3⟩, _, _, _, f3⟩ := block4 hb4
        clear hb4 hown hg hap HEY HRY HBY HOY HSY HU hb3
        go_wp2
        go_roundw
        case rel => exact ⟨k + 1, _, by omega, by go_num, qws_push hqs (by omega) (by omega), (by have e : (3 : Int) + ((k + 1 : Nat) : Int) = 3 + k + 1 := (by omega); rw [e]; exact HS6.out), HF.out⟩
        case measure => simp [intOf]; omega
      · go_simp
        refine HCALL.out.mono ?_
        rintro e u1 ⟨z, rfl, z0, z1, hg, hs⟩
        have hq := q_word (a := z - 8) (by omega)
        have hwr : IntKind.i64.wrap (z - 8) = z - 8 := wrapS (by omega) (by omega)
        have EU := Lib.hid (ED.out.touch hp hg)
        have RU := Lib.hid (block_touch RD.out hrp hg)
        have BU := Lib.hid (block_touch BD.out hqp hg)
        have OU := Lib.hid (row_touch (by decide) OD.out SD.out.choose_spec hg)
        have SU := Lib.hid hs
        clear hg hs HCALL
        obtain ⟨⟨_, _, _, g3⟩, _⟩ := block4 BU.out
        go_simp
        refine hK _ _ ?_
        clear hK K
        refine wpAny_take (i := 4) (v := ?_) rfl (by kernel_rfl) (by kernel_rfl) (by kernel_rfl) (fun _ _ _ h => h) (Or.inl ⟨by rfl, ?_⟩) ?_
        rotate_left
        · intro w
          go_simp
          rfl
        refine wpAny_take (i := 5) (v := ?_) rfl (by kernel_rfl) (by kernel_rfl) (by kernel_rfl) (fun _ _ _ h => h) (Or.inl ⟨by rfl, ?_⟩) ?_
        rotate_left
        · intro w
          go_simp
          rfl
        refine wpAny_take (i := 6) (v := .float .f32 (qb (z - 8))) rfl (by kernel_rfl) (by kernel_rfl) (by kernel_rfl) (fun _ _ _ h => h) (Or.inl ⟨by rfl, ?_⟩) ?_
        · intro w
          go_simp
          simp only [frr, frn, hwr, hq]
          exact ⟨trivial, rfl⟩
        refine wpAny_ready (rs := [1, 7]) (by kernel_rfl) (by simp) (AllReady.cons rfl (fun K hK => ?_) (AllReady.cons rfl (fun K hK => ?_) AllReady.nil))
        · go_simp
          refine hK _ _ ?_
          clear hK K
          have hY := (Ext.refl u1).alloc (.cells #[.float .f32 (qb (z - 8))] 30)
          have hb3 := heap_new u1 (.cells #[.float .f32 (qb (z - 8))] 30)
          have HEY := Lib.hid (EU.out.trans hY)
          have HRY := Lib.hid (hY.block RU.out)
          have HBY := Lib.hid (hY.block BU.out)
          have HOY := Lib.hid (ownsRow_ext OU.out hY)
          have HSY : Hid (SrcAt (u1.alloc (.cells #[.float .f32 (qb (z - 8))] 30)) p s n c (3 + k + 1)) := ⟨_, hY.block SU.out.choose_spec⟩
          clear hY
          have HU := Lib.hid HEY.out.size
          refine wpAny_of_seq _ 7 _ _ _ (fun j => ?_) (by kernel_rfl) ?_
          · rcases j with _ | _ | _ | _ | j
            · rfl
            · rfl
            · rfl
            · rfl
            · exact (List.getElem?_eq_none (by simp)).trans (Array.getElem?_eq_none (by simp; omega)).symm
          go_simp
          go_wp2_with (at_builtin; refine wpList_append_own _ rfl _ _ 22 rfl w.heap.size 30 i0 (.float .f32 0) 1 4 Try.underlying22 hi hz0 hz1 hz2 rfl (by decide) (.slice a' k c') k (flts xs) rfl HOY.out ⟨u1.heap.size, 0, none⟩ 1 1 [.float .f32 (qb (z - 8))] rfl rfl ?c1 ?c2 ?c3 ?c4 ?c5 ?_)
          case c1 => exact cell_one_at hb3
          case c2 => intro u hu; simp at hu; subst hu; rfl
          case c3 => unfold maxLen; omega
          case c4 => omega
          case c5 => exact HU.out
          intro v' w6 hown hg _
          obtain ⟨a2, c2', rfl⟩ := ownsRow_shape hown
          have HF := Lib.hid (FillF.push (z := qb (z - 8)) HEY.out (show w.heap.size ≤ q by omega) hwq HRY.out HBY.out HOY.out hown hg)
          have hap := appended HEY.out HOY.out hg
          have HS6 : Hid (SrcAt (w6.setCell ⟨q, 3, none⟩ (.slice a2 (k + 1) c2')) p s n c (3 + k + 1)) := ⟨_, (cells_setOther hpq _).trans (hap.2 (by decide) HSY.out.choose_spec)⟩
          have hb4 := hap.2 (by decide) HBY.out
          obtain ⟨⟨_, _, _, c3⟩, _, _, _, f3⟩ := block4 hb4
          clear hb4 hown hg hap HEY HRY HBY HOY HSY HU hb3
          go_wp2
          go_roundw
          case rel => exact ⟨k + 1, _, by omega, by go_num, qws_push hqs (by omega) (by omega), (by have e : (3 : Int) + ((k + 1 : Nat) : Int) = 3 + k + 1 := (by omega); rw [e]; exact HS6.out), HF.out⟩
          case measure => simp [intOf]; omega
        · go_simp
          refine hK _ _ ?_
          clear hK K
          have hYY := (Ext.refl u1).alloc (.cells #[.float .f32 (qb (z - 8))] 30)
          obtain ⟨⟨_, _, _, k3⟩, _⟩ := block4 (hYY.block BU.out)
          clear hYY
          refine wpAny_ready (rs := [1]) (by kernel_rfl) (by simp) (AllReady.cons rfl (fun K hK => ?_) AllReady.nil)
          go_simp
          refine hK _ _ ?_
          clear hK K
          have hY := (Ext.refl u1).alloc (.cells #[.float .f32 (qb (z - 8))] 30)
          have hb3 := heap_new u1 (.cells #[.float .f32 (qb (z - 8))] 30)
          have HEY := Lib.hid (EU.out.trans hY)
          have HRY := Lib.hid (hY.block RU.out)
          have HBY := Lib.hid (hY.block BU.out)
          have HOY := Lib.hid (ownsRow_ext OU.out hY)
          have HSY : Hid (SrcAt (u1.alloc (.cells #[.float .f32 (qb (z - 8))] 30)) p s n c (3 + k + 1)) := ⟨_, hY.block SU.out.choose_spec⟩
          clear hY
          have HU := Lib.hid HEY.out.size
          refine wpAny_of_seq _ 8 _ _ _ (fun j => ?_) (by kernel_rfl) ?_
          · rcases j with _ | _ | _ | j
            · rfl
            · rfl
            · rfl
            · exact (List.getElem?_eq_none (by simp)).trans (Array.getElem?_eq_none (by simp; omega)).symm
          go_simp
          go_wp2_with (at_builtin; refine wpList_append_own _ rfl _ _ 22 rfl w.heap.size 30 i0 (.float .f32 0) 1 4 Try.underlying22 hi hz0 hz1 hz2 rfl (by decide) (.slice a' k c') k (flts xs) rfl HOY.out ⟨u1.heap.size, 0, none⟩ 1 1 [.float .f32 (qb (z - 8))] rfl rfl ?c1 ?c2 ?c3 ?c4 ?c5 ?_)
          case c1 => exact cell_one_at hb3
          case c2 => intro u hu; simp at hu; subst hu; rfl
          case c3 => unfold maxLen; omega
          case c4 => omega
          case c5 => exact HU.out
          intro v' w6 hown hg _
          obtain ⟨a2, c2', rfl⟩ := ownsRow_shape hown
          have HF := Lib.hid (FillF.push (z := qb (z - 8)) HEY.out (show w.heap.size ≤ q by omega) hwq HRY.out HBY.out HOY.out hown hg)
          have hap := appended HEY.out HOY.out hg
          have HS6 : Hid (SrcAt (w6.setCell ⟨q, 3, none⟩ (.slice a2 (k + 1) c2')) p s n c (3 + k + 1)) := ⟨_, (cells_setOther hpq _).trans (hap.2 (by decide) HSY.out.choose_spec)⟩
          have hb4 := hap.2 (by decide) HBY.out
          obtain ⟨⟨_, _, _, c3⟩, _, _, _, f3⟩ := block4 hb4
          clear hb4 hown hg hap HEY HRY HBY HOY HSY HU hb3
          go_wp2
          go_roundw
          case rel => exact ⟨k + 1, _, by omega, by go_num, qws_push hqs (by omega) (by omega), (by have e : (3 : Int) + ((k + 1 : Nat) : Int) = 3 + k + 1 := (by omega); rw [e]; exact HS6.out), HF.out⟩
          case measure => simp [intOf]; omega
    · obtain rfl : k = M := by omega
      obtain ⟨⟨e0, e1, e2, e3⟩, _⟩ := block4 hB
      obtain ⟨⟨d0, d1, d2, d3⟩, f0, f1, f2, f3⟩ := block4 hR
      obtain ⟨HE, HO⟩ := stored4 (T := 27) (u0 := .int .i64 W) (u1 := .int .i64 H) (u2 := .bool R) (u3 := .slice a' k c') hX (by decide) (by omega) hR hO
      have HE' := Lib.hid HE
      have HO' := Lib.hid HO
      have hlen : xs.length = k := by have := hO.1; simpa [flts] using this
      have hvl : vldF W H k = true := by
        rw [vldF_iff, szF_iff]
        exact ⟨⟨⟨w1', by omega⟩, h1', by omega⟩, by omega⟩
      clear hX hR hB hO HE HO hS
      go_wp2
      refine bodyPost_ret (v := .agg #[.int .i64 W, .int .i64 H, .bool R, .slice a' k c']) ?_ rfl ⟨W, H, R, a', k, c', xs, rfl, HE'.out, HO'.out, hlen, hvl, w2', h2', hqs⟩
      simp only [results, Try.results53]
      go_simp
end Go.Proofs.Ytllpbkmdcaikoaa
