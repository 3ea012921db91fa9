/-
  BorderOf, by the program.
-/
import Derived.Test.YtllpbkmdcaikoaaFlQ
namespace Go.Proofs.Ytllpbkmdcaikoaa
open Go.RowKit
set_option linter.unusedVariables false
set_option linter.unusedSimpArgs false
set_option linter.unnecessarySimpa false

set_option maxRecDepth 100000 in
set_option maxHeartbeats 4000000 in
theorem implBorder_any (W H : Int) (R : Bool) (l : Nat) (a : Option Addr) (n c : Nat) (zs : List Nat) (hz : zs.length = n) (hn : n ≤ 1048576) (w : World) (hA : VArr w a (flts zs)) :
    Calls Try.prog 46 #[.agg #[.int .i64 W, .int .i64 H, .bool R, .slice a n c], .float .f32 l] w (listP w (boL W H R zs n l) (boP W H R zs n l) (vldF W H n)) := by
  obtain ⟨i0, hin, hz0, hz1, hz2⟩ := info_parts info64
  have hX := (Ext.refl w).alloc (.cells #[.int .i64 W, .int .i64 H, .bool R, .slice a n c] 27)
  have b0 := heap_new w (.cells #[.int .i64 W, .int .i64 H, .bool R, .slice a n c] 27)
  have hA1 := hA.ext hX
  go_enter Try.func46, Try.ntmps46
  go_wp2_with fail
  refine (implValidF_any W H R a n c (by omega) _).mono ?_
  generalize w.alloc (.cells #[.int .i64 W, .int .i64 H, .bool R, .slice a n c] 27) = w0 at *
  rintro e w1 ⟨rfl, hX1⟩
  cases hv : vldF W H n with
  | false =>
    have HV := Lib.hid hv
    have HE := Lib.hid (hX.trans hX1)
    clear hX hX1 b0 hA hA1 hv hz
    go_wp2
    refine bodyPost_ret (v := .tuple #[.slice none 0 0, .int .i64 0, .bool false]) ?_ rfl ⟨none, 0, 0, by rw [HV.out, boP_no HV.out], HE.out, by rw [boL_no HV.out]; exact World.ownsRow_nil _ _ _ _, by rw [boL_no HV.out]; rfl, by omega⟩
    simp only [results, Try.results46]
    go_simp
  | true =>
    obtain ⟨Wn, Hn, rfl, rfl, k1, k2, k3, k4, hnn, hn256⟩ := vldF_facts hv
    have hn1 : 0 < n := by rw [hnn]; exact Nat.mul_pos (by omega) (by omega)
    obtain ⟨b, o, rfl⟩ := hA.starts (i := 0) (by simp; omega)
    have HNN := Lib.hid hnn
    have HV := Lib.hid hv
    have HZ := Lib.hid hz
    have HA := Lib.hid (hA1.ext hX1)
    have HB := Lib.hid (hX1.block b0)
    have HX := Lib.hid (hX.trans hX1)
    have hXa := (Ext.refl w1).alloc (.cells #[] 2)
    have r0 := ownsRow_emptyF (B := w1.heap.size) (Nat.le_refl _) (heap_new w1 (.cells #[] 2))
    obtain ⟨⟨c0, c1, c2, c3⟩, _⟩ := block4 HB.out
    have lb := lt_of_block HB.out
    clear hX hX1 b0 hA hA1 hv hz hnn
    go_wp2
    clear c0 c1 c2 c3 lb
    generalize hq1 : w1.heap.size = q1 at *
    generalize w1.alloc (.cells #[] 2) = w2 at *
    subst hq1
    go_loopw [7, 8, 21] (fun s pv i wr => ∃ (k : Nat) (a' : Option Addr) (m c' : Nat), k ≤ n ∧ i = .int .i64 k ∧ s = .slice a' m c' ∧ pv = .int .i64 (bdP Wn Hn R zs l k : Nat) ∧ m ≤ k ∧ Ext w1 wr ∧ wr.ownsRow w1.heap.size 2 1 (.slice a' m c') m (ints (bdO Wn Hn R zs l k))) (fun _ _ i _ => n - (intOf i).toNat)
    case atStart => exact ⟨0, _, _, _, Nat.zero_le _, rfl, rfl, rfl, Nat.le_refl _, hXa, by simpa [bdO, ints] using r0⟩
    case round =>
      obtain ⟨k, a', m, c', hk, rfl, rfl, rfl, hm, hX, hO⟩ := hrel
      clear hXa r0
      have HX2 := Lib.hid hX
      have HO := Lib.hid hO
      have hbP := bdP_bd Wn Hn R zs l k
      by_cases hlt : k < n
      · have hca := (HA.out.ext hX).ofFlts k (by rw [HZ.out]; exact hlt)
        rw [List.getD_eq_getElem?_getD] at hca
        obtain ⟨⟨c0, c1, c2, c3⟩, _⟩ := block4 (hX.block HB.out)
        clear hX hO
        cases hge : geB (zs[k]?.getD 0) l with
        | false =>
          have HS1 := Lib.hid (bdO_skip (Wn := Wn) (H := Hn) (R := R) hge)
          have HS2 := Lib.hid (bdP_skip (Wn := Wn) (H := Hn) (R := R) hge)
          unfold geB at hge
          generalize zs[k]?.getD 0 = za at *
          go_wp2
          go_roundw
          case rel => exact ⟨k + 1, a', m, c', by omega, by go_num, rfl, by rw [HS2.out], by omega, HX2.out, by rw [HS1.out]; exact HO.out⟩
          case measure => simp [intOf]; omega
        | true =>
          have HGE' := Lib.hid hge
          obtain ⟨za, hza⟩ : ∃ za, zs[k]?.getD 0 = za := ⟨_, rfl⟩
          rw [hza] at hge hca
          have HZA := Lib.hid hza
          clear hza
          unfold geB at hge
          go_wp2_with fail
          clear c0 c1 c2 c3
          refine (neighbours_any Wn Hn k R _ n c ⟨k1, k2⟩ ⟨k3, k4⟩ (by rw [← HNN.out]; exact hlt) _).mono ?_
          rintro e w5 ⟨a5, m5, c5, rfl, hX5, hO5⟩
          have HX5 := Lib.hid (HX2.out.trans hX5)
          have HO5 := Lib.hid (ownsRow_ext HO.out hX5)
          obtain ⟨M, hM⟩ : ∃ M, (nbL Wn Hn R k).filter (fun z => z != (k : Int)) = M := ⟨_, rfl⟩
          rw [hM] at hO5
          have hMl : M.length = m5 := by have := (ownsRow_len hO5).1; rw [this]; simp
          have HML := Lib.hid hMl
          have HM := Lib.hid hM
          have hm5 : m5 ≤ 4 := by rw [← hMl, ← hM]; exact Nat.le_trans (List.length_filter_le _ _) (by rw [nbL_length]; omega)
          have HY := Lib.hid hO5
          clear hX5 hO5 HX2 HO hca hMl hM
          have HBC : Hid (bcnt Wn Hn R zs l k = cntP (fun z => !gv zs l z) M m5) := by show _ = _; rw [bcnt_two, HM.out, HML.out]
          have HP2 := Lib.hid (bdP_yes (Wn := Wn) (H := Hn) (R := R) (l := l) (k := k) HGE'.out)
          generalize hpp : bdP Wn Hn R zs l k = pp at *
          have HPP := Lib.hid hpp
          clear hpp
          go_wp2
          go_loopw [8, 35] (fun v j wr => ∃ (q : Nat), q ≤ m5 ∧ j = .int .i64 q ∧ v = .int .i64 ((pp + cntP (fun z => !gv zs l z) M q : Nat) : Int) ∧ Ext w5 wr) (fun _ j _ => m5 - (intOf j).toNat)
          case atStart => exact ⟨0, Nat.zero_le _, rfl, by rw [cntP_zero]; rfl, Ext.refl _⟩
          case round =>
            obtain ⟨q, hq, rfl, rfl, hX6⟩ := hrel
            have HX6 := Lib.hid hX6
            have hqle := cntP_le (fun z => !gv zs l z) M q
            by_cases hlt2 : q < m5
            · obtain ⟨g5, rfl, _, _⟩ := own_int HY.out (k := 0) (by rw [HML.out]; omega)
              have hyc := (own_int_atF (ownsRow_ext HY.out hX6) (k := q) (by rw [HML.out]; exact hlt2)).1
              obtain ⟨⟨d0, d1, d2, d3⟩, _⟩ := block4 ((HX5.out.trans hX6).block HB.out)
              obtain ⟨nb0, nb1⟩ := nbF_bd (i := k) R k1 k3 M HM.out.symm (j := q) (by rw [HML.out]; exact hlt2)
              have HCY : Hid ((fun z => !gv zs l z) (M[q]?.getD 0) = true → cntP (fun z => !gv zs l z) M (q + 1) = cntP (fun z => !gv zs l z) M q + 1) := fun h => cntP_yes (by rw [HML.out]; exact hlt2) h
              have HCN : Hid ((fun z => !gv zs l z) (M[q]?.getD 0) = false → cntP (fun z => !gv zs l z) M (q + 1) = cntP (fun z => !gv zs l z) M q) := fun h => cntP_no (by rw [HML.out]; exact hlt2) h
              clear hX6
              generalize M[q]?.getD 0 = z at *
              generalize hcq : cntP (fun z => !gv zs l z) M q = cq at *
              have HCQ := Lib.hid hcq
              clear hcq
              obtain ⟨zn, rfl⟩ := Int.eq_ofNat_of_zero_le nb0
              have hzn : zn < n := by have := HNN.out; omega
              have hcv := (HA.out.ext (HX5.out.trans HX6.out)).ofFlts zn (by rw [HZ.out]; exact hzn)
              rw [List.getD_eq_getElem?_getD] at hcv
              cases hgv : geB (zs[zn]?.getD 0) l with
              | true =>
                have HN := Lib.hid (HCN.out (by simp [gv, hgv]))
                clear HCN HCY nb1
                unfold geB at hgv
                generalize zs[zn]?.getD 0 = zv at *
                go_wp2
                go_roundw
                case rel => exact ⟨q + 1, by omega, by go_num, by rw [HN.out], HX6.out⟩
                case measure => simp [intOf]; omega
              | false =>
                have HN := Lib.hid (HCY.out (by simp [gv, hgv]))
                clear HCN HCY nb1
                unfold geB at hgv
                generalize zs[zn]?.getD 0 = zv at *
                go_wp2
                go_roundw
                case rel => exact ⟨q + 1, by omega, by go_num, by rw [HN.out]; simp; omega, HX6.out⟩
                case measure => simp [intOf]; omega
            · obtain rfl : q = m5 := by omega
              have HX7 := Lib.hid (HX5.out.trans hX6)
              have HO7 := Lib.hid (ownsRow_ext HO5.out hX6)
              clear hX6 HX6
              generalize cntP (fun z => !gv zs l z) M q = cq at *
              by_cases hcq : 0 < cq
              · have HO2 := Lib.hid (bdO_yes (Wn := Wn) (H := Hn) (R := R) (l := l) (k := k) HGE'.out (by rw [HBC.out]; exact hcq))
                have e0 : decide ((pp : Int) < ((pp + cq : Nat) : Int)) = true := by simp; omega
                have e1 : decide ((pp : Int) < (pp : Int) + (cq : Int)) = true := by simp; omega
                have hYa := (Ext.refl wr).alloc (.cells #[.int .i64 k] 2)
                have bY := cell_one_at (heap_new wr (.cells #[.int .i64 k] 2))
                have HX8 := Lib.hid (HX7.out.trans hYa)
                have HO8 := Lib.hid (ownsRow_ext HO7.out hYa)
                have HU := Lib.hid HX8.out.size
                clear hYa HX7 HO7
                go_wp2_with (at_builtin; refine wpList_append_own _ rfl _ _ 47 rfl w1.heap.size 2 i0 (.int .i64 0) 1 8 Try.underlying47 hin hz0 hz1 hz2 rfl (by decide) (.slice a' m c') m _ rfl HO8.out ⟨_, 0, none⟩ 1 1 [.int .i64 k] rfl rfl ?c1 ?c2 ?c3 ?c4 ?c5 ?_)
                case c1 => exact bY
                case c2 => intro u hu; simp at hu; subst hu; rfl
                case c3 => unfold maxLen; omega
                case c4 => omega
                case c5 => exact HU.out
                intro v' w9 hown hg _
                obtain ⟨a3, c3', rfl⟩ := ownsRow_shape hown
                have E9 := Lib.hid (Ext.rowv HX8.out HO8.out (Nat.le_refl _) hg)
                have O9 := Lib.hid hown
                clear hown hg HX8 HO8 bY HU
                go_wp2
                go_roundw
                case rel =>
                  refine ⟨k + 1, a3, m + 1, c3', by omega, by go_num, rfl, by (rw [HP2.out, HBC.out]; first | done | rfl | simp), by omega, E9.out, ?_⟩
                  have h := O9.out
                  rw [HO2.out, ints_appendF]
                  exact h
                case measure => simp [intOf]; omega
              · have HO2 := Lib.hid (bdO_no (Wn := Wn) (H := Hn) (R := R) (xs := zs) (l := l) (k := k) (by rw [HBC.out]; exact hcq))
                have e0 : decide ((pp : Int) < ((pp + cq : Nat) : Int)) = false := by simp; omega
                have e1 : decide ((pp : Int) < (pp : Int) + (cq : Int)) = false := by simp; omega
                go_wp2
                go_roundw
                case rel => exact ⟨k + 1, a', m, c', by omega, by go_num, rfl, by (rw [HP2.out, HBC.out]; first | done | rfl | simp), by omega, HX7.out, by rw [HO2.out]; exact HO7.out⟩
                case measure => simp [intOf]; omega
      · obtain rfl : k = n := by omega
        clear hX hO
        have hol := bdO_len Wn Hn R zs l k
        have hml := (ownsRow_len HO.out).1
        have HML : Hid ((bdO Wn Hn R zs l k).length = m) := by show _ = _; rw [hml]; simp
        clear hml
        go_wp2
        refine bodyPost_ret (v := .tuple #[.slice a' m c', .int .i64 (bdP Wn Hn R zs l k : Nat), .bool true]) ?_ rfl ⟨a', m, c', by rw [HV.out, boP_yes HV.out]; rfl, HX.out.trans HX2.out, by rw [boL_yes HV.out]; exact ownsRow_mono HO.out HX.out.size, by rw [boL_yes HV.out]; exact HML.out, by omega⟩
        simp only [results, Try.results46]
        go_simp
end Go.Proofs.Ytllpbkmdcaikoaa
