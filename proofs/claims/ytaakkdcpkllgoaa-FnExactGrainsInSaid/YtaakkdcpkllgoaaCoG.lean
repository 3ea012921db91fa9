/-
  GrainsIn by the reference.
-/
import Derived.Test.YtaakkdcpkllgoaaCoF
import Derived.Test.YtaakkdcpkllgoaaCoH
namespace Go.Proofs.Ytaakkdcpkllgoaa
open Go.RowKit
set_option linter.unusedVariables false
set_option linter.unusedSimpArgs false
set_option linter.unnecessarySimpa false

set_option maxRecDepth 100000 in
set_option maxHeartbeats 8000000 in
theorem specGrn_any (W H : Int) (a : Option Addr) (n c : Nat) (zs : List Int) (hz : zs.length = n) (hn : n ≤ 1048576) (Z : List Int) (M : Nat) (hC : grnR W H zs n Z M) (w : World) (hA : VArr w a (ints zs)) :
    Calls Try.prog 52 #[.agg #[.int .i64 W, .int .i64 H, .slice a n c]] w (listP w Z (M : Nat) (vldG W H zs)) := by
  obtain ⟨i0, hi, hz0, hz1, hz2⟩ := info_parts info64
  have hX := (Ext.refl w).alloc (.cells #[.int .i64 W, .int .i64 H, .slice a n c] 24)
  have b0 := heap_new w (.cells #[.int .i64 W, .int .i64 H, .slice a n c] 24)
  have hA1 := hA.ext hX
  go_enter Try.func52, Try.ntmps52
  go_wp2_with fail
  refine (l04Is_any _ W H a n c zs hz (by omega) _ (block3 b0).1 hA1).mono ?_
  generalize w.alloc (.cells #[.int .i64 W, .int .i64 H, .slice a n c] 24) = w0 at *
  generalize hpp : w.heap.size = p at *
  have HPP := Lib.hid hpp
  clear hpp
  rintro e W0 ⟨rfl, hX1⟩
  cases hv : vldG W H zs with
  | false =>
    obtain ⟨rfl, rfl⟩ := grnR_no hC hv
    have HV := Lib.hid hv
    have HE := Lib.hid (hX.trans hX1)
    clear hX hX1 b0 hA hA1 hv hz hC
    go_wp2
    refine bodyPost_ret (v := .tuple #[.slice none 0 0, .int .i64 0, .bool false]) ?_ rfl ⟨none, 0, 0, by rw [HV.out]; rfl, HE.out, World.ownsRow_nil _ _ _ _, rfl, by omega⟩
    simp only [results, Try.results52]
    go_simp
  | true =>
    have HCR := Lib.hid (grnR_yes hC hv)
    obtain ⟨hW, hH, hnn, ⟨hn1, hn2⟩, _⟩ := vld_facts hv hz
    obtain ⟨Wn, rfl⟩ := Int.eq_ofNat_of_zero_le (show 0 ≤ W by omega)
    obtain ⟨Hn, rfl⟩ := Int.eq_ofNat_of_zero_le (show 0 ≤ H by omega)
    have hM : (Wn : Int) * Hn = n := hnn.symm
    have hnn' : n = Hn * Wn := by
      have : ((Hn * Wn : Nat) : Int) = Wn * Hn := by rw [Int.natCast_mul, Int.mul_comm]
      omega
    have k1 : 1 ≤ Wn := by omega
    have k2 : Wn ≤ 16 := by omega
    have k3 : 1 ≤ Hn := by omega
    have k4 : Hn ≤ 16 := by omega
    obtain ⟨b, o, rfl⟩ := hA.starts (i := 0) (by simp; omega)
    have HV := Lib.hid hv
    have HZ := Lib.hid hz
    have HA := Lib.hid (hA1.ext hX1)
    have HB0 := Lib.hid (hX1.block b0)
    have HX0 := Lib.hid (hX.trans hX1)
    have HNN := Lib.hid hnn'
    simp only [Int.toNat_natCast] at HCR
    have HAB : Hid (∀ j k, adjF Wn Hn true allC (sameJ zs) j k → k < n) := by
      intro j k h
      obtain ⟨i, hi, he⟩ := List.getElem_of_mem h.1
      have := (nbF_bd (i := j) true k1 k3 _ rfl hi).2
      rw [List.getElem?_eq_getElem hi, Option.getD_some, he] at this
      rw [HNN.out]
      exact_mod_cast this
    have hXa := (Ext.refl W0).alloc (.cells #[] 2)
    have r0 := ownsRow_emptyF (B := W0.heap.size) (Nat.le_refl _) (heap_new W0 (.cells #[] 2))
    clear hX hX1 b0 hA hA1 hv hz hC hnn hnn' hW hH
    have hr0 : (W0.alloc (.cells #[] 2)).ownsRow W0.heap.size 2 1 (.slice (some ⟨W0.heap.size, 0, none⟩) 0 0) 0 (ints (List.replicate 0 (-1))) := r0
    clear r0
    go_wp2
    generalize hq1 : W0.heap.size = q1 at *
    generalize W0.alloc (.cells #[] 2) = w2 at *
    subst hq1
    go_loopw [5, 6] (fun v i wr => ∃ (k : Nat) (a' : Option Addr) (c' : Nat), k ≤ n ∧ i = .int .i64 k ∧ v = .slice a' k c' ∧ Ext W0 wr ∧ wr.ownsRow W0.heap.size 2 1 (.slice a' k c') k (ints (List.replicate k (-1)))) (fun _ i _ => n - (intOf i).toNat)
    case atStart => exact ⟨0, _, 0, Nat.zero_le _, rfl, rfl, hXa, hr0⟩
    case round =>
      obtain ⟨k, a', c', hk, rfl, rfl, hX, hO⟩ := hrel
      clear hXa hr0
      obtain ⟨⟨c0, c1, c2⟩, _⟩ := block3 (hX.block HB0.out)
      by_cases hlt : k < n
      · have hXa := Lib.hid (hX.alloc (.cells #[.int .i64 (-1)] 2))
        have hOa := Lib.hid (ownsRow_ext hO ((Ext.refl wr).alloc (.cells #[.int .i64 (-1)] 2)))
        have hb3 := heap_new wr (.cells #[.int .i64 (-1)] 2)
        have HU := Lib.hid hXa.out.size
        clear hX hO
        go_wp2_with (at_builtin; refine wpList_append_own _ rfl _ _ 22 rfl W0.heap.size 2 i0 (.int .i64 0) 1 8 Try.underlying22 hi hz0 hz1 hz2 rfl (by decide) (.slice a' k c') k (ints (List.replicate k (-1))) rfl hOa.out ⟨_, 0, none⟩ 1 1 [.int .i64 (-1)] rfl rfl ?c1 ?c2 ?c3 ?c4 ?c5 ?_)
        case c1 => exact cell_one_at hb3
        case c2 => intro u hu; simp at hu; subst hu; rfl
        case c3 => unfold maxLen; omega
        case c4 => omega
        case c5 => exact HU.out
        intro v' w5 hown hg _
        obtain ⟨a2, c2', rfl⟩ := ownsRow_shape hown
        have HX5 := Lib.hid (Ext.rowv hXa.out hOa.out (Nat.le_refl _) hg)
        have HO5 : Hid (w5.ownsRow W0.heap.size 2 1 (.slice a2 (k + 1) c2') (k + 1) (ints (List.replicate (k + 1) (-1)))) := by
          show _
          rw [List.replicate_succ', ints_appendF]
          exact hown
        clear hown hg hXa hOa hb3 c0 c1 c2
        go_wp2
        go_roundw
        case rel => exact ⟨k + 1, a2, c2', by omega, by go_num, rfl, HX5.out, HO5.out⟩
        case measure => simp [intOf]; omega
      · obtain rfl : n = k := by omega
        obtain ⟨g0, rfl, hg0, _⟩ := own_int hO (k := 0) (by simp; omega)
        have hgb := (hO.lt g0 rfl).2
        have F0 : Sea W0 wr.heap.size g0 n c' wr (List.replicate n (-1)) := ⟨hX, hO, Nat.le_refl _⟩
        generalize hB1 : wr.heap.size = B1 at *
        clear hX hO hlt hk
        go_wp2
        clear c0 c1 c2
        go_loopw [7, 8] (fun m i wr => ∃ (k mm : Nat) (z : List Int), k ≤ n ∧ i = .int .i64 k ∧ m = .int .i64 mm ∧ St (adjF Wn Hn true allC (sameJ zs)) allC n k z mm ∧ Sea W0 B1 g0 n c' wr z) (fun _ i _ => n - (intOf i).toNat)
        case atStart => exact ⟨0, 0, _, Nat.zero_le _, rfl, rfl, .zero, F0⟩
        case round =>
          obtain ⟨k, mm, z, hk, rfl, rfl, hst, hF⟩ := hrel
          clear F0
          have HST := Lib.hid hst
          have HF := Lib.hid hF
          clear hst hF
          obtain ⟨⟨c0, c1, c2⟩, _⟩ := block3 (HF.out.ext.block HB0.out)
          by_cases hlt : k < n
          · have eM : decide ((k : Int) < (Wn : Int) * (Hn : Int)) = true := by rw [hM]; simpa using hlt
            obtain ⟨hy, hfz⟩ := HF.out.cell HST.out.len hlt
            have hmk := HST.out.le
            by_cases hfree : atZ z k < 0
            · have e0 : decide (0 ≤ atZ z k) = false := by simpa using hfree
              have HFR := Lib.hid hfree
              clear hfree
              have HS0 := Lib.hid (HF.out.set hg0 k mm)
              have ha0 := (Ext.refl (wr.setCell ⟨g0, k, none⟩ (.int .i64 mm))).alloc (.cells #[.int .i64 k] 2)
              have hbs : (wr.setCell ⟨g0, k, none⟩ (.int .i64 mm)).heap.size = wr.heap.size := by simp [World.setCell]
              have HQ0 : Hid (Que ((wr.setCell ⟨g0, k, none⟩ (.int .i64 mm)).alloc (.cells #[.int .i64 k] 2)) B1 (.slice (some ⟨wr.heap.size, 0, none⟩) 1 1) (nums [k])) := by
                show _
                rw [← hbs]
                exact Que.one HS0.out.big (heap_new _ _)
              have HSA := Lib.hid (HS0.out.of_ext ha0)
              have HFi := Lib.hid (Fi.start (A := adjF Wn Hn true allC (sameJ zs)) (m := mm) HST.out.len hlt HFR.out)
              clear HF HS0 ha0 hbs
              go_wp2
              clear hy hfz c0 c1 c2 eM
              generalize (wr.setCell ⟨g0, k, none⟩ (.int .i64 mm)).alloc (.cells #[.int .i64 k] 2) = w6 at *
              generalize wr.heap.size = q0 at *
              go_loopw [9] (fun v wr => ∃ (z1 : List Int) (q : List Nat), Que wr B1 v (nums q) ∧ Fi (adjF Wn Hn true allC (sameJ zs)) n z k mm z1 q ∧ Sea W0 B1 g0 n c' wr z1) (fun v wr => 2 * negs (rowOf wr g0 n) + sliceLen v)
              case atStart => exact ⟨_, [k], HQ0.out, HFi.out, HSA.out⟩
              case round =>
                obtain ⟨z1, q, hq, hfi, hS⟩ := hrel
                clear HQ0 HFi HSA
                have HQ := Lib.hid hq
                have HFI := Lib.hid hfi
                have HS := Lib.hid hS
                clear hfi hS
                obtain ⟨gq, oq, cq, rfl, hqc, hgq⟩ := hq.shape
                clear hq
                have hqn : q.length ≤ n := by have := HFI.out.room; omega
                rw [nums_length] at *
                cases q with
                | nil =>
                  have HN := Lib.hid (St.fill HST.out HFR.out (rfl : allC k = true) (HFI.out.done HAB.out hlt HFR.out))
                  go_wp2
                  go_roundw
                  case rel => exact ⟨k + 1, mm + 1, z1, by omega, by go_num, by go_num, HN.out, HS.out⟩
                  case measure => simp [intOf]; omega
                | cons pp q' =>
                  have hql : (pp :: q').length = q'.length + 1 := by simp
                  have HQA : Hid (Que wr B1 (.slice (some ⟨gq, oq, none⟩) (q'.length + 1) cq) ((pp : Int) :: nums q')) := HQ.out
                  have hqp := HQA.out.head
                  obtain ⟨vq, hvq, hqB, hbq⟩ := que_front HQA.out
                  rw [nums_length] at hvq
                  have HQB := Lib.hid hqB
                  have HBQ := Lib.hid hbq
                  have hpn := (HFI.out.mem pp (by simp)).1
                  have HFN := Lib.hid (HFI.out.pop (p := pp) (q' := q') (by simp) (fun j hj => by simpa using hj) (fun j hj => by simp [hj]) (by simp))
                  have HLP := Lib.hid (sameJ_reach HFN.out.here.2.2)
                  rw [hql] at hqc hqn ⊢
                  clear hql hqB hbq
                  have hT : 2 * negs (rowOf wr g0 n) + (q'.length + 1) = 2 * negs z1 + (q'.length + 1) := by rw [rowOf_eq HS.out.row]
                  have HT := Lib.hid hT
                  clear HQ HQA HFI hT
                  generalize hsl : q'.length = s at *
                  have HSL := Lib.hid hsl
                  clear hsl
                  have hgl : gq < wr.heap.size := by
                    obtain ⟨g, hg, _, h3⟩ := HQB.out.block
                    rw [HBQ.out] at hg
                    cases hg
                    exact h3
                  go_wp2_with fail
                  refine (l04Beside_any _ Wn Hn pp _ n c ⟨k1, k2⟩ ⟨k3, k4⟩ (by rw [← HNN.out]; exact hpn) _ (block3 (HS.out.ext.block HB0.out)).1).mono ?_
                  rintro e w7 ⟨g5, c5, rfl, hX7, hO7⟩
                  have HS7 := Lib.hid (HS.out.of_ext hX7)
                  have HQ7 := Lib.hid (HQB.out.ext hX7)
                  have HO7 := Lib.hid hO7
                  have HD7 : Hid (∀ g, vq.ownBlock = some g → (Value.slice (some ⟨g5, 0, none⟩) 4 c5).ownBlock ≠ some g) := fun g h1 h2 => by
                    rw [HBQ.out] at h1
                    cases h1
                    have := (HO7.out.lt gq h2).1
                    omega
                  have HF7 := Lib.hid (HFN.out.pass (D' := doneF (nbL Wn Hn true pp) 0) fun k _ h => by obtain ⟨j, h1, _⟩ := h; omega)
                  have hB7 : B1 ≤ wr.heap.size := HS.out.big
                  clear hX7 hO7 HS HQB HFN hqc hqp
                  go_wp2
                  go_loopw [9, 11] (fun v j wx => ∃ (r : Nat) (z2 : List Int) (q2 : List Nat), r ≤ 4 ∧ j = .int .i64 r ∧ Que wx B1 v (nums q2) ∧ Fn (adjF Wn Hn true allC (sameJ zs)) n z k mm pp (doneF (nbL Wn Hn true pp) r) z2 q2 ∧ Sea W0 B1 g0 n c' wx z2 ∧ wx.ownsRow wr.heap.size 2 1 (.slice (some ⟨g5, 0, none⟩) 4 c5) 4 (ints (nbL Wn Hn true pp)) ∧ (∀ g, v.ownBlock = some g → (Value.slice (some ⟨g5, 0, none⟩) 4 c5).ownBlock ≠ some g) ∧ 2 * negs z2 + q2.length ≤ 2 * negs z1 + s) (fun _ j _ => 4 - (intOf j).toNat)
                  case atStart => exact ⟨0, z1, q', Nat.zero_le _, rfl, HQ7.out, HF7.out, HS7.out, HO7.out, HD7.out, by rw [HSL.out]; exact Nat.le_refl _⟩
                  case round =>
                    obtain ⟨r, z2, q2, hr, rfl, hq2, hf2, hs2, ho2, hd2, ht2⟩ := hrel
                    clear HQ7 HF7 HS7 HO7 HD7
                    have HQ2 := Lib.hid hq2
                    have HF2 := Lib.hid hf2
                    have HS2 := Lib.hid hs2
                    have HO2 := Lib.hid ho2
                    have HD2 := Lib.hid hd2
                    have HT2 := Lib.hid ht2
                    clear hq2 hf2 hs2 ho2 hd2 ht2
                    by_cases hlt2 : r < 4
                    · have hyc := (own_int_atF HO2.out (k := r) (by rw [nbL_length]; exact hlt2)).1
                      obtain ⟨nb0, nb1⟩ := nbL_bd (i := pp) true k1 k3 hlt2
                      have hmem : (nbL Wn Hn true pp)[r]?.getD 0 ∈ nbL Wn Hn true pp := mem_at (by rw [nbL_length]; exact hlt2)
                      obtain ⟨kk, hkk⟩ := Int.eq_ofNat_of_zero_le nb0
                      rw [hkk] at hyc
                      rw [hkk] at nb1 hmem
                      have HKK := Lib.hid hkk
                      have HME := Lib.hid hmem
                      have hkn : kk < n := by have := HNN.out; omega
                      clear hkk nb0 nb1 hmem
                      have hcv := (HA.out.ext HS2.out.ext).ofInts kk (by rw [HZ.out]; exact hkn)
                      have hcw := (HA.out.ext HS2.out.ext).ofInts k (by rw [HZ.out]; exact hlt)
                      rw [List.getD_eq_getElem?_getD] at hcv hcw
                      obtain ⟨⟨d0, d1, d2⟩, _⟩ := block3 (HS2.out.ext.block HB0.out)
                      obtain ⟨hyz, hfz⟩ := HS2.out.cell HF2.out.len hkn
                      by_cases hfree2 : atZ z2 kk < 0
                      · have ef : decide (atZ z2 kk < 0) = true := by simpa using hfree2
                        have HFR2 := Lib.hid hfree2
                        clear hfree2
                        cases hjl : (zs[kk]?.getD 0 == zs[k]?.getD 0) with
                        | false =>
                          have HJL := Lib.hid hjl
                          have HN := Lib.hid (HF2.out.pass (D' := doneF (nbL Wn Hn true pp) (r + 1)) fun k' _ h => (doneF_step h HKK.out).elim .inl fun e => .inr (.inl fun ha => by
                            have h1 := ha.2.2
                            rw [e] at h1
                            simp only [sameJ, beq_iff_eq] at h1
                            rw [← h1, HLP.out] at hjl
                            simp at hjl))
                          generalize zs[kk]?.getD 0 = x2 at *
                          generalize zs[k]?.getD 0 = x1 at *
                          go_wp2
                          go_quiet (fail)
                          clear d0 d1 d2 hyz hfz hcv hcw hyc hjl
                          have hw1 := (Ext.refl wr).drewN nq
                          generalize wr.drewN nq = wq at *
                          have HSq := Lib.hid (HS2.out.of_ext hw1)
                          have HQq := Lib.hid (HQ2.out.ext hw1)
                          have HOq := Lib.hid (ownsRow_ext HO2.out hw1)
                          clear hw1 HS2 HQ2 HO2
                          go_wp2
                          go_roundw
                          case rel => exact ⟨r + 1, z2, q2, by omega, by go_num, HQq.out, HN.out, HSq.out, HOq.out, HD2.out, HT2.out⟩
                          case measure => simp [intOf]; omega
                        | true =>
                          have hne : kk ≠ pp := fun e => by
                            have h1 := HF2.out.here.2.1
                            have h2 := HFR2.out
                            rw [e, h1] at h2
                            omega
                          have HA2 : Hid (adjF Wn Hn true allC (sameJ zs) pp kk) := ⟨List.mem_filter.2 ⟨HME.out, by simp; omega⟩, rfl, by
                            simp only [beq_iff_eq] at hjl
                            simp only [sameJ, beq_iff_eq]
                            rw [HLP.out, hjl]⟩
                          clear hne
                          generalize zs[kk]?.getD 0 = x2 at *
                          generalize hx1 : zs[k]?.getD 0 = x1 at *
                          clear hx1
                          go_wp2
                          go_quiet (fail)
                          have hw1 := (Ext.refl wr).drewN nq
                          generalize wr.drewN nq = wq at *
                          have HS9 := Lib.hid (HS2.out.of_ext hw1)
                          have HQ9 := Lib.hid (HQ2.out.ext hw1)
                          have HO9 := Lib.hid (ownsRow_ext HO2.out hw1)
                          have hyc9 := hw1.cell hyc
                          clear hw1 HS2 HQ2 HO2 d0 d1 d2 hyz hfz hcv hcw hyc hjl
                          have HN := Lib.hid (HF2.out.push (D' := doneF (nbL Wn Hn true pp) (r + 1)) (q' := q2 ++ [kk]) hkn HA2.out HFR2.out (fun k' _ h => doneF_step h HKK.out) (fun j => by simp) (by simp))
                          have HNG := Lib.hid (negs_set (z := z2) (k := kk) (m := mm) (by rw [HF2.out.len]; exact hkn) HFR2.out (by omega))
                          have HRM := Lib.hid HF2.out.room
                          obtain ⟨hyz, hfz⟩ := HS9.out.cell HF2.out.len hkn
                          have HS10 := Lib.hid (HS9.out.set hg0 kk mm)
                          have hne2 : ∀ {x : World} {y : Value} {ys : List Int}, Que x B1 y ys → ∀ q, y.ownBlock = some q → q ≠ g0 := fun h q hq => by
                            obtain ⟨g, h1, h2, _⟩ := h.block
                            rw [hq] at h1
                            cases h1
                            omega
                          have HQ10 : Hid (Que (wq.setCell ⟨g0, kk, none⟩ (.int .i64 mm)) B1 _ (nums q2)) := HQ9.out.keep fun q e => cells_setOther (hne2 HQ9.out q e) _
                          have hg5 : g5 ≠ g0 := fun e => by
                            have := (HO9.out.lt g5 rfl).1
                            omega
                          have HO10 := Lib.hid (HO9.out.kept (grown_setC wq ⟨g0, kk, none⟩ (.int .i64 mm)) (.inr fun e => by
                            simp only [Value.ownBlock, Option.some.injEq] at e
                            exact hg5 e))
                          have hyc10 : (wq.setCell ⟨g0, kk, none⟩ (.int .i64 mm)).cell? ⟨g5, r, none⟩ = some (.int .i64 kk) := by
                            rw [World.cell?_setCell_other _ _ _ _ (by first | (simp; done) | (simp; intro e; exact absurd e.symm hg5))]
                            exact hyc9
                          have ha10 := (Ext.refl (wq.setCell ⟨g0, kk, none⟩ (.int .i64 mm))).alloc (.cells #[.int .i64 kk] 2)
                          have hb11 := heap_new (wq.setCell ⟨g0, kk, none⟩ (.int .i64 mm)) (.cells #[.int .i64 kk] 2)
                          have hbs : (wq.setCell ⟨g0, kk, none⟩ (.int .i64 mm)).heap.size = wq.heap.size := by simp [World.setCell]
                          have HB11 : Hid (((wq.setCell ⟨g0, kk, none⟩ (.int .i64 mm)).alloc (.cells #[.int .i64 kk] 2)).cell? ⟨wq.heap.size, 0, none⟩ = some (.int .i64 kk)) := by
                            show _ = _
                            rw [← hbs]
                            exact block_cell hb11 0
                          have HS11 := Lib.hid (HS10.out.of_ext ha10)
                          have HQ11 := Lib.hid (HQ10.out.ext ha10)
                          have HO11 := Lib.hid (ownsRow_ext HO10.out ha10)
                          have HBB := Lib.hid HS11.out.big
                          have HQL : Hid ((nums q2).length + 1 ≤ 1048576) := by have := HRM.out; show _ ≤ _; rw [nums_length]; omega
                          clear ha10 hb11 hbs HS9 HQ9 HO9 HS10 HQ10 HO10 HF2 hg5
                          go_wp2_with (at_builtin; refine wpList_append_q _ rfl _ _ 22 rfl B1 i0 (.int .i64 0) Try.underlying22 hi hz0 hz1 hz2 rfl _ (nums q2) rfl HQ11.out ⟨_, 0, none⟩ 1 kk rfl HB11.out HQL.out HBB.out ?_)
                          intro v' w12 hq12 hg12 hnb
                          have HS12 := Lib.hid (HS11.out.grown hg0 hgb hg12 fun g e => by
                            obtain ⟨g', h1, h2, _⟩ := HQ11.out.block
                            rw [e] at h1
                            cases h1
                            exact h2)
                          have HO12 := Lib.hid (HO11.out.kept hg12 (by
                            obtain ⟨g', h1, h2, _⟩ := HQ11.out.block
                            rw [h1]
                            exact .inr (HD2.out g' h1)))
                          have HQ12 : Hid (Que w12 B1 v' (nums (q2 ++ [kk]))) := by
                            show _
                            rw [nums_append]
                            exact hq12
                          have HD12 : Hid (∀ g, v'.ownBlock = some g → (Value.slice (some ⟨g5, 0, none⟩) 4 c5).ownBlock ≠ some g) := fun g h1 h2 => by
                            exact HD2.out g (hnb g h1 (by simpa [World.setCell] using (HO11.out.lt g h2).2)) h2
                          clear hq12 hg12 hnb HS11 HQ11 HO11 HD2 HB11 HBB hyz hfz hyc9 hyc10
                          go_wp2
                          go_roundw
                          case rel => exact ⟨r + 1, z2.set kk mm, q2 ++ [kk], by omega, by go_num, HQ12.out, HN.out, HS12.out, HO12.out, HD12.out, by have h1 := HNG.out; have h2 := HT2.out; rw [List.length_append]; simp only [List.length_cons, List.length_nil]; omega⟩
                          case measure => simp [intOf]; omega
                      · have ef : decide (atZ z2 kk < 0) = false := by simpa using hfree2
                        have HN := Lib.hid (HF2.out.pass (D' := doneF (nbL Wn Hn true pp) (r + 1)) fun k' _ h => (doneF_step h HKK.out).elim .inl fun e => .inr (.inr (by rw [e]; omega)))
                        clear hfree2
                        generalize zs[kk]?.getD 0 = x2 at *
                        generalize hx1 : zs[k]?.getD 0 = x1 at *
                        clear hx1
                        go_wp2
                        go_quiet (fail)
                        clear d0 d1 d2 hyz hfz hcv hcw hyc
                        have hw1 := (Ext.refl wr).drewN nq
                        generalize wr.drewN nq = wq at *
                        have HSq := Lib.hid (HS2.out.of_ext hw1)
                        have HQq := Lib.hid (HQ2.out.ext hw1)
                        have HOq := Lib.hid (ownsRow_ext HO2.out hw1)
                        clear hw1 HS2 HQ2 HO2
                        go_wp2
                        go_roundw
                        case rel => exact ⟨r + 1, z2, q2, by omega, by go_num, HQq.out, HN.out, HSq.out, HOq.out, HD2.out, HT2.out⟩
                        case measure => simp [intOf]; omega
                    · obtain rfl : r = 4 := by omega
                      have HN := Lib.hid (HF2.out.whole fun k' _ ha => by rw [← nbL_length Wn Hn true pp]; exact doneF_all (List.mem_filter.1 ha.1).1)
                      obtain ⟨g2, o2, cc2, hv2, _⟩ := HQ2.out.shape
                      subst hv2
                      go_wp2
                      go_roundw
                      case rel => exact ⟨z2, q2, HQ2.out, HN.out, HS2.out⟩
                      case measure =>
                        rw [rowOf_eq HS2.out.row]
                        simp only [sliceLen, nums_length]
                        have h1 := HT.out
                        have h2 := HT2.out
                        omega
            · have e0 : decide (0 ≤ atZ z k) = true := by simpa using hfree
              have HN := Lib.hid (St.skip (cnt := allC) HST.out (.inl (by omega)))
              clear hfree
              go_wp2
              go_roundw
              case rel => exact ⟨k + 1, mm, z, by omega, by go_num, rfl, HN.out, HF.out⟩
              case measure => simp [intOf]; omega
          · obtain rfl : k = n := by omega
            have eM : decide ((k : Int) < (Wn : Int) * (Hn : Int)) = false := by rw [hM]; simp
            obtain ⟨hz', hm'⟩ := HST.out.unique HCR.out
            subst hz' hm'
            go_wp2
            refine bodyPost_ret (v := .tuple #[.slice (some ⟨g0, 0, none⟩) k c', .int .i64 mm, .bool true]) ?_ rfl ⟨_, k, c', by rw [HV.out], HX0.out.trans HF.out.ext, ownsRow_mono HF.out.row HX0.out.size, HST.out.len, by omega⟩
            simp only [results, Try.results52]
            go_simp
end Go.Proofs.Ytaakkdcpkllgoaa
