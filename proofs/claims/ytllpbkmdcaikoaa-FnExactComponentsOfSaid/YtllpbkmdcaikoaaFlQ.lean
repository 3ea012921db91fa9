/-
  BorderOf, by the program and by the reference.
-/
import Derived.Test.YtllpbkmdcaikoaaFlP
namespace Go.Proofs.Ytllpbkmdcaikoaa
open Go.RowKit
set_option linter.unusedVariables false
set_option linter.unusedSimpArgs false
set_option linter.unnecessarySimpa false

def geB (x l : Nat) : Bool := (FloatKind.f32.format.order x l == some .gt || FloatKind.f32.format.order x l == some .eq)
def gv (xs : List Nat) (l : Nat) (z : Int) : Bool := geB (xs[z.toNat]?.getD 0) l
/-- How many of the first k have a property. -/
def cntP (p : Int → Bool) (L : List Int) (k : Nat) : Nat := ((L.take k).filter p).length
theorem cntP_zero (p : Int → Bool) (L : List Int) : cntP p L 0 = 0 := by simp [cntP]
theorem cntP_yes {p : Int → Bool} {L : List Int} {k : Nat} (hk : k < L.length) (h : p (L[k]?.getD 0) = true) : cntP p L (k + 1) = cntP p L k + 1 := by
  unfold cntP
  rw [List.take_succ_eq_append_getElem hk, List.filter_append]
  have : L[k]?.getD 0 = L[k] := by simp [hk]
  rw [this] at h
  simp [h]
theorem cntP_no {p : Int → Bool} {L : List Int} {k : Nat} (hk : k < L.length) (h : p (L[k]?.getD 0) = false) : cntP p L (k + 1) = cntP p L k := by
  unfold cntP
  rw [List.take_succ_eq_append_getElem hk, List.filter_append]
  have : L[k]?.getD 0 = L[k] := by simp [hk]
  rw [this] at h
  simp [h]
theorem cntP_le (p : Int → Bool) (L : List Int) (k : Nat) : cntP p L k ≤ k := by
  unfold cntP
  exact Nat.le_trans (List.length_filter_le _ _) (by simp; omega)
theorem nbL_bd {Wn Hn i j : Nat} (R : Bool) (hW : 1 ≤ Wn) (hH : 1 ≤ Hn) (hj : j < 4) : 0 ≤ (nbL Wn Hn R i)[j]?.getD 0 ∧ (nbL Wn Hn R i)[j]?.getD 0 < ((Hn * Wn : Nat) : Int) := by
  have e : ((Hn * Wn : Nat) : Int) = (Wn : Int) * Hn := by rw [Int.natCast_mul, Int.mul_comm]
  rw [e]
  have hw : (1 : Int) ≤ Wn := by omega
  have hh : (1 : Int) ≤ Hn := by omega
  match j, hj with
  | 0, _ => exact cellR_bd R _ _ hw hh
  | 1, _ => exact cellR_bd R _ _ hw hh
  | 2, _ => exact cellR_bd R _ _ hw hh
  | 3, _ => exact cellR_bd R _ _ hw hh
theorem nbF_bd {Wn Hn i j : Nat} (R : Bool) (hW : 1 ≤ Wn) (hH : 1 ≤ Hn) (M : List Int) (hM : M = (nbL Wn Hn R i).filter fun z => z != (i : Int)) (hj : j < M.length) : 0 ≤ M[j]?.getD 0 ∧ M[j]?.getD 0 < ((Hn * Wn : Nat) : Int) := by
  have hm : M[j] ∈ nbL Wn Hn R i := by
    have h : M[j] ∈ (nbL Wn Hn R i).filter fun z => z != (i : Int) := by rw [← hM]; exact List.getElem_mem hj
    exact (List.mem_filter.1 h).1
  obtain ⟨k, hk, he⟩ := List.getElem_of_mem hm
  have := nbL_bd (i := i) R hW hH (j := k) (by simpa [nbL_length] using hk)
  simp only [List.getElem?_eq_getElem hk, List.getElem?_eq_getElem hj, Option.getD_some] at this ⊢
  rw [he] at this
  exact this
def bcnt (Wn : Nat) (H : Int) (R : Bool) (xs : List Nat) (l i : Nat) : Nat := cntP (fun z => z != (i : Int) && !gv xs l z) (nbL Wn H R i) 4
theorem bcnt_two (Wn : Nat) (H : Int) (R : Bool) (xs : List Nat) (l i : Nat) : bcnt Wn H R xs l i = cntP (fun z => !gv xs l z) ((nbL Wn H R i).filter fun z => z != (i : Int)) ((nbL Wn H R i).filter fun z => z != (i : Int)).length := by
  unfold bcnt cntP
  rw [List.take_of_length_le (by rw [nbL_length]; omega), List.take_length, List.filter_filter]
  congr 1
  exact List.filter_congr fun z _ => Bool.and_comm _ _
def bdO (Wn : Nat) (H : Int) (R : Bool) (xs : List Nat) (l : Nat) : Nat → List Int
  | 0 => []
  | k + 1 => bdO Wn H R xs l k ++ (if (geB (xs[k]?.getD 0) l && decide (0 < bcnt Wn H R xs l k)) = true then [(k : Int)] else [])
def bdP (Wn : Nat) (H : Int) (R : Bool) (xs : List Nat) (l : Nat) : Nat → Nat
  | 0 => 0
  | k + 1 => bdP Wn H R xs l k + (if geB (xs[k]?.getD 0) l = true then bcnt Wn H R xs l k else 0)
theorem bdO_len (Wn : Nat) (H : Int) (R : Bool) (xs : List Nat) (l : Nat) : ∀ k, (bdO Wn H R xs l k).length ≤ k
  | 0 => by simp [bdO]
  | k + 1 => by
    have := bdO_len Wn H R xs l k
    unfold bdO
    split <;> simp <;> omega
theorem bdP_bd (Wn : Nat) (H : Int) (R : Bool) (xs : List Nat) (l : Nat) : ∀ k, bdP Wn H R xs l k ≤ 4 * k
  | 0 => by simp [bdP]
  | k + 1 => by
    have h1 := bdP_bd Wn H R xs l k
    have h2 := cntP_le (fun z => z != (k : Int) && !gv xs l z) (nbL Wn H R k) 4
    unfold bdP bcnt
    split <;> omega
theorem bdO_skip {Wn : Nat} {H : Int} {R : Bool} {xs : List Nat} {l k : Nat} (h : geB (xs[k]?.getD 0) l = false) : bdO Wn H R xs l (k + 1) = bdO Wn H R xs l k := by simp [bdO, h]
theorem bdP_skip {Wn : Nat} {H : Int} {R : Bool} {xs : List Nat} {l k : Nat} (h : geB (xs[k]?.getD 0) l = false) : bdP Wn H R xs l (k + 1) = bdP Wn H R xs l k := by simp [bdP, h]
theorem bdO_yes {Wn : Nat} {H : Int} {R : Bool} {xs : List Nat} {l k : Nat} (h : geB (xs[k]?.getD 0) l = true) (h2 : 0 < bcnt Wn H R xs l k) : bdO Wn H R xs l (k + 1) = bdO Wn H R xs l k ++ [(k : Int)] := by simp [bdO, h, h2]
theorem bdO_no {Wn : Nat} {H : Int} {R : Bool} {xs : List Nat} {l k : Nat} (h2 : ¬ 0 < bcnt Wn H R xs l k) : bdO Wn H R xs l (k + 1) = bdO Wn H R xs l k := by
  have : bcnt Wn H R xs l k = 0 := by omega
  simp [bdO, this]
theorem bdP_yes {Wn : Nat} {H : Int} {R : Bool} {xs : List Nat} {l k : Nat} (h : geB (xs[k]?.getD 0) l = true) : bdP Wn H R xs l (k + 1) = bdP Wn H R xs l k + bcnt Wn H R xs l k := by simp [bdP, h]
/-- The whole answer. -/
def boL (W H : Int) (R : Bool) (xs : List Nat) (n l : Nat) : List Int := if vldF W H n then bdO W.toNat H R xs l n else []
def boP (W H : Int) (R : Bool) (xs : List Nat) (n l : Nat) : Int := if vldF W H n then (bdP W.toNat H R xs l n : Nat) else 0
theorem boL_no {W H : Int} {R : Bool} {xs : List Nat} {n l : Nat} (h : vldF W H n = false) : boL W H R xs n l = [] := by simp [boL, h]
theorem boP_no {W H : Int} {R : Bool} {xs : List Nat} {n l : Nat} (h : vldF W H n = false) : boP W H R xs n l = 0 := by simp [boP, h]
theorem boL_yes {W H : Int} {R : Bool} {xs : List Nat} {n l : Nat} (h : vldF W H n = true) : boL W H R xs n l = bdO W.toNat H R xs l n := by simp [boL, h]
theorem boP_yes {W H : Int} {R : Bool} {xs : List Nat} {n l : Nat} (h : vldF W H n = true) : boP W H R xs n l = (bdP W.toNat H R xs l n : Nat) := by simp [boP, h]
/-- The answer's shape. -/
def listP (w : World) (L : List Int) (q : Int) (ok : Bool) (e : Ending) (w' : World) : Prop :=
  ∃ a m c, e = .returned (.tuple #[.slice a m c, .int .i64 q, .bool ok]) ∧ Ext w w' ∧ w'.ownsRow w.heap.size 2 1 (.slice a m c) m (ints L) ∧ L.length = m ∧ m ≤ 1048576

set_option maxRecDepth 100000 in
set_option maxHeartbeats 4000000 in
theorem specBorder_any (W H : Int) (R : Bool) (l : Nat) (a : Option Addr) (n c : Nat) (zs : List Nat) (hz : zs.length = n) (hn : n ≤ 1048576) (w : World) (hA : VArr w a (flts zs)) :
    Calls Try.prog 45 #[.agg #[.int .i64 W, .int .i64 H, .bool R, .slice a n c], .float .f32 l] w (listP w (boL W H R zs n l) (boP W H R zs n l) (vldF W H n)) := by
  obtain ⟨i0, hin, hz0, hz1, hz2⟩ := info_parts info64
  have hX := (Ext.refl w).alloc (.cells #[.int .i64 W, .int .i64 H, .bool R, .slice a n c] 27)
  have b0 := heap_new w (.cells #[.int .i64 W, .int .i64 H, .bool R, .slice a n c] 27)
  have hA1 := hA.ext hX
  go_enter Try.func45, Try.ntmps45
  go_wp2_with fail
  refine (l02Is_any _ W H R a n c (by omega) _ (FldAt.box b0)).mono ?_
  generalize w.alloc (.cells #[.int .i64 W, .int .i64 H, .bool R, .slice a n c] 27) = w0 at *
  rintro e w1 ⟨rfl, hX1⟩
  cases hv : vldF W H n with
  | false =>
    have HV := Lib.hid hv
    have HE := Lib.hid (hX.trans hX1)
    clear hX hX1 b0 hA hA1 hv hz
    go_wp2
    refine bodyPost_ret (v := .tuple #[.slice none 0 0, .int .i64 0, .bool false]) ?_ rfl ⟨none, 0, 0, by rw [HV.out, boP_no HV.out], HE.out, by rw [boL_no HV.out]; exact World.ownsRow_nil _ _ _ _, by rw [boL_no HV.out]; rfl, by omega⟩
    simp only [results, Try.results45]
    go_simp
  | true =>
    obtain ⟨Wn, Hn, rfl, rfl, k1, k2, k3, k4, hnn, hn256⟩ := vldF_facts hv
    have hn1 : 0 < n := by rw [hnn]; exact Nat.mul_pos (by omega) (by omega)
    obtain ⟨b, o, rfl⟩ := hA.starts (i := 0) (by simp; omega)
    have HNN := Lib.hid hnn
    have HV := Lib.hid hv
    have HZ := Lib.hid hz
    have HA := Lib.hid (hA1.ext hX1)
    have HB := Lib.hid (hX1.block b0)
    have HX := Lib.hid (hX.trans hX1)
    have hXa := (Ext.refl w1).alloc (.cells #[] 2)
    have r0 := ownsRow_emptyF (B := w1.heap.size) (Nat.le_refl _) (heap_new w1 (.cells #[] 2))
    clear hX hX1 b0 hA hA1 hv hz hnn
    go_wp2
    generalize hq1 : w1.heap.size = q1 at *
    generalize w1.alloc (.cells #[] 2) = w2 at *
    subst hq1
    go_loopw [7, 8, 9] (fun s pv i wr => ∃ (k : Nat) (a' : Option Addr) (m c' : Nat), k ≤ n ∧ i = .int .i64 k ∧ s = .slice a' m c' ∧ pv = .int .i64 (bdP Wn Hn R zs l k : Nat) ∧ m ≤ k ∧ Ext w1 wr ∧ wr.ownsRow w1.heap.size 2 1 (.slice a' m c') m (ints (bdO Wn Hn R zs l k))) (fun _ _ i _ => n - (intOf i).toNat)
    case atStart => exact ⟨0, _, _, _, Nat.zero_le _, rfl, rfl, rfl, Nat.le_refl _, hXa, by simpa [bdO, ints] using r0⟩
    case round =>
      obtain ⟨k, a', m, c', hk, rfl, rfl, rfl, hm, hX, hO⟩ := hrel
      clear hXa r0
      have HX2 := Lib.hid hX
      have HO := Lib.hid hO
      have hbP := bdP_bd Wn Hn R zs l k
      obtain ⟨⟨c0, c1, c2, c3⟩, _⟩ := block4 (hX.block HB.out)
      by_cases hlt : k < n
      · have hca := (HA.out.ext hX).ofFlts k (by rw [HZ.out]; exact hlt)
        rw [List.getD_eq_getElem?_getD] at hca
        clear hX hO
        cases hge : geB (zs[k]?.getD 0) l with
        | false =>
          have HS1 := Lib.hid (bdO_skip (Wn := Wn) (H := Hn) (R := R) hge)
          have HS2 := Lib.hid (bdP_skip (Wn := Wn) (H := Hn) (R := R) hge)
          unfold geB at hge
          generalize zs[k]?.getD 0 = za at *
          go_wp2
          go_roundw
          case rel => exact ⟨k + 1, a', m, c', by omega, by go_num, rfl, by rw [HS2.out], by omega, HX2.out, by rw [HS1.out]; exact HO.out⟩
          case measure => simp [intOf]; omega
        | true =>
          have HGE' := Lib.hid hge
          obtain ⟨za, hza⟩ : ∃ za, zs[k]?.getD 0 = za := ⟨_, rfl⟩
          rw [hza] at hge hca
          have HZA := Lib.hid hza
          clear hza
          unfold geB at hge
          go_wp2_with fail
          clear c0 c1 c2 c3
          refine (l02Near_any _ Wn Hn k R _ n c ⟨k1, k2⟩ ⟨k3, k4⟩ (by rw [← HNN.out]; exact hlt) _ (FldAt.box (HX2.out.block HB.out))).mono ?_
          rintro e w5 ⟨g, c5, ys, rfl, hX5, hO5, hl5, hy5⟩
          have HX5 := Lib.hid (HX2.out.trans hX5)
          have HO5 := Lib.hid (ownsRow_ext HO.out hX5)
          have HY := Lib.hid hO5
          have HL5 := Lib.hid hl5
          have HY5 := Lib.hid hy5
          clear hX5 hO5 hl5 hy5 HX2 HO hca
          go_wp2
          go_loopw [11, 12] (fun v j wr => ∃ (q : Nat), q ≤ 4 ∧ j = .int .i64 q ∧ v = .int .i64 (cntP (fun z => z != (k : Int) && !gv zs l z) (nbL Wn Hn R k) q : Nat) ∧ Ext w5 wr) (fun _ j _ => 4 - (intOf j).toNat)
          case atStart => exact ⟨0, Nat.zero_le _, rfl, by rw [cntP_zero]; rfl, Ext.refl _⟩
          case round =>
            obtain ⟨q, hq, rfl, rfl, hX6⟩ := hrel
            have HX6 := Lib.hid hX6
            have hqle := cntP_le (fun z => z != (k : Int) && !gv zs l z) (nbL Wn Hn R k) q
            by_cases hlt2 : q < 4
            · have hyc := (own_int_atF (ownsRow_ext HY.out hX6) (k := q) (by rw [HL5.out]; exact hlt2)).1
              obtain ⟨⟨d0, d1, d2, d3⟩, _⟩ := block4 ((HX5.out.trans hX6).block HB.out)
              have hyv := HY5.out q hlt2
              obtain ⟨nb0, nb1⟩ := nbL_bd (i := k) R k1 k3 hlt2
              have HCY : Hid ((fun z => z != (k : Int) && !gv zs l z) ((nbL Wn Hn R k)[q]?.getD 0) = true → cntP (fun z => z != (k : Int) && !gv zs l z) (nbL Wn Hn R k) (q + 1) = cntP (fun z => z != (k : Int) && !gv zs l z) (nbL Wn Hn R k) q + 1) := fun h => cntP_yes (by rw [nbL_length]; exact hlt2) h
              have HCN : Hid ((fun z => z != (k : Int) && !gv zs l z) ((nbL Wn Hn R k)[q]?.getD 0) = false → cntP (fun z => z != (k : Int) && !gv zs l z) (nbL Wn Hn R k) (q + 1) = cntP (fun z => z != (k : Int) && !gv zs l z) (nbL Wn Hn R k) q) := fun h => cntP_no (by rw [nbL_length]; exact hlt2) h
              clear hX6
              rw [hyv] at hyc
              clear hyv
              generalize (nbL Wn Hn R k)[q]?.getD 0 = z at *
              generalize hcq : cntP (fun z => z != (k : Int) && !gv zs l z) (nbL Wn Hn R k) q = cq at *
              have HCQ := Lib.hid hcq
              clear hcq
              cases hzk : (z == (k : Int)) with
              | true =>
                rw [hzk] at hyc
                simp only [if_true] at hyc
                have HN := Lib.hid (HCN.out (by simp [show z = (k : Int) by simpa using hzk]))
                clear HCN HCY nb0 nb1 hzk
                go_wp2
                go_quiet (fail)
                go_wp2
                go_roundw
                case rel => exact ⟨q + 1, by omega, by go_num, by rw [HN.out], HX6.out.trans ((Ext.refl _).drewN _)⟩
                case measure => simp [intOf]; omega
              | false =>
                rw [hzk] at hyc
                simp only [Bool.false_eq_true, if_false] at hyc
                obtain ⟨zn, rfl⟩ := Int.eq_ofNat_of_zero_le nb0
                have hzn : zn < n := by have := HNN.out; omega
                have hcv := (HA.out.ext (HX5.out.trans HX6.out)).ofFlts zn (by rw [HZ.out]; exact hzn)
                rw [List.getD_eq_getElem?_getD] at hcv
                cases hgv : geB (zs[zn]?.getD 0) l with
                | true =>
                  have HN := Lib.hid (HCN.out (by simp [gv, hgv]))
                  clear HCN HCY nb1
                  have HZK := Lib.hid hzk
                  clear hzk
                  unfold geB at hgv
                  generalize zs[zn]?.getD 0 = zv at *
                  go_wp2
                  go_quiet (fail)
                  go_wp2
                  go_roundw
                  case rel => exact ⟨q + 1, by omega, by go_num, by rw [HN.out], HX6.out.trans ((Ext.refl _).drewN _)⟩
                  case measure => simp [intOf]; omega
                | false =>
                  have HN := Lib.hid (HCY.out (by simp [gv, hgv]; simpa using hzk))
                  clear HCN HCY nb1
                  have HZK := Lib.hid hzk
                  clear hzk
                  unfold geB at hgv
                  generalize zs[zn]?.getD 0 = zv at *
                  go_wp2
                  go_quiet (fail)
                  go_wp2
                  go_roundw
                  case rel => exact ⟨q + 1, by omega, by go_num, by rw [HN.out]; simp, HX6.out.trans ((Ext.refl _).drewN _)⟩
                  case measure => simp [intOf]; omega
            · obtain rfl : q = 4 := by omega
              have HX7 := Lib.hid (HX5.out.trans hX6)
              have HO7 := Lib.hid (ownsRow_ext HO5.out hX6)
              clear hX6 HX6
              have HBC : Hid (bcnt Wn Hn R zs l k = cntP (fun z => z != (k : Int) && !gv zs l z) (nbL Wn Hn R k) 4) := by show _ = _; rfl
              generalize cntP (fun z => z != (k : Int) && !gv zs l z) (nbL Wn Hn R k) 4 = cq at *
              have HP2 := Lib.hid (bdP_yes (Wn := Wn) (H := Hn) (R := R) (l := l) (k := k) HGE'.out)
              by_cases hcq : 0 < cq
              · have HO2 := Lib.hid (bdO_yes (Wn := Wn) (H := Hn) (R := R) (l := l) (k := k) HGE'.out (by rw [HBC.out]; exact hcq))
                have e0 : decide ((0 : Int) < (cq : Int)) = true := by simp; omega
                have hYa := (Ext.refl wr).alloc (.cells #[.int .i64 k] 2)
                have bY := cell_one_at (heap_new wr (.cells #[.int .i64 k] 2))
                have HX8 := Lib.hid (HX7.out.trans hYa)
                have HO8 := Lib.hid (ownsRow_ext HO7.out hYa)
                have HU := Lib.hid HX8.out.size
                clear hYa HX7 HO7
                go_wp2_with (at_builtin; refine wpList_append_own _ rfl _ _ 47 rfl w1.heap.size 2 i0 (.int .i64 0) 1 8 Try.underlying47 hin hz0 hz1 hz2 rfl (by decide) (.slice a' m c') m _ rfl HO8.out ⟨_, 0, none⟩ 1 1 [.int .i64 k] rfl rfl ?c1 ?c2 ?c3 ?c4 ?c5 ?_)
                case c1 => exact bY
                case c2 => intro u hu; simp at hu; subst hu; rfl
                case c3 => unfold maxLen; omega
                case c4 => omega
                case c5 => exact HU.out
                intro v' w9 hown hg _
                obtain ⟨a3, c3', rfl⟩ := ownsRow_shape hown
                have E9 := Lib.hid (Ext.rowv HX8.out HO8.out (Nat.le_refl _) hg)
                have O9 := Lib.hid hown
                clear hown hg HX8 HO8 bY HU
                go_wp2
                go_roundw
                case rel =>
                  refine ⟨k + 1, a3, m + 1, c3', by omega, by go_num, rfl, by rw [HP2.out, HBC.out]; simp, by omega, E9.out, ?_⟩
                  have h := O9.out
                  rw [HO2.out, ints_appendF]
                  exact h
                case measure => simp [intOf]; omega
              · have HO2 := Lib.hid (bdO_no (Wn := Wn) (H := Hn) (R := R) (xs := zs) (l := l) (k := k) (by rw [HBC.out]; exact hcq))
                have e0 : decide ((0 : Int) < (cq : Int)) = false := by simp; omega
                go_wp2
                go_roundw
                case rel => exact ⟨k + 1, a', m, c', by omega, by go_num, rfl, by rw [HP2.out, HBC.out]; simp, by omega, HX7.out, by rw [HO2.out]; exact HO7.out⟩
                case measure => simp [intOf]; omega
      · obtain rfl : k = n := by omega
        clear hX hO
        have hol := bdO_len Wn Hn R zs l k
        have hml := (ownsRow_len HO.out).1
        have HML : Hid ((bdO Wn Hn R zs l k).length = m) := by show _ = _; rw [hml]; simp
        clear hml
        go_wp2
        refine bodyPost_ret (v := .tuple #[.slice a' m c', .int .i64 (bdP Wn Hn R zs l k : Nat), .bool true]) ?_ rfl ⟨a', m, c', by rw [HV.out, boP_yes HV.out]; rfl, HX.out.trans HX2.out, by rw [boL_yes HV.out]; exact ownsRow_mono HO.out HX.out.size, by rw [boL_yes HV.out]; exact HML.out, by omega⟩
        simp only [results, Try.results45]
        go_simp
end Go.Proofs.Ytllpbkmdcaikoaa
