/-
  LabelsOf, by the program (a copy, sorted, without repeats) and by the reference (each label from 0 to 63 that is counted).
-/
import Derived.Test.YtaakkdcpkllgoaaGrK
import Derived.Test.YtaakkdcpkllgoaaLbA
import Derived.Test.YtaakkdcpkllgoaaFlA
import Derived.Test.YtaakkdcpkllgoaaFlQ
import Derived.Test.YtaakkdcpkllgoaaLayS
namespace Go.Proofs.Ytaakkdcpkllgoaa
open Go.RowKit
set_option linter.unusedVariables false
set_option linter.unusedSimpArgs false
set_option linter.unnecessarySimpa false

/-- The answer. -/
def labL (W H : Int) (zs : List Int) : List Int := if vldG W H zs then labTo zs zs.length 64 else []
theorem labL_no {W H : Int} {zs : List Int} (h : vldG W H zs = false) : labL W H zs = [] := by simp [labL, h]
theorem labL_yes {W H : Int} {zs : List Int} (h : vldG W H zs = true) : labL W H zs = labTo zs zs.length 64 := by simp [labL, h]
/-- The answer's shape. -/
def listB (w : World) (L : List Int) (ok : Bool) (e : Ending) (w' : World) : Prop :=
  ∃ a m c, e = .returned (.tuple #[.slice a m c, .bool ok]) ∧ Ext w w' ∧ w'.ownsRow w.heap.size 2 1 (.slice a m c) m (ints L) ∧ L.length = m ∧ m ≤ 1048576

/-- One's own row, cut shorter. -/
theorem ownsRow_cut {w : World} {base g n c m : Nat} {e : TypeId} {xs : List Value} (h : w.ownsRow base e 1 (.slice (some ⟨g, 0, none⟩) n c) n xs) (hm : m ≤ n) : w.ownsRow base e 1 (.slice (some ⟨g, 0, none⟩) m c) m (xs.take m) := by
  obtain ⟨h1, h2⟩ := h
  rcases h2 with ⟨h0, _⟩ | ⟨g', cap, cur, he, hb, hh, hle, hmx, hs, ht⟩
  · cases h0
  · cases he
    refine ⟨by simp at h1 ⊢; omega, .inr ⟨g, c, cur, rfl, hb, hh, by omega, hmx, hs, ?_⟩⟩
    rw [← ht, List.take_take, Nat.mul_one, Nat.mul_one, Nat.min_eq_left hm]

set_option maxRecDepth 100000 in
set_option maxHeartbeats 4000000 in
theorem set_any (a : Option Addr) (c : Nat) (zs : List Int) (h1 : 1 ≤ zs.length) (hn : zs.length ≤ 1048576) (hr : ∀ x, x ∈ zs → 0 ≤ x ∧ x ≤ 63) (w : World) (hA : VArr w a (ints zs)) :
    Calls Try.prog 91 #[.slice a zs.length c] w fun e w' => ∃ a' c', e = .returned (.slice a' (labTo zs zs.length 64).length c') ∧ Ext w w' ∧ w'.ownsRow w.heap.size 2 1 (.slice a' (labTo zs zs.length 64).length c') (labTo zs zs.length 64).length (ints (labTo zs zs.length 64)) := by
  obtain ⟨i0, hi, hz0, hz1, hz2⟩ := info_parts info64
  have hX := (Ext.refl w).alloc (.cells #[] 2)
  have b0 := heap_new w (.cells #[] 2)
  have hA1 := hA.ext hX
  obtain ⟨n, hz⟩ : ∃ n, zs.length = n := ⟨_, rfl⟩
  have HZ := Lib.hid hz
  rw [hz] at h1 hn ⊢
  go_enter Try.func91, Try.ntmps91
  go_wp2_with (at_builtin; refine wpList_copy rfl _ _ 22 2 rfl i0 (.int .i64 0) 8 w.heap.size w.heap.size n c a (ints zs) Try.underlying22 hi hz0 hz1 hz2 rfl (Nat.le_refl _) b0 (by simp [HZ.out]) hA1 (by unfold maxLen; omega) (by omega) rfl rfl ?_)
  intro a' c' w1 hO hX1
  have hXX := hX.trans hX1
  have hO' := hO
  obtain ⟨-, hO2⟩ := hO'
  rcases hO2 with ⟨-, h0⟩ | ⟨g, cap, cur, he, hb, hh, hle, hmx, hs, ht⟩
  · omega
  cases he
  have hg := (Array.getElem?_eq_some_iff.1 hh).1
  have hH1 : Sort.Holds (Value.int .i64) w1 g 0 zs.toArray := holds_of_blockI hh (by rw [HZ.out]; simpa [ints] using ht)
  have hsort := sort_any g 0 c' zs w1 hH1 hg (by omega)
  have HP : Hid (∀ (q : Nat) (os : Array Obj), Ext w (Sort.grow (Sort.putRow (Value.int .i64) (Sort.ahead w1 q) g 0 (sorted zs).toArray) os) ∧ (Sort.grow (Sort.putRow (Value.int .i64) (Sort.ahead w1 q) g 0 (sorted zs).toArray) os).ownsRow w.heap.size 2 1 (.slice (some ⟨g, 0, none⟩) n c') n (ints (sorted zs))) := by
    intro q os
    refine ⟨hXX.row (grownBy_sortedI _) hb, ?_⟩
    have := ownsRow_sortedI (w := w1) (base := w.heap.size) (g := g) (cap := c') (n := q) (e := 2) (os := os) (cur := cur) (ss := zs) (ts := sorted zs) (sorted_len zs) hb hh (by rw [HZ.out]; exact hle) hmx hs
    rw [HZ.out] at this
    exact this
  clear hX b0 hA1 hA hX1 hXX hO hb hh hle hmx hs ht hg hH1 hi hz0 hz1 hz2
  rw [hz] at hsort
  clear hz
  go_wp2_with fail
  refine hsort.mono ?_
  clear hsort
  rintro e w2 ⟨rfl, q, os, rfl⟩
  obtain ⟨hX2, hO2⟩ := HP.out q os
  change Ext w (Sort.grow (Sort.putRow (Value.int .i64) (Sort.ahead w1 q) g 0 (zs.mergeSort fun x y => decide (x ≤ y)).toArray) os) at hX2
  change (Sort.grow (Sort.putRow (Value.int .i64) (Sort.ahead w1 q) g 0 (zs.mergeSort fun x y => decide (x ≤ y)).toArray) os).ownsRow w.heap.size 2 1 (.slice (some ⟨g, 0, none⟩) n c') n (ints (sorted zs)) at hO2
  generalize (Sort.grow (Sort.putRow (Value.int .i64) (Sort.ahead w1 q) g 0 (zs.mergeSort fun x y => decide (x ≤ y)).toArray) os) = w2 at *
  clear HP
  obtain ⟨-, hO3⟩ := hO2
  rcases hO3 with ⟨h0, -⟩ | ⟨g', cap, cur2, he, hb, hh, hle, hmx, hs, ht⟩
  · cases h0
  cases he
  have hsl : (sorted zs).length = n := by rw [sorted_len, HZ.out]
  have hH2 : Sort.Holds (Value.int .i64) w2 g 0 (sorted zs).toArray := holds_of_blockI hh (by rw [hsl]; simpa [ints] using ht)
  have hcomp := compact_any g 0 c' (sorted zs) w2 hH2 (by omega) (by rw [hsl]; exact hle)
  have hlab : Lib.compact (sorted zs) = labTo zs n 64 := by rw [compact_labels zs hr, HZ.out]
  rw [hsl, hlab] at hcomp
  have hll : (labTo zs n 64).length ≤ n := by rw [← hlab, ← hsl]; exact Lib.compact_length_le _
  have HQ : Hid (∀ (q : Nat), Ext w (Sort.putRow (Value.int .i64) (Sort.ahead w2 q) g 0 (labTo zs n 64 ++ List.replicate (n - (labTo zs n 64).length) 0).toArray) ∧ (Sort.putRow (Value.int .i64) (Sort.ahead w2 q) g 0 (labTo zs n 64 ++ List.replicate (n - (labTo zs n 64).length) 0).toArray).ownsRow w.heap.size 2 1 (.slice (some ⟨g, 0, none⟩) (labTo zs n 64).length c') (labTo zs n 64).length (ints (labTo zs n 64))) := by
    intro q
    have hgb := grownBy_sortedI (w := w2) (g := g) (n := q) (os := #[]) (labTo zs n 64 ++ List.replicate (n - (labTo zs n 64).length) 0).toArray
    have := ownsRow_sortedI (w := w2) (base := w.heap.size) (g := g) (cap := c') (n := q) (e := 2) (os := #[]) (cur := cur2) (ss := sorted zs) (ts := labTo zs n 64 ++ List.replicate (n - (labTo zs n 64).length) 0) (by rw [hsl]; simp; omega) hb hh (by rw [hsl]; exact hle) hmx hs
    rw [hsl] at this
    rw [Sort.grow_empty] at this hgb
    refine ⟨hX2.row hgb hb, ?_⟩
    have h2 := ownsRow_cut this hll
    simpa [ints] using h2
  clear hb hh hle hmx hs ht hH2 hX2 hlab hsl
  go_wp2_with fail
  refine hcomp.mono ?_
  clear hcomp
  rintro e w3 ⟨rfl, q, rfl⟩
  obtain ⟨hX3, hO3⟩ := HQ.out q
  have HX3 := Lib.hid hX3
  have HO3 := Lib.hid hO3
  clear HQ hX3 hO3 hr
  generalize (Sort.putRow (Value.int .i64) (Sort.ahead w2 q) g 0 (labTo zs n 64 ++ List.replicate (n - (labTo zs n 64).length) 0).toArray) = w3 at *
  obtain ⟨m, hm⟩ : ∃ m, (labTo zs n 64).length = m := ⟨_, rfl⟩
  rw [hm] at HO3 hll ⊢
  have HM := Lib.hid hm
  clear hm
  go_wp2
  go_ret
  exact ⟨some ⟨g, 0, none⟩, c', by rw [HM.out]; rfl, HX3.out, by rw [HM.out]; exact HO3.out⟩

set_option maxRecDepth 100000 in
theorem implLab_any (W H : Int) (a : Option Addr) (n c : Nat) (zs : List Int) (hz : zs.length = n) (hn : n ≤ 1048576) (w : World) (hA : VArr w a (ints zs)) :
    Calls Try.prog 50 #[.agg #[.int .i64 W, .int .i64 H, .slice a n c]] w (listB w (labL W H zs) (vldG W H zs)) := by
  have hX := (Ext.refl w).alloc (.cells #[.int .i64 W, .int .i64 H, .slice a n c] 24)
  have b0 := heap_new w (.cells #[.int .i64 W, .int .i64 H, .slice a n c] 24)
  have hA1 := hA.ext hX
  go_enter Try.func50, Try.ntmps50
  go_wp2_with fail
  refine (implValid_any W H a n c zs hz (by omega) _ hA1).mono ?_
  generalize w.alloc (.cells #[.int .i64 W, .int .i64 H, .slice a n c] 24) = w0 at *
  rintro e w1 ⟨rfl, hX1⟩
  cases hv : vldG W H zs with
  | false =>
    have HV := Lib.hid hv
    have HE := Lib.hid (hX.trans hX1)
    clear hX hX1 b0 hA hA1 hv hz
    go_wp2
    refine bodyPost_ret (v := .tuple #[.slice none 0 0, .bool false]) ?_ rfl ⟨none, 0, 0, by rw [HV.out], HE.out, by rw [labL_no HV.out]; exact World.ownsRow_nil _ _ _ _, by rw [labL_no HV.out]; rfl, by omega⟩
    simp only [results, Try.results50]
    go_simp
  | true =>
    obtain ⟨_, _, _, ⟨hn1, hn2⟩, hr⟩ := vld_facts hv hz
    have HV := Lib.hid hv
    have HE := Lib.hid (hX.trans hX1)
    have hr' : ∀ x, x ∈ zs → 0 ≤ x ∧ x ≤ 63 := by
      intro x hx
      obtain ⟨j, hj, rfl⟩ := List.getElem_of_mem hx
      have := hr j (by omega)
      simpa [hj] using this
    have hset := set_any a c zs (by omega) (by omega) hr' w1 (hA1.ext hX1)
    obtain ⟨⟨c0, c1, c2⟩, _⟩ := block3 (hX1.block b0)
    have hL := labTo_len zs zs.length 64
    have HY := Lib.hid (labL_yes hv)
    rw [hz] at hset
    have HZ := Lib.hid hz
    clear hX hX1 b0 hA hA1 hv hz hr hr'
    go_wp2_with fail
    refine hset.mono ?_
    clear hset
    rintro e w2 ⟨a', c', rfl, hX2, hO2⟩
    have HX2 := Lib.hid (HE.out.trans hX2)
    have HO2 := Lib.hid (ownsRow_mono hO2 HE.out.size)
    rw [HZ.out] at hL
    clear hX2 hO2 c0 c1 c2 HE
    have HL := Lib.hid hL
    clear hL
    rw [HZ.out] at HY
    generalize labTo zs n 64 = L at *
    obtain ⟨m, hm⟩ : ∃ m, L.length = m := ⟨_, rfl⟩
    rw [hm] at HL HO2 ⊢
    have HM := Lib.hid hm
    clear hm
    go_wp2
    refine bodyPost_ret (v := .tuple #[.slice a' m c', .bool true]) ?_ rfl ⟨a', m, c', by rw [HV.out], HX2.out, by rw [HY.out]; exact HO2.out, by rw [HY.out]; exact HM.out, by have := HL.out; omega⟩
    simp only [results, Try.results50]
    go_simp

set_option maxRecDepth 100000 in
set_option maxHeartbeats 4000000 in
theorem specLab_any (W H : Int) (a : Option Addr) (n c : Nat) (zs : List Int) (hz : zs.length = n) (hn : n ≤ 1048576) (w : World) (hA : VArr w a (ints zs)) :
    Calls Try.prog 49 #[.agg #[.int .i64 W, .int .i64 H, .slice a n c]] w (listB w (labL W H zs) (vldG W H zs)) := by
  obtain ⟨i0, hi, hz0, hz1, hz2⟩ := info_parts info64
  have hX := (Ext.refl w).alloc (.cells #[.int .i64 W, .int .i64 H, .slice a n c] 24)
  have b0 := heap_new w (.cells #[.int .i64 W, .int .i64 H, .slice a n c] 24)
  have hA1 := hA.ext hX
  go_enter Try.func49, Try.ntmps49
  go_wp2_with fail
  refine (l04Is_any _ W H a n c zs hz (by omega) _ (block3 b0).1 hA1).mono ?_
  generalize w.alloc (.cells #[.int .i64 W, .int .i64 H, .slice a n c] 24) = w0 at *
  generalize hpp : w.heap.size = p at *
  have HPP := Lib.hid hpp
  clear hpp
  rintro e W0 ⟨rfl, hX1⟩
  cases hv : vldG W H zs with
  | false =>
    have HV := Lib.hid hv
    have HE := Lib.hid (hX.trans hX1)
    clear hX hX1 b0 hA hA1 hv hz
    go_wp2
    refine bodyPost_ret (v := .tuple #[.slice none 0 0, .bool false]) ?_ rfl ⟨none, 0, 0, by rw [HV.out], HE.out, by rw [labL_no HV.out]; exact World.ownsRow_nil _ _ _ _, by rw [labL_no HV.out]; rfl, by omega⟩
    simp only [results, Try.results49]
    go_simp
  | true =>
    have HV := Lib.hid hv
    have HY := Lib.hid (labL_yes hv)
    have HZ := Lib.hid hz
    have HA := Lib.hid (hA1.ext hX1)
    have HB0 := Lib.hid (hX1.block b0)
    have HX0 := Lib.hid (hX.trans hX1)
    have hXa := (Ext.refl W0).alloc (.cells #[] 2)
    have r0 := ownsRow_emptyF (B := W0.heap.size) (Nat.le_refl _) (heap_new W0 (.cells #[] 2))
    have hr0 : (W0.alloc (.cells #[] 2)).ownsRow W0.heap.size 2 1 (.slice (some ⟨W0.heap.size, 0, none⟩) 0 0) 0 (ints (labTo zs n 0)) := r0
    clear r0
    clear hX hX1 b0 hA hA1 hv hz
    go_wp2
    generalize hq1 : W0.heap.size = q1 at *
    generalize W0.alloc (.cells #[] 2) = w2 at *
    subst hq1
    go_loopw [4, 5] (fun v i wr => ∃ (k m : Nat) (a' : Option Addr) (c' : Nat), k ≤ 64 ∧ i = .int .i64 k ∧ v = .slice a' m c' ∧ (labTo zs n k).length = m ∧ Ext W0 wr ∧ wr.ownsRow W0.heap.size 2 1 (.slice a' m c') m (ints (labTo zs n k))) (fun _ i _ => 64 - (intOf i).toNat)
    case atStart => exact ⟨0, 0, _, 0, by omega, rfl, rfl, rfl, hXa, hr0⟩
    case round =>
      obtain ⟨k, m, a', c', hk, rfl, rfl, hm, hX, hO⟩ := hrel
      clear hXa hr0
      have HX := Lib.hid hX
      have HO := Lib.hid hO
      have hml := labTo_len zs n k
      rw [hm] at hml
      have HM := Lib.hid hm
      by_cases hlt : k < 64
      · have HS := Lib.hid (labTo_succ zs n k)
        have hcount := l04Count_any p W H (k : Int) a n c zs HZ.out hn wr (block3 (hX.block HB0.out)).1 (HA.out.ext hX)
        obtain ⟨⟨c0, c1, c2⟩, _⟩ := block3 (hX.block HB0.out)
        clear hX hO hm
        go_wp2_with fail
        refine hcount.mono ?_
        clear hcount
        rintro e w3 ⟨rfl, hX3⟩
        have hcl := cntTo_le zs (k : Int) n
        generalize cntTo zs (k : Int) n = q at *
        have HX3 := Lib.hid (HX.out.trans hX3)
        have HO3 := Lib.hid (ownsRow_ext HO.out hX3)
        clear hX3 HX HO c0 c1 c2
        by_cases hq : 0 < q
        · have hS := HS.out
          rw [if_pos hq] at hS
          have HS' := Lib.hid hS
          clear HS hS
          have hXa := Lib.hid (HX3.out.alloc (.cells #[.int .i64 k] 2))
          have hOa := Lib.hid (ownsRow_ext HO3.out ((Ext.refl w3).alloc (.cells #[.int .i64 k] 2)))
          have hb3 := heap_new w3 (.cells #[.int .i64 k] 2)
          have HU := Lib.hid HX3.out.size
          go_wp2_with (at_builtin; refine wpList_append_own _ rfl _ _ 22 rfl W0.heap.size 2 i0 (.int .i64 0) 1 8 Try.underlying22 hi hz0 hz1 hz2 rfl (by decide) (.slice a' m c') m (ints (labTo zs n k)) rfl hOa.out ⟨_, 0, none⟩ 1 1 [.int .i64 k] rfl rfl ?c1 ?c2 ?c3 ?c4 ?c5 ?_)
          case c1 => exact cell_one_at hb3
          case c2 => intro u hu; simp at hu; subst hu; rfl
          case c3 => unfold maxLen; omega
          case c4 => omega
          case c5 => exact (HX3.out.alloc _).size
          intro v' w5 hown hg _
          obtain ⟨a2, c2', rfl⟩ := ownsRow_shape hown
          have HX5 := Lib.hid (Ext.rowv hXa.out hOa.out (Nat.le_refl _) hg)
          have HO5 : Hid (w5.ownsRow W0.heap.size 2 1 (.slice a2 (m + 1) c2') (m + 1) (ints (labTo zs n (k + 1)))) := by
            show _
            rw [HS'.out, ints_appendF]
            exact hown
          clear hown hg hXa hOa hb3
          go_wp2
          go_roundw
          case rel => exact ⟨k + 1, m + 1, a2, c2', by omega, by go_num, rfl, by rw [HS'.out, List.length_append, HM.out]; rfl, HX5.out, HO5.out⟩
          case measure => simp [intOf]; omega
        · have hS := HS.out
          rw [if_neg hq, List.append_nil] at hS
          have HS' := Lib.hid hS
          clear HS hS
          obtain rfl : q = 0 := by omega
          go_wp2
          go_roundw
          case rel => exact ⟨k + 1, m, a', c', by omega, by go_num, rfl, by rw [HS'.out]; exact HM.out, HX3.out, by rw [HS'.out]; exact HO3.out⟩
          case measure => simp [intOf]; omega
      · obtain rfl : k = 64 := by omega
        clear hX hO hm
        go_wp2
        refine bodyPost_ret (v := .tuple #[.slice a' m c', .bool true]) ?_ rfl ⟨a', m, c', by rw [HV.out], HX0.out.trans HX.out, by rw [HY.out, HZ.out]; exact ownsRow_mono HO.out HX0.out.size, by rw [HY.out, HZ.out]; exact HM.out, by omega⟩
        simp only [results, Try.results49]
        go_simp
end Go.Proofs.Ytaakkdcpkllgoaa
