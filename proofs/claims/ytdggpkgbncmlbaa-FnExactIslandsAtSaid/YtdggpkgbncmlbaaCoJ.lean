/-
  The islands by the reference.
-/
import Derived.Test.YtdggpkgbncmlbaaCoI
import Derived.Test.YtdggpkgbncmlbaaAtB
namespace Go.Proofs.Ytdggpkgbncmlbaa
open Go.RowKit
set_option linter.unusedVariables false
set_option linter.unusedSimpArgs false
set_option linter.unnecessarySimpa false

theorem cellF_R (W H u v : Int) : cellF W H u v = cellR W H true u v := by simp [cellF, cellR, placeR]

set_option maxRecDepth 100000 in
set_option maxHeartbeats 2000000 in
theorem l05Near_any (p Wn Hn i : Nat) (a : Option Addr) (n c : Nat) (hW : 1 ≤ Wn ∧ Wn ≤ 16) (hH : 1 ≤ Hn ∧ Hn ≤ 16) (hi : i < Hn * Wn) (w : World) (hp : HtsAt w p Wn Hn a n c) :
    Calls Try.prog 84 #[.pointer (some ⟨p, 0, none⟩), .int .i64 i] w fun e w' => ∃ g c, e = .returned (.slice (some ⟨g, 0, none⟩) 4 c) ∧ Ext w w' ∧ w'.ownsRow w.heap.size 2 1 (.slice (some ⟨g, 0, none⟩) 4 c) 4 (ints (nbL Wn Hn true i)) := by
  have HC : Hid (∀ u v w', Ext w w' → Calls Try.prog 93 #[.pointer (some ⟨p, 0, none⟩), .int .i64 u, .int .i64 v] w' fun e w'' => e = .returned (.int .i64 (cellR Wn Hn true u v)) ∧ Ext w' w'') := fun u v w' h => by
    rw [← cellF_R]
    exact l05Index_any p Wn Hn u v a n c ⟨by omega, by omega⟩ ⟨by omega, by omega⟩ w' (hp.ext h)
  have hu2 : i % Wn < Wn := Nat.mod_lt _ (by omega)
  have hv2 : i / Wn < Hn := Nat.div_lt_of_lt_mul (by rw [Nat.mul_comm]; omega)
  have hL0 : nbL Wn Hn true i = nbL Wn Hn true i := rfl
  unfold nbL
  obtain ⟨p0, p1, p2⟩ := hp
  have hu := tmodF_nat i Wn
  have hv := tdivF_nat i Wn
  have hne : ¬ Wn = 0 := by omega
  clear hL0
  generalize i % Wn = x at *
  generalize i / Wn = y at *
  generalize hg0 : cellR Wn Hn true ((x : Int) - 1) (y : Int) = g0 at *
  generalize hg1 : cellR Wn Hn true ((x : Int) + 1) (y : Int) = g1 at *
  generalize hg2 : cellR Wn Hn true (x : Int) ((y : Int) - 1) = g2 at *
  generalize hg3 : cellR Wn Hn true (x : Int) ((y : Int) + 1) = g3 at *
  go_enter Try.func84, Try.ntmps84
  go_wp2_with fail
  clear p0 p1 p2
  refine (HC.out ((x : Int) - 1) (y : Int) _ (Ext.refl w)).mono ?_
  rw [hg0]
  rintro e v0 ⟨rfl, x0⟩
  have X0 := Lib.hid x0
  clear x0
  go_wp2_with fail
  refine (HC.out ((x : Int) + 1) (y : Int) _ X0.out).mono ?_
  rw [hg1]
  rintro e v1 ⟨rfl, x1⟩
  have X1 := Lib.hid (X0.out.trans x1)
  clear x1
  go_wp2_with fail
  refine (HC.out (x : Int) ((y : Int) - 1) _ X1.out).mono ?_
  rw [hg2]
  rintro e v2 ⟨rfl, x2⟩
  have X2 := Lib.hid (X1.out.trans x2)
  clear x2
  go_wp2_with fail
  refine (HC.out (x : Int) ((y : Int) + 1) _ X2.out).mono ?_
  rw [hg3]
  rintro e v3 ⟨rfl, x3⟩
  have X3 := Lib.hid (X2.out.trans x3)
  clear x3
  have Y0 := (Ext.refl v3).alloc (.cells #[.int .i64 g0, .int .i64 g1, .int .i64 g2, .int .i64 g3] 2)
  have r0 := row_of_blockF (n := 4) (B := w.heap.size) X3.out.size (by rfl) (by unfold maxLen; omega) (heap_new v3 (.cells #[.int .i64 g0, .int .i64 g1, .int .i64 g2, .int .i64 g3] 2))
  have E0 := X3.out.trans Y0
  clear Y0 X0 X1 X2 X3
  go_wp2
  go_ret
  exact ⟨v3.heap.size, 4, rfl, E0, r0⟩

/-- What stands while a list of places grows: the marks, the sizes so far, the list. -/
structure Isl (w : World) (BS BL g0 n c0 : Nat) (vS : Value) (mm : Nat) (S : List Int) (vL : Value) (q : List Nat) (wr : World) (z : List Int) : Prop where
  sea : Sea w BS g0 n c0 wr z
  siz : wr.ownsRow BS 2 1 vS mm (ints S)
  lst : Que wr BL vL (nums q)
theorem Isl.of_ext {w : World} {BS BL g0 n c0 : Nat} {vS : Value} {mm : Nat} {S : List Int} {vL : Value} {q : List Nat} {wr wr' : World} {z : List Int} (h : Isl w BS BL g0 n c0 vS mm S vL q wr z) (e : Ext wr wr') : Isl w BS BL g0 n c0 vS mm S vL q wr' z :=
  ⟨h.sea.of_ext e, ownsRow_ext h.siz e, h.lst.ext e⟩
theorem Isl.set {w : World} {BS BL g0 n c0 : Nat} {vS : Value} {mm : Nat} {S : List Int} {vL : Value} {q : List Nat} {wr : World} {z : List Int} (h : Isl w BS BL g0 n c0 vS mm S vL q wr z) (hg : w.heap.size ≤ g0) (h0 : g0 < BS) (hB : BS ≤ BL) (k : Nat) (m : Int) : Isl w BS BL g0 n c0 vS mm S vL q (wr.setCell ⟨g0, k, none⟩ (.int .i64 m)) (z.set k m) :=
  ⟨h.sea.set hg k m, h.siz.kept (grown_setC wr ⟨g0, k, none⟩ _) (.inr fun e => by
    have := (h.siz.lt g0 e).1
    omega), h.lst.keep fun g e => cells_setOther (by
      obtain ⟨g', h1, h2, _⟩ := h.lst.block
      rw [e] at h1
      cases h1
      show g ≠ g0
      omega) _⟩
theorem Isl.app {w : World} {BS BL g0 n c0 : Nat} {vS : Value} {mm : Nat} {S : List Int} {vL vL' : Value} {q q' : List Nat} {wr wr' : World} {z : List Int} (h : Isl w BS BL g0 n c0 vS mm S vL q wr z) (hg : w.heap.size ≤ g0) (h0 : g0 < BS) (hB : BS ≤ BL) (hS : ∀ g, vS.ownBlock = some g → g < BL) (k : wr.grownBy wr' vL.ownBlock) (hq : Que wr' BL vL' (nums q')) : Isl w BS BL g0 n c0 vS mm S vL' q' wr' z := by
  obtain ⟨g', h1, h2, _⟩ := h.lst.block
  refine ⟨h.sea.grown hg h0 k fun g e => ?_, h.siz.kept k ?_, hq⟩
  · rw [e] at h1
    cases h1
    omega
  · rw [h1]
    exact .inr fun e => by
      have := hS g' e
      omega

theorem flat_set {n k : Nat} (h : k < n) : (List.replicate k (-1 : Int) ++ List.replicate (n - k) 0).set k (-1) = List.replicate (k + 1) (-1) ++ List.replicate (n - (k + 1)) 0 := by
  refine List.ext_getElem (by simp; omega) fun j h1 h2 => ?_
  simp only [List.length_set, List.length_append, List.length_replicate] at h1 h2
  rw [List.getElem_set]
  by_cases e : k = j
  · subst e
    rw [if_pos rfl, List.getElem_append_left (by simp)]
    simp
  · rw [if_neg e]
    by_cases hj : j < k
    · rw [List.getElem_append_left (by simpa using hj), List.getElem_append_left (by simp; omega)]
      simp
    · rw [List.getElem_append_right (by simp; omega), List.getElem_append_right (by simp; omega)]
      simp

/-- Two lists, the second made behind the first: without a word whether. -/
def list2Q (w : World) (L S : List Int) (e : Ending) (w' : World) : Prop :=
  ∃ a n c a' n' c' B, e = .returned (.tuple #[.slice a n c, .slice a' n' c']) ∧ Ext w w' ∧ w'.ownsRow w.heap.size 2 1 (.slice a n c) n (ints L) ∧ L.length = n ∧ n ≤ 1048576 ∧
    w'.ownsRow B 2 1 (.slice a' n' c') n' (ints S) ∧ S.length = n' ∧ n' ≤ 1048576 ∧ w.heap.size ≤ B ∧ ∀ g, (Value.slice a n c).ownBlock = some g → g < B

set_option maxRecDepth 100000 in
set_option maxHeartbeats 8000000 in
theorem l05Islands_any (p Wn Hn : Nat) (l : Int) (b o n c : Nat) (zs : List Int) (hz : zs.length = n) (hW : 1 ≤ Wn ∧ Wn ≤ 16) (hH : 1 ≤ Hn ∧ Hn ≤ 16) (hnn : n = Hn * Wn) (Z : List Int) (M : Nat) (hC : St (adjF Wn Hn true (cntH zs l) anyJ) (cntH zs l) n n Z M) (w : World) (hp : HtsAt w p Wn Hn (some ⟨b, o, none⟩) n c) (hA : VArr w (some ⟨b, o, none⟩) (ints zs)) :
    Calls Try.prog 95 #[.pointer (some ⟨p, 0, none⟩), .int .i64 l] w (list2Q w Z (szOf Z M)) := by
  obtain ⟨i0, hi, hz0, hz1, hz2⟩ := info_parts info64
  have hn1 : 0 < n := by rw [hnn]; exact Nat.mul_pos (by omega) (by omega)
  have hn2 : n ≤ 256 := by rw [hnn]; exact Nat.mul_le_mul hH.2 hW.2
  obtain ⟨k1, k2⟩ := hW
  obtain ⟨k3, k4⟩ := hH
  have HNN := Lib.hid hnn
  have HCR := Lib.hid hC
  have HZ := Lib.hid hz
  have HA := Lib.hid hA
  have HP := Lib.hid hp
  have HAB : Hid (∀ j k, adjF Wn Hn true (cntH zs l) anyJ j k → k < n) := by
    intro j k h
    obtain ⟨i, hi, he⟩ := List.getElem_of_mem h.1
    have := (nbF_bd (i := j) true k1 k3 _ rfl hi).2
    rw [List.getElem?_eq_getElem hi, Option.getD_some, he] at this
    rw [HNN.out]
    exact_mod_cast this
  obtain ⟨p0, p1, p2⟩ := hp
  clear hnn hC hz hA
  go_enter Try.func95, Try.ntmps95
  go_wp2_with (at_make; refine wpList_make_full _ rfl _ _ 28 rfl w.heap.size 2 i0 (.int .i64 0) 1 Try.underlying28 hi hz0 hz1 .i64 .i64 _ _ n rfl rfl rfl rfl (by rw [hz2]; omega) (by unfold maxLen; omega) (Nat.le_refl _) ?_)
  intro w1 hown hg
  clear p0 p1 p2
  rw [made_ints] at hown
  have hX1 : Ext w w1 := Ext.of_grown hg
  have hr0 : w1.ownsRow w.heap.size 2 1 (.slice (some ⟨w.heap.size, 0, none⟩) n n) n (ints (List.replicate 0 (-1) ++ List.replicate (n - 0) 0)) := hown
  clear hown hg
  have hg0 : w.heap.size ≤ w.heap.size := Nat.le_refl _
  generalize hq0 : (⟨w.heap.size, 0, none⟩ : Addr) = ad at *
  obtain ⟨g0, hgw⟩ : ∃ g0, w.heap.size = g0 := ⟨_, rfl⟩
  have hga : ad = ⟨g0, 0, none⟩ := by rw [← hq0, hgw]
  subst hga
  have hG0 : Hid (w.heap.size ≤ g0) := by show _ ≤ _; omega
  clear hq0 hg0 hgw
  go_wp2
  go_loopw [23] (fun i wr => ∃ k : Nat, k ≤ n ∧ i = .int .i64 k ∧ Ext w wr ∧ wr.ownsRow w.heap.size 2 1 (.slice (some ⟨g0, 0, none⟩) n n) n (ints (List.replicate k (-1) ++ List.replicate (n - k) 0))) (fun i _ => n - (intOf i).toNat)
  case atStart => exact ⟨0, Nat.zero_le _, rfl, hX1, hr0⟩
  case round =>
    obtain ⟨k, hk, rfl, hX, hO⟩ := hrel
    clear hX1 hr0
    by_cases hlt : k < n
    · have hf := (own_int_atF hO (k := k) (by simp; omega)).2
      have hy := (own_int_atF hO (k := k) (by simp; omega)).1
      have HX2 := Lib.hid (Below.setCell hX (p := ⟨g0, k, none⟩) hG0.out (.int .i64 (-1)))
      have HO2 := oneCell_setCell hO (i := k) (.int .i64 (-1))
      rw [ints_set, flat_set hlt] at HO2
      have HO3 := Lib.hid HO2
      clear HO2 hX hO
      go_wp2
      go_roundw
      case rel => exact ⟨k + 1, by omega, by go_num, HX2.out, HO3.out⟩
      case measure => simp [intOf]; omega
    · obtain rfl : n = k := by omega
      have hgb := (hO.lt g0 rfl).2
      have hO1 : wr.ownsRow w.heap.size 2 1 (.slice (some ⟨g0, 0, none⟩) n n) n (ints (List.replicate n (-1))) := by simpa using hO
      have hXa := (Ext.refl wr).alloc (.cells #[] 2)
      have F0 : Sea w wr.heap.size g0 n n (wr.alloc (.cells #[] 2)) (List.replicate n (-1)) := ⟨hX.trans hXa, ownsRow_ext hO1 hXa, hXa.size⟩
      have G0 : (wr.alloc (.cells #[] 2)).ownsRow wr.heap.size 2 1 (.slice (some ⟨wr.heap.size, 0, none⟩) 0 0) 0 (ints (szOf (List.replicate n (-1)) 0)) := ownsRow_emptyF (Nat.le_refl _) (heap_new wr (.cells #[] 2))
      have HWB := Lib.hid hX.size
      clear hX hO hlt hk hXa hO1
      go_wp2
      generalize wr.alloc (.cells #[] 2) = w2 at *
      generalize wr.heap.size = BS at *
      go_loopw [8, 33] (fun v i wr => ∃ (k mm : Nat) (z : List Int) (aS : Option Addr) (cS : Nat), k ≤ n ∧ i = .int .i64 k ∧ v = .slice aS mm cS ∧ St (adjF Wn Hn true (cntH zs l) anyJ) (cntH zs l) n k z mm ∧ Sea w BS g0 n n wr z ∧ wr.ownsRow BS 2 1 (.slice aS mm cS) mm (ints (szOf z mm))) (fun _ i _ => n - (intOf i).toNat)
      case atStart => exact ⟨0, 0, _, _, _, Nat.zero_le _, rfl, rfl, .zero, F0, G0⟩
      case round =>
        obtain ⟨k, mm, z, aS, cS, hk, rfl, rfl, hst, hF, hS⟩ := hrel
        clear F0 G0
        have HST := Lib.hid hst
        have HF := Lib.hid hF
        have HSZ := Lib.hid hS
        have hsb : ∀ g, (Value.slice aS mm cS).ownBlock = some g → g < wr.heap.size := fun g hg => (hS.lt g hg).2
        clear hst hF hS
        by_cases hlt : k < n
        · obtain ⟨hy, hfz⟩ := HF.out.cell HST.out.len hlt
          have hmk := HST.out.le
          obtain ⟨p0, p1, p2⟩ := HP.out.ext HF.out.ext
          have hca := (HA.out.ext HF.out.ext).ofInts k (by rw [HZ.out]; exact hlt)
          rw [List.getD_eq_getElem?_getD] at hca
          by_cases hfree : atZ z k < 0
          · have e0 : decide (0 ≤ atZ z k) = false := by simpa using hfree
            have HFR := Lib.hid hfree
            clear hfree
            cases hcn : cntH zs l k with
            | false =>
              have HN := Lib.hid (St.skip HST.out (.inr hcn))
              have e1 : decide (zs[k]?.getD 0 < l) = true := by simp [cntH] at hcn; simpa using hcn
              clear hcn
              generalize zs[k]?.getD 0 = x at *
              clear hsb
              go_wp2
              go_roundw
              case rel => exact ⟨k + 1, mm, z, aS, cS, by omega, by go_num, rfl, HN.out, HF.out, HSZ.out⟩
              case measure => simp [intOf]; omega
            | true =>
              have HCN := Lib.hid hcn
              have e1 : decide (zs[k]?.getD 0 < l) = false := by simp [cntH] at hcn; simpa using hcn
              clear hcn
              generalize zs[k]?.getD 0 = x at *
              have ha0 := (Ext.refl wr).alloc (.cells #[.int .i64 k] 2)
              have HI0 : Hid (Isl w BS wr.heap.size g0 n n (.slice aS mm cS) mm (szOf z mm) (.slice (some ⟨wr.heap.size, 0, none⟩) 1 1) [k] (wr.alloc (.cells #[.int .i64 k] 2)) z) :=
                ⟨HF.out.of_ext ha0, ownsRow_ext HSZ.out ha0, Que.one (Nat.le_refl _) (heap_new _ _)⟩
              have hBB := HF.out.big
              have HI1 := Lib.hid (HI0.out.set hG0.out hgb hBB k mm)
              obtain ⟨hy1, hfz1⟩ := HI0.out.sea.cell HST.out.len hlt
              have HFi := Lib.hid (Fi.start (A := adjF Wn Hn true (cntH zs l) anyJ) (m := mm) HST.out.len hlt HFR.out)
              have HNG := Lib.hid (negs_set (z := z) (k := k) (m := mm) (by rw [HST.out.len]; exact hlt) HFR.out (by omega))
              have HNL := Lib.hid (negs_le z)
              rw [HST.out.len] at HNL
              clear HF ha0 HI0 HSZ
              go_wp2
              clear hy hfz hca e0 e1 p0 p1 p2 hy1 hfz1
              generalize hBLq : (wr.alloc (.cells #[.int .i64 k] 2)).setCell ⟨g0, k, none⟩ (.int .i64 mm) = w6 at *
              clear hBLq
              generalize wr.heap.size = BL at *
              go_loopw [11, 12] (fun v i wr => ∃ (r : Nat) (z1 : List Int) (q : List Nat), i = .int .i64 r ∧ r ≤ q.length ∧ Fi (adjF Wn Hn true (cntH zs l) anyJ) n z k mm z1 (q.drop r) ∧ Isl w BS BL g0 n n (.slice aS mm cS) mm (szOf z mm) v q wr z1 ∧ q.length + negs z1 = negs z) (fun _ i _ => n - (intOf i).toNat)
              case atStart => exact ⟨0, _, [k], rfl, Nat.zero_le _, HFi.out, HI1.out, by have := HNG.out; simp; omega⟩
              case round =>
                obtain ⟨r, z1, q, rfl, hr, hfi, hI, hN⟩ := hrel
                clear HFi HI1
                have HFI := Lib.hid hfi
                have HI := Lib.hid hI
                have HNE := Lib.hid hN
                clear hfi hI hN
                obtain ⟨gq, oq, cq, hqv, hqc, hgq⟩ := HI.out.lst.shape
                subst hqv
                rw [nums_length] at *
                have hqn : q.length ≤ n := by have h1 := HNE.out; have h2 := HNL.out; omega
                by_cases hlr : r < q.length
                · obtain ⟨pp, hpp⟩ : ∃ pp, q[r]?.getD 0 = pp := ⟨_, rfl⟩
                  have hqp := HI.out.lst.cell (j := r) (by simpa using hlr)
                  rw [nums_get hlr, hpp] at hqp
                  have hdr : q.drop r = pp :: q.drop (r + 1) := by
                    rw [List.drop_eq_getElem_cons hlr]
                    simp [← hpp, hlr]
                  rw [hdr] at HFI
                  have hpn := (HFI.out.mem pp (by simp)).1
                  have HFN := Lib.hid (HFI.out.pop (p := pp) (q' := q.drop (r + 1)) (by simp) (fun j hj => by simpa using hj) (fun j hj => by simp [hj]) (by simp))
                  clear HFI hdr hpp
                  generalize hsl : q.length = s at *
                  have HSL := Lib.hid hsl
                  clear hsl
                  have hgl : gq < wr.heap.size := by
                    obtain ⟨g, hg, _, h3⟩ := HI.out.lst.block
                    simp only [Value.ownBlock, Option.some.injEq] at hg
                    subst hg
                    exact h3
                  obtain ⟨p0, p1, p2⟩ := HP.out.ext HI.out.sea.ext
                  go_wp2_with fail
                  refine (l05Near_any p Wn Hn pp _ n c ⟨k1, k2⟩ ⟨k3, k4⟩ (by rw [← HNN.out]; exact hpn) _ (HP.out.ext HI.out.sea.ext)).mono ?_
                  clear p0 p1 p2 hqp
                  rintro e w7 ⟨g5, c5, rfl, hX7, hO7⟩
                  have HI7 := Lib.hid (HI.out.of_ext hX7)
                  have HO7 := Lib.hid hO7
                  have HD7 : Hid (∀ g, (Value.slice (some ⟨gq, oq, none⟩) s cq).ownBlock = some g → (Value.slice (some ⟨g5, 0, none⟩) 4 c5).ownBlock ≠ some g) := fun g h1 h2 => by
                    simp only [Value.ownBlock, Option.some.injEq] at h1
                    subst h1
                    have := (HO7.out.lt gq h2).1
                    omega
                  have HF7 := Lib.hid (HFN.out.pass (D' := doneF (nbL Wn Hn true pp) 0) fun k _ h => by obtain ⟨j, h1, _⟩ := h; omega)
                  have hB7 : BS ≤ wr.heap.size := HI.out.sea.big
                  clear hX7 hO7 HI HFN
                  go_wp2
                  go_loopw [11, 74] (fun v j wx => ∃ (r4 : Nat) (z2 : List Int) (q2 : List Nat), r4 ≤ 4 ∧ j = .int .i64 r4 ∧ r < q2.length ∧ Fn (adjF Wn Hn true (cntH zs l) anyJ) n z k mm pp (doneF (nbL Wn Hn true pp) r4) z2 (q2.drop (r + 1)) ∧ Isl w BS BL g0 n n (.slice aS mm cS) mm (szOf z mm) v q2 wx z2 ∧ wx.ownsRow wr.heap.size 2 1 (.slice (some ⟨g5, 0, none⟩) 4 c5) 4 (ints (nbL Wn Hn true pp)) ∧ (∀ g, v.ownBlock = some g → (Value.slice (some ⟨g5, 0, none⟩) 4 c5).ownBlock ≠ some g) ∧ q2.length + negs z2 = negs z) (fun _ j _ => 4 - (intOf j).toNat)
                  case atStart => exact ⟨0, z1, q, Nat.zero_le _, rfl, by rw [HSL.out]; exact hlr, HF7.out, HI7.out, HO7.out, HD7.out, by rw [HSL.out]; exact HNE.out⟩
                  case round =>
                    obtain ⟨r4, z2, q2, hr4, rfl, hr2, hf2, hi2, ho2, hd2, ht2⟩ := hrel
                    clear HI7 HF7 HO7 HD7
                    have HF2 := Lib.hid hf2
                    have HI2 := Lib.hid hi2
                    have HO2 := Lib.hid ho2
                    have HD2 := Lib.hid hd2
                    have HT2 := Lib.hid ht2
                    clear hf2 hi2 ho2 hd2 ht2
                    by_cases hlt2 : r4 < 4
                    · have hyc := (own_int_atF HO2.out (k := r4) (by rw [nbL_length]; exact hlt2)).1
                      obtain ⟨nb0, nb1⟩ := nbL_bd (i := pp) true k1 k3 hlt2
                      have hmem : (nbL Wn Hn true pp)[r4]?.getD 0 ∈ nbL Wn Hn true pp := mem_at (by rw [nbL_length]; exact hlt2)
                      obtain ⟨kk, hkk⟩ := Int.eq_ofNat_of_zero_le nb0
                      rw [hkk] at hyc
                      rw [hkk] at nb1 hmem
                      have HKK := Lib.hid hkk
                      have HME := Lib.hid hmem
                      have hkn : kk < n := by have := HNN.out; omega
                      clear hkk nb0 nb1 hmem
                      have hcv := (HA.out.ext HI2.out.sea.ext).ofInts kk (by rw [HZ.out]; exact hkn)
                      rw [List.getD_eq_getElem?_getD] at hcv
                      obtain ⟨p0, p1, p2⟩ := HP.out.ext HI2.out.sea.ext
                      obtain ⟨hyz, hfz⟩ := HI2.out.sea.cell HF2.out.len hkn
                      by_cases hfree2 : atZ z2 kk < 0
                      · have ef : decide (atZ z2 kk < 0) = true := by simpa using hfree2
                        have HFR2 := Lib.hid hfree2
                        clear hfree2
                        cases hcn : cntH zs l kk with
                        | false =>
                          have HN := Lib.hid (HF2.out.pass (D' := doneF (nbL Wn Hn true pp) (r4 + 1)) fun k' _ h => (doneF_step h HKK.out).elim .inl fun e => .inr (.inl fun ha => by rw [e, adjF, hcn] at ha; cases ha.2.1))
                          have e1 : decide (l ≤ zs[kk]?.getD 0) = false := hcn
                          clear hcn
                          generalize zs[kk]?.getD 0 = x2 at *
                          go_wp2
                          go_quiet (fail)
                          clear p0 p1 p2 hyz hfz hcv hyc e1 ef
                          have hw1 := (Ext.refl wr).drewN nq
                          generalize wr.drewN nq = wq at *
                          have HIq := Lib.hid (HI2.out.of_ext hw1)
                          have HOq := Lib.hid (ownsRow_ext HO2.out hw1)
                          clear hw1 HI2 HO2
                          go_wp2
                          go_roundw
                          case rel => exact ⟨r4 + 1, z2, q2, by omega, by go_num, hr2, HN.out, HIq.out, HOq.out, HD2.out, HT2.out⟩
                          case measure => simp [intOf]; omega
                        | true =>
                          have hne : kk ≠ pp := fun e => by
                            have h1 := HF2.out.here.2.1
                            have h2 := HFR2.out
                            rw [e, h1] at h2
                            omega
                          have HA2 : Hid (adjF Wn Hn true (cntH zs l) anyJ pp kk) := ⟨List.mem_filter.2 ⟨HME.out, by simp; omega⟩, hcn, rfl⟩
                          have e1 : decide (l ≤ zs[kk]?.getD 0) = true := hcn
                          clear hne hcn
                          generalize zs[kk]?.getD 0 = x2 at *
                          go_wp2
                          go_quiet (fail)
                          have hw1 := (Ext.refl wr).drewN nq
                          generalize wr.drewN nq = wq at *
                          have HI9 := Lib.hid (HI2.out.of_ext hw1)
                          have HO9 := Lib.hid (ownsRow_ext HO2.out hw1)
                          have hyc9 := hw1.cell hyc
                          clear hw1 HI2 HO2 p0 p1 p2 hyz hfz hcv hyc e1
                          have hdr : (q2 ++ [kk]).drop (r + 1) = q2.drop (r + 1) ++ [kk] := List.drop_append_of_le_length (by omega)
                          have HN := Lib.hid (HF2.out.push (D' := doneF (nbL Wn Hn true pp) (r4 + 1)) (q' := (q2 ++ [kk]).drop (r + 1)) hkn HA2.out HFR2.out (fun k' _ h => doneF_step h HKK.out) (fun j => by rw [hdr]; simp) (by rw [hdr]; simp))
                          clear hdr
                          have HNG2 := Lib.hid (negs_set (z := z2) (k := kk) (m := mm) (by rw [HF2.out.len]; exact hkn) HFR2.out (by omega))
                          obtain ⟨hyz, hfz⟩ := HI9.out.sea.cell HF2.out.len hkn
                          have HI10 := Lib.hid (HI9.out.set hG0.out hgb hBB kk mm)
                          have hg5 : g5 ≠ g0 := fun e => by
                            have := (HO9.out.lt g5 rfl).1
                            omega
                          have HO10 := Lib.hid (HO9.out.kept (grown_setC wq ⟨g0, kk, none⟩ (.int .i64 mm)) (.inr fun e => by
                            simp only [Value.ownBlock, Option.some.injEq] at e
                            exact hg5 e))
                          have hyc10 : (wq.setCell ⟨g0, kk, none⟩ (.int .i64 mm)).cell? ⟨g5, r4, none⟩ = some (.int .i64 kk) := by
                            rw [World.cell?_setCell_other _ _ _ _ (by first | (simp; done) | (simp; intro e; exact absurd e.symm hg5))]
                            exact hyc9
                          have ha10 := (Ext.refl (wq.setCell ⟨g0, kk, none⟩ (.int .i64 mm))).alloc (.cells #[.int .i64 kk] 2)
                          have hb11 := heap_new (wq.setCell ⟨g0, kk, none⟩ (.int .i64 mm)) (.cells #[.int .i64 kk] 2)
                          have hbs : (wq.setCell ⟨g0, kk, none⟩ (.int .i64 mm)).heap.size = wq.heap.size := by simp [World.setCell]
                          have HB11 : Hid (((wq.setCell ⟨g0, kk, none⟩ (.int .i64 mm)).alloc (.cells #[.int .i64 kk] 2)).cell? ⟨wq.heap.size, 0, none⟩ = some (.int .i64 kk)) := by
                            show _ = _
                            rw [← hbs]
                            exact block_cell hb11 0
                          have HI11 := Lib.hid (HI10.out.of_ext ha10)
                          have HO11 := Lib.hid (ownsRow_ext HO10.out ha10)
                          have HBB : Hid (BL ≤ ((wq.setCell ⟨g0, kk, none⟩ (.int .i64 mm)).alloc (.cells #[.int .i64 kk] 2)).heap.size) := by
                            obtain ⟨g', _, h2, h3⟩ := HI11.out.lst.block
                            exact Nat.le_of_lt (Nat.lt_of_le_of_lt h2 h3)
                          have HQL : Hid ((nums q2).length + 1 ≤ 1048576) := by have h1 := HT2.out; have h2 := HNL.out; show _ ≤ _; rw [nums_length]; omega
                          clear ha10 hb11 hbs HI9 HO9 HI10 HO10 HF2 hg5
                          go_wp2_with (at_builtin; refine wpList_append_q _ rfl _ _ 28 rfl BL i0 (.int .i64 0) Try.underlying28 hi hz0 hz1 hz2 rfl _ (nums q2) rfl HI11.out.lst ⟨_, 0, none⟩ 1 kk rfl HB11.out HQL.out HBB.out ?_)
                          intro v' w12 hq12 hg12 hnb
                          have HO12 := Lib.hid (HO11.out.kept hg12 (by
                            obtain ⟨g', h1, h2, _⟩ := HI11.out.lst.block
                            rw [h1]
                            exact .inr (HD2.out g' h1)))
                          have hq12' : Que w12 BL v' (nums (q2 ++ [kk])) := by
                            rw [nums_append]
                            exact hq12
                          have HD12 : Hid (∀ g, v'.ownBlock = some g → (Value.slice (some ⟨g5, 0, none⟩) 4 c5).ownBlock ≠ some g) := fun g h1 h2 => by
                            exact HD2.out g (hnb g h1 (by simpa [World.setCell] using (HO11.out.lt g h2).2)) h2
                          have HI12 := Lib.hid (HI11.out.app hG0.out hgb hBB hsb hg12 hq12')
                          clear hq12 hq12' hg12 hnb HI11 HO11 HD2 HB11 HBB hyz hfz hyc9 hyc10
                          go_wp2
                          go_roundw
                          case rel => exact ⟨r4 + 1, z2.set kk mm, q2 ++ [kk], by omega, by go_num, by simp; omega, HN.out, HI12.out, HO12.out, HD12.out, by have h1 := HNG2.out; have h2 := HT2.out; rw [List.length_append]; simp only [List.length_cons, List.length_nil]; omega⟩
                          case measure => simp [intOf]; omega
                      · have ef : decide (atZ z2 kk < 0) = false := by simpa using hfree2
                        have HN := Lib.hid (HF2.out.pass (D' := doneF (nbL Wn Hn true pp) (r4 + 1)) fun k' _ h => (doneF_step h HKK.out).elim .inl fun e => .inr (.inr (by rw [e]; omega)))
                        clear hfree2
                        generalize zs[kk]?.getD 0 = x2 at *
                        go_wp2
                        go_quiet (fail)
                        clear p0 p1 p2 hyz hfz hcv hyc ef
                        have hw1 := (Ext.refl wr).drewN nq
                        generalize wr.drewN nq = wq at *
                        have HIq := Lib.hid (HI2.out.of_ext hw1)
                        have HOq := Lib.hid (ownsRow_ext HO2.out hw1)
                        clear hw1 HI2 HO2
                        go_wp2
                        go_roundw
                        case rel => exact ⟨r4 + 1, z2, q2, by omega, by go_num, hr2, HN.out, HIq.out, HOq.out, HD2.out, HT2.out⟩
                        case measure => simp [intOf]; omega
                    · obtain rfl : r4 = 4 := by omega
                      have HN := Lib.hid (HF2.out.whole fun k' _ ha => by rw [← nbL_length Wn Hn true pp]; exact doneF_all (List.mem_filter.1 ha.1).1)
                      go_wp2
                      go_roundw
                      case rel => exact ⟨r + 1, z2, q2, by go_num, by omega, HN.out, HI2.out, HT2.out⟩
                      case measure => simp [intOf]; omega
                · obtain rfl : r = q.length := by omega
                  rw [List.drop_length] at HFI
                  have hok := HFI.out.done HAB.out hlt HFR.out
                  have HN := Lib.hid (St.fill HST.out HFR.out HCN.out hok)
                  have HSF := Lib.hid (szOf_fill HST.out HFR.out hok q.length HNE.out)
                  have hbig := HI.out.sea.big
                  clear hok HFI
                  generalize hsl : q.length = s at *
                  clear hsl
                  have ha0 := (Ext.refl wr).alloc (.cells #[.int .i64 s] 2)
                  have hb3 := heap_new wr (.cells #[.int .i64 s] 2)
                  have HS1 := Lib.hid (HI.out.sea.of_ext ha0)
                  have HZ1 := Lib.hid (ownsRow_ext HI.out.siz ha0)
                  have HU := Lib.hid HS1.out.big
                  clear HI ha0
                  go_wp2_with (at_builtin; refine wpList_append_own _ rfl _ _ 28 rfl BS 2 i0 (.int .i64 0) 1 8 Try.underlying28 hi hz0 hz1 hz2 rfl (by decide) (.slice aS mm cS) mm (ints (szOf z mm)) rfl HZ1.out ⟨_, 0, none⟩ 1 1 [.int .i64 s] rfl rfl ?c1 ?c2 ?c3 ?c4 ?c5 ?_)
                  case c1 => exact cell_one_at hb3
                  case c2 => intro u hu; simp at hu; subst hu; rfl
                  case c3 => unfold maxLen; omega
                  case c4 => omega
                  case c5 => exact HU.out
                  intro v' w9 hown hg _
                  obtain ⟨a2, c2, rfl⟩ := ownsRow_shape hown
                  have HZ9 : Hid (w9.ownsRow BS 2 1 (.slice a2 (mm + 1) c2) (mm + 1) (ints (szOf z1 (mm + 1)))) := by
                    show _
                    rw [HSF.out, ints_appendF]
                    exact hown
                  have HS9 := Lib.hid (HS1.out.grown hG0.out hgb hg fun g e => (HZ1.out.lt g e).1)
                  clear hown hg HZ1 HS1 HU hb3
                  go_wp2
                  go_roundw
                  case rel => exact ⟨k + 1, mm + 1, z1, a2, c2, by omega, by go_num, rfl, HN.out, HS9.out, HZ9.out⟩
                  case measure => simp [intOf]; omega
          · have e0 : decide (0 ≤ atZ z k) = true := by simpa using hfree
            have HN := Lib.hid (St.skip (cnt := cntH zs l) HST.out (.inl (by omega)))
            clear hfree hsb
            generalize zs[k]?.getD 0 = x at *
            go_wp2
            go_roundw
            case rel => exact ⟨k + 1, mm, z, aS, cS, by omega, by go_num, rfl, HN.out, HF.out, HSZ.out⟩
            case measure => simp [intOf]; omega
        · obtain rfl : k = n := by omega
          obtain ⟨hz', hm'⟩ := HST.out.unique HCR.out
          subst hz' hm'
          have hle := HST.out.le
          go_wp2
          refine bodyPost_ret (v := .tuple #[.slice (some ⟨g0, 0, none⟩) k k, .slice aS mm cS]) ?_ rfl ⟨_, k, k, aS, mm, cS, BS, rfl, HF.out.ext, HF.out.row, HST.out.len, by omega, HSZ.out, by simp, by omega, HWB.out, fun q hq => by simp only [Value.ownBlock, Option.some.injEq] at hq; omega⟩
          simp only [results, Try.results95]
          go_simp
end Go.Proofs.Ytdggpkgbncmlbaa
