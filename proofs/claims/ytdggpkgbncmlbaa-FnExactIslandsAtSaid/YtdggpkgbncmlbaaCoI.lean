/-
  IslandsAt by the program.
-/
import Derived.Test.YtdggpkgbncmlbaaCoB
import Derived.Test.YtdggpkgbncmlbaaCoS
import Derived.Test.YtdggpkgbncmlbaaAtM
import Derived.Deep.OwnRows
namespace Go.Proofs.Ytdggpkgbncmlbaa
open Go.RowKit
set_option linter.unusedVariables false
set_option linter.unusedSimpArgs false
set_option linter.unnecessarySimpa false

def cntH (zs : List Int) (l : Int) (k : Nat) : Bool := decide (l ≤ zs[k]?.getD 0)
def anyJ (_ _ : Nat) : Bool := true
def islOk (W H : Int) (zs : List Int) (l : Int) : Bool := vldH W H zs && inB l 0 1000
/-- Which islands there are, and how many. -/
def islR (W H : Int) (zs : List Int) (n : Nat) (l : Int) (Z : List Int) (M : Nat) : Prop :=
  if islOk W H zs l = true then St (adjF W.toNat H.toNat true (cntH zs l) anyJ) (cntH zs l) n n Z M else Z = [] ∧ M = 0
theorem islR_ex (W H : Int) (zs : List Int) (n : Nat) (l : Int) : ∃ Z M, islR W H zs n l Z M := by
  unfold islR
  split
  · exact St.exists _ _ _ _
  · exact ⟨[], 0, rfl, rfl⟩
theorem islR_no {W H : Int} {zs : List Int} {n : Nat} {l : Int} {Z : List Int} {M : Nat} (h : islR W H zs n l Z M) (hv : islOk W H zs l = false) : Z = [] ∧ M = 0 := by
  simpa [islR, hv] using h
theorem islR_yes {W H : Int} {zs : List Int} {n : Nat} {l : Int} {Z : List Int} {M : Nat} (h : islR W H zs n l Z M) (hv : islOk W H zs l = true) : St (adjF W.toNat H.toNat true (cntH zs l) anyJ) (cntH zs l) n n Z M := by
  simpa [islR, hv] using h
/-- Two lists, the second made behind the first. -/
def list2P (w : World) (L S : List Int) (ok : Bool) (e : Ending) (w' : World) : Prop :=
  ∃ a n c a' n' c' B, e = .returned (.tuple #[.slice a n c, .slice a' n' c', .bool ok]) ∧ Ext w w' ∧ w'.ownsRow w.heap.size 2 1 (.slice a n c) n (ints L) ∧ L.length = n ∧ n ≤ 1048576 ∧
    w'.ownsRow B 2 1 (.slice a' n' c') n' (ints S) ∧ S.length = n' ∧ n' ≤ 1048576 ∧ w.heap.size ≤ B ∧ ∀ g, (Value.slice a n c).ownBlock = some g → g < B
theorem list2P_none {w w' : World} {Z S : List Int} (h : Ext w w') (hZ : Z = []) (hS : S = []) : list2P w Z S false (.returned (.tuple #[.slice none 0 0, .slice none 0 0, .bool false])) w' := by
  subst hZ hS
  exact ⟨none, 0, 0, none, 0, 0, w.heap.size, rfl, h, World.ownsRow_nil _ _ _ _, rfl, by omega, World.ownsRow_nil _ _ _ _, rfl, by omega, Nat.le_refl _, fun g hg => by simp [Value.ownBlock] at hg⟩

theorem islC1_any (W H : Int) (b o n c : Nat) (zs : List Int) (l : Int) (k p q : Nat) (hz : zs.length = n) (hk : k < n) (w : World) (hA : VArr w (some ⟨b, o, none⟩) (ints zs)) (hp : w.heap[p]? = some (.cells #[.int .i64 W, .int .i64 H, .slice (some ⟨b, o, none⟩) n c] 33 (0, 0))) (hq : w.heap[q]? = some (.cells #[.int .i64 l] 2 (0, 0))) :
    Calls Try.prog 97 (#[.int .i64 k] ++ #[.pointer (some ⟨p, 0, none⟩), .pointer (some ⟨q, 0, none⟩)]) w fun e w' => e = .returned (.bool (cntH zs l k)) ∧ Ext w w' := by
  have hc1 := hA.ofInts k (by omega)
  rw [List.getD_eq_getElem?_getD] at hc1
  obtain ⟨⟨c0, c1, c2⟩, _⟩ := block3 hp
  have cq : w.cell? ⟨q, 0, none⟩ = some (.int .i64 l) := block_cell hq 0
  have HG : Hid (cntH zs l k = decide (l ≤ zs[k]?.getD 0)) := by show _ = _; rfl
  clear hA hp hz hq
  generalize zs[k]?.getD 0 = x at *
  show Calls Try.prog 97 #[.int .i64 k, .pointer (some ⟨p, 0, none⟩), .pointer (some ⟨q, 0, none⟩)] w _
  go_enter Try.func97, Try.ntmps97
  go_wp2
  go_quiet (fail)
  go_wp2
  go_ret
  exact ⟨by rw [HG.out]; rfl, (Ext.refl _).drewN _⟩
theorem islC2_any (j k : Nat) (w : World) : Calls Try.prog 98 (#[.int .i64 j, .int .i64 k] ++ #[]) w fun e w' => e = .returned (.bool (anyJ j k)) ∧ Ext w w' := by
  show Calls Try.prog 98 #[.int .i64 j, .int .i64 k] w _
  go_enter Try.func98, Try.ntmps98
  go_wp2
  go_ret
  exact ⟨rfl, Ext.refl _⟩

/-- What stands while the sizes are counted. -/
structure SzS (w : World) (g c : Nat) (Z : List Int) (n B g2 c2 M k : Nat) (wr : World) : Prop where
  ext : Ext w wr
  row : wr.ownsRow w.heap.size 2 1 (.slice (some ⟨g, 0, none⟩) n c) n (ints Z)
  own : wr.ownsRow B 2 1 (.slice (some ⟨g2, 0, none⟩) M c2) M (ints (szOf (Z.take k) M))
theorem SzS.neg {w : World} {g c : Nat} {Z : List Int} {n B g2 c2 M k : Nat} {wr : World} (h : SzS w g c Z n B g2 c2 M k wr) (hk : k < Z.length) (hz : atZ Z k < 0) : SzS w g c Z n B g2 c2 M (k + 1) wr :=
  ⟨h.ext, h.row, by rw [szOf_neg hk hz]; exact h.own⟩
theorem SzS.pos {w : World} {g c : Nat} {Z : List Int} {n B g2 c2 M k v : Nat} {wr : World} (h : SzS w g c Z n B g2 c2 M k wr) (hk : k < Z.length) (hz : atZ Z k = v) (hv : v < M) (hB : w.heap.size ≤ B) (hg : g < B) : SzS w g c Z n B g2 c2 M (k + 1) (wr.setCell ⟨g2, v, none⟩ (.int .i64 (((cntE (Z.take k) v : Nat) : Int) + 1))) := by
  have h2 : B ≤ g2 := (h.own.lt g2 rfl).1
  refine ⟨Below.setCell h.ext (Nat.le_trans hB h2) _, h.row.kept (grown_setC wr ⟨g2, v, none⟩ _) (.inr fun e => ?_), ?_⟩
  · simp only [Value.ownBlock, Option.some.injEq] at e
    omega
  · rw [szOf_pos hk hz hv, ← ints_set]
    exact oneCell_setCell h.own _

set_option maxRecDepth 100000 in
set_option maxHeartbeats 2000000 in
theorem implIsl_any (W H l : Int) (a : Option Addr) (n c : Nat) (zs : List Int) (hz : zs.length = n) (hn : n ≤ 1048576) (Z : List Int) (M : Nat) (hC : islR W H zs n l Z M) (w : World) (hA : VArr w a (ints zs)) :
    Calls Try.prog 55 #[.agg #[.int .i64 W, .int .i64 H, .slice a n c], .int .i64 l] w (list2P w Z (szOf Z M) (islOk W H zs l)) := by
  obtain ⟨i0, hi, hz0, hz1, hz2⟩ := info_parts info64
  have hX := ((Ext.refl w).alloc (.cells #[.int .i64 W, .int .i64 H, .slice a n c] 33)).alloc (.cells #[.int .i64 l] 2)
  have b0 := heap_mid1 w (.cells #[.int .i64 W, .int .i64 H, .slice a n c] 33) (.cells #[.int .i64 l] 2)
  have b1 := heap_new1 w (.cells #[.int .i64 W, .int .i64 H, .slice a n c] 33) (.cells #[.int .i64 l] 2)
  have hA1 := hA.ext hX
  go_enter Try.func55, Try.ntmps55
  go_wp2_with fail
  refine (implValid_any W H a n c zs hz (by omega) _ hA1).mono ?_
  generalize (w.alloc (.cells #[.int .i64 W, .int .i64 H, .slice a n c] 33)).alloc (.cells #[.int .i64 l] 2) = w0 at *
  generalize hpp : w.heap.size = p at *
  have HPP := Lib.hid hpp
  clear hpp
  rintro e w1 ⟨rfl, hX1⟩
  have hb0 := hX1.block b0
  have hb1 := hX1.block b1
  obtain ⟨⟨c0, c1, c2⟩, _⟩ := block3 hb0
  have cq : w1.cell? ⟨p + 1, 0, none⟩ = some (.int .i64 l) := block_cell hb1 0
  have HB0 := Lib.hid hb0
  have HB1 := Lib.hid hb1
  have HX := Lib.hid (hX.trans hX1)
  have HA := Lib.hid (hA1.ext hX1)
  clear hb0 hb1 b0 b1 hX hX1 hA1
  cases hv : vldH W H zs with
  | false =>
    have hok : islOk W H zs l = false := by simp [islOk, hv]
    obtain ⟨rfl, rfl⟩ := islR_no hC hok
    have HK := Lib.hid hok
    clear hA hv hz hC hok c0 c1 c2 cq
    go_wp2
    refine bodyPost_ret (v := .tuple #[.slice none 0 0, .slice none 0 0, .bool false]) ?_ rfl (by rw [HK.out]; exact list2P_none HX.out rfl rfl)
    simp only [results, Try.results55]
    go_simp
  | true =>
    cases hl : inB l 0 1000 with
    | false =>
      have hok : islOk W H zs l = false := by simp [islOk, hv, hl]
      obtain ⟨rfl, rfl⟩ := islR_no hC hok
      have HK := Lib.hid hok
      have HL := Lib.hid hl
      clear hA hv hz hC hok hl
      go_wp2_with (go_at_call 66; refine (within_any _ _ _ _).mono ?_; rw [HL.out]; rintro e w' ⟨rfl, rfl⟩)
      refine bodyPost_ret (v := .tuple #[.slice none 0 0, .slice none 0 0, .bool false]) ?_ rfl (by rw [HK.out]; exact list2P_none HX.out rfl rfl)
      simp only [results, Try.results55]
      go_simp
    | true =>
      have hok : islOk W H zs l = true := by simp [islOk, hv, hl]
      have HST := Lib.hid (islR_yes hC hok)
      have HK := Lib.hid hok
      obtain ⟨hW, hH, hnn, ⟨hn1, hn2⟩, _⟩ := vld_facts hv hz
      obtain ⟨Wn, rfl⟩ := Int.eq_ofNat_of_zero_le (show 0 ≤ W by omega)
      obtain ⟨Hn, rfl⟩ := Int.eq_ofNat_of_zero_le (show 0 ≤ H by omega)
      have hnn' : n = Hn * Wn := by
        have : ((Hn * Wn : Nat) : Int) = Wn * Hn := by rw [Int.natCast_mul, Int.mul_comm]
        omega
      have k1 : 1 ≤ Wn := by omega
      have k2 : Wn ≤ 16 := by omega
      have k3 : 1 ≤ Hn := by omega
      have k4 : Hn ≤ 16 := by omega
      obtain ⟨b, o, rfl⟩ := hA.starts (i := 0) (by simp; omega)
      have HZ := Lib.hid hz
      have HNN := Lib.hid hnn'
      have HL := Lib.hid hl
      simp only [Int.toNat_natCast] at HST
      clear hA hv hz hC hnn hnn' hW hH hok hl
      go_wp2_with fail
      refine (within_any _ _ _ _).mono ?_
      rw [HL.out]
      rintro e w' ⟨rfl, rfl⟩
      go_wp2_with fail
      clear c0 c1 c2 cq
      refine region_grow_tail 10 (C := Ext w1) (K := fun _ _ _ _ => True) ⟨fun _ _ h k => h.trans k, fun _ _ _ _ _ h _ => h⟩ (by kernel_rfl) (by kernel_rfl) ((Ext.refl w1).drew) ?_
      simp only [List.take_succ_cons, List.take_zero, List.drop_succ_cons, List.drop_zero]
      iterate 7 (refine grow_q rfl ?_; apply Exists.intro; refine ⟨fun u hu _ => ?_, ?_⟩; focus (obtain ⟨⟨c0, c1, c2⟩, _⟩ := block3 (hu.block HB0.out); go_simp; rfl))
      refine grow_newB (mk := fun b => .slice (some ⟨b, 0, none⟩) n n) (ob := .cells (madeCells #[.float .f32 0] n) 41) w1.heap.size rfl (fun b b' h => by simpa using h) (fun u hu => hu.size) (fun u _ _ => ?_) (fun qs hqs => ?_)
      · have := run_make_row' (P := Try.prog) 83 41 (.float .f32 0) 4 rfl info32 rfl .i64 .i64 n (by omega) (by omega) u
        go_simp
      iterate 1 (refine grow_q rfl ?_; apply Exists.intro; refine ⟨fun u hu _ => ?_, ?_⟩; focus (go_simp; rfl))
      refine grow_newB (mk := fun b => .pointer (some ⟨b, 0, none⟩)) (ob := .cells #[.int .i64 0, .int .i64 0, .bool false, .slice none 0 0] 85) w1.heap.size rfl (fun b b' h => by simpa using h) (fun u hu => hu.size) (fun u _ _ => ?_) (fun q hq => ?_)
      · go_simp
      refine grow_nil (fun w2 hX2 hh => ?_)
      obtain ⟨_, hbox⟩ := hh
      refine store_box rfl 85 _ _ rfl q #[.int .i64 Wn, .int .i64 Hn, .bool true, .slice (some ⟨qs, 0, none⟩) n n] ?_ ?_ 85 _ hbox (by kernel_rfl) rfl (by simp [Value.oneCell']) ?_
      · go_simp
      · go_simp
      intro w3 hS D
      have hX3 : Ext w1 w3 := hX2.row hS hq
      have HB3 := Lib.hid (hX3.block HB0.out)
      have HB4 := Lib.hid (hX3.block HB1.out)
      have HA3 := Lib.hid (HA.out.ext hX3)
      have HX3 := Lib.hid (HX.out.trans hX3)
      obtain ⟨⟨d0, d1, d2, d3⟩, _⟩ := block4 D
      clear hX2 hS D hbox hX3 HB0 HA HX HB1
      go_wp2_with fail
      refine (components_any Wn Hn true _ n n ⟨k1, k2⟩ ⟨k3, k4⟩ HNN.out (cntH zs l) anyJ 97 98 #[.pointer (some ⟨p, 0, none⟩), .pointer (some ⟨p + 1, 0, none⟩)] #[] w3 (fun args u => by go_simp) (fun args u => by go_simp)
        (fun k u hk hu => islC1_any Wn Hn b o n c zs l k p (p + 1) HZ.out hk u (HA3.out.ext hu) (hu.block HB3.out) (hu.block HB4.out)) (fun j k u _ _ _ => islC2_any j k u)).mono ?_
      clear d0 d1 d2 d3
      rintro e w4 ⟨g, cc, Z', M', rfl, hX4, hO, hst⟩
      obtain ⟨hz', hm'⟩ := hst.unique HST.out
      subst hz' hm'
      have hZl := hst.len
      have hMn := hst.le
      have HBL := Lib.hid hst.under
      have HXX := Lib.hid (HX3.out.trans hX4)
      have HOO := Lib.hid (ownsRow_mono hO HX3.out.size)
      have hgw := (hO.lt g rfl).2
      clear hX4 hO hst HST HX3 HB3 HB4 HA3
      go_wp2_with (at_make; refine wpList_make_full _ rfl _ _ 28 rfl w4.heap.size 2 i0 (.int .i64 0) 1 Try.underlying28 hi hz0 hz1 .i64 .i64 _ _ M' rfl rfl rfl rfl (by rw [hz2]; omega) (by unfold maxLen; omega) (Nat.le_refl _) ?_)
      intro w5 hown hg
      rw [made_ints, ← szOf_zero Z' M'] at hown
      have F0 : SzS w g cc Z' n w4.heap.size w4.heap.size M' M' 0 w5 := ⟨HXX.out.trans (Ext.of_grown hg), ownsRow_ext HOO.out (Ext.of_grown hg), hown⟩
      have hB := HXX.out.size
      clear hown hg HOO HXX
      generalize w4.heap.size = B at *
      rw [HPP.out] at hB
      go_wp2
      go_loopw [40] (fun i wr => ∃ k : Nat, k ≤ n ∧ i = .int .i64 k ∧ SzS w g cc Z' n B B M' M' k wr) (fun i _ => n - (intOf i).toNat)
      case atStart => exact ⟨0, Nat.zero_le _, rfl, F0⟩
      case round =>
        obtain ⟨k, hk, rfl, hF⟩ := hrel
        clear F0
        have HF := Lib.hid hF
        clear hF
        by_cases hlt : k < n
        · obtain ⟨hy, _⟩ := own_int_atF HF.out.row (k := k) (by omega)
          have hbl := HBL.out (Z'[k]?.getD 0) (mem_at (by omega))
          have HN : Hid (∀ h : atZ Z' k < 0, SzS w g cc Z' n B B M' M' (k + 1) wr) := fun h => HF.out.neg (by omega) h
          have HP : Hid (∀ (v : Nat) (h : atZ Z' k = v) (hv : v < M'), SzS w g cc Z' n B B M' M' (k + 1) (wr.setCell ⟨B, v, none⟩ (.int .i64 (((cntE (Z'.take k) v : Nat) : Int) + 1)))) := fun v h hv => HF.out.pos (by omega) h hv (by rw [HPP.out]; exact hB) hgw
          have ha : atZ Z' k = Z'[k]?.getD 0 := rfl
          rw [ha] at HN HP
          clear ha
          generalize Z'[k]?.getD 0 = z at *
          by_cases hneg : z < 0
          · have e0 : decide (0 ≤ z) = false := by simpa using hneg
            have HN2 := Lib.hid (HN.out hneg)
            clear hneg
            go_wp2
            go_roundw
            case rel => exact ⟨k + 1, by omega, by go_num, HN2.out⟩
            case measure => simp [intOf]; omega
          · have e0 : decide (0 ≤ z) = true := by simp; omega
            obtain ⟨v, rfl⟩ := Int.eq_ofNat_of_zero_le (show 0 ≤ z by omega)
            have hvM : v < M' := by omega
            obtain ⟨hs, hf⟩ := own_int_atF HF.out.own (k := v) (by simpa using hvM)
            rw [szOf_get hvM] at hs
            have hcb := cntE_le (Z'.take k) v
            have hcb2 : (Z'.take k).length ≤ n := by rw [List.length_take]; omega
            have HP2 := Lib.hid (HP.out v rfl hvM)
            generalize cntE (Z'.take k) v = q at *
            clear hneg
            go_wp2
            go_roundw
            case rel => exact ⟨k + 1, by omega, by go_num, by simpa using HP2.out⟩
            case measure => simp [intOf]; omega
        · obtain rfl : k = n := by omega
          have hT : Z'.take k = Z' := List.take_of_length_le (by omega)
          have HOW := Lib.hid HF.out.own
          rw [hT] at HOW
          go_wp2
          refine bodyPost_ret (v := .tuple #[.slice (some ⟨g, 0, none⟩) k cc, .slice (some ⟨B, 0, none⟩) M' M', .bool true]) ?_ rfl ⟨_, k, cc, _, M', M', B, by rw [HK.out], HF.out.ext, HF.out.row, hZl, by omega, HOW.out, by simp, by omega, by rw [HPP.out]; exact hB, fun q hq => by simp only [Value.ownBlock, Option.some.injEq] at hq; omega⟩
          simp only [results, Try.results55]
          go_simp
end Go.Proofs.Ytdggpkgbncmlbaa
