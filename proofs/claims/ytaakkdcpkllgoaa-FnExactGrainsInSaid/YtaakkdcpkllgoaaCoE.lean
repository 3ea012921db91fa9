/-
  GrainsIn by the program.
-/
import Derived.Test.YtaakkdcpkllgoaaCoB
import Derived.Test.YtaakkdcpkllgoaaGrG
import Derived.Deep.OwnRows
namespace Go.Proofs.Ytaakkdcpkllgoaa
open Go.RowKit
set_option linter.unusedVariables false
set_option linter.unusedSimpArgs false
set_option linter.unnecessarySimpa false

def allC (_ : Nat) : Bool := true
def sameJ (zs : List Int) (j k : Nat) : Bool := zs[j]?.getD 0 == zs[k]?.getD 0
theorem sameJ_reach {Wn Hn : Nat} {R : Bool} {cnt : Nat → Bool} {zs : List Int} {o : List Int} {i j : Nat} (h : Rch (adjF Wn Hn R cnt (sameJ zs)) o i j) : zs[j]?.getD 0 = zs[i]?.getD 0 := by
  induction h with
  | base => rfl
  | step _ ha _ ih =>
    have := ha.2.2
    simp only [sameJ, beq_iff_eq] at this
    rw [← this, ih]
/-- Which grains there are, and how many. -/
def grnR (W H : Int) (zs : List Int) (n : Nat) (Z : List Int) (M : Nat) : Prop :=
  if vldG W H zs = true then St (adjF W.toNat H.toNat true allC (sameJ zs)) allC n n Z M else Z = [] ∧ M = 0
theorem grnR_ex (W H : Int) (zs : List Int) (n : Nat) : ∃ Z M, grnR W H zs n Z M := by
  unfold grnR
  split
  · exact St.exists _ _ _ _
  · exact ⟨[], 0, rfl, rfl⟩
theorem grnR_no {W H : Int} {zs : List Int} {n : Nat} {Z : List Int} {M : Nat} (h : grnR W H zs n Z M) (hv : vldG W H zs = false) : Z = [] ∧ M = 0 := by
  simpa [grnR, hv] using h
theorem grnR_yes {W H : Int} {zs : List Int} {n : Nat} {Z : List Int} {M : Nat} (h : grnR W H zs n Z M) (hv : vldG W H zs = true) : St (adjF W.toNat H.toNat true allC (sameJ zs)) allC n n Z M := by
  simpa [grnR, hv] using h

theorem grnC1_any (k : Nat) (w : World) : Calls Try.prog 94 (#[.int .i64 k] ++ #[]) w fun e w' => e = .returned (.bool (allC k)) ∧ Ext w w' := by
  show Calls Try.prog 94 #[.int .i64 k] w _
  go_enter Try.func94, Try.ntmps94
  go_wp2
  go_ret
  exact ⟨rfl, Ext.refl _⟩
theorem grnC2_any (W H : Int) (b o n c : Nat) (zs : List Int) (j k p : Nat) (hz : zs.length = n) (hj : j < n) (hk : k < n) (w : World) (hA : VArr w (some ⟨b, o, none⟩) (ints zs)) (hp : w.heap[p]? = some (.cells #[.int .i64 W, .int .i64 H, .slice (some ⟨b, o, none⟩) n c] 24 (0, 0))) :
    Calls Try.prog 95 (#[.int .i64 j, .int .i64 k] ++ #[.pointer (some ⟨p, 0, none⟩)]) w fun e w' => e = .returned (.bool (sameJ zs j k)) ∧ Ext w w' := by
  have hc1 := hA.ofInts j (by omega)
  have hc2 := hA.ofInts k (by omega)
  rw [List.getD_eq_getElem?_getD] at hc1 hc2
  obtain ⟨⟨c0, c1, c2⟩, _⟩ := block3 hp
  have HG : Hid (sameJ zs j k = (zs[j]?.getD 0 == zs[k]?.getD 0)) := by show _ = _; rfl
  clear hA hp hz
  generalize zs[j]?.getD 0 = x at *
  generalize zs[k]?.getD 0 = y at *
  show Calls Try.prog 95 #[.int .i64 j, .int .i64 k, .pointer (some ⟨p, 0, none⟩)] w _
  go_enter Try.func95, Try.ntmps95
  go_wp2
  go_quiet (fail)
  go_wp2
  go_ret
  exact ⟨by rw [HG.out]; rfl, (Ext.refl _).drewN _⟩

set_option maxRecDepth 100000 in
set_option maxHeartbeats 1000000 in
theorem implGrn_any (W H : Int) (a : Option Addr) (n c : Nat) (zs : List Int) (hz : zs.length = n) (hn : n ≤ 1048576) (Z : List Int) (M : Nat) (hC : grnR W H zs n Z M) (w : World) (hA : VArr w a (ints zs)) :
    Calls Try.prog 53 #[.agg #[.int .i64 W, .int .i64 H, .slice a n c]] w (listP w Z (M : Nat) (vldG W H zs)) := by
  have hX := (Ext.refl w).alloc (.cells #[.int .i64 W, .int .i64 H, .slice a n c] 24)
  have b0 := heap_new w (.cells #[.int .i64 W, .int .i64 H, .slice a n c] 24)
  have hA1 := hA.ext hX
  go_enter Try.func53, Try.ntmps53
  go_wp2_with fail
  refine (implValid_any W H a n c zs hz (by omega) _ hA1).mono ?_
  generalize w.alloc (.cells #[.int .i64 W, .int .i64 H, .slice a n c] 24) = w0 at *
  rintro e w1 ⟨rfl, hX1⟩
  cases hv : vldG W H zs with
  | false =>
    obtain ⟨rfl, rfl⟩ := grnR_no hC hv
    have HV := Lib.hid hv
    have HE := Lib.hid (hX.trans hX1)
    clear hX hX1 b0 hA hA1 hv hz hC
    go_wp2
    refine bodyPost_ret (v := .tuple #[.slice none 0 0, .int .i64 0, .bool false]) ?_ rfl ⟨none, 0, 0, by rw [HV.out]; rfl, HE.out, World.ownsRow_nil _ _ _ _, rfl, by omega⟩
    simp only [results, Try.results53]
    go_simp
  | true =>
    have HST := Lib.hid (grnR_yes hC hv)
    obtain ⟨hW, hH, hnn, ⟨hn1, hn2⟩, _⟩ := vld_facts hv hz
    obtain ⟨Wn, rfl⟩ := Int.eq_ofNat_of_zero_le (show 0 ≤ W by omega)
    obtain ⟨Hn, rfl⟩ := Int.eq_ofNat_of_zero_le (show 0 ≤ H by omega)
    have hnn' : n = Hn * Wn := by
      have : ((Hn * Wn : Nat) : Int) = Wn * Hn := by rw [Int.natCast_mul, Int.mul_comm]
      omega
    have k1 : 1 ≤ Wn := by omega
    have k2 : Wn ≤ 16 := by omega
    have k3 : 1 ≤ Hn := by omega
    have k4 : Hn ≤ 16 := by omega
    obtain ⟨b, o, rfl⟩ := hA.starts (i := 0) (by simp; omega)
    have HV := Lib.hid hv
    have HZ := Lib.hid hz
    have HA := Lib.hid (hA1.ext hX1)
    have HB0 := Lib.hid (hX1.block b0)
    have HX := Lib.hid (hX.trans hX1)
    have HNN := Lib.hid hnn'
    simp only [Int.toNat_natCast] at HST
    clear hX hX1 b0 hA hA1 hv hz hC hnn hnn' hW hH
    go_wp2_with fail
    refine region_grow_tail 10 (C := Ext w1) (K := fun _ _ _ _ => True) ⟨fun _ _ h k => h.trans k, fun _ _ _ _ _ h _ => h⟩ (by kernel_rfl) (by kernel_rfl) ((Ext.refl w1).drew) ?_
    simp only [List.take_succ_cons, List.take_zero, List.drop_succ_cons, List.drop_zero]
    iterate 7 (refine grow_q rfl ?_; apply Exists.intro; refine ⟨fun u hu _ => ?_, ?_⟩; focus (obtain ⟨⟨c0, c1, c2⟩, _⟩ := block3 (hu.block HB0.out); go_simp; rfl))
    refine grow_newB (mk := fun b => .slice (some ⟨b, 0, none⟩) n n) (ob := .cells (madeCells #[.float .f32 0] n) 84) w1.heap.size rfl (fun b b' h => by simpa using h) (fun u hu => hu.size) (fun u _ _ => ?_) (fun qs hqs => ?_)
    · have := run_make_row' (P := Try.prog) 53 84 (.float .f32 0) 4 rfl info32 rfl .i64 .i64 n (by omega) (by omega) u
      go_simp
    iterate 1 (refine grow_q rfl ?_; apply Exists.intro; refine ⟨fun u hu _ => ?_, ?_⟩; focus (go_simp; rfl))
    refine grow_newB (mk := fun b => .pointer (some ⟨b, 0, none⟩)) (ob := .cells #[.int .i64 0, .int .i64 0, .bool false, .slice none 0 0] 55) w1.heap.size rfl (fun b b' h => by simpa using h) (fun u hu => hu.size) (fun u _ _ => ?_) (fun q hq => ?_)
    · go_simp
    refine grow_nil (fun w2 hX2 hh => ?_)
    obtain ⟨_, hbox⟩ := hh
    refine store_box rfl 55 _ _ rfl q #[.int .i64 Wn, .int .i64 Hn, .bool true, .slice (some ⟨qs, 0, none⟩) n n] ?_ ?_ 55 _ hbox (by kernel_rfl) rfl (by simp [Value.oneCell']) ?_
    · go_simp
    · go_simp
    intro w3 hS D
    have hX3 : Ext w1 w3 := hX2.row hS hq
    have HB3 := Lib.hid (hX3.block HB0.out)
    have HA3 := Lib.hid (HA.out.ext hX3)
    have HX3 := Lib.hid (HX.out.trans hX3)
    obtain ⟨⟨d0, d1, d2, d3⟩, _⟩ := block4 D
    clear hX2 hS D hbox hX3 HB0 HA
    go_wp2_with fail
    refine (components_any Wn Hn true _ n n ⟨k1, k2⟩ ⟨k3, k4⟩ HNN.out allC (sameJ zs) 94 95 #[] #[.pointer (some ⟨w.heap.size, 0, none⟩)] w3 (fun args u => by go_simp) (fun args u => by go_simp)
      (fun k u _ _ => grnC1_any k u) (fun j k u hj hk hu => grnC2_any Wn Hn b o n c zs j k w.heap.size HZ.out hj hk u (HA3.out.ext hu) (hu.block HB3.out))).mono ?_
    clear d0 d1 d2 d3
    rintro e w4 ⟨g, cc, Z', M', rfl, hX4, hO, hst⟩
    obtain ⟨hz', hm'⟩ := hst.unique HST.out
    subst hz' hm'
    have HXX := Lib.hid (HX3.out.trans hX4)
    have HO := Lib.hid (ownsRow_mono hO HX3.out.size)
    have HL := Lib.hid hst.len
    clear hX4 hO hst HST
    go_wp2
    refine bodyPost_ret (v := .tuple #[.slice (some ⟨g, 0, none⟩) n cc, .int .i64 M', .bool true]) ?_ rfl ⟨_, n, cc, by rw [HV.out], HXX.out, HO.out, HL.out, by omega⟩
    simp only [results, Try.results53]
    go_simp
end Go.Proofs.Ytaakkdcpkllgoaa
