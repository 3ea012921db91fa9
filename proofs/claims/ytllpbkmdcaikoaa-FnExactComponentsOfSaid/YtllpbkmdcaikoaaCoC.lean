/-
  ComponentsOf by the program.
-/
import Derived.Test.YtllpbkmdcaikoaaCoB
namespace Go.Proofs.Ytllpbkmdcaikoaa
open Go.RowKit
set_option linter.unusedVariables false
set_option linter.unusedSimpArgs false
set_option linter.unnecessarySimpa false

def cntF (zs : List Nat) (l : Nat) (k : Nat) : Bool := geB (zs[k]?.getD 0) l
def allJ (_ _ : Nat) : Bool := true
/-- Which components there are, and how many. -/
def compR (W H : Int) (R : Bool) (zs : List Nat) (n l : Nat) (Z : List Int) (M : Nat) : Prop :=
  if vldF W H n = true then St (adjF W.toNat H.toNat R (cntF zs l) allJ) (cntF zs l) n n Z M else Z = [] ∧ M = 0
theorem compR_ex (W H : Int) (R : Bool) (zs : List Nat) (n l : Nat) : ∃ Z M, compR W H R zs n l Z M := by
  unfold compR
  split
  · exact St.exists _ _ _ _
  · exact ⟨[], 0, rfl, rfl⟩
theorem compR_no {W H : Int} {R : Bool} {zs : List Nat} {n l : Nat} {Z : List Int} {M : Nat} (h : compR W H R zs n l Z M) (hv : vldF W H n = false) : Z = [] ∧ M = 0 := by
  simpa [compR, hv] using h
theorem compR_yes {W H : Int} {R : Bool} {zs : List Nat} {n l : Nat} {Z : List Int} {M : Nat} (h : compR W H R zs n l Z M) (hv : vldF W H n = true) : St (adjF W.toNat H.toNat R (cntF zs l) allJ) (cntF zs l) n n Z M := by
  simpa [compR, hv] using h

theorem compC1_any (W H : Int) (R : Bool) (b o n c : Nat) (zs : List Nat) (l k p q : Nat) (hz : zs.length = n) (hk : k < n) (w : World) (hA : VArr w (some ⟨b, o, none⟩) (flts zs)) (hp : w.heap[p]? = some (.cells #[.int .i64 W, .int .i64 H, .bool R, .slice (some ⟨b, o, none⟩) n c] 27 (0, 0))) (hq : w.heap[q]? = some (.cells #[.float .f32 l] 30 (0, 0))) :
    Calls Try.prog 97 (#[.int .i64 k] ++ #[.pointer (some ⟨p, 0, none⟩), .pointer (some ⟨q, 0, none⟩)]) w fun e w' => e = .returned (.bool (cntF zs l k)) ∧ Ext w w' := by
  have hc := hA.ofFlts k (by omega)
  rw [List.getD_eq_getElem?_getD] at hc
  obtain ⟨⟨c0, c1, c2, c3⟩, _⟩ := block4 hp
  have cq : w.cell? ⟨q, 0, none⟩ = some (.float .f32 l) := block_cell hq 0
  have HG : Hid (cntF zs l k = (FloatKind.f32.format.order (zs[k]?.getD 0) l == some .gt || FloatKind.f32.format.order (zs[k]?.getD 0) l == some .eq)) := by show _ = _; rfl
  clear hA hp hq hz
  generalize zs[k]?.getD 0 = x at *
  show Calls Try.prog 97 #[.int .i64 k, .pointer (some ⟨p, 0, none⟩), .pointer (some ⟨q, 0, none⟩)] w _
  go_enter Try.func97, Try.ntmps97
  go_wp2
  go_quiet (fail)
  go_wp2
  go_ret
  exact ⟨by rw [HG.out]; rfl, (Ext.refl _).drewN _⟩
theorem compC2_any (j k : Nat) (w : World) : Calls Try.prog 98 (#[.int .i64 j, .int .i64 k] ++ #[]) w fun e w' => e = .returned (.bool (allJ j k)) ∧ Ext w w' := by
  show Calls Try.prog 98 #[.int .i64 j, .int .i64 k] w _
  go_enter Try.func98, Try.ntmps98
  go_wp2
  go_ret
  exact ⟨rfl, Ext.refl _⟩

set_option maxRecDepth 100000 in
set_option maxHeartbeats 1000000 in
theorem implComp_any (W H : Int) (R : Bool) (l : Nat) (a : Option Addr) (n c : Nat) (zs : List Nat) (hz : zs.length = n) (hn : n ≤ 1048576) (Z : List Int) (M : Nat) (hC : compR W H R zs n l Z M) (w : World) (hA : VArr w a (flts zs)) :
    Calls Try.prog 51 #[.agg #[.int .i64 W, .int .i64 H, .bool R, .slice a n c], .float .f32 l] w (listP w Z (M : Nat) (vldF W H n)) := by
  have hX := ((Ext.refl w).alloc (.cells #[.int .i64 W, .int .i64 H, .bool R, .slice a n c] 27)).alloc (.cells #[.float .f32 l] 30)
  have b0 := heap_mid1 w (.cells #[.int .i64 W, .int .i64 H, .bool R, .slice a n c] 27) (.cells #[.float .f32 l] 30)
  have b1 := heap_new1 w (.cells #[.int .i64 W, .int .i64 H, .bool R, .slice a n c] 27) (.cells #[.float .f32 l] 30)
  have hA1 := hA.ext hX
  go_enter Try.func51, Try.ntmps51
  go_wp2_with fail
  refine (implValidF_any W H R a n c (by omega) _).mono ?_
  generalize (w.alloc (.cells #[.int .i64 W, .int .i64 H, .bool R, .slice a n c] 27)).alloc (.cells #[.float .f32 l] 30) = w0 at *
  rintro e w1 ⟨rfl, hX1⟩
  cases hv : vldF W H n with
  | false =>
    obtain ⟨rfl, rfl⟩ := compR_no hC hv
    have HV := Lib.hid hv
    have HE := Lib.hid (hX.trans hX1)
    clear hX hX1 b0 b1 hA hA1 hv hz hC
    go_wp2
    refine bodyPost_ret (v := .tuple #[.slice none 0 0, .int .i64 0, .bool false]) ?_ rfl ⟨none, 0, 0, by rw [HV.out]; rfl, HE.out, World.ownsRow_nil _ _ _ _, rfl, by omega⟩
    simp only [results, Try.results51]
    go_simp
  | true =>
    have HST := Lib.hid (compR_yes hC hv)
    obtain ⟨Wn, Hn, rfl, rfl, k1, k2, k3, k4, hnn, hn256⟩ := vldF_facts hv
    have hn1 : 0 < n := by rw [hnn]; exact Nat.mul_pos (by omega) (by omega)
    obtain ⟨b, o, rfl⟩ := hA.starts (i := 0) (by simp; omega)
    have HV := Lib.hid hv
    have HZ := Lib.hid hz
    have HA := Lib.hid (hA1.ext hX1)
    have HB0 := Lib.hid (hX1.block b0)
    have HB1 := Lib.hid (hX1.block b1)
    have HX := Lib.hid (hX.trans hX1)
    have HNN := Lib.hid hnn
    obtain ⟨⟨c0, c1, c2, c3⟩, _⟩ := block4 HB0.out
    simp only [Int.toNat_natCast] at HST
    clear hX hX1 b0 b1 hA hA1 hv hz hC hnn
    go_wp2_with fail
    refine (components_any Wn Hn R _ n c ⟨k1, k2⟩ ⟨k3, k4⟩ HNN.out (cntF zs l) allJ 97 98 #[.pointer (some ⟨w.heap.size, 0, none⟩), .pointer (some ⟨w.heap.size + 1, 0, none⟩)] #[] w1 (fun args u => by go_simp) (fun args u => by go_simp)
      (fun k u hk hu => compC1_any Wn Hn R b o n c zs l k w.heap.size (w.heap.size + 1) HZ.out hk u (HA.out.ext hu) (hu.block HB0.out) (hu.block HB1.out)) (fun j k u _ _ _ => compC2_any j k u)).mono ?_
    clear c0 c1 c2 c3
    rintro e w2 ⟨g, cc, Z', M', rfl, hX2, hO, hst⟩
    obtain ⟨hz', hm'⟩ := hst.unique HST.out
    subst hz' hm'
    have HXX := Lib.hid (HX.out.trans hX2)
    have HO := Lib.hid (ownsRow_mono hO HX.out.size)
    have HL := Lib.hid hst.len
    clear hX2 hO hst HST
    go_wp2
    refine bodyPost_ret (v := .tuple #[.slice (some ⟨g, 0, none⟩) n cc, .int .i64 M', .bool true]) ?_ rfl ⟨_, n, cc, by rw [HV.out], HXX.out, HO.out, HL.out, by omega⟩
    simp only [results, Try.results51]
    go_simp
end Go.Proofs.Ytllpbkmdcaikoaa
