/-
  Two fields made one, cell by cell: the program's 'both', the reference's tests.
-/
import Derived.Test.YtajfpjggdbifjaaFlF
namespace Go.Proofs.Ytajfpjggdbifjaa
open Go.RowKit
set_option linter.unusedVariables false
set_option linter.unusedSimpArgs false
set_option linter.unnecessarySimpa false

def alikeB (W H : Int) (R : Bool) (W' H' : Int) (R' : Bool) : Bool := (W == W') && (H == H') && (R == R')
theorem alikeB_iff {W H : Int} {R : Bool} {W' H' : Int} {R' : Bool} : alikeB W H R W' H' R' = true ↔ W = W' ∧ H = H' ∧ R = R' := by simp [alikeB, and_assoc]
def twoB (W H : Int) (R : Bool) (n : Nat) (W' H' : Int) (R' : Bool) (n' : Nat) : Bool := vldF W H n && vldF W' H' n' && alikeB W H R W' H' R'
theorem aboutV_cell {Wn Hn : Nat} (R : Bool) (fs : List (Option Nat)) {i : Nat} (hW : 1 ≤ Wn) (h : i < Hn * Wn) : aboutV Wn Hn R fs ((i % Wn : Nat) : Int) ((i / Wn : Nat) : Int) = fat fs i := by
  have h1 : i % Wn < Wn := Nat.mod_lt _ (by omega)
  have h2 : i / Wn < Hn := Nat.div_lt_of_lt_mul (by rw [Nat.mul_comm]; omega)
  unfold aboutV
  rw [cellR_id R (Int.natCast_nonneg _) (by exact_mod_cast h1) (Int.natCast_nonneg _) (by exact_mod_cast h2)]
  congr 1
  have h3 := Nat.mod_add_div i Wn
  have : ((i % Wn : Nat) : Int) + (Wn : Int) * ((i / Wn : Nat) : Int) = (i : Int) := by exact_mod_cast h3
  omega

theorem alike_any (W H W' H' : Int) (R R' : Bool) (a a' : Option Addr) (n c n' c' : Nat) (w : World) :
    Calls Try.prog 81 #[.agg #[.int .i64 W, .int .i64 H, .bool R, .slice a n c], .agg #[.int .i64 W', .int .i64 H', .bool R', .slice a' n' c']] w fun e w' => e = .returned (.bool (alikeB W H R W' H' R')) ∧ Ext w w' := by
  have HX := Lib.hid (((Ext.refl w).alloc (.cells #[.int .i64 W, .int .i64 H, .bool R, .slice a n c] 26)).alloc (.cells #[.int .i64 W', .int .i64 H', .bool R', .slice a' n' c'] 26))
  cases hW : (W == W') with
  | false =>
    have HR : Hid (alikeB W H R W' H' R' = false) := by show _ = _; simp [alikeB, hW]
    go_enter Try.func81, Try.ntmps81
    go_wp2
    go_ret
    exact ⟨by rw [HR.out]; rfl, HX.out⟩
  | true =>
    cases hH : (H == H') with
    | false =>
      have HR : Hid (alikeB W H R W' H' R' = false) := by show _ = _; simp [alikeB, hH]
      go_enter Try.func81, Try.ntmps81
      go_wp2
      go_ret
      exact ⟨by rw [HR.out]; rfl, HX.out⟩
    | true =>
      have HR : Hid (alikeB W H R W' H' R' = (R == R')) := by show _ = _; simp [alikeB, hH, hW]
      go_enter Try.func81, Try.ntmps81
      go_wp2
      go_ret
      exact ⟨by rw [HR.out]; rfl, HX.out⟩

theorem l02Alike_any (p p' : Nat) (W H W' H' : Int) (R R' : Bool) (a a' : Option Addr) (n c n' c' : Nat) (w : World) (hp : FldAt w p W H R a n c) (hp' : FldAt w p' W' H' R' a' n' c') :
    Calls Try.prog 169 #[.pointer (some ⟨p, 0, none⟩), .pointer (some ⟨p', 0, none⟩)] w fun e w' => e = .returned (.bool (alikeB W H R W' H' R')) ∧ Ext w w' := by
  obtain ⟨p0, p1, p2, p3⟩ := hp
  obtain ⟨q0, q1, q2, q3⟩ := hp'
  cases hW : (W == W') with
  | false =>
    have HR : Hid (alikeB W H R W' H' R' = false) := by show _ = _; simp [alikeB, hW]
    go_enter Try.func169, Try.ntmps169
    go_wp2
    go_quiet (fail)
    go_wp2
    go_ret
    exact ⟨by rw [HR.out]; rfl, (Ext.refl _).drewN _⟩
  | true =>
    cases hH : (H == H') with
    | false =>
      have HR : Hid (alikeB W H R W' H' R' = false) := by show _ = _; simp [alikeB, hH]
      go_enter Try.func169, Try.ntmps169
      go_wp2
      go_quiet (fail)
      go_wp2
      go_ret
      exact ⟨by rw [HR.out]; rfl, (Ext.refl _).drewN _⟩
    | true =>
      have HR : Hid (alikeB W H R W' H' R' = (R == R')) := by show _ = _; simp [alikeB, hH, hW]
      go_enter Try.func169, Try.ntmps169
      go_wp2
      go_quiet (fail)
      go_wp2
      go_ret
      exact ⟨by rw [HR.out]; rfl, (Ext.refl _).drewN _⟩

/-- The number of a cell, made of two fields' numbers. -/
def bothG (hg : Option Nat → Option Nat → Option Nat) (W H : Int) (R : Bool) (fs gs : List (Option Nat)) (u v : Int) : Option Nat := hg (aboutV W H R fs u v) (aboutV W H R gs u v)

set_option maxRecDepth 100000 in
set_option maxHeartbeats 1000000 in
theorem both1_any (F : FuncId) (hg : Option Nat → Option Nat → Option Nat) (W H u v : Int) (R : Bool) (b o b' o' n c c' : Nat) (xs ys : List Nat) (hx : xs.length = n) (hy : ys.length = n) (hv : vldF W H n = true) (p q r : Nat) (w : World) (hcall : ∀ args u, Sem.run Try.prog (callFunc F args) u = .ok (.enter F args) u)
    (hF : ∀ r1 r2 w', Calls Try.prog F #[.float .f32 r1, .float .f32 r2] w' (fun e w'' => ∃ r, e = .returned (.float .f32 r) ∧ fa .f32 r = hg (fa .f32 r1) (fa .f32 r2) ∧ Ext w' w''))
    (hA : VArr w (some ⟨b, o, none⟩) (flts xs)) (hB : VArr w (some ⟨b', o', none⟩) (flts ys)) (T : TypeId)
    (hp : w.heap[p]? = some (.cells #[.func (.func F) #[] #[]] T (0, 0))) (hq : w.heap[q]? = some (.cells #[.int .i64 W, .int .i64 H, .bool R, .slice (some ⟨b, o, none⟩) n c] 26 (0, 0))) (hr : w.heap[r]? = some (.cells #[.int .i64 W, .int .i64 H, .bool R, .slice (some ⟨b', o', none⟩) n c'] 26 (0, 0)))
    (u0 : 0 ≤ u) (u1 : u < W) (v0 : 0 ≤ v) (v1 : v < H) :
    Calls Try.prog 140 #[.int .i64 u, .int .i64 v, .pointer (some ⟨p, 0, none⟩), .pointer (some ⟨q, 0, none⟩), .pointer (some ⟨r, 0, none⟩)] w fun e w' => ∃ r, e = .returned (.float .f32 r) ∧ fa .f32 r = bothG hg W H R (fas xs) (fas ys) u v ∧ Ext w w' := by
  have HA := Lib.hid (fa_about (W := W) (H := H) (R := R) (xs := xs) rfl (by rw [hx]; exact hv) u v)
  have HB := Lib.hid (fa_about (W := W) (H := H) (R := R) (xs := ys) rfl (by rw [hy]; exact hv) u v)
  have HX := Lib.hid hx
  have HY := Lib.hid hy
  have HV := Lib.hid hv
  have HF := Lib.hid hF
  clear hx hy hv hF
  go_enter Try.func140, Try.ntmps140
  go_wp2_with fail
  refine region_grow (C := Ext _) (K := fun f args V wv => (∀ (b1 o1 c1 : Nat) (zs : List Nat), args = #[.agg #[.int .i64 W, .int .i64 H, .bool R, .slice (some ⟨b1, o1, none⟩) n c1], .int .i64 u, .int .i64 v] → zs.length = n → VArr w (some ⟨b1, o1, none⟩) (flts zs) → V = .float .f32 (aboutB W H R zs u v)) ∧ (∀ (r1 r2 : Nat), args = #[.float .f32 r1, .float .f32 r2] → ∃ r, V = .float .f32 r ∧ fa .f32 r = hg (fa .f32 r1) (fa .f32 r2))) ⟨fun _ _ h k => h.trans k, fun _ _ _ _ _ h _ => h⟩ (by kernel_rfl) (by kernel_rfl) ((Ext.refl _).drew) ?_
  iterate 4 (refine grow_q rfl ?_; apply Exists.intro; refine ⟨fun u' hu _ => ?_, ?_⟩; focus (obtain ⟨k0, _⟩ := block1 (hu.block hp); obtain ⟨⟨c0, c1, c2, c3⟩, _⟩ := block4 (hu.block hq); obtain ⟨⟨d0, d1, d2, d3⟩, _⟩ := block4 (hu.block hr); go_simp; rfl))
  refine grow_c1 72 rfl ⟨#[.agg #[.int .i64 W, .int .i64 H, .bool R, .slice (some ⟨b, o, none⟩) n c], .int .i64 u, .int .i64 v], fun u => ?_, _, fun u' hu _ => atF_any W H u v R b o n c xs HX.out HV.out u' (hA.ext hu) u0 u1 v0 v1, fun V u h => h.1 _ _ _ xs rfl HX.out hA, fun u' => ⟨fun b1 o1 c1 zs he hl hz => ?_, fun r1 r2 h => by simp at h⟩, ?_⟩
  · go_simp
  · simp at he
    obtain ⟨⟨rfl, rfl⟩, rfl⟩ := he
    rw [flts_inj (VArr.unique (by simp [hl, HX.out]) hz hA)]
  iterate 3 (refine grow_q rfl ?_; apply Exists.intro; refine ⟨fun u' hu _ => ?_, ?_⟩; focus (obtain ⟨k0, _⟩ := block1 (hu.block hp); obtain ⟨⟨c0, c1, c2, c3⟩, _⟩ := block4 (hu.block hq); obtain ⟨⟨d0, d1, d2, d3⟩, _⟩ := block4 (hu.block hr); go_simp; rfl))
  refine grow_c1 72 rfl ⟨#[.agg #[.int .i64 W, .int .i64 H, .bool R, .slice (some ⟨b', o', none⟩) n c'], .int .i64 u, .int .i64 v], fun u => ?_, _, fun u' hu _ => atF_any W H u v R b' o' n c' ys HY.out HV.out u' (hB.ext hu) u0 u1 v0 v1, fun V u h => h.1 _ _ _ ys rfl HY.out hB, fun u' => ⟨fun b1 o1 c1 zs he hl hz => ?_, fun r1 r2 h => by simp at h⟩, ?_⟩
  · go_simp
  · simp at he
    obtain ⟨⟨rfl, rfl⟩, rfl⟩ := he
    rw [flts_inj (VArr.unique (by simp [hl, HY.out]) hz hB)]
  refine grow_cf F .f32 rfl ⟨#[.float .f32 (aboutB W H R xs u v), .float .f32 (aboutB W H R ys u v)], fun u => ?_, _, fun u' hu _ => HF.out _ _ u', fun V u' => ⟨fun h => h.2 _ _ rfl, fun h0 => ⟨fun b1 o1 c1 zs he => by simp at he, fun r1 r2 he => by simp at he; obtain ⟨rfl, rfl⟩ := he; exact h0⟩⟩, fun z hz => ?_⟩
  · go_simp; try exact hcall _ _
  refine grow_q rfl ?_; apply Exists.intro; refine ⟨fun u' hu _ => ?_, ?_⟩; focus (go_simp; rfl)
  refine grow_nil (fun w2 hw _ => ?_)
  have HZ := Lib.hid hz
  have HW := Lib.hid hw
  clear hz hw hA hB hp hq hr
  go_simp
  go_wp2
  go_ret
  exact ⟨_, rfl, by rw [HZ.out, HA.out, HB.out]; rfl, HW.out⟩
end Go.Proofs.Ytajfpjggdbifjaa
