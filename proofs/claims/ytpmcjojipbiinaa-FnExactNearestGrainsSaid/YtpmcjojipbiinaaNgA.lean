/-
  Differences along a side, and which centre is nearest: plain words, and the two small functions.
-/
import Derived.Test.YtpmcjojipbiinaaFpA
import Derived.Test.YtpmcjojipbiinaaArF
namespace Go.Proofs.Ytpmcjojipbiinaa
open Go.RowKit
set_option linter.unusedVariables false
set_option linter.unusedSimpArgs false
set_option linter.unnecessarySimpa false

@[go_sem] theorem run_fneg {P : Program} (w : World) (k : FloatKind) (b : Nat) : (Op.unary .neg (.float k b)).run P w = .ok (.float k (Op.negFloat k b)) w := rfl
/-- A side, its half. -/
def whW (s : Int) : Nat := floatOfInt .f32 s
def hfW (s : Int) : Nat := (floatBits .quo .f32 (floatOfInt .f32 s) 1073741824).getD 0
def nhW (s : Int) : Nat := Op.negFloat .f32 (hfW s)
theorem half_table : ∀ a : Fin 16, floatBits .quo .f32 (floatOfInt .f32 (((a : Nat) : Int) + 1)) 1073741824 = some (hfW (((a : Nat) : Int) + 1)) := by decide +kernel
theorem half_word {s : Int} (h1 : 1 ≤ s) (h2 : s ≤ 16) : (∀ u, frr .quo .f32 (floatOfInt .f32 s) 1073741824 u = hfW s) ∧ frn .quo .f32 (floatOfInt .f32 s) 1073741824 = 0 := by
  have h := half_table ⟨(s - 1).toNat, by omega⟩
  have e : (((s - 1).toNat : Nat) : Int) + 1 = s := by omega
  simp only [e] at h
  unfold frr frn
  rw [h]
  exact ⟨fun _ => rfl, rfl⟩
/-- A difference, along a side that closes. -/
def difO (d : Option Nat) (s : Int) : Option Nat :=
  if ford .f32 d (fa .f32 (hfW s)) = some .gt then fop .sub .f32 d (fa .f32 (whW s))
  else if ford .f32 d (fa .f32 (nhW s)) = some .lt then fop .add .f32 d (fa .f32 (whW s)) else d

set_option maxRecDepth 100000 in
theorem difference_any (d : Nat) (s : Int) (h1 : 1 ≤ s) (h2 : s ≤ 16) (w : World) :
    Calls Try.prog 34 #[.float .f32 d, .int .i64 s, .bool true] w fun e w' => ∃ r, e = .returned (.float .f32 r) ∧ fa .f32 r = difO (fa .f32 d) s ∧ Ext w w' := by
  obtain ⟨fh1, fh2⟩ := half_word h1 h2
  have fd : ∀ u : World, u.drewN 0 = u := fun _ => rfl
  have fw : Hid (whW s = floatOfInt .f32 s) := rfl
  have fn : Op.negFloat .f32 (hfW s) = nhW s := rfl
  have o1 : FloatKind.f32.format.order d (hfW s) = ford .f32 (fa .f32 d) (fa .f32 (hfW s)) := order_fa .f32 _ _
  have o2 : FloatKind.f32.format.order d (nhW s) = ford .f32 (fa .f32 d) (fa .f32 (nhW s)) := order_fa .f32 _ _
  by_cases g1 : ford .f32 (fa .f32 d) (fa .f32 (hfW s)) = some .gt
  · have HR : Hid (difO (fa .f32 d) s = fop .sub .f32 (fa .f32 d) (fa .f32 (whW s))) := by show _ = _; unfold difO; rw [if_pos g1]
    have b1 : (FloatKind.f32.format.order d (hfW s) == some .gt) = true := by rw [o1, g1]; rfl
    clear o1 o2 g1
    go_enter Try.func34, Try.ntmps34
    go_wp2
    go_ret
    exact ⟨_, rfl, by rw [fa_frr, HR.out, fw.out], (Ext.refl _).drewN _⟩
  · have b1 : (FloatKind.f32.format.order d (hfW s) == some .gt) = false := by rw [o1]; simpa using g1
    by_cases g2 : ford .f32 (fa .f32 d) (fa .f32 (nhW s)) = some .lt
    · have HR : Hid (difO (fa .f32 d) s = fop .add .f32 (fa .f32 d) (fa .f32 (whW s))) := by show _ = _; unfold difO; rw [if_neg g1, if_pos g2]
      have b2 : (FloatKind.f32.format.order d (nhW s) == some .lt) = true := by rw [o2, g2]; rfl
      clear o1 o2 g1 g2
      go_enter Try.func34, Try.ntmps34
      go_wp2
      go_ret
      exact ⟨_, rfl, by rw [fa_frr, HR.out, fw.out], (Ext.refl _).drewN _⟩
    · have HR : Hid (difO (fa .f32 d) s = fa .f32 d) := by show _ = _; unfold difO; rw [if_neg g1, if_neg g2]
      have b2 : (FloatKind.f32.format.order d (nhW s) == some .lt) = false := by rw [o2]; simpa using g2
      clear o1 o2 g1 g2
      go_enter Try.func34, Try.ntmps34
      go_wp2
      go_ret
      exact ⟨_, rfl, HR.out.symm, Ext.refl _⟩

set_option maxRecDepth 100000 in
theorem l02Gap_any (a b : Nat) (s : Int) (h1 : 1 ≤ s) (h2 : s ≤ 16) (w : World) :
    Calls Try.prog 28 #[.float .f32 a, .float .f32 b, .int .i64 s, .bool true] w fun e w' => ∃ r, e = .returned (.float .f32 r) ∧ fa .f32 r = difO (fop .sub .f32 (fa .f32 a) (fa .f32 b)) s ∧ Ext w w' := by
  obtain ⟨fh1, fh2⟩ := half_word h1 h2
  have fd : ∀ u : World, u.drewN 0 = u := fun _ => rfl
  have fw : Hid (whW s = floatOfInt .f32 s) := rfl
  have fn : Op.negFloat .f32 (hfW s) = nhW s := rfl
  generalize hD : fop .sub .f32 (fa .f32 a) (fa .f32 b) = D
  have HD : Hid (∀ u, fa .f32 (frr .sub .f32 a b u) = D) := fun u => by rw [fa_frr, hD]
  clear hD
  have o1 : ∀ u, FloatKind.f32.format.order (frr .sub .f32 a b u) (hfW s) = ford .f32 D (fa .f32 (hfW s)) := fun u => by rw [order_fa, HD.out]
  have o2 : ∀ u, FloatKind.f32.format.order (frr .sub .f32 a b u) (nhW s) = ford .f32 D (fa .f32 (nhW s)) := fun u => by rw [order_fa, HD.out]
  by_cases g1 : ford .f32 D (fa .f32 (hfW s)) = some .gt
  · have HR : Hid (difO D s = fop .sub .f32 D (fa .f32 (whW s))) := by show _ = _; unfold difO; rw [if_pos g1]
    have b1 : ∀ u, (FloatKind.f32.format.order (frr .sub .f32 a b u) (hfW s) == some .gt) = true := fun u => by rw [o1, g1]; rfl
    clear o1 o2 g1
    go_enter Try.func28, Try.ntmps28
    go_wp2
    go_ret
    exact ⟨_, rfl, by rw [fa_frr, HR.out, fw.out, HD.out], (Ext.refl _).drewN _⟩
  · have b1 : ∀ u, (FloatKind.f32.format.order (frr .sub .f32 a b u) (hfW s) == some .gt) = false := fun u => by rw [o1]; simpa using g1
    by_cases g2 : ford .f32 D (fa .f32 (nhW s)) = some .lt
    · have HR : Hid (difO D s = fop .add .f32 D (fa .f32 (whW s))) := by show _ = _; unfold difO; rw [if_neg g1, if_pos g2]
      have b2 : ∀ u, (FloatKind.f32.format.order (frr .sub .f32 a b u) (nhW s) == some .lt) = true := fun u => by rw [o2, g2]; rfl
      clear o1 o2 g1 g2
      go_enter Try.func28, Try.ntmps28
      go_wp2
      go_ret
      exact ⟨_, rfl, by rw [fa_frr, HR.out, fw.out, HD.out], (Ext.refl _).drewN _⟩
    · have HR : Hid (difO D s = D) := by show _ = _; unfold difO; rw [if_neg g1, if_neg g2]
      have b2 : ∀ u, (FloatKind.f32.format.order (frr .sub .f32 a b u) (nhW s) == some .lt) = false := fun u => by rw [o2]; simpa using g2
      clear o1 o2 g1 g2
      go_enter Try.func28, Try.ntmps28
      go_wp2
      go_ret
      exact ⟨_, rfl, by rw [HR.out, HD.out], (Ext.refl _).drewN _⟩

/-- How far a centre is, squared. -/
def ownO (W H : Int) (xs ys : List Nat) (a b : Int) (k : Nat) : Option Nat :=
  fop .add .f32 (fop .mul .f32 (difO (fop .sub .f32 (fa .f32 (floatOfInt .f32 a)) (fa .f32 (xs[k]?.getD 0))) W) (difO (fop .sub .f32 (fa .f32 (floatOfInt .f32 a)) (fa .f32 (xs[k]?.getD 0))) W))
    (fop .mul .f32 (difO (fop .sub .f32 (fa .f32 (floatOfInt .f32 b)) (fa .f32 (ys[k]?.getD 0))) H) (difO (fop .sub .f32 (fa .f32 (floatOfInt .f32 b)) (fa .f32 (ys[k]?.getD 0))) H))
/-- The nearest of the first k centres, and how far it is. -/
def nrN (W H : Int) (xs ys : List Nat) (a b : Int) : Nat → Int × Option Nat
  | 0 => (0, fa .f32 0)
  | k + 1 => if (decide (k = 0) || lssO (ownO W H xs ys a b k) (nrN W H xs ys a b k).2) = true then ((k : Int), ownO W H xs ys a b k) else nrN W H xs ys a b k
theorem nrN_bd (W H : Int) (xs ys : List Nat) (a b : Int) : ∀ k, 0 ≤ (nrN W H xs ys a b k).1 ∧ (nrN W H xs ys a b k).1 ≤ k
  | 0 => ⟨Int.le_refl _, Int.le_refl _⟩
  | k + 1 => by
    have ih := nrN_bd W H xs ys a b k
    unfold nrN
    split
    · constructor
      · show (0 : Int) ≤ k; omega
      · show (k : Int) ≤ ((k + 1 : Nat) : Int); omega
    · omega
theorem nrN_yes {W H : Int} {xs ys : List Nat} {a b : Int} {k : Nat} (h : k = 0 ∨ lssO (ownO W H xs ys a b k) (nrN W H xs ys a b k).2 = true) : nrN W H xs ys a b (k + 1) = ((k : Int), ownO W H xs ys a b k) := by
  rw [nrN, if_pos]
  rcases h with h | h
  · simp [h]
  · rw [h, Bool.or_true]
theorem nrN_no {W H : Int} {xs ys : List Nat} {a b : Int} {k : Nat} (h0 : ¬ k = 0) (h : lssO (ownO W H xs ys a b k) (nrN W H xs ys a b k).2 = false) : nrN W H xs ys a b (k + 1) = nrN W H xs ys a b k := by
  rw [nrN, if_neg]
  rw [h, Bool.or_false, decide_eq_true_eq]; exact h0
/-- Which arguments are good. -/
def ctrOk (n m : Nat) (xs ys : List Nat) : Bool := inB n 1 64 && decide (m = n) && (xs.all finB && ys.all finB)
def nearOk (W H : Int) (n m : Nat) (xs ys : List Nat) : Bool := szG W H && ctrOk n m xs ys
def nearG (W H : Int) (xs ys : List Nat) (a b : Int) : Int := (nrN W H xs ys a b xs.length).1
def nearZ (W H : Int) (xs ys : List Nat) : List Int := gridV W.toNat (nearG W H xs ys) (H.toNat * W.toNat)
end Go.Proofs.Ytpmcjojipbiinaa
