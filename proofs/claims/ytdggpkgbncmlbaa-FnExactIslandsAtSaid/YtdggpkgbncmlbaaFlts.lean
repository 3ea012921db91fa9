/-
  Contracts of the small functions that the statements share: a slice of singles copied, compared, marked, held against its marks.
-/
import Derived.Test.YtdggpkgbncmlbaaFlo
import Derived.Test.YtdggpkgbncmlbaaInts
namespace Go.Proofs.Ytdggpkgbncmlbaa
open Go.RowKit
set_option linter.unusedVariables false
set_option linter.unusedSimpArgs false
set_option linter.unnecessarySimpa false

theorem info32 : (Try.prog.info? 41).map (fun i => (i.zero, i.size, i.bytes)) = some (some (.float .f32 0), 1, 4) := by kernel_rfl

theorem made_flts (n : Nat) : (madeCells #[Value.float .f32 0] n).toList = flts (List.replicate n 0) := by
  have := made_one (.float .f32 0) rfl n
  simp only [Value.cells, Nat.mul_one] at this
  rw [this]; simp [flts]
theorem take_setF (zs : List Nat) (k : Nat) {n : Nat} (hk : k < n) (hz : zs.length = n) : (zs.take k ++ List.replicate (n - k) 0).set k (zs[k]?.getD 0) = zs.take (k + 1) ++ List.replicate (n - (k + 1)) 0 := by
  have hl : (zs.take k).length = k := by simp; omega
  obtain ⟨m, hm⟩ : ∃ m, n - k = m + 1 := ⟨n - k - 1, by omega⟩
  rw [hm, List.replicate_succ, show n - (k + 1) = m by omega]
  conv => lhs; rw [show k = (zs.take k).length + 0 by omega]
  rw [show (zs.take k).length + 0 = k by omega]
  rw [List.set_append_right _ _ (by omega), hl, Nat.sub_self, List.set_cons_zero, List.take_succ_eq_append_getElem (by omega), List.append_assoc, List.singleton_append, List.getElem?_eq_getElem (by omega), Option.getD_some]
def markF (k : Int) (n : Nat) : List Nat := (List.range n).map fun (i : Nat) => floatOfInt .f32 (k + i)
theorem markF_set (k0 : Int) (zs : List Nat) (k : Nat) {n : Nat} (hk : k < n) (hz : zs.length = n) : (((List.range k).map fun (i : Nat) => floatOfInt .f32 (k0 + i)) ++ zs.drop k).set k (floatOfInt .f32 (k0 + k)) = ((List.range (k + 1)).map fun (i : Nat) => floatOfInt .f32 (k0 + i)) ++ zs.drop (k + 1) := by
  rw [List.set_append_right _ _ (by simp)]
  simp only [List.length_map, List.length_range, Nat.sub_self]
  rw [List.drop_eq_getElem_cons (by omega), List.set_cons_zero, List.range_succ]
  simp
theorem isN_ofInt (k : FloatKind) (n : Int) : isN k (floatOfInt k n) = false := isN_nearest k _ _ _
theorem order_self {k : FloatKind} {b : Nat} (h : isN k b = false) : k.format.order b b = some .eq := datum_order_self h

theorem order_nan1 {k : FloatKind} {x y : Nat} (h : isN k x = true) : k.format.order x y = none := by
  rw [order_fa, fa_nan h]; rfl
theorem isN_of_fa {k : FloatKind} {x y : Nat} (h : fa k x = fa k y) (hx : isN k x = true) : isN k y = true := by
  rw [fa_nan hx] at h
  unfold fa at h
  split at h
  · assumption
  · cases h
theorem eq_of_fa {k : FloatKind} {x y : Nat} (h : fa k x = fa k y) (hx : isN k x = false) : y = x := by
  rw [fa_num hx] at h
  unfold fa at h
  split at h
  · cases h
  · simpa using h.symm
theorem order_frr {op : BinOp} {k : FloatKind} (x y z : Nat) (w w' : World) : k.format.order (frr op k x y w) z = k.format.order (frr op k x y w') z := by
  rw [order_fa, order_fa, fa_frr, fa_frr]

/-- Floats that are the same up to which not-a-number are the same to 'sameFloat'. -/
theorem sameFloat_any (x y : Nat) (h : fa .f64 x = fa .f64 y) (w : World) :
    Calls Try.prog 36 #[.float .f64 x, .float .f64 y] w fun e w' => e = .returned (.bool true) ∧ Ext w w' := by
  cases hx : isN .f64 x with
  | true =>
    have hy := isN_of_fa h hx
    have e1 : FloatKind.f64.format.order x x = none := order_nan1 hx
    have e2 : FloatKind.f64.format.order y y = none := order_nan1 hy
    clear h hx hy
    go_enter Try.func36, Try.ntmps36
    go_wp2
    go_ret
    exact ⟨rfl, Ext.refl _⟩
  | false =>
    obtain rfl := eq_of_fa h hx
    have e1 : FloatKind.f64.format.order y y = some .eq := order_self hx
    clear h hx
    cases hz : FloatKind.f64.format.order y 0 == some .eq with
    | true =>
      have HF : ∀ w1 w2 : World, FloatKind.f64.format.order (frr .quo .f64 4607182418800017408 y w1) 0 = FloatKind.f64.format.order (frr .quo .f64 4607182418800017408 y w2) 0 := fun w1 w2 => order_frr _ _ _ _ _
      have HF' := Lib.hid HF
      clear HF
      go_enter Try.func36, Try.ntmps36
      go_wp2
      go_ret
      exact ⟨by rw [HF'.out (w.drewN _) w]; simp, (Ext.refl _).drewN _⟩
    | false =>
      go_enter Try.func36, Try.ntmps36
      go_wp2
      go_ret
      exact ⟨rfl, Ext.refl _⟩

end Go.Proofs.Ytdggpkgbncmlbaa
