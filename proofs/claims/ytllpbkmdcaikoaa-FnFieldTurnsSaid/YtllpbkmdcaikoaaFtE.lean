/-
  What the law on turned fields uses: words of numbers; the program's functions on valid fields.
-/
import Derived.Test.YtllpbkmdcaikoaaFtB
import Derived.Test.YtllpbkmdcaikoaaFtD
import Derived.Test.YtllpbkmdcaikoaaFlI
import Derived.Test.YtllpbkmdcaikoaaFlC
namespace Go.Proofs.Ytllpbkmdcaikoaa
open Go.RowKit
set_option linter.unusedVariables false
set_option linter.unusedSimpArgs false
set_option linter.unnecessarySimpa false

-- no operation on quarters fails
theorem t_lap : ∀ a : Fin 65, ∀ b : Fin 17, (LI (((a : Nat) : Int) - 32) (((b : Nat) : Int) - 8)).isSome = true := by decide +kernel
theorem t_four : ∀ a : Fin 65, fop .mul .f32 (fa .f32 1082130432) (some (qb (((a : Nat) : Int) - 32))) = some (qb (4 * (((a : Nat) : Int) - 32))) := by decide +kernel
theorem t_plus : ∀ a : Fin 65, ∀ b : Fin 65, fop .add .f32 (some (qb (4 * (((a : Nat) : Int) - 32)))) (some (qb (((b : Nat) : Int) - 32))) = some (qb (4 * (((a : Nat) : Int) - 32) + (((b : Nat) : Int) - 32))) := by decide +kernel
theorem t_rest : ∀ a : Fin 321, ∀ b : Fin 17, (fop .quo .f32 (fop .sub .f32 (some (qb (((a : Nat) : Int) - 160))) (fop .mul .f32 (fa .f32 1101004800) (some (qb (((b : Nat) : Int) - 8))))) (fa .f32 1086324736)).isSome = true := by decide +kernel
theorem int_fin {n : Nat} {m x : Int} (h : -m ≤ x ∧ x ≤ m) (hn : (n : Int) = 2 * m + 1) : ∃ a : Fin n, ((a : Nat) : Int) - m = x := ⟨⟨(x + m).toNat, by omega⟩, by show (((x + m).toNat : Nat) : Int) - m = x; omega⟩
theorem LI_some {s c : Int} (hs : -32 ≤ s ∧ s ≤ 32) (hc : -8 ≤ c ∧ c ≤ 8) : ∃ r, LI s c = some r := by
  obtain ⟨a, rfl⟩ := int_fin (n := 65) hs (by omega)
  obtain ⟨b, rfl⟩ := int_fin (n := 17) hc (by omega)
  exact Option.isSome_iff_exists.1 (t_lap a b)
theorem NI_some {s c m : Int} (hs : -32 ≤ s ∧ s ≤ 32) (hc : -32 ≤ c ∧ c ≤ 32) (hm : -8 ≤ m ∧ m ≤ 8) : ∃ r, NI s c m = some r := by
  obtain ⟨a, rfl⟩ := int_fin (n := 65) hs (by omega)
  obtain ⟨b, rfl⟩ := int_fin (n := 65) hc (by omega)
  obtain ⟨d, rfl⟩ := int_fin (n := 17) hm (by omega)
  unfold NI
  rw [t_four a, t_plus a b]
  obtain ⟨e, he⟩ := int_fin (n := 321) (m := 160) (x := 4 * (((a : Nat) : Int) - 32) + (((b : Nat) : Int) - 32)) (by omega) (by omega)
  rw [← he]
  exact Option.isSome_iff_exists.1 (t_rest e d)

/-- A number, and no word too great. -/
def okO (o : Option Nat) : Prop := ∃ r, o = some r ∧ r < 4294967296
theorem okO_qb {a : Int} (ha : -8 ≤ a ∧ a ≤ 8) : okO (some (qb a)) := ⟨_, rfl, wfO_qb ha _ rfl⟩
theorem okO_fop {op : BinOp} {x y : Option Nat} {r : Nat} (h : fop op .f32 x y = some r) : okO (fop op .f32 x y) := ⟨r, h, wfO_fop op x y r h⟩
theorem okO_LI {s c : Int} (hs : -32 ≤ s ∧ s ≤ 32) (hc : -8 ≤ c ∧ c ≤ 8) : okO (LI s c) := by
  obtain ⟨r, h⟩ := LI_some hs hc
  exact okO_fop h
theorem okO_NI {s c m : Int} (hs : -32 ≤ s ∧ s ≤ 32) (hc : -32 ≤ c ∧ c ≤ 32) (hm : -8 ≤ m ∧ m ≤ 8) : okO (NI s c m) := by
  obtain ⟨r, h⟩ := NI_some hs hc hm
  exact okO_fop h
def allOk (W H : Int) (R : Bool) (fs : List (Option Nat)) : Prop := ∀ x y, okO (aboutV W H R fs x y)
theorem allOk_grid {W H : Int} (h1 : 1 ≤ W) (h3 : 1 ≤ H) (R : Bool) {G : Int → Int → Option Nat} (h : ∀ x y, okO (G x y)) : allOk W H R (gridF W.toNat G (H.toNat * W.toNat)) := fun x y => by
  rw [about_grid h1 h3]; exact h _ _
theorem allOk.wf {W H : Int} {R : Bool} {xs : List Nat} {fs : List (Option Nat)} (h : allOk W H R fs) (hf : fas xs = fs) (hv : vldF W H xs.length = true) : wfF xs := by
  refine wfF_of hf fun i hi => ?_
  have hl : fs.length = xs.length := by rw [← hf]; simp [fas]
  have hs := grid_self (W := W) (H := H) R (fs := fs) (by rw [hl]; exact hv)
  obtain ⟨Wn, Hn, rfl, rfl, k1, k2, k3, k4, hnn, _⟩ := vldF_facts hv
  simp only [Int.toNat_natCast] at hs
  rw [← hs, gridF_get _ (by rw [← hnn, ← hl]; exact hi)]
  exact h _ _
theorem QF.ok {W H : Int} {R : Bool} {fs : List (Option Nat)} {q : Int → Int → Int} (h : QF W H R fs q) : allOk W H R fs := fun x y => by
  obtain ⟨h1, h2⟩ := h x y
  rw [h1]; exact okO_qb h2
theorem QF.okLap {W H : Int} {R : Bool} {fs : List (Option Nat)} {q : Int → Int → Int} (h : QF W H R fs q) (h1 : 1 ≤ W) (h3 : 1 ≤ H) : allOk W H R (lapF W H R fs) := by
  refine allOk_grid h1 h3 R fun x y => ?_
  rw [h.lap]
  have a := h (x - 1) y; have b := h (x + 1) y; have c := h x (y - 1); have d := h x (y + 1); have e := h x y
  exact okO_LI (by unfold sidesI; omega) (by omega)
theorem QF.okNin {W H : Int} {R : Bool} {fs : List (Option Nat)} {q : Int → Int → Int} (h : QF W H R fs q) (h1 : 1 ≤ W) (h3 : 1 ≤ H) : allOk W H R (ninF W H R fs) := by
  refine allOk_grid h1 h3 R fun x y => ?_
  rw [h.nin]
  have a := h (x - 1) y; have b := h (x + 1) y; have c := h x (y - 1); have d := h x (y + 1); have e := h x y
  have a2 := h (x - 1) (y - 1); have b2 := h (x + 1) (y - 1); have c2 := h (x - 1) (y + 1); have d2 := h (x + 1) (y + 1)
  exact okO_NI (by unfold sidesI; omega) (by unfold crossI; omega) (by omega)
theorem allOk.mir {W H : Int} {R : Bool} {fs : List (Option Nat)} (h : allOk W H R fs) (h1 : 1 ≤ W) (h3 : 1 ≤ H) : allOk W H R (mirF W H R fs) := allOk_grid h1 h3 R fun x y => h _ _
theorem allOk.swap {W H : Int} {R : Bool} {fs : List (Option Nat)} (h : allOk W H R fs) (h1 : 1 ≤ W) (h3 : 1 ≤ H) : allOk H W R (swapF W H R fs) := allOk_grid h3 h1 R fun x y => h _ _
theorem allOk.rol {W H : Int} {R : Bool} {fs : List (Option Nat)} (h : allOk W H R fs) (h1 : 1 ≤ W) (h3 : 1 ≤ H) (a b : Int) : allOk W H R (rolF W H R fs a b) := allOk_grid h1 h3 R fun x y => h _ _

-- the program's functions on valid fields
def resY (w : World) (W H : Int) (R : Bool) (n : Nat) (fs : List (Option Nat)) (e : Ending) (w' : World) : Prop :=
  ∃ a c xs, e = .returned (.tuple #[.agg #[.int .i64 W, .int .i64 H, .bool R, .slice a n c], .bool true]) ∧ Ext w w' ∧ VArr w' a (flts xs) ∧ xs.length = n ∧ fas xs = fs
theorem resY_of {w : World} {W H W' H' : Int} {R : Bool} {n : Nat} {G : Int → Int → Option Nat} {e : Ending} {w' : World} (hn : n = H'.toNat * W'.toNat) (h : twoF w W H R (gridF W'.toNat G (H'.toNat * W'.toNat)) true e w') : resY w W H R n (gridF W'.toNat G (H'.toNat * W'.toNat)) e w' := by
  obtain ⟨a, n', c, xs, h1, h2, h3, h4, h5, h6⟩ := h
  have h7 := congrArg List.length h6
  rw [fas, List.length_map, gridF_length, h4] at h7
  have h8 : n' = n := by omega
  subst h8
  exact ⟨a, c, xs, h1, h2, ownsRow_varr h3, h4, h6⟩
theorem len_of {W H : Int} {n : Nat} (h : vldF W H n = true) : n = H.toNat * W.toNat := by
  obtain ⟨Wn, Hn, rfl, rfl, _, _, _, _, hnn, _⟩ := vldF_facts h
  simpa using hnn
theorem vld_swap {W H : Int} {n : Nat} (h : vldF W H n = true) : vldF H W n = true := by
  obtain ⟨hs, hl⟩ := vldF_iff.1 h
  have hs' := szF_iff.1 hs
  exact vldF_iff.2 ⟨szF_iff.2 ⟨hs'.2, hs'.1⟩, by rw [Int.mul_comm]; exact hl⟩
section
variable (W H : Int) (R : Bool) (a : Option Addr) (n c : Nat) (zs : List Nat) (hz : zs.length = n) (hn : n ≤ 1048576) (hv : vldF W H n = true) (w : World) (hA : VArr w a (flts zs))
include hz hn hv hA
theorem mirY : Calls Try.prog 54 #[.agg #[.int .i64 W, .int .i64 H, .bool R, .slice a n c]] w (resY w W H R n (mirF W H R (fas zs))) := by
  have h := implMirF_any W H R a n c zs hz hn w hA
  rw [hv] at h
  exact h.mono fun e w' h => resY_of (len_of hv) h
theorem swapY : Calls Try.prog 55 #[.agg #[.int .i64 W, .int .i64 H, .bool R, .slice a n c]] w (resY w H W R n (swapF W H R (fas zs))) := by
  have h := implSwapF_any W H R a n c zs hz hn w hA
  rw [hv] at h
  exact h.mono fun e w' h => resY_of (len_of (vld_swap hv)) h
theorem rolY (x y : Int) (hx : -16 ≤ x ∧ x ≤ 16) (hy : -16 ≤ y ∧ y ≤ 16) : Calls Try.prog 36 #[.agg #[.int .i64 W, .int .i64 H, .bool R, .slice a n c], .int .i64 x, .int .i64 y] w (resY w W H R n (rolF W H R (fas zs) x y)) := by
  have h := implRollF_any W H R x y a n c zs hz hn w hA
  have e : rollOkF W H n x y = true := by unfold rollOkF; rw [hv, inB_yes hx.1 hx.2, inB_yes hy.1 hy.2]; rfl
  rw [e] at h
  exact h.mono fun e w' h => resY_of (len_of hv) h
theorem lapY : Calls Try.prog 40 #[.agg #[.int .i64 W, .int .i64 H, .bool R, .slice a n c]] w (resY w W H R n (lapF W H R (fas zs))) := by
  have h := implLaplace_any W H R a n c zs hz hn w hA
  rw [hv] at h
  exact h.mono fun e w' h => resY_of (len_of hv) h
theorem ninY : Calls Try.prog 42 #[.agg #[.int .i64 W, .int .i64 H, .bool R, .slice a n c]] w (resY w W H R n (ninF W H R (fas zs))) := by
  have h := implNine_any W H R a n c zs hz hn w hA
  rw [hv] at h
  exact h.mono fun e w' h => resY_of (len_of hv) h
theorem valY (x y : Int) (hx : -16 ≤ x ∧ x ≤ 16) (hy : -16 ≤ y ∧ y ≤ 16) (v : Int) (hq : aboutV W H R (fas zs) x y = some (qb v)) : Calls Try.prog 26 #[.agg #[.int .i64 W, .int .i64 H, .bool R, .slice a n c], .int .i64 x, .int .i64 y] w fun e w' => e = .returned (.tuple #[.float .f32 (qb v), .bool true]) ∧ Ext w w' := by
  have h := implValueAbout_any W H R x y a n c zs hz hn w hA
  have e : abOk W H zs.length x y = true := by unfold abOk; rw [hz, hv, inB_yes (by omega) (by omega), inB_yes (by omega) (by omega)]; rfl
  rw [e] at h
  refine h.mono fun e' w' h => ?_
  obtain ⟨fr, h1, h2, h3⟩ := h
  rw [abR_yes e, fa_about rfl (by rw [hz]; exact hv), hq] at h3
  have h4 : fr = qb v := by
    unfold fa at h3
    split at h3
    · cases h3
    · exact Option.some.inj h3
  exact ⟨by rw [h1, h4], h2⟩
end
theorem vldY (W H : Int) (R : Bool) (a : Option Addr) (n c : Nat) (hn : n ≤ 1048576) (hv : vldF W H n = true) (w : World) : Calls Try.prog 57 #[.agg #[.int .i64 W, .int .i64 H, .bool R, .slice a n c]] w fun e w' => e = .returned (.bool true) ∧ Ext w w' := by
  have h := implValidF_any W H R a n c (by omega) w
  rw [hv] at h
  exact h
theorem samY (W H : Int) (R : Bool) (a : Option Addr) (n c : Nat) (zs : List Nat) (hz : zs.length = n) (hn : n ≤ 1048576) (w : World) (hA : VArr w a (flts zs)) (a' : Option Addr) (c' : Nat) (zs' : List Nat) (hz' : zs'.length = n) (hw : wfF zs) (hw' : wfF zs') (hf : fas zs = fas zs') (hA' : VArr w a' (flts zs')) :
    Calls Try.prog 20 #[.agg #[.int .i64 W, .int .i64 H, .bool R, .slice a n c], .agg #[.int .i64 W, .int .i64 H, .bool R, .slice a' n c']] w fun e w' => e = .returned (.bool true) ∧ Ext w w' := by
  have h := implSameF_any W H W H R R a a' n c n c' zs zs' hz hz' hn hn hw hw' w hA hA'
  have e : sameFB W H R W H R zs zs' = true := by
    unfold sameFB sameL
    rw [alikeB_iff.2 ⟨rfl, rfl, rfl⟩, decide_eq_true hf]; rfl
  rw [e] at h
  exact h
end Go.Proofs.Ytllpbkmdcaikoaa
