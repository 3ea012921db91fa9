/-
  Fields in quarters, mirrored, exchanged and rolled: plain laws, no program.
-/
import Derived.Test.YtllpbkmdcaikoaaFlH
import Derived.Test.YtllpbkmdcaikoaaFlG
import Derived.Test.YtllpbkmdcaikoaaFsA
namespace Go.Proofs.Ytllpbkmdcaikoaa
open Go.RowKit
set_option linter.unusedVariables false
set_option linter.unusedSimpArgs false
set_option linter.unnecessarySimpa false

/-- The word of z quarters. -/
def qb (z : Int) : Nat := (floatBits .quo .f32 (floatOfInt .f32 z) 1082130432).getD 0
theorem q_made : ∀ a : Fin 17, floatBits .quo .f32 (floatOfInt .f32 (((a : Nat) : Int) - 8)) 1082130432 = some (qb (((a : Nat) : Int) - 8)) := by decide +kernel
theorem q_word {a : Int} (ha : -8 ≤ a ∧ a ≤ 8) : floatBits .quo .f32 (floatOfInt .f32 a) 1082130432 = some (qb a) := by
  have h := q_made ⟨(a + 8).toNat, by omega⟩
  have e1 : (((a + 8).toNat : Nat) : Int) - 8 = a := by omega
  simp only [e1] at h
  exact h
theorem q_one : qb 4 = 1065353216 := by decide +kernel
theorem q_table : ∀ a : Fin 33, ∀ b : Fin 33, floatBits .add .f32 (qb (((a : Nat) : Int) - 16)) (qb (((b : Nat) : Int) - 16)) = some (qb (((a : Nat) : Int) - 16 + (((b : Nat) : Int) - 16))) := by decide +kernel
theorem q_sum {a b : Int} (ha : -16 ≤ a ∧ a ≤ 16) (hb : -16 ≤ b ∧ b ≤ 16) : fop .add .f32 (some (qb a)) (some (qb b)) = some (qb (a + b)) := by
  have h := q_table ⟨(a + 16).toNat, by omega⟩ ⟨(b + 16).toNat, by omega⟩
  have e1 : (((a + 16).toNat : Nat) : Int) - 16 = a := by omega
  have e2 : (((b + 16).toNat : Nat) : Int) - 16 = b := by omega
  simp only [e1, e2] at h
  exact h
theorem q_zero : ∀ z : Fin 17, floatBits .add .f32 (qb (((z : Nat) : Int) - 8)) (qb 0) = some (qb (((z : Nat) : Int) - 8)) := by decide +kernel
theorem fa_qb {a : Int} (ha : -8 ≤ a ∧ a ≤ 8) : fa .f32 (qb a) = some (qb a) := by
  have h := q_sum (a := a) (b := 0) (by omega) (by omega)
  rw [Int.add_zero] at h
  have h' : floatBits .add .f32 (qb a) (qb 0) = some (qb a) := h
  exact fa_num (floatBits_num h')
theorem word_lt {k : FloatKind} (neg : Bool) {r : Nat} (h : r ≤ k.format.infRung) : k.format.word neg r < 2 * k.format.signWeight := by
  have := infRung_le k
  unfold Ieee.Format.word
  split <;> omega
theorem write_lt {k : FloatKind} {d : Ieee.Datum} (h : d.isNaN = false) : k.format.write d < 2 * k.format.signWeight := by
  cases d with
  | number neg mag place =>
    show k.format.nearest neg mag place < _
    unfold Ieee.Format.nearest
    dsimp only
    split
    · exact word_lt neg (Nat.zero_le _)
    · exact word_lt neg (Nat.min_le_right ..)
  | infinity neg => exact word_lt neg (Nat.le_refl _)
  | nan neg fraction => simp [Ieee.Datum.isNaN] at h
theorem map_lt {k : FloatKind} {d : Option Ieee.Datum} {r : Nat} (hd : ∀ x, d = some x → x.isNaN = false) (h : d.map k.format.write = some r) : r < 2 * k.format.signWeight := by
  cases d with
  | none => cases h
  | some x => cases h; exact write_lt (hd x rfl)
theorem floatBits_lt {op : BinOp} {k : FloatKind} {x y r : Nat} (h : floatBits op k x y = some r) : r < 2 * k.format.signWeight := by
  unfold floatBits at h
  cases op <;> simp only at h <;> first | (cases h; done) | skip
  · exact map_lt (fun _ h => sum_num h) h
  · exact map_lt (fun _ h => sum_num h) h
  · exact map_lt (fun _ h => product_num h) h
  · exact map_lt (fun _ h => quotient_num h) h
/-- A number that is some word, and no word too great. -/
def wfO (o : Option Nat) : Prop := ∀ r, o = some r → r < 4294967296
theorem wfO_fop (op : BinOp) (x y : Option Nat) : wfO (fop op .f32 x y) := by
  intro r hr
  cases x with
  | none => cases hr
  | some x =>
    cases y with
    | none => cases hr
    | some y =>
      have h : floatBits op .f32 x y = some r := hr
      have := floatBits_lt h
      have e : FloatKind.f32.format.signWeight = 2147483648 := by decide
      omega
theorem wfO_qb {a : Int} (ha : -8 ≤ a ∧ a ≤ 8) : wfO (some (qb a)) := by
  have h := q_sum (a := a) (b := 0) (by omega) (by omega)
  rw [Int.add_zero] at h
  exact h ▸ wfO_fop .add _ _
/-- Words whose numbers are numbers. -/
theorem wfF_of {xs : List Nat} {fs : List (Option Nat)} (h : fas xs = fs) (hg : ∀ i, i < fs.length → ∃ r, fat fs i = some r ∧ r < 4294967296) : wfF xs := by
  intro k hk
  have hl : fs.length = xs.length := by rw [← h]; simp [fas]
  obtain ⟨r, hr, h2⟩ := hg k (by omega)
  have h1 := fas_at h hk
  rw [hr] at h1
  unfold fa at h1
  split at h1
  · cases h1
  · simp only [Option.some.injEq] at h1
    rw [h1]; exact h2

-- places
theorem place_idem (R : Bool) (x : Int) {s : Int} (h : 1 ≤ s) : placeR R (placeR R x s) s = placeR R x s :=
  placeR_id R (placeR_bd R x h).1 (placeR_bd R x h).2
theorem place_mir (R : Bool) (x : Int) {s : Int} (h : 1 ≤ s) : placeR R (s - 1 - placeR R x s) s = placeR R (s - 1 - x) s := by
  unfold placeR
  cases R with
  | true =>
    simp only [if_true]
    have e : s - 1 - x % s = (s - 1 - x) + s * (x / s) := by have := Int.emod_add_mul_ediv x s; omega
    rw [e, Int.add_mul_emod_self_left]
  | false =>
    simp only [Bool.false_eq_true, if_false]
    omega
theorem place_roll (x a : Int) {s : Int} (h : 1 ≤ s) : placeR true (placeR true x s - a) s = placeR true (x - a) s := by
  unfold placeR
  simp only [if_true]
  have e : x % s - a = (x - a) + s * (-(x / s)) := by have := Int.emod_add_mul_ediv x s; rw [Int.mul_neg]; omega
  rw [e, Int.add_mul_emod_self_left]
theorem about_eq {W H : Int} {R : Bool} {fs : List (Option Nat)} {x y u v : Int} (h1 : placeR R x W = placeR R u W) (h2 : placeR R y H = placeR R v H) : aboutV W H R fs x y = aboutV W H R fs u v := by
  unfold aboutV cellR
  rw [h1, h2]

-- grids
theorem grid_get {W H : Int} (G : Int → Int → Option Nat) {x y : Int} (h1 : 0 ≤ x) (h2 : x < W) (h3 : 0 ≤ y) (h4 : y < H) : fat (gridF W.toNat G (H.toNat * W.toNat)) (x + W * y).toNat = G x y := by
  obtain ⟨x, rfl⟩ := Int.eq_ofNat_of_zero_le h1
  obtain ⟨y, rfl⟩ := Int.eq_ofNat_of_zero_le h3
  obtain ⟨W, rfl⟩ := Int.eq_ofNat_of_zero_le (show 0 ≤ W by omega)
  obtain ⟨H, rfl⟩ := Int.eq_ofNat_of_zero_le (show 0 ≤ H by omega)
  simp only [Int.toNat_natCast]
  have e : ((x : Int) + (W : Int) * (y : Int)).toNat = x + W * y := by rw [← Int.natCast_mul, ← Int.natCast_add]; rfl
  rw [e]
  have hx : x < W := by omega
  have hb : x + W * y < H * W := by
    have := Nat.mul_le_mul_left W (show y + 1 ≤ H by omega)
    rw [Nat.mul_add] at this
    rw [Nat.mul_comm H W]; omega
  rw [gridF_get G hb]
  rw [Nat.add_mul_mod_self_left, Nat.mod_eq_of_lt hx, Nat.add_mul_div_left _ _ (by omega), Nat.div_eq_of_lt hx, Nat.zero_add]
theorem about_grid {W H : Int} (h1 : 1 ≤ W) (h3 : 1 ≤ H) (R : Bool) (G : Int → Int → Option Nat) (x y : Int) : aboutV W H R (gridF W.toNat G (H.toNat * W.toNat)) x y = G (placeR R x W) (placeR R y H) :=
  grid_get G (placeR_bd R x h1).1 (placeR_bd R x h1).2 (placeR_bd R y h3).1 (placeR_bd R y h3).2
theorem grid_congr {W H : Int} {G G' : Int → Int → Option Nat} (h : ∀ x y, 0 ≤ x → x < W → 0 ≤ y → y < H → G x y = G' x y) : gridF W.toNat G (H.toNat * W.toNat) = gridF W.toNat G' (H.toNat * W.toNat) := by
  refine gridF_congr fun i hi => ?_
  have hW : 0 < W.toNat := by
    rcases Nat.eq_zero_or_pos W.toNat with h0 | h0
    · rw [h0, Nat.mul_zero] at hi; omega
    · exact h0
  have a := Nat.mod_lt i hW
  have b : i / W.toNat < H.toNat := Nat.div_lt_of_lt_mul (by rw [Nat.mul_comm]; exact hi)
  generalize i % W.toNat = u at *
  generalize i / W.toNat = v at *
  exact h _ _ (by omega) (by omega) (by omega) (by omega)
theorem fat_get {fs : List (Option Nat)} {i : Nat} (h : i < fs.length) : fs[i]? = some (fat fs i) := by
  unfold fat
  rw [List.getElem?_eq_getElem h]; rfl
theorem grid_self {W H : Int} (R : Bool) {fs : List (Option Nat)} (hv : vldF W H fs.length = true) : gridF W.toNat (aboutV W H R fs) (H.toNat * W.toNat) = fs := by
  obtain ⟨Wn, Hn, rfl, rfl, k1, k2, k3, k4, hnn, _⟩ := vldF_facts hv
  simp only [Int.toNat_natCast]
  have hl : (gridF Wn (aboutV (Wn : Int) (Hn : Int) R fs) (Hn * Wn)).length = fs.length := by rw [hnn]; simp [gridF]
  refine List.ext_getElem? fun i => ?_
  by_cases hi : i < fs.length
  · rw [fat_get (by omega), fat_get hi, gridF_get _ (by omega)]
    have a := Nat.mod_lt i (show 0 < Wn by omega)
    have b : i / Wn < Hn := Nat.div_lt_of_lt_mul (by rw [Nat.mul_comm]; omega)
    unfold aboutV
    rw [cellR_id R (Int.natCast_nonneg _) (Int.ofNat_lt.2 a) (Int.natCast_nonneg _) (Int.ofNat_lt.2 b)]
    congr 2
    have e : ((i % Wn : Nat) : Int) + (Wn : Int) * ((i / Wn : Nat) : Int) = (i : Int) := by
      have := Nat.mod_add_div i Wn
      rw [← Int.natCast_mul, ← Int.natCast_add, this]
    rw [e]; rfl
  · rw [List.getElem?_eq_none (by omega), List.getElem?_eq_none (by omega)]

def mirFG (W H : Int) (R : Bool) (fs : List (Option Nat)) (x y : Int) : Option Nat := aboutV W H R fs (W - 1 - x) y
def swapFG (W H : Int) (R : Bool) (fs : List (Option Nat)) (x y : Int) : Option Nat := aboutV W H R fs y x
/-- The mirrored field, the exchanged one, the rolled one. -/
def mirF (W H : Int) (R : Bool) (fs : List (Option Nat)) : List (Option Nat) := gridF W.toNat (mirFG W H R fs) (H.toNat * W.toNat)
def swapF (W H : Int) (R : Bool) (fs : List (Option Nat)) : List (Option Nat) := gridF H.toNat (swapFG W H R fs) (W.toNat * H.toNat)
def rolF (W H : Int) (R : Bool) (fs : List (Option Nat)) (a b : Int) : List (Option Nat) := gridF W.toNat (rollFG W H R fs a b) (H.toNat * W.toNat)
def lapF (W H : Int) (R : Bool) (fs : List (Option Nat)) : List (Option Nat) := gridF W.toNat (laplaceG W H R fs) (H.toNat * W.toNat)
def ninF (W H : Int) (R : Bool) (fs : List (Option Nat)) : List (Option Nat) := gridF W.toNat (nineG W H R fs) (H.toNat * W.toNat)

section
variable {W H : Int} (h1 : 1 ≤ W) (h3 : 1 ≤ H) (R : Bool) (fs : List (Option Nat))
include h1 h3
theorem about_mir (x y : Int) : aboutV W H R (mirF W H R fs) x y = aboutV W H R fs (W - 1 - x) y :=
  (about_grid h1 h3 R _ x y).trans (about_eq (place_mir R x h1) (place_idem R y h3))
theorem about_swap (x y : Int) : aboutV H W R (swapF W H R fs) x y = aboutV W H R fs y x :=
  (about_grid h3 h1 R _ x y).trans (about_eq (place_idem R y h1) (place_idem R x h3))
theorem about_roll (a b x y : Int) : aboutV W H true (rolF W H true fs a b) x y = aboutV W H true fs (x - a) (y - b) :=
  (about_grid h1 h3 true _ x y).trans (about_eq (place_roll x a h1) (place_roll y b h3))
theorem about_roll0 (a b : Int) : aboutV W H R (rolF W H R fs a b) 0 0 = aboutV W H R fs (-a) (-b) := by
  refine (about_grid h1 h3 R _ 0 0).trans ?_
  rw [placeR_id R (by omega) (by omega), placeR_id R (by omega) (by omega)]
  show aboutV W H R fs (0 - a) (0 - b) = _
  rw [Int.zero_sub, Int.zero_sub]
theorem about_lap {x y : Int} (a1 : 0 ≤ x) (a2 : x < W) (b1 : 0 ≤ y) (b2 : y < H) : aboutV W H R (lapF W H R fs) x y = laplaceG W H R fs x y := by
  refine (about_grid h1 h3 R _ x y).trans ?_
  rw [placeR_id R a1 a2, placeR_id R b1 b2]
theorem about_nin {x y : Int} (a1 : 0 ≤ x) (a2 : x < W) (b1 : 0 ≤ y) (b2 : y < H) : aboutV W H R (ninF W H R fs) x y = nineG W H R fs x y := by
  refine (about_grid h1 h3 R _ x y).trans ?_
  rw [placeR_id R a1 a2, placeR_id R b1 b2]
theorem mir_mir (hv : vldF W H fs.length = true) : mirF W H R (mirF W H R fs) = fs := by
  refine Eq.trans (grid_congr fun x y _ _ _ _ => ?_) (grid_self R hv)
  show aboutV W H R (mirF W H R fs) (W - 1 - x) y = _
  rw [about_mir h1 h3]
  congr 1; omega
theorem swap_swap (hv : vldF W H fs.length = true) : swapF H W R (swapF W H R fs) = fs := by
  refine Eq.trans (grid_congr fun x y _ _ _ _ => ?_) (grid_self R hv)
  show aboutV H W R (swapF W H R fs) y x = _
  rw [about_swap h1 h3]
theorem roll_roll (a b : Int) (hv : vldF W H fs.length = true) : rolF W H true (rolF W H true fs a b) (-a) (-b) = fs := by
  refine Eq.trans (grid_congr fun x y _ _ _ _ => ?_) (grid_self true hv)
  show aboutV W H true (rolF W H true fs a b) (x - -a) (y - -b) = _
  rw [about_roll h1 h3]
  congr 1 <;> omega
end

/-- A field in quarters. -/
def QF (W H : Int) (R : Bool) (fs : List (Option Nat)) (q : Int → Int → Int) : Prop := ∀ u v, aboutV W H R fs u v = some (qb (q u v)) ∧ -8 ≤ q u v ∧ q u v ≤ 8
theorem QF.make {W H : Int} {R : Bool} {zs : List Nat} (hv : vldF W H zs.length = true) (h : ∀ k, k < zs.length → ∃ z : Int, -8 ≤ z ∧ z ≤ 8 ∧ zs[k]?.getD 0 = qb z) : ∃ q, QF W H R (fas zs) q := by
  have h2 : ∀ u v, ∃ z : Int, aboutV W H R (fas zs) u v = some (qb z) ∧ -8 ≤ z ∧ z ≤ 8 := by
    intro u v
    obtain ⟨hs, hl⟩ := vldF_iff.1 hv
    obtain ⟨⟨h1, h2⟩, h3, h4⟩ := szF_iff.1 hs
    have := cellR_bd R u v h1 h3
    have hk : (cellR W H R u v).toNat < zs.length := by omega
    obtain ⟨z, z1, z2, hz⟩ := h _ hk
    refine ⟨z, ?_, z1, z2⟩
    unfold aboutV
    rw [← fas_at rfl hk, hz, fa_qb ⟨z1, z2⟩]
  exact ⟨fun u v => Classical.choose (h2 u v), fun u v => Classical.choose_spec (h2 u v)⟩

def sidesI (q : Int → Int → Int) (x y : Int) : Int := q (x - 1) y + q (x + 1) y + (q x (y - 1) + q x (y + 1))
def crossI (q : Int → Int → Int) (x y : Int) : Int := q (x - 1) (y - 1) + q (x + 1) (y - 1) + (q (x - 1) (y + 1) + q (x + 1) (y + 1))
def LI (s c : Int) : Option Nat := fop .sub .f32 (some (qb s)) (fop .mul .f32 (fa .f32 1082130432) (some (qb c)))
def NI (s c m : Int) : Option Nat := fop .quo .f32 (fop .sub .f32 (fop .add .f32 (fop .mul .f32 (fa .f32 1082130432) (some (qb s))) (some (qb c))) (fop .mul .f32 (fa .f32 1101004800) (some (qb m)))) (fa .f32 1086324736)
section
variable {W H : Int} {R : Bool} {fs : List (Option Nat)} {q : Int → Int → Int} (h : QF W H R fs q)
include h
theorem QF.sum2 (x y u v : Int) : fop .add .f32 (aboutV W H R fs x y) (aboutV W H R fs u v) = some (qb (q x y + q u v)) := by
  have a := h x y
  have b := h u v
  rw [a.1, b.1, q_sum (by omega) (by omega)]
theorem QF.sides (x y : Int) : sidesG W H R fs x y = some (qb (sidesI q x y)) := by
  have a := h (x - 1) y; have b := h (x + 1) y; have c := h x (y - 1); have d := h x (y + 1)
  unfold sidesG sidesI
  rw [h.sum2, h.sum2, q_sum (by omega) (by omega)]
theorem QF.lap (x y : Int) : laplaceG W H R fs x y = LI (sidesI q x y) (q x y) := by
  unfold laplaceG LI
  rw [h.sides, (h x y).1]
theorem QF.nin (x y : Int) : nineG W H R fs x y = NI (sidesI q x y) (crossI q x y) (q x y) := by
  have a := h (x - 1) (y - 1); have b := h (x + 1) (y - 1); have c := h (x - 1) (y + 1); have d := h (x + 1) (y + 1)
  unfold nineG NI crossI
  rw [h.sides, (h x y).1, h.sum2, h.sum2, q_sum (a := q (x - 1) (y - 1) + q (x + 1) (y - 1)) (by omega) (by omega)]
theorem QF.mir (h1 : 1 ≤ W) (h3 : 1 ≤ H) : QF W H R (mirF W H R fs) (fun u v => q (W - 1 - u) v) := fun u v => by
  rw [about_mir h1 h3]; exact h (W - 1 - u) v
theorem QF.swap (h1 : 1 ≤ W) (h3 : 1 ≤ H) : QF H W R (swapF W H R fs) (fun u v => q v u) := fun u v => by
  rw [about_swap h1 h3]; exact h v u
end
theorem QF.roll {W H : Int} {fs : List (Option Nat)} {q : Int → Int → Int} (h : QF W H true fs q) (h1 : 1 ≤ W) (h3 : 1 ≤ H) (a b : Int) : QF W H true (rolF W H true fs a b) (fun u v => q (u - a) (v - b)) := fun u v => by
  rw [about_roll h1 h3]; exact h (u - a) (v - b)

section
variable {W H : Int} {R : Bool} {fs : List (Option Nat)} {q : Int → Int → Int} (h1 : 1 ≤ W) (h3 : 1 ≤ H)
include h1 h3
theorem lap_mir (h : QF W H R fs q) : lapF W H R (mirF W H R fs) = mirF W H R (lapF W H R fs) := by
  refine grid_congr fun x y a1 a2 b1 b2 => ?_
  show _ = aboutV W H R (lapF W H R fs) (W - 1 - x) y
  rw [about_lap h1 h3 R fs (by omega) (by omega) b1 b2, h.lap, (h.mir h1 h3).lap]
  unfold sidesI
  dsimp only
  have e1 : W - 1 - (x - 1) = W - 1 - x + 1 := by omega
  have e2 : W - 1 - (x + 1) = W - 1 - x - 1 := by omega
  rw [e1, e2, Int.add_comm (q (W - 1 - x + 1) y)]
theorem lap_swap (h : QF W H R fs q) : lapF H W R (swapF W H R fs) = swapF W H R (lapF W H R fs) := by
  refine grid_congr fun x y a1 a2 b1 b2 => ?_
  show _ = aboutV W H R (lapF W H R fs) y x
  rw [about_lap h1 h3 R fs b1 b2 a1 a2, h.lap, (h.swap h1 h3).lap]
  unfold sidesI
  dsimp only
  rw [Int.add_comm]
theorem nin_swap (h : QF W H R fs q) : ninF H W R (swapF W H R fs) = swapF W H R (ninF W H R fs) := by
  refine grid_congr fun x y a1 a2 b1 b2 => ?_
  show _ = aboutV W H R (ninF W H R fs) y x
  rw [about_nin h1 h3 R fs b1 b2 a1 a2, h.nin, (h.swap h1 h3).nin]
  unfold sidesI crossI
  dsimp only
  congr 1 <;> omega
theorem lap_roll {q : Int → Int → Int} (h : QF W H true fs q) (a b : Int) : lapF W H true (rolF W H true fs a b) = rolF W H true (lapF W H true fs) a b := by
  refine grid_congr fun x y a1 a2 b1 b2 => ?_
  show _ = aboutV W H true (lapF W H true fs) (x - a) (y - b)
  have e : aboutV W H true (lapF W H true fs) (x - a) (y - b) = laplaceG W H true fs (placeR true (x - a) W) (placeR true (y - b) H) := about_grid h1 h3 true _ _ _
  have e2 : laplaceG W H true fs (placeR true (x - a) W) (placeR true (y - b) H) = laplaceG W H true fs (x - a) (y - b) := by
    unfold laplaceG sidesG
    have p1 : ∀ u c, placeR true (placeR true u W + c) W = placeR true (u + c) W := fun u c => by have := place_roll u (-c) h1; simpa using this
    have p2 : ∀ u c, placeR true (placeR true u H + c) H = placeR true (u + c) H := fun u c => by have := place_roll u (-c) h3; simpa using this
    rw [about_eq (place_roll (x - a) 1 h1) (place_idem true (y - b) h3), about_eq (p1 (x - a) 1) (place_idem true (y - b) h3), about_eq (place_idem true (x - a) h1) (place_roll (y - b) 1 h3), about_eq (place_idem true (x - a) h1) (p2 (y - b) 1), about_eq (place_idem true (x - a) h1) (place_idem true (y - b) h3)]
  rw [e, e2, h.lap, (h.roll h1 h3 a b).lap]
  unfold sidesI
  dsimp only
  have e3 : x - 1 - a = x - a - 1 := by omega
  have e4 : x + 1 - a = x - a + 1 := by omega
  have e5 : y - 1 - b = y - b - 1 := by omega
  have e6 : y + 1 - b = y - b + 1 := by omega
  rw [e3, e4, e5, e6]
end
end Go.Proofs.Ytllpbkmdcaikoaa
