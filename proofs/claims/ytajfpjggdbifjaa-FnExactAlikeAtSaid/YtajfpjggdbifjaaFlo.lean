/-
  Floats up to which not-a-number it is: what the operations yield, as functions of their operands so taken; and the steps of a walk at them.
-/
import Derived.Laws.FloatArith
import Derived.Laws.Cover2
import Derived.Test.YtajfpjggdbifjaaLib5
namespace Go.Proofs.Ytajfpjggdbifjaa
open Go.RowKit
set_option linter.unusedVariables false
set_option linter.unusedSimpArgs false
set_option linter.unnecessarySimpa false

/-- Is it a not-a-number? -/
def isN (k : FloatKind) (b : Nat) : Bool := (k.format.read b).isNaN
/-- A float up to which not-a-number it is. -/
def fa (k : FloatKind) (b : Nat) : Option Nat := if isN k b = true then none else some b
theorem fa_nan {k : FloatKind} {b : Nat} (h : isN k b = true) : fa k b = none := by simp [fa, h]
theorem fa_num {k : FloatKind} {b : Nat} (h : isN k b = false) : fa k b = some b := by simp [fa, h]

theorem isN_iff (k : FloatKind) (b : Nat) : isN k b = true ↔ k.format.infRung < b % k.format.signWeight := by
  cases k
  · have h1 : FloatKind.f32.format.infRung = 2139095040 := by decide
    have h2 : FloatKind.f32.format.signWeight = 2147483648 := by decide
    have h3 : FloatKind.f32.format.binade = 8388608 := by decide
    unfold isN Ieee.Format.read
    simp only [h1, h2, h3]
    split
    · simp [Ieee.Datum.isNaN]; omega
    · split
      · simp [Ieee.Datum.isNaN]; omega
      · split
        · simp [Ieee.Datum.isNaN]; omega
        · simp [Ieee.Datum.isNaN]; omega
  · have h1 : FloatKind.f64.format.infRung = 9218868437227405312 := by decide
    have h2 : FloatKind.f64.format.signWeight = 9223372036854775808 := by decide
    have h3 : FloatKind.f64.format.binade = 4503599627370496 := by decide
    unfold isN Ieee.Format.read
    simp only [h1, h2, h3]
    split
    · simp [Ieee.Datum.isNaN]; omega
    · split
      · simp [Ieee.Datum.isNaN]; omega
      · split
        · simp [Ieee.Datum.isNaN]; omega
        · simp [Ieee.Datum.isNaN]; omega

theorem infRung_le (k : FloatKind) : k.format.infRung < k.format.signWeight := k.format.infRung_lt

theorem isN_word (k : FloatKind) (neg : Bool) {rung : Nat} (h : rung ≤ k.format.infRung) : isN k (k.format.word neg rung) = false := by
  rw [Bool.eq_false_iff]
  intro hn
  rw [isN_iff] at hn
  have hl := infRung_le k
  unfold Ieee.Format.word at hn
  split at hn
  · rw [Nat.add_mod_left, Nat.mod_eq_of_lt (by omega)] at hn; omega
  · rw [Nat.mod_eq_of_lt (by omega)] at hn; omega

theorem isN_nearest (k : FloatKind) (neg : Bool) (mag : Nat) (place : Int) : isN k (k.format.nearest neg mag place) = false := by
  unfold Ieee.Format.nearest
  dsimp only
  split
  · exact isN_word k neg (Nat.zero_le _)
  · exact isN_word k neg (Nat.min_le_right ..)

theorem isN_write (k : FloatKind) {d : Ieee.Datum} (h : d.isNaN = false) : isN k (k.format.write d) = false := by
  cases d with
  | number neg mag place => exact isN_nearest k neg mag place
  | infinity neg => exact isN_word k neg (Nat.le_refl _)
  | nan neg fraction => simp [Ieee.Datum.isNaN] at h

theorem sum_num {x y d : Ieee.Datum} (h : x.sum y = some d) : d.isNaN = false := by
  cases x <;> cases y <;> simp only [Ieee.Datum.sum] at h <;> first | (cases h; done) | (cases h; rfl) | skip
  rename_i s t
  by_cases hst : s = t
  · rw [if_pos hst] at h; cases h; rfl
  · rw [if_neg hst] at h; cases h
theorem product_num {x y d : Ieee.Datum} (h : x.product y = some d) : d.isNaN = false := by
  cases x <;> cases y <;> simp only [Ieee.Datum.product] at h <;> first | (cases h; done) | (cases h; rfl) | skip
  all_goals (split at h <;> first | (cases h; done) | (cases h; rfl))
theorem quotient_num {n : Nat} {x y d : Ieee.Datum} (h : x.quotient n y = some d) : d.isNaN = false := by
  cases x <;> cases y <;> simp only [Ieee.Datum.quotient] at h <;> first | (cases h; done) | (cases h; rfl) | skip
  all_goals (split at h <;> first | (cases h; done) | (cases h; rfl) | (split at h <;> first | (cases h; done) | (cases h; rfl)))
theorem root_num {n : Nat} {x d : Ieee.Datum} (h : x.root n = some d) : d.isNaN = false := by
  cases x with
  | nan s t => simp [Ieee.Datum.root] at h
  | infinity s => simp only [Ieee.Datum.root] at h; split at h <;> first | (cases h; rfl) | cases h
  | number s m i =>
    simp only [Ieee.Datum.root] at h
    split at h
    · cases h; rfl
    · split at h
      · cases h
      · cases h; rfl

/-- The four operations up to which not-a-number. -/
def fop (op : BinOp) (k : FloatKind) : Option Nat → Option Nat → Option Nat
  | some x, some y => floatBits op k x y
  | _, _ => none

def arith4 (op : BinOp) : Bool := match op with | .add | .sub | .mul | .quo => true | _ => false

theorem map_num {k : FloatKind} {d : Option Ieee.Datum} {r : Nat} (hd : ∀ x, d = some x → x.isNaN = false) (h : d.map k.format.write = some r) : isN k r = false := by
  cases d with
  | none => cases h
  | some x => cases h; exact isN_write k (hd x rfl)

theorem floatBits_num {op : BinOp} {k : FloatKind} {x y r : Nat} (h : floatBits op k x y = some r) : isN k r = false := by
  unfold floatBits at h
  cases op <;> simp only at h <;> first | (cases h; done) | skip
  · exact map_num (fun _ h => sum_num h) h
  · exact map_num (fun _ h => sum_num h) h
  · exact map_num (fun _ h => product_num h) h
  · exact map_num (fun _ h => quotient_num h) h

theorem read_nan {k : FloatKind} {b : Nat} (h : isN k b = true) : ∃ s t, k.format.read b = .nan s t := by
  unfold isN at h
  cases hd : k.format.read b with
  | nan s t => exact ⟨s, t, rfl⟩
  | number s m e => rw [hd] at h; simp [Ieee.Datum.isNaN] at h
  | infinity s => rw [hd] at h; simp [Ieee.Datum.isNaN] at h

theorem floatBits_nan1 {op : BinOp} {k : FloatKind} {x y : Nat} (h : isN k x = true) : floatBits op k x y = none := by
  obtain ⟨s, t, hd⟩ := read_nan h
  unfold floatBits
  cases op <;> simp only [Ieee.Format.add, Ieee.Format.sub, Ieee.Format.mul, Ieee.Format.div, hd, Ieee.Datum.sum, Ieee.Datum.product, Ieee.Datum.quotient, Option.map_none]
theorem floatBits_nan2 {op : BinOp} {k : FloatKind} {x y : Nat} (h : isN k y = true) : floatBits op k x y = none := by
  obtain ⟨s, t, hd⟩ := read_nan h
  unfold floatBits
  cases op <;> simp only [Ieee.Format.add, Ieee.Format.sub, Ieee.Format.mul, Ieee.Format.div, hd] <;> cases k.format.read x <;> simp [Ieee.Datum.sum, Ieee.Datum.product, Ieee.Datum.quotient, Ieee.Datum.opposite]

theorem fop_none1 {op : BinOp} {k : FloatKind} (y : Option Nat) : fop op k none y = none := rfl
theorem fop_none2 {op : BinOp} {k : FloatKind} (x : Option Nat) : fop op k x none = none := by cases x <;> rfl
theorem floatBits_fa (op : BinOp) (k : FloatKind) (x y : Nat) : floatBits op k x y = fop op k (fa k x) (fa k y) := by
  cases hx : isN k x with
  | true => rw [fa_nan hx, floatBits_nan1 hx, fop_none1]
  | false =>
    cases hy : isN k y with
    | true => rw [fa_nan hy, floatBits_nan2 hy, fop_none2]
    | false => rw [fa_num hx, fa_num hy]; rfl

theorem cut32 (t : Nat) : 2139095040 < (t % 2 * 2 ^ 31 + 2139095040 + 1 + t / 2 % (2 ^ 23 - 1)) % 2147483648 := by
  have h1 : t % 2 = 0 ∨ t % 2 = 1 := by omega
  have h2 : t / 2 % (2 ^ 23 - 1) < 8388607 := Nat.mod_lt _ (by decide)
  generalize t / 2 % (2 ^ 23 - 1) = m at *
  rcases h1 with h | h <;> rw [h] <;> omega
theorem cut64 (t : Nat) : 9218868437227405312 < (t % 2 * 2 ^ 63 + 9218868437227405312 + 1 + t / 2 % (2 ^ 52 - 1)) % 9223372036854775808 := by
  have h1 : t % 2 = 0 ∨ t % 2 = 1 := by omega
  have h2 : t / 2 % (2 ^ 52 - 1) < 4503599627370495 := Nat.mod_lt _ (by decide)
  generalize t / 2 % (2 ^ 52 - 1) = m at *
  rcases h1 with h | h <;> rw [h] <;> omega
theorem isN_cut (k : FloatKind) (x y t : Nat) : isN k ((Question.nanBits k x y).cut t) = true := by
  rw [isN_iff]
  cases k
  · have h1 : FloatKind.f32.format.infRung = 2139095040 := by decide
    have h2 : FloatKind.f32.format.signWeight = 2147483648 := by decide
    rw [h1, h2]
    exact cut32 t
  · have h1 : FloatKind.f64.format.infRung = 9218868437227405312 := by decide
    have h2 : FloatKind.f64.format.signWeight = 9223372036854775808 := by decide
    rw [h1, h2]
    exact cut64 t
theorem isN_cutConv (k : FloatKind) (b t : Nat) : isN k ((Question.nanConv k b).cut t) = true := by
  rw [isN_iff]
  cases k
  · have h1 : FloatKind.f32.format.infRung = 2139095040 := by decide
    have h2 : FloatKind.f32.format.signWeight = 2147483648 := by decide
    rw [h1, h2]
    exact cut32 t
  · have h1 : FloatKind.f64.format.infRung = 9218868437227405312 := by decide
    have h2 : FloatKind.f64.format.signWeight = 9223372036854775808 := by decide
    rw [h1, h2]
    exact cut64 t

/-- ONE OF THE FOUR OPERATIONS: some bits, which are those of its answer up to which not-a-number; at most a draw. -/
theorem run_float {P : Program} (w : World) {op : BinOp} (h4 : arith4 op = true) (t : TypeId) (k : FloatKind) (x y : Nat) :
    ∃ r n, (binOp op t (.float k x) (.float k y)).run P w = .ok (.float k r) (w.drewN n) ∧ fa k r = fop op k (fa k x) (fa k y) := by
  cases hb : floatBits op k x y with
  | some r =>
    refine ⟨r, 0, ?_, ?_⟩
    · rw [run_float_arith w op t k x y r hb]; rfl
    · rw [fa_num (floatBits_num hb), ← floatBits_fa, hb]
  | none =>
    refine ⟨(Question.nanBits k x y).cut (w.tape w.drawn (.nanBits k x y)), 1, ?_, ?_⟩
    · have hb' := hb
      unfold floatBits at hb'
      cases op <;> simp only [arith4] at h4 <;> first | (cases h4; done) | skip
      all_goals (simp only at hb'; simp [binOp, Op.floatArith, hb', choose, Sem.run, Question.forced]; rfl)
    · rw [fa_nan (isN_cut k x y _), ← floatBits_fa, hb]

/-- Comparing. -/
def ford (k : FloatKind) : Option Nat → Option Nat → Option Ordering
  | some x, some y => k.format.order x y
  | _, _ => none
theorem order_fa (k : FloatKind) (x y : Nat) : k.format.order x y = ford k (fa k x) (fa k y) := by
  cases hx : isN k x with
  | true =>
    obtain ⟨s, t, hd⟩ := read_nan hx
    rw [fa_nan hx]; simp [Ieee.Format.order, hd, Ieee.Datum.order, ford]
  | false =>
    cases hy : isN k y with
    | true =>
      obtain ⟨s, t, hd⟩ := read_nan hy
      rw [fa_nan hy, fa_num hx]
      simp only [Ieee.Format.order, hd, ford]
      cases k.format.read x <;> simp [Ieee.Datum.order]
    | false => rw [fa_num hx, fa_num hy]; rfl
theorem datum_order_self {d : Ieee.Datum} (h : d.isNaN = false) : d.order d = some .eq := by
  cases d with
  | nan s t => simp [Ieee.Datum.isNaN] at h
  | infinity s => simp [Ieee.Datum.order]
  | number s m e => simp [Ieee.Datum.order]
theorem ford_self (k : FloatKind) {x : Nat} (h : isN k x = false) : ford k (some x) (some x) = some .eq := by
  unfold ford Ieee.Format.order
  exact datum_order_self (by unfold isN at h; exact h)


/-- What the operation yields in a world, and how often it draws. -/
def frr (op : BinOp) (k : FloatKind) (x y : Nat) (w : World) : Nat := match floatBits op k x y with
  | some r => r
  | none => (Question.nanBits k x y).cut (w.tape w.drawn (.nanBits k x y))
def frn (op : BinOp) (k : FloatKind) (x y : Nat) : Nat := match floatBits op k x y with
  | some _ => 0
  | none => 1
theorem fa_frr (op : BinOp) (k : FloatKind) (x y : Nat) (w : World) : fa k (frr op k x y w) = fop op k (fa k x) (fa k y) := by
  rw [← floatBits_fa]
  unfold frr
  split
  · rename_i r h; rw [h, fa_num (floatBits_num h)]
  · rename_i h; rw [h, fa_nan (isN_cut k x y _)]
theorem run_fl {P : Program} (w : World) {op : BinOp} (h4 : arith4 op = true) (t : TypeId) (k : FloatKind) (x y : Nat) :
    (binOp op t (.float k x) (.float k y)).run P w = .ok (.float k (frr op k x y w)) (w.drewN (frn op k x y)) := by
  cases hb : floatBits op k x y with
  | some r => rw [run_float_arith w op t k x y r hb]; simp [frr, frn, hb]; rfl
  | none =>
    have hb' := hb
    unfold floatBits at hb'
    simp only [frr, frn, hb]
    cases op <;> simp only [arith4] at h4 <;> first | (cases h4; done) | skip
    all_goals (simp only at hb'; simp [binOp, Op.floatArith, hb', choose, Sem.run, Question.forced]; rfl)
@[go_sem] theorem run_fadd {P : Program} (w : World) (t : TypeId) (k : FloatKind) (x y : Nat) : (binOp .add t (.float k x) (.float k y)).run P w = .ok (.float k (frr .add k x y w)) (w.drewN (frn .add k x y)) := run_fl w rfl t k x y
@[go_sem] theorem run_fsub {P : Program} (w : World) (t : TypeId) (k : FloatKind) (x y : Nat) : (binOp .sub t (.float k x) (.float k y)).run P w = .ok (.float k (frr .sub k x y w)) (w.drewN (frn .sub k x y)) := run_fl w rfl t k x y
@[go_sem] theorem run_fmul {P : Program} (w : World) (t : TypeId) (k : FloatKind) (x y : Nat) : (binOp .mul t (.float k x) (.float k y)).run P w = .ok (.float k (frr .mul k x y w)) (w.drewN (frn .mul k x y)) := run_fl w rfl t k x y
@[go_sem] theorem run_fquo {P : Program} (w : World) (t : TypeId) (k : FloatKind) (x y : Nat) : (binOp .quo t (.float k x) (.float k y)).run P w = .ok (.float k (frr .quo k x y w)) (w.drewN (frn .quo k x y)) := run_fl w rfl t k x y

/-! ### From single to double -/
theorem read32 {b : Nat} {s : Bool} {m : Nat} {e : Int} (h : Ieee.single.read b = .number s m e) : m < 2 ^ 24 ∧ -149 ≤ e ∧ e ≤ 104 := by
  have h1 : Ieee.single.infRung = 2139095040 := by decide
  have h2 : Ieee.single.signWeight = 2147483648 := by decide
  have h3 : Ieee.single.binade = 8388608 := by decide
  have h4 : Ieee.single.leastPlace = -149 := by decide
  unfold Ieee.Format.read at h
  simp only [h1, h2, h3, h4] at h
  split at h
  · simp only [Ieee.Datum.number.injEq] at h; omega
  · split at h
    · simp only [Ieee.Datum.number.injEq] at h; omega
    · split at h <;> cases h
theorem cut_le (neg : Bool) (n drop : Nat) : Ieee.Toward.even.cut neg n drop ≤ n + 1 := by
  unfold Ieee.Toward.cut
  simp only
  have h1 := Nat.div_le_self n (1 <<< min drop (n.log2 + 2))
  have h2 : ∀ b : Bool, b.toNat ≤ 1 := by decide
  have := h2 (decide (1 <<< min drop (n.log2 + 2) < 2 * (n % 1 <<< min drop (n.log2 + 2))) || 1 <<< min drop (n.log2 + 2) == 2 * (n % 1 <<< min drop (n.log2 + 2)) && n / 1 <<< min drop (n.log2 + 2) % 2 == 1)
  omega
theorem read_finite (neg : Bool) {rung : Nat} (h : rung < Ieee.double.infRung) : (Ieee.double.read (Ieee.double.word neg rung)).isInfinity = false := by
  have h1 : Ieee.double.infRung = 9218868437227405312 := by decide
  have h2 : Ieee.double.signWeight = 9223372036854775808 := by decide
  rw [h1] at h
  have hm : Ieee.double.word neg rung % 9223372036854775808 = rung := by
    unfold Ieee.Format.word
    rw [h2]
    split <;> omega
  unfold Ieee.Format.read
  simp only [h1, h2, hm]
  split
  · rfl
  · rfl
theorem fin_bound {t kept s : Nat} (h1 : t ≤ 1149) (h2 : kept ≤ s + 1) (h3 : s < 9007199254740992) : min (t * 4503599627370496 + kept) 9218868437227405312 < 9218868437227405312 := by
  refine Nat.lt_of_le_of_lt (Nat.min_le_left _ _) ?_
  omega
theorem widen_finite {b : Nat} {s : Bool} {m : Nat} {e : Int} (h : Ieee.single.read b = .number s m e) : (Ieee.double.read (Ieee.double.write (.number s m e))).isInfinity = false := by
  obtain ⟨hm, he1, he2⟩ := read32 h
  have h1 : Ieee.double.infRung = 9218868437227405312 := by decide
  have h3 : Ieee.double.binade = 4503599627370496 := by decide
  have h4 : Ieee.double.leastPlace = -1074 := by decide
  have h5 : Ieee.double.fractionBits = 52 := by decide
  show (Ieee.double.read (Ieee.double.nearest s m e)).isInfinity = false
  unfold Ieee.Format.nearest
  split
  · exact read_finite s (by rw [h1]; omega)
  · rename_i hm0
    dsimp only
    refine read_finite s ?_
    rw [h1, h3, h4, h5]
    have hl : m.log2 ≤ 23 := by
      have := (Nat.log2_lt hm0).2 hm; omega
    have hlt : m < 2 ^ (m.log2 + 1) := Nat.lt_log2_self
    generalize hL : m.log2 = L at *
    generalize hla : max (e + (L : Int) - ((52 : Nat) : Int)) (-1074) = last
    have hk : (e - last).toNat ≤ 52 - L := by omega
    have hlast : last ≤ 75 := by omega
    have hlow : -1074 ≤ last := by omega
    have hsh : m <<< (e - last).toNat < 2 ^ 53 := by
      rw [Nat.shiftLeft_eq]
      calc m * 2 ^ (e - last).toNat < 2 ^ (L + 1) * 2 ^ (e - last).toNat := Nat.mul_lt_mul_of_pos_right hlt (Nat.two_pow_pos _)
        _ ≤ 2 ^ (L + 1) * 2 ^ (52 - L) := Nat.mul_le_mul_left _ (Nat.pow_le_pow_right (by decide) hk)
        _ = 2 ^ 53 := by rw [← Nat.pow_add]; congr 1; omega
    have hc := cut_le s (m <<< (e - last).toNat) (last - e).toNat
    generalize Ieee.Toward.even.cut s (m <<< (e - last).toNat) (last - e).toNat = kept at *
    have ht : (last - -1074).toNat ≤ 1149 := by omega
    have e53 : 2 ^ 53 = 9007199254740992 := by decide
    rw [e53] at hsh
    exact fin_bound ht hc hsh

/-- A single as a double, up to which not-a-number. -/
def fwid : Option Nat → Option Nat
  | some x => floatToFloatBits .f32 x .f64
  | none => none
theorem isN_floatToFloat {b r : Nat} (h : floatToFloatBits .f32 b .f64 = some r) : isN .f64 r = false := by
  unfold floatToFloatBits at h
  rw [if_neg (by decide)] at h
  split at h
  · cases h
  · cases h; exact isN_write .f64 rfl
  · split at h
    · cases h
    · cases h; exact isN_write .f64 rfl
theorem widen_none {b : Nat} : floatToFloatBits .f32 b .f64 = none ↔ isN .f32 b = true := by
  unfold floatToFloatBits
  rw [if_neg (by decide)]
  unfold isN
  show (match Ieee.single.read b with
    | .nan _ _ => (none : Option Nat)
    | .infinity s => some (Ieee.double.write (.infinity s))
    | .number s m e => if (Ieee.double.read (Ieee.double.write (.number s m e))).isInfinity = true then none else some (Ieee.double.write (.number s m e))) = none ↔ (Ieee.single.read b).isNaN = true
  cases hd : Ieee.single.read b with
  | nan s t => simp [Ieee.Datum.isNaN]
  | infinity s => simp [Ieee.Datum.isNaN]
  | number s m e => simp [widen_finite hd, Ieee.Datum.isNaN]
theorem widen_fa (b : Nat) : floatToFloatBits .f32 b .f64 = fwid (fa .f32 b) := by
  cases hx : isN .f32 b with
  | true => rw [fa_nan hx, widen_none.2 hx]; rfl
  | false => rw [fa_num hx]; rfl
def wdr (b : Nat) (w : World) : Nat := match floatToFloatBits .f32 b .f64 with
  | some r => r
  | none => (Question.nanConv .f64 b).cut (w.tape w.drawn (.nanConv .f64 b))
def wdn (b : Nat) : Nat := match floatToFloatBits .f32 b .f64 with
  | some _ => 0
  | none => 1
theorem fa_wdr (b : Nat) (w : World) : fa .f64 (wdr b w) = fwid (fa .f32 b) := by
  rw [← widen_fa]
  unfold wdr
  split
  · rename_i r h; rw [h, fa_num (isN_floatToFloat h)]
  · rename_i h; rw [h, fa_nan (isN_cutConv _ _ _)]
@[go_sem] theorem run_widen {P : Program} (w : World) {s d : TypeId} (hs : (P.underlying s).isSome = true) (hd : P.underlying d = some (.float .f64)) (b : Nat) :
    (convert s d (.float .f32 b)).run P w = .ok (.float .f64 (wdr b w)) (w.drewN (wdn b)) := by
  cases hb : floatToFloatBits .f32 b .f64 with
  | some r => rw [run_convert_float_float w s d .f32 .f64 b r hs hd hb]; simp [wdr, wdn, hb]; rfl
  | none =>
    have hn := widen_none.1 hb
    obtain ⟨sg, t, hd'⟩ := read_nan hn
    obtain ⟨u, hs'⟩ := Option.isSome_iff_exists.1 hs
    have hd2 : FloatKind.f32.decode b = .nan sg t := hd'
    simp only [wdr, wdn, hb]
    cases u <;> simp [convert, run_underlying hs', run_underlying hd, Conv.floatToFloat, hd2, choose, Sem.run, Question.forced] <;> rfl
@[go_sem] theorem run_keep32 {P : Program} (w : World) {s d : TypeId} (hs : (P.underlying s).isSome = true) (hd : P.underlying d = some (.float .f32)) (b : Nat) :
    (convert s d (.float .f32 b)).run P w = .ok (.float .f32 b) w := run_convert_float_float w s d .f32 .f32 b b hs hd (by simp [floatToFloatBits])
@[go_sem] theorem run_keep64 {P : Program} (w : World) {s d : TypeId} (hs : (P.underlying s).isSome = true) (hd : P.underlying d = some (.float .f64)) (b : Nat) :
    (convert s d (.float .f64 b)).run P w = .ok (.float .f64 b) w := run_convert_float_float w s d .f64 .f64 b b hs hd (by simp [floatToFloatBits])

@[go_sem] theorem run_store_float {P : Program} (w : World) (a : Addr) (m : Mode) (k : FloatKind) (x : Nat) : (store a (.float k x) m).run P w = Go.stored P w a (.float k x) m := Go.run_store P w a _ m rfl

/-! ### Steps of a region that draws its order -/
section
variable {P : Program} {ops : Array Oper} {C : World → Prop} {K : FuncId → Array Value → Value → World → Prop} {QW : Act → World → Prop} {a : Act} {G : Facts} {H : World → Prop} {o : Oper} {rest : List Oper}
/-- An operation that yields a float, known up to which not-a-number. -/
theorem grow_f (k : FloatKind) (hw : Region.wanted o (yielded ops a.tmps) = true)
    (h : ∃ (x : World → Nat) (n : Nat), (∀ w, C w → known ops G o w → (execOp a.eval o).run P w = .ok (.value (.float k (x w))) (w.drewN n)) ∧ ∃ X, (∀ w, fa k (x w) = X) ∧
      ∀ r, fa k r = X → wpGrow P ops C K (fin C QW) rest (a.put o.dst (.float k r)) (upd G o.dst fun _ => True) H) : wpGrow P ops C K (fin C QW) (o :: rest) a G H := by
  obtain ⟨x, n, h1, X, hX, h2⟩ := h
  refine grow_gen (fun v => ∃ r, v = .float k r ∧ fa k r = X) (fun _ _ => True) hw (fun w hc hk => ?_) (fun v hv => ?_)
  · rw [h1 w hc hk]
    exact ⟨(Ext.refl w).drewN n, fun v w' hg => ⟨⟨x w, hg.1.symm, hX w⟩, trivial⟩⟩
  · obtain ⟨r, rfl, hr⟩ := hv
    exact wpGrow_mono rest _ _ _ _ _ (fun _ _ h => h) (fun _ h => h.1) (h2 r hr)
/-- A call that yields a float, known up to which not-a-number. -/
theorem grow_cf (f : FuncId) (k : FloatKind) (hw : Region.wanted o (yielded ops a.tmps) = true)
    (h : ∃ args, (∀ w, (execOp a.eval o).run P w = .ok (.enter f args) w) ∧ ∃ X, (∀ w, C w → known ops G o w → Calls P f args w (fun e w'' => ∃ r, e = .returned (.float k r) ∧ fa k r = X ∧ Ext w w'')) ∧ (∀ v w, K f args v w ↔ ∃ r, v = .float k r ∧ fa k r = X) ∧
      ∀ r, fa k r = X → wpGrow P ops C K (fin C QW) rest (a.put o.dst (.float k r)) (upd G o.dst fun _ => True) H) : wpGrow P ops C K (fin C QW) (o :: rest) a G H := by
  obtain ⟨args, hr, X, h1, hK, h2⟩ := h
  refine grow_call (fun v => ∃ r, v = .float k r ∧ fa k r = X) (fun _ _ => True) hw hr (fun v w h => ⟨(hK v w).1 h, trivial⟩) (fun w hc hk => (h1 w hc hk).mono fun e w'' ⟨r, he, hf, hx⟩ => ⟨_, he, hx, (hK _ _).2 ⟨r, rfl, hf⟩⟩) (fun v hv => ?_)
  obtain ⟨r, rfl, hr⟩ := hv
  exact wpGrow_mono rest _ _ _ _ _ (fun _ _ h => h) (fun _ h => h.1) (h2 r hr)
end

/-! ### Slices of singles -/
def flts (xs : List Nat) : List Value := xs.map (Value.float .f32)
@[simp] theorem flts_length (xs : List Nat) : (flts xs).length = xs.length := by simp [flts]
theorem flts_get {xs : List Nat} {i : Nat} (h : i < xs.length) : (flts xs)[i]? = some (.float .f32 (xs.getD i 0)) := by
  simp [flts, h, List.getD]
theorem VArr.ofFlts {w : World} {b o : Nat} {xs : List Nat} (h : VArr w (some ⟨b, o, none⟩) (flts xs)) : ∀ i, i < xs.length → w.cell? ⟨b, o + i, none⟩ = some (.float .f32 (xs.getD i 0)) :=
  fun i hi => h.at (flts_get hi)
theorem flts_append (xs ys : List Nat) : flts (xs ++ ys) = flts xs ++ flts ys := by simp [flts]
theorem flts_set (xs : List Nat) (i : Nat) (x : Nat) : (flts xs).set i (.float .f32 x) = flts (xs.set i x) := by simp [flts, List.map_set]
theorem flts_inj {xs ys : List Nat} (h : flts xs = flts ys) : xs = ys := by
  unfold flts at h
  exact (List.map_inj_right (fun a b h => by simpa using h)).1 h
/-- The values up to which not-a-number. -/
def fas (xs : List Nat) : List (Option Nat) := xs.map (fa .f32)
@[simp] theorem fas_length (xs : List Nat) : (fas xs).length = xs.length := by simp [fas]
theorem fas_append (xs ys : List Nat) : fas (xs ++ ys) = fas xs ++ fas ys := by simp [fas]
/-- The value at a place; where there is none, a zero. -/
def fat (fs : List (Option Nat)) (i : Nat) : Option Nat := (fs[i]?).getD none
theorem fas_at {xs : List Nat} {fs : List (Option Nat)} (h : fas xs = fs) {i : Nat} (hi : i < xs.length) : fa .f32 (xs[i]?.getD 0) = fat fs i := by
  subst h
  simp [fas, fat, hi]
end Go.Proofs.Ytajfpjggdbifjaa
