/-
  BorderOf, by the program and by the reference.
-/
import Derived.Test.YtaakkdcpkllgoaaFlP
namespace Go.Proofs.Ytaakkdcpkllgoaa
open Go.RowKit
set_option linter.unusedVariables false
set_option linter.unusedSimpArgs false
set_option linter.unnecessarySimpa false

def geB (x l : Nat) : Bool := (FloatKind.f32.format.order x l == some .gt || FloatKind.f32.format.order x l == some .eq)
def gv (xs : List Nat) (l : Nat) (z : Int) : Bool := geB (xs[z.toNat]?.getD 0) l
/-- How many of the first k have a property. -/
def cntP (p : Int → Bool) (L : List Int) (k : Nat) : Nat := ((L.take k).filter p).length
theorem cntP_zero (p : Int → Bool) (L : List Int) : cntP p L 0 = 0 := by simp [cntP]
theorem cntP_yes {p : Int → Bool} {L : List Int} {k : Nat} (hk : k < L.length) (h : p (L[k]?.getD 0) = true) : cntP p L (k + 1) = cntP p L k + 1 := by
  unfold cntP
  rw [List.take_succ_eq_append_getElem hk, List.filter_append]
  have : L[k]?.getD 0 = L[k] := by simp [hk]
  rw [this] at h
  simp [h]
theorem cntP_no {p : Int → Bool} {L : List Int} {k : Nat} (hk : k < L.length) (h : p (L[k]?.getD 0) = false) : cntP p L (k + 1) = cntP p L k := by
  unfold cntP
  rw [List.take_succ_eq_append_getElem hk, List.filter_append]
  have : L[k]?.getD 0 = L[k] := by simp [hk]
  rw [this] at h
  simp [h]
theorem cntP_le (p : Int → Bool) (L : List Int) (k : Nat) : cntP p L k ≤ k := by
  unfold cntP
  exact Nat.le_trans (List.length_filter_le _ _) (by simp; omega)
theorem nbL_bd {Wn Hn i j : Nat} (R : Bool) (hW : 1 ≤ Wn) (hH : 1 ≤ Hn) (hj : j < 4) : 0 ≤ (nbL Wn Hn R i)[j]?.getD 0 ∧ (nbL Wn Hn R i)[j]?.getD 0 < ((Hn * Wn : Nat) : Int) := by
  have e : ((Hn * Wn : Nat) : Int) = (Wn : Int) * Hn := by rw [Int.natCast_mul, Int.mul_comm]
  rw [e]
  have hw : (1 : Int) ≤ Wn := by omega
  have hh : (1 : Int) ≤ Hn := by omega
  match j, hj with
  | 0, _ => exact cellR_bd R _ _ hw hh
  | 1, _ => exact cellR_bd R _ _ hw hh
  | 2, _ => exact cellR_bd R _ _ hw hh
  | 3, _ => exact cellR_bd R _ _ hw hh
theorem nbF_bd {Wn Hn i j : Nat} (R : Bool) (hW : 1 ≤ Wn) (hH : 1 ≤ Hn) (M : List Int) (hM : M = (nbL Wn Hn R i).filter fun z => z != (i : Int)) (hj : j < M.length) : 0 ≤ M[j]?.getD 0 ∧ M[j]?.getD 0 < ((Hn * Wn : Nat) : Int) := by
  have hm : M[j] ∈ nbL Wn Hn R i := by
    have h : M[j] ∈ (nbL Wn Hn R i).filter fun z => z != (i : Int) := by rw [← hM]; exact List.getElem_mem hj
    exact (List.mem_filter.1 h).1
  obtain ⟨k, hk, he⟩ := List.getElem_of_mem hm
  have := nbL_bd (i := i) R hW hH (j := k) (by simpa [nbL_length] using hk)
  simp only [List.getElem?_eq_getElem hk, List.getElem?_eq_getElem hj, Option.getD_some] at this ⊢
  rw [he] at this
  exact this
def bcnt (Wn : Nat) (H : Int) (R : Bool) (xs : List Nat) (l i : Nat) : Nat := cntP (fun z => z != (i : Int) && !gv xs l z) (nbL Wn H R i) 4
theorem bcnt_two (Wn : Nat) (H : Int) (R : Bool) (xs : List Nat) (l i : Nat) : bcnt Wn H R xs l i = cntP (fun z => !gv xs l z) ((nbL Wn H R i).filter fun z => z != (i : Int)) ((nbL Wn H R i).filter fun z => z != (i : Int)).length := by
  unfold bcnt cntP
  rw [List.take_of_length_le (by rw [nbL_length]; omega), List.take_length, List.filter_filter]
  congr 1
  exact List.filter_congr fun z _ => Bool.and_comm _ _
def bdO (Wn : Nat) (H : Int) (R : Bool) (xs : List Nat) (l : Nat) : Nat → List Int
  | 0 => []
  | k + 1 => bdO Wn H R xs l k ++ (if (geB (xs[k]?.getD 0) l && decide (0 < bcnt Wn H R xs l k)) = true then [(k : Int)] else [])
def bdP (Wn : Nat) (H : Int) (R : Bool) (xs : List Nat) (l : Nat) : Nat → Nat
  | 0 => 0
  | k + 1 => bdP Wn H R xs l k + (if geB (xs[k]?.getD 0) l = true then bcnt Wn H R xs l k else 0)
theorem bdO_len (Wn : Nat) (H : Int) (R : Bool) (xs : List Nat) (l : Nat) : ∀ k, (bdO Wn H R xs l k).length ≤ k
  | 0 => by simp [bdO]
  | k + 1 => by
    have := bdO_len Wn H R xs l k
    unfold bdO
    split <;> simp <;> omega
theorem bdP_bd (Wn : Nat) (H : Int) (R : Bool) (xs : List Nat) (l : Nat) : ∀ k, bdP Wn H R xs l k ≤ 4 * k
  | 0 => by simp [bdP]
  | k + 1 => by
    have h1 := bdP_bd Wn H R xs l k
    have h2 := cntP_le (fun z => z != (k : Int) && !gv xs l z) (nbL Wn H R k) 4
    unfold bdP bcnt
    split <;> omega
theorem bdO_skip {Wn : Nat} {H : Int} {R : Bool} {xs : List Nat} {l k : Nat} (h : geB (xs[k]?.getD 0) l = false) : bdO Wn H R xs l (k + 1) = bdO Wn H R xs l k := by simp [bdO, h]
theorem bdP_skip {Wn : Nat} {H : Int} {R : Bool} {xs : List Nat} {l k : Nat} (h : geB (xs[k]?.getD 0) l = false) : bdP Wn H R xs l (k + 1) = bdP Wn H R xs l k := by simp [bdP, h]
theorem bdO_yes {Wn : Nat} {H : Int} {R : Bool} {xs : List Nat} {l k : Nat} (h : geB (xs[k]?.getD 0) l = true) (h2 : 0 < bcnt Wn H R xs l k) : bdO Wn H R xs l (k + 1) = bdO Wn H R xs l k ++ [(k : Int)] := by simp [bdO, h, h2]
theorem bdO_no {Wn : Nat} {H : Int} {R : Bool} {xs : List Nat} {l k : Nat} (h2 : ¬ 0 < bcnt Wn H R xs l k) : bdO Wn H R xs l (k + 1) = bdO Wn H R xs l k := by
  have : bcnt Wn H R xs l k = 0 := by omega
  simp [bdO, this]
theorem bdP_yes {Wn : Nat} {H : Int} {R : Bool} {xs : List Nat} {l k : Nat} (h : geB (xs[k]?.getD 0) l = true) : bdP Wn H R xs l (k + 1) = bdP Wn H R xs l k + bcnt Wn H R xs l k := by simp [bdP, h]
/-- The whole answer. -/
def boL (W H : Int) (R : Bool) (xs : List Nat) (n l : Nat) : List Int := if vldF W H n then bdO W.toNat H R xs l n else []
def boP (W H : Int) (R : Bool) (xs : List Nat) (n l : Nat) : Int := if vldF W H n then (bdP W.toNat H R xs l n : Nat) else 0
theorem boL_no {W H : Int} {R : Bool} {xs : List Nat} {n l : Nat} (h : vldF W H n = false) : boL W H R xs n l = [] := by simp [boL, h]
theorem boP_no {W H : Int} {R : Bool} {xs : List Nat} {n l : Nat} (h : vldF W H n = false) : boP W H R xs n l = 0 := by simp [boP, h]
theorem boL_yes {W H : Int} {R : Bool} {xs : List Nat} {n l : Nat} (h : vldF W H n = true) : boL W H R xs n l = bdO W.toNat H R xs l n := by simp [boL, h]
theorem boP_yes {W H : Int} {R : Bool} {xs : List Nat} {n l : Nat} (h : vldF W H n = true) : boP W H R xs n l = (bdP W.toNat H R xs l n : Nat) := by simp [boP, h]
/-- The answer's shape. -/
def listP (w : World) (L : List Int) (q : Int) (ok : Bool) (e : Ending) (w' : World) : Prop :=
  ∃ a m c, e = .returned (.tuple #[.slice a m c, .int .i64 q, .bool ok]) ∧ Ext w w' ∧ w'.ownsRow w.heap.size 2 1 (.slice a m c) m (ints L) ∧ L.length = m ∧ m ≤ 1048576

end Go.Proofs.Ytaakkdcpkllgoaa
