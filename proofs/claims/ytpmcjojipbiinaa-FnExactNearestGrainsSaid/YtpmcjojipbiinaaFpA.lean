/-
  Turns of labels: what one turn does. Plain words.
-/
import Derived.Test.YtpmcjojipbiinaaSeA
import Derived.Test.YtpmcjojipbiinaaGrM
namespace Go.Proofs.Ytpmcjojipbiinaa
open Go.RowKit
set_option linter.unusedVariables false
set_option linter.unusedSimpArgs false
set_option linter.unnecessarySimpa false

/-- The labels, the seed, how many turns were taken. -/
structure Fl where
  zs : List Int
  sd : Int
  tk : Int
def powO (c : Option Nat) : Nat → Option Nat
  | 0 => fa .f32 1065353216
  | k + 1 => fop .mul .f32 (powO c k) c
def drwO (s : Int) : Option Nat := fop .quo .f32 (fa .f32 (floatOfInt .f32 (s / 65536))) (fa .f32 1191182336)
def lssO (a b : Option Nat) : Bool := decide (ford .f32 a b = some .lt)
def flPut (W x y l o : Int) (t : Bool) (zs : List Int) (sd tk : Int) : Fl := if (t && (l != o)) = true then ⟨zs.set (x + W * y).toNat l, sd, tk + 1⟩ else ⟨zs, sd, tk⟩
theorem flPut_yes {W x y l o : Int} {t : Bool} {zs : List Int} {sd tk : Int} (h : t = true) (h2 : ¬ l = o) : flPut W x y l o t zs sd tk = ⟨zs.set (x + W * y).toNat l, sd, tk + 1⟩ := by
  unfold flPut; rw [if_pos (by simp [h, h2])]
theorem flPut_no {W x y l o : Int} {t : Bool} {zs : List Int} {sd tk : Int} (h : t = false ∨ l = o) : flPut W x y l o t zs sd tk = ⟨zs, sd, tk⟩ := by
  unfold flPut
  rw [if_neg]
  rcases h with h | h <;> simp [h]
def flLab (W H : Int) (zs : List Int) (s x y : Int) : Int := (arL W H zs x y)[(s / 65536 % 8).toNat]?.getD 0
def flX (W : Int) (f : Fl) : Int := nxtS f.sd / 65536 % W
def flY (H : Int) (f : Fl) : Int := nxtS (nxtS f.sd) / 65536 % H
def flL (W H : Int) (f : Fl) : Int := flLab W H f.zs (nxtS (nxtS (nxtS f.sd))) (flX W f) (flY H f)
def flO (W H : Int) (f : Fl) : Int := abG W H f.zs (flX W f) (flY H f)
def flE (W H : Int) (f : Fl) : Int := unlN W H f.zs (flX W f) (flY H f) (flL W H f) - unlN W H f.zs (flX W f) (flY H f) (flO W H f)
def flStep (W H : Int) (c : Option Nat) (f : Fl) : Fl :=
  if flE W H f ≤ 0 then flPut W (flX W f) (flY H f) (flL W H f) (flO W H f) true f.zs (nxtS (nxtS (nxtS f.sd))) f.tk
  else flPut W (flX W f) (flY H f) (flL W H f) (flO W H f) (lssO (drwO (nxtS (nxtS (nxtS (nxtS f.sd))))) (powO c (flE W H f).toNat)) f.zs (nxtS (nxtS (nxtS (nxtS f.sd)))) f.tk
def flN (W H : Int) (c : Option Nat) (f : Fl) : Nat → Fl
  | 0 => f
  | k + 1 => flStep W H c (flN W H c f k)

/-- What stands at each turn. -/
structure FlOk (W H : Int) (n : Nat) (k : Nat) (f : Fl) : Prop where
  vld : vldG W H f.zs = true
  len : f.zs.length = n
  sd0 : 0 ≤ f.sd
  sd1 : f.sd ≤ 2147483647
  tk0 : 0 ≤ f.tk
  tk1 : f.tk ≤ k
theorem lab_bd {W H : Int} {zs : List Int} {n : Nat} (hv : vldG W H zs = true) (hz : zs.length = n) (u v : Int) : 0 ≤ abG W H zs u v ∧ abG W H zs u v ≤ 63 := by
  obtain ⟨hW, hH, hnn, hn, hb⟩ := vld_facts hv hz
  have := cellF_bd u v hW.1 hH.1
  exact hb _ (by omega)
theorem arL_bd {W H : Int} {zs : List Int} {n : Nat} (hv : vldG W H zs = true) (hz : zs.length = n) (x y : Int) (k : Nat) : 0 ≤ (arL W H zs x y)[k]?.getD 0 ∧ (arL W H zs x y)[k]?.getD 0 ≤ 63 := by
  unfold arL
  have h := lab_bd hv hz
  rcases k with _ | _ | _ | _ | _ | _ | _ | _ | k
  · exact h _ _
  · exact h _ _
  · exact h _ _
  · exact h _ _
  · exact h _ _
  · exact h _ _
  · exact h _ _
  · exact h _ _
  · simp
theorem vld_set {W H : Int} {zs : List Int} (hv : vldG W H zs = true) {l : Int} (h1 : 0 ≤ l) (h2 : l ≤ 63) (m : Nat) : vldG W H (zs.set m l) = true := by
  obtain ⟨a, b, c⟩ := vldG_iff.1 hv
  refine vldG_iff.2 ⟨a, by simpa using b, ?_⟩
  unfold allIn at *
  rw [List.all_eq_true] at *
  intro z hz
  rcases List.mem_or_eq_of_mem_set hz with h | h
  · exact c z h
  · rw [h]; exact inB_yes h1 h2
theorem FlOk.put {W H : Int} {n k : Nat} {f : Fl} (h : FlOk W H n k f) {x y l o sd : Int} {t : Bool} (h1 : 0 ≤ l ∧ l ≤ 63) (h2 : 0 ≤ sd ∧ sd ≤ 2147483647) : FlOk W H n (k + 1) (flPut W x y l o t f.zs sd f.tk) := by
  have a := h.tk0; have b := h.tk1
  unfold flPut
  split
  · exact ⟨vld_set h.vld h1.1 h1.2 _, by simpa using h.len, h2.1, h2.2, by show 0 ≤ f.tk + 1; omega, by show f.tk + 1 ≤ ((k + 1 : Nat) : Int); omega⟩
  · exact ⟨h.vld, h.len, h2.1, h2.2, a, by show f.tk ≤ ((k + 1 : Nat) : Int); omega⟩
theorem FlOk.step {W H : Int} {n k : Nat} {c : Option Nat} {f : Fl} (h : FlOk W H n k f) : FlOk W H n (k + 1) (flStep W H c f) := by
  unfold flStep
  split
  · exact h.put (arL_bd h.vld h.len _ _ _) (nxtS_bd _)
  · exact h.put (arL_bd h.vld h.len _ _ _) (nxtS_bd _)
theorem flN_ok {W H : Int} {n : Nat} {c : Option Nat} {f : Fl} (h : FlOk W H n 0 f) : ∀ k, FlOk W H n k (flN W H c f k)
  | 0 => h
  | k + 1 => (flN_ok h k).step

def flipOk (W H : Int) (zs : List Int) (s m : Int) : Bool := vldG W H zs && inB s 0 2147483647 && inB m 0 1000
/-- Grains of one's own, a seed and a number, as an answer. -/
def newFp (w : World) (W H : Int) (zs : List Int) (sd tk : Int) (ok : Bool) (e : Ending) (w' : World) : Prop :=
  ∃ a n c, e = .returned (.tuple #[.agg #[.int .i64 W, .int .i64 H, .slice a n c], .int .i64 sd, .int .i64 tk, .bool ok]) ∧ Ext w w' ∧ w'.ownsRow w.heap.size 2 1 (.slice a n c) n (ints zs) ∧ zs.length = n ∧ n ≤ 1048576
def keepFp (w : World) (ok : Bool) (W H : Int) (zs : List Int) (sd tk : Int) (e : Ending) (w' : World) : Prop := newFp w (keepI ok W) (keepI ok H) (keepL ok zs) (keepI ok sd) (keepI ok tk) ok e w'
theorem keepFp_no {w : World} {ok : Bool} {W H sd tk : Int} {zs : List Int} {e : Ending} {w' : World} (h : ok = false) (k : newFp w 0 0 [] 0 0 false e w') : keepFp w ok W H zs sd tk e w' := by
  unfold keepFp; rw [h]; exact k
theorem keepFp_yes {w : World} {ok : Bool} {W H sd tk : Int} {zs : List Int} {e : Ending} {w' : World} (h : ok = true) (k : newFp w W H zs sd tk true e w') : keepFp w ok W H zs sd tk e w' := by
  unfold keepFp; rw [h]; exact k
/-- The answer. -/
def flipF (W H : Int) (zs : List Int) (s : Int) (c : Nat) (m : Int) : Fl := flN W H (fa .f32 c) ⟨zs, s, 0⟩ m.toNat
end Go.Proofs.Ytpmcjojipbiinaa
