/-
  Contracts of the small functions that the statements share: a slice of integers copied, compared, marked, held against its marks.
-/
import Derived.Test.YtajfpjggdbifjaaLib
import Derived.Test.YtajfpjggdbifjaaProg
import Derived.Deep.LoopGhost
namespace Go.Proofs.Ytajfpjggdbifjaa
open Go.RowKit
set_option linter.unusedVariables false
set_option linter.unusedSimpArgs false
set_option linter.unnecessarySimpa false

theorem info64 : (Try.prog.info? 2).map (fun i => (i.zero, i.size, i.bytes)) = some (some (.int .i64 0), 1, 8) := by kernel_rfl

theorem ints_set {zs : List Int} {i : Nat} {z : Int} : (ints zs).set i (.int .i64 z) = ints (zs.set i z) := by simp [ints, List.map_set]

theorem made_one (v : Value) (hv : v.cells = #[v]) (n : Nat) : (madeCells v.cells (n * 1)).toList = List.replicate n v := by
  rw [hv]
  simp [madeCells, Nat.mod_one, Array.toList_range, List.map_const']
theorem made_ints (n : Nat) : (madeCells #[Value.int .i64 0] n).toList = ints (List.replicate n 0) := by
  have := made_one (.int .i64 0) rfl n
  simp only [Value.cells, Nat.mul_one] at this
  rw [this]; simp [ints]

theorem take_set (zs : List Int) (k : Nat) {n : Nat} (hk : k < n) (hz : zs.length = n) : (zs.take k ++ List.replicate (n - k) 0).set k (zs[k]?.getD 0) = zs.take (k + 1) ++ List.replicate (n - (k + 1)) 0 := by
  have hl : (zs.take k).length = k := by simp; omega
  obtain ⟨m, hm⟩ : ∃ m, n - k = m + 1 := ⟨n - k - 1, by omega⟩
  rw [hm, List.replicate_succ, show n - (k + 1) = m by omega]
  conv => lhs; rw [show k = (zs.take k).length + 0 by omega]
  rw [show (zs.take k).length + 0 = k by omega]
  rw [List.set_append_right _ _ (by omega), hl, Nat.sub_self, List.set_cons_zero, List.take_succ_eq_append_getElem (by omega), List.append_assoc, List.singleton_append, List.getElem?_eq_getElem (by omega), Option.getD_some]
theorem marks_set (k0 : Int) (zs : List Int) (k : Nat) {n : Nat} (hk : k < n) (hz : zs.length = n) : (((List.range k).map fun (i : Nat) => k0 + i) ++ zs.drop k).set k (k0 + k) = ((List.range (k + 1)).map fun (i : Nat) => k0 + i) ++ zs.drop (k + 1) := by
  rw [List.set_append_right _ _ (by simp)]
  simp only [List.length_map, List.length_range, Nat.sub_self]
  rw [List.drop_eq_getElem_cons (by omega), List.set_cons_zero, List.range_succ]
  simp
theorem getElem?_of_getD {zs : List Int} {n k : Nat} (hz : zs.length = n) (hk : k < n) : zs[k]? = some (zs[k]?.getD 0) := by
  simp [show k < zs.length by omega]

theorem szInt64S_any (a : Option Addr) (n c : Nat) (L : Int) (hn : n ≤ 9223372036854775807) (hL : L ≤ 1048576) (hL0 : 0 ≤ L) (w : World) :
    Calls Try.prog 122 #[.slice a n c, .int .i64 L] w fun e w' => e = .returned (.int .i64 (if L - n < 0 then -1 else L - n)) ∧ w = w' := by
  go_enter Try.func122, Try.ntmps122
  go_wp2
  all_goals go_ret
  all_goals simp_all

/-- A copy: a row of the call's own. -/
theorem toInt64S_any (a : Option Addr) (n c : Nat) (zs : List Int) (hz : zs.length = n) (hn : n ≤ 1048576) (w : World) (hA : VArr w a (ints zs)) :
    Calls Try.prog 127 #[.slice a n c] w fun e w' => e = .returned (.slice (some ⟨w.heap.size, 0, none⟩) n n) ∧ Ext w w' ∧
      w'.ownsRow w.heap.size 2 1 (.slice (some ⟨w.heap.size, 0, none⟩) n n) n (ints zs) := by
  obtain ⟨i0, hi, hz0, hz1, hz2⟩ := info_parts info64
  have HZ := Lib.hid hz
  clear hz
  go_enter Try.func127, Try.ntmps127
  go_wp2_with (at_make; refine wpList_make_full _ rfl _ _ 42 rfl w.heap.size 2 i0 (.int .i64 0) 1 Try.underlying42 hi hz0 hz1 .i64 .i64 _ _ n rfl rfl rfl rfl (by rw [hz2]; omega) (by unfold maxLen; omega) (Nat.le_refl _) ?_)
  intro w1 hown hg
  have hE : Ext w w1 := Ext.of_grown hg
  have hown1 : w1.ownsRow w.heap.size 2 1 (.slice (some ⟨w.heap.size, 0, none⟩) n n) n (ints (List.replicate n 0)) := by
    rw [← made_ints]; exact hown
  clear hown hg
  go_wp2
  go_loopw [4] (fun i wr => ∃ k : Nat, k ≤ n ∧ i = .int .i64 k ∧ Ext w wr ∧ wr.ownsRow w.heap.size 2 1 (.slice (some ⟨w.heap.size, 0, none⟩) n n) n (ints (zs.take k ++ List.replicate (n - k) 0))) (fun i _ => n - (intOf i).toNat)
  case atStart => exact ⟨0, Nat.zero_le _, rfl, hE, by simpa using hown1⟩
  case round =>
    obtain ⟨k, hk, rfl, hX, hO⟩ := hrel
    clear hE hown1
    by_cases hlt : k < n
    · have hA' := hA.ext hX
      obtain ⟨b, o, rfl⟩ := hA.starts (i := k) (by simpa [HZ.out] using hlt)
      have hc := hA'.ofInts k (by rw [HZ.out]; exact hlt)
      obtain ⟨old, hd⟩ := ownsRow_cell hO (i := k) hlt
      have hf := ownsRow_frozen hO k
      have HO := Lib.hid hO
      have HX := Lib.hid hX
      clear hO hX hA hA'
      go_wp2
      go_roundw
      case rel =>
        refine ⟨k + 1, by omega, by go_num, Below.setCell HX.out (Nat.le_refl _) _, ?_⟩
        have h := oneCell_setCell HO.out (i := k) (.int .i64 (zs[k]?.getD 0))
        rw [ints_set, take_set _ _ (by omega) HZ.out] at h
        exact h
      case measure => simp [intOf]; omega
    · obtain rfl : k = n := by omega
      have HO := Lib.hid hO
      have HX := Lib.hid hX
      clear hO hX
      go_wp2
      go_ret
      refine ⟨rfl, HX.out, ?_⟩
      have := HO.out
      simpa [HZ.out, List.take_of_length_le (Nat.le_of_eq HZ.out)] using this

/-- Equal slices of integers compare equal; otherwise the answer tells. -/
theorem eqInt64S_any (a a' : Option Addr) (n c n' c' : Nat) (zs zs' : List Int) (hz : zs.length = n) (hz' : zs'.length = n') (hn : n ≤ 1152921504606846976) (hn' : n' ≤ 1152921504606846976) (w : World) (hA : VArr w a (ints zs)) (hA' : VArr w a' (ints zs')) :
    Calls Try.prog 130 #[.slice a n c, .slice a' n' c'] w fun e w' => e = .returned (.bool (decide (zs = zs'))) ∧ Ext w w' := by
  have HZ := Lib.hid hz
  have HZ' := Lib.hid hz'
  clear hz hz'
  by_cases hnn : n = n'
  · subst hnn
    go_enter Try.func130, Try.ntmps130
    go_wp2
    go_loopw [5] (fun i wr => ∃ k : Nat, k ≤ n ∧ i = .int .i64 k ∧ Ext w wr ∧ zs.take k = zs'.take k) (fun i _ => n - (intOf i).toNat)
    case atStart => exact ⟨0, Nat.zero_le _, rfl, Ext.refl _, by simp⟩
    case round =>
      obtain ⟨k, hk, rfl, hX, hT⟩ := hrel
      have HX := Lib.hid hX
      have HT := Lib.hid hT
      clear hT
      by_cases hlt : k < n
      · have h1 := hA.ext hX
        have h2 := hA'.ext hX
        obtain ⟨b, o, rfl⟩ := hA.starts (i := k) (by simpa [HZ.out] using hlt)
        obtain ⟨b', o', rfl⟩ := hA'.starts (i := k) (by simpa [HZ'.out] using hlt)
        have hc := h1.ofInts k (by rw [HZ.out]; exact hlt)
        have hc' := h2.ofInts k (by rw [HZ'.out]; exact hlt)
        clear h1 h2 hX hA hA'
        go_wp2
        go_quiet (fail)
        by_cases heq : zs[k]?.getD 0 = zs'[k]?.getD 0
        · have e1 : (zs[k]?.getD 0 != zs'[k]?.getD 0) = false := by simp [heq]
          have HE := Lib.hid heq
          clear heq
          go_wp2
          go_roundw
          case rel => exact ⟨k + 1, by omega, by go_num, Ext.trans HX.out ((Ext.refl _).drewN _), by rw [List.take_add_one, List.take_add_one, HT.out, getElem?_of_getD HZ.out hlt, getElem?_of_getD HZ'.out hlt, HE.out]⟩
          case measure => simp [intOf]; omega
        · have e1 : (zs[k]?.getD 0 != zs'[k]?.getD 0) = true := by simp [heq]
          have HE := Lib.hid heq
          clear heq
          go_wp2
          go_ret
          refine ⟨?_, Ext.trans HX.out ((Ext.refl _).drewN _)⟩
          have : ¬ zs = zs' := fun e => HE.out (by rw [e])
          simp [this]
      · obtain rfl : k = n := by omega
        clear hX
        go_wp2
        go_ret
        refine ⟨?_, HX.out⟩
        have := HT.out
        rw [List.take_of_length_le (Nat.le_of_eq HZ.out), List.take_of_length_le (Nat.le_of_eq HZ'.out)] at this
        simp [this]
  · have e1 : ((n : Int) != (n' : Int)) = true := by simp; omega
    go_enter Try.func130, Try.ntmps130
    go_wp2
    go_ret
    refine ⟨?_, Ext.refl _⟩
    have : ¬ zs = zs' := fun e => hnn (by rw [← HZ.out, ← HZ'.out, e])
    simp [this]

def marks (k : Int) (n : Nat) : List Int := (List.range n).map fun (i : Nat) => k + i

end Go.Proofs.Ytajfpjggdbifjaa
