/-
  LayersOf, by the program and by the reference.
-/
import Derived.Test.YtdggpkgbncmlbaaAtA
import Derived.Test.YtdggpkgbncmlbaaPost
namespace Go.Proofs.Ytdggpkgbncmlbaa
open Go.RowKit
set_option linter.unusedVariables false
set_option linter.unusedSimpArgs false
set_option linter.unnecessarySimpa false

/-- The greatest of the first k, and of 0. -/
def mxI (zs : List Int) : Nat → Int
  | 0 => 0
  | k + 1 => max (mxI zs k) (zs[k]?.getD 0)
theorem mxI_bd {zs : List Int} {n : Nat} (h : ∀ k, k < n → 0 ≤ zs[k]?.getD 0 ∧ zs[k]?.getD 0 ≤ 1000) : ∀ k, k ≤ n → 0 ≤ mxI zs k ∧ mxI zs k ≤ 1000
  | 0, _ => by simp [mxI]
  | k + 1, hk => by
    have h1 := mxI_bd h k (by omega)
    have h2 := h k (by omega)
    unfold mxI
    omega
theorem mxI_ge (zs : List Int) : ∀ (k j : Nat), j < k → zs[j]?.getD 0 ≤ mxI zs k
  | 0, j, h => by omega
  | k + 1, j, h => by
    unfold mxI
    by_cases hj : j = k
    · subst hj; omega
    · have := mxI_ge zs k j (by omega); omega
/-- How many of the first k are above a level. -/
def abv (zs : List Int) : Nat → Nat → Nat
  | 0, _ => 0
  | k + 1, j => abv zs k j + (if (j : Int) < zs[k]?.getD 0 then 1 else 0)
theorem abv_le (zs : List Int) : ∀ k j, abv zs k j ≤ k
  | 0, j => by simp [abv]
  | k + 1, j => by
    have := abv_le zs k j
    unfold abv
    split <;> omega
def layZ (zs : List Int) (n : Nat) : List Int := (List.range (mxI zs n).toNat).map fun j => (abv zs n j : Int)
theorem layZ_of {zs : List Int} {n M : Nat} {ys : List Int} (hM : mxI zs n = (M : Int)) (hl : ys.length = M) (h : ∀ j, j < M → ys[j]?.getD 0 = (abv zs n j : Int)) : ys = layZ zs n := by
  unfold layZ
  rw [hM, Int.toNat_natCast]
  refine List.ext_getElem? fun j => ?_
  by_cases hj : j < M
  · have := h j hj
    rw [List.getElem?_eq_getElem (by omega)] at this ⊢
    simp only [Option.getD_some] at this
    simp [hj, this]
  · rw [List.getElem?_eq_none (by omega), List.getElem?_eq_none (by simp; omega)]
def layR (W H : Int) (zs : List Int) (n : Nat) : List Int := if vldH W H zs then layZ zs n else []
theorem layR_no {W H : Int} {zs : List Int} {n : Nat} (h : vldH W H zs = false) : layR W H zs n = [] := by simp [layR, h]
theorem layR_yes {W H : Int} {zs : List Int} {n : Nat} (h : vldH W H zs = true) : layR W H zs n = layZ zs n := by simp [layR, h]
def listB (w : World) (L : List Int) (ok : Bool) (e : Ending) (w' : World) : Prop :=
  ∃ a m c, e = .returned (.tuple #[.slice a m c, .bool ok]) ∧ Ext w w' ∧ w'.ownsRow w.heap.size 2 1 (.slice a m c) m (ints L) ∧ L.length = m ∧ m ≤ 1048576
theorem own_int_atL {w : World} {base : Nat} {e : TypeId} {g n m c : Nat} {zs : List Int} (h : w.ownsRow base e 1 (.slice (some ⟨g, 0, none⟩) n c) m (ints zs)) {k : Nat} (hk : k < zs.length) : w.cell? ⟨g, k, none⟩ = some (.int .i64 (zs[k]?.getD 0)) ∧ w.frozen? ⟨g, k, none⟩ = false := by
  have := (ownsRow_varr h).ofInts k hk
  simp only [Nat.zero_add, List.getD_eq_getElem?_getD] at this
  exact ⟨this, ownsRow_frozen h k⟩

theorem l00MaxH_any (x y : Int) (w : World) : Calls Try.prog 85 #[.int .i64 x, .int .i64 y] w fun e w' => e = .returned (.int .i64 (max x y)) ∧ w = w' := by
  go_enter Try.func85, Try.ntmps85
  by_cases h : y < x
  · have e : decide (y < x) = true := by simpa using h
    have HM := Lib.hid (show max x y = x by omega)
    go_wp2
    go_ret
    exact ⟨by rw [HM.out]; rfl, rfl⟩
  · have e : decide (y < x) = false := by simpa using h
    have HM := Lib.hid (show max x y = y by omega)
    go_wp2
    go_ret
    exact ⟨by rw [HM.out]; rfl, rfl⟩

set_option maxRecDepth 100000 in
theorem maxS_any (b o n c : Nat) (zs : List Int) (hz : zs.length = n) (hn0 : 0 < n) (hn : n ≤ 1048576) (hb : (0:Int) ≤ (zs[0]?).getD 0) (w : World) (hA : VArr w (some ⟨b, o, none⟩) (ints zs)) :
    Calls Try.prog 89 #[.slice (some ⟨b, o, none⟩) n c] w fun e w' => e = .returned (.int .i64 (mxI zs n)) ∧ w = w' := by
  have HZ := Lib.hid hz
  have c0 := hA.ofInts 0 (by omega)
  rw [List.getD_eq_getElem?_getD, Nat.add_zero] at c0
  have H1 : Hid (mxI zs 1 = zs[0]?.getD 0) := by show _ = _; simp only [mxI]; omega
  clear hz hb
  generalize zs[0]?.getD 0 = z0 at *
  go_enter Try.func89, Try.ntmps89
  go_wp2
  go_loopw [3, 4] (fun m i wr => ∃ k : Nat, 1 ≤ k ∧ k ≤ n ∧ i = .int .i64 k ∧ m = .int .i64 (mxI zs k) ∧ w = wr) (fun _ i _ => n - (intOf i).toNat)
  case atStart => exact ⟨1, Nat.le_refl _, hn0, rfl, by rw [H1.out], by first | rfl | trivial⟩
  case round =>
    obtain ⟨k, hk1, hk, rfl, rfl, rfl⟩ := hrel
    clear c0
    by_cases hlt : k < n
    · have hc := hA.ofInts k (by rw [HZ.out]; exact hlt)
      rw [List.getD_eq_getElem?_getD] at hc
      have HS : Hid (mxI zs (k + 1) = max (mxI zs k) (zs[k]?.getD 0)) := by show _ = _; rfl
      generalize zs[k]?.getD 0 = z at *
      generalize mxI zs k = m at *
      clear hA
      by_cases h : m < z
      · have HM := Lib.hid (show max m z = z by omega)
        go_wp2
        go_roundw
        case rel => exact ⟨k + 1, by omega, by omega, by go_num, by (rw [HS.out, HM.out]; first | done | rfl | (congr 1; omega) | (simp; omega)), by first | rfl | trivial⟩
        case measure => simp [intOf]; omega
      · have HM := Lib.hid (show max m z = m by omega)
        go_wp2
        go_roundw
        case rel => exact ⟨k + 1, by omega, by omega, by go_num, by (rw [HS.out, HM.out]; first | done | rfl | (congr 1; omega) | (simp; omega)), by first | rfl | trivial⟩
        case measure => simp [intOf]; omega
    · obtain rfl : k = n := by omega
      go_wp2
      go_ret
      exact ⟨rfl, rfl⟩

/-- What stands while the layers are counted: q levels of the next top are done. -/
structure LayS (w : World) (g : Nat) (c : Nat) (zs : List Int) (M k q : Nat) (wr : World) (ys : List Int) : Prop where
  ext : Ext w wr
  own : wr.ownsRow w.heap.size 2 1 (.slice (some ⟨g, 0, none⟩) M c) M (ints ys)
  len : ys.length = M
  num : ∀ j, j < M → ys[j]?.getD 0 = ((abv zs k j + (if j < q then 1 else 0) : Nat) : Int)
theorem LayS.next {w : World} {g c : Nat} {zs : List Int} {M k q : Nat} {wr : World} {ys : List Int} (h : LayS w g c zs M k q wr ys) (hq : q < M) (hg : w.heap.size ≤ g) : LayS w g c zs M k (q + 1) (wr.setCell ⟨g, q, none⟩ (.int .i64 ((abv zs k q + 1 : Nat) : Int))) (ys.set q ((abv zs k q + 1 : Nat) : Int)) := by
  refine ⟨Below.setCell h.ext hg _, ?_, by simp [h.len], fun j hj => ?_⟩
  · have := oneCell_setCell h.own (i := q) (.int .i64 ((abv zs k q + 1 : Nat) : Int))
    rw [ints_set] at this
    exact this
  · by_cases hjq : j = q
    · subst hjq
      have : j < ys.length := by rw [h.len]; exact hj
      simp only [List.getElem?_set_self this, Option.getD_some]
      simp
    · rw [List.getElem?_set_ne (by omega), h.num j hj]
      by_cases hlt : j < q
      · simp [hlt, show j < q + 1 by omega]
      · simp [hlt, show ¬ j < q + 1 by omega]
theorem LayS.whole {w : World} {g c : Nat} {zs : List Int} {M k q : Nat} {wr : World} {ys : List Int} (h : LayS w g c zs M k q wr ys) (hq : zs[k]?.getD 0 = (q : Int)) : LayS w g c zs M (k + 1) 0 wr ys := by
  refine ⟨h.ext, h.own, h.len, fun j hj => ?_⟩
  rw [h.num j hj]
  simp only [abv, hq]
  by_cases hlt : j < q
  · simp [hlt]
  · simp [hlt]
set_option maxRecDepth 100000 in
set_option maxHeartbeats 2000000 in
theorem implLayers_any (W H : Int) (a : Option Addr) (n c : Nat) (zs : List Int) (hz : zs.length = n) (hn : n ≤ 1048576) (w : World) (hA : VArr w a (ints zs)) :
    Calls Try.prog 46 #[.agg #[.int .i64 W, .int .i64 H, .slice a n c]] w (listB w (layR W H zs n) (vldH W H zs)) := by
  obtain ⟨i0, hi, hz0, hz1, hz2⟩ := info_parts info64
  have hX := (Ext.refl w).alloc (.cells #[.int .i64 W, .int .i64 H, .slice a n c] 33)
  have b0 := heap_new w (.cells #[.int .i64 W, .int .i64 H, .slice a n c] 33)
  have hA1 := hA.ext hX
  go_enter Try.func46, Try.ntmps46
  go_wp2_with fail
  refine (implValid_any W H a n c zs hz (by omega) _ hA1).mono ?_
  generalize w.alloc (.cells #[.int .i64 W, .int .i64 H, .slice a n c] 33) = w0 at *
  generalize hpp : w.heap.size = p at *
  have HPP := Lib.hid hpp
  clear hpp
  rintro e w1 ⟨rfl, hX1⟩
  cases hv : vldH W H zs with
  | false =>
    have HV := Lib.hid hv
    have HE := Lib.hid (hX.trans hX1)
    clear hX hX1 b0 hA hA1 hv
    go_wp2
    refine bodyPost_ret (v := .tuple #[.slice none 0 0, .bool false]) ?_ rfl ⟨none, 0, 0, by rw [HV.out], HE.out, by rw [layR_no HV.out]; exact World.ownsRow_nil _ _ _ _, by rw [layR_no HV.out]; rfl, by omega⟩
    simp only [results, Try.results46]
    go_simp
  | true =>
    obtain ⟨hW, hH, hnn, ⟨hn1, hn2⟩, hb⟩ := vld_facts hv hz
    have HV := Lib.hid hv
    have HZ := Lib.hid hz
    have HBD := Lib.hid hb
    have HX := Lib.hid (hX.trans hX1)
    have HB := Lib.hid (hX1.block b0)
    obtain ⟨b, o, rfl⟩ := hA.starts (i := 0) (by simp; omega)
    have HA := Lib.hid (hA1.ext hX1)
    have hmb := mxI_bd hb n (Nat.le_refl _)
    obtain ⟨M, hM⟩ := Int.eq_ofNat_of_zero_le hmb.1
    have HM := Lib.hid hM
    have hM2 : M ≤ 1000 := by omega
    clear hX hX1 b0 hA hA1 hv hz hb hmb hM hnn
    obtain ⟨⟨c0, c1, c2⟩, _⟩ := block3 HB.out
    go_wp2_with fail
    refine (maxS_any b o n c zs HZ.out (by omega) hn (HBD.out 0 (by omega)).1 _ HA.out).mono ?_
    rw [HM.out]
    rintro e w' ⟨rfl, rfl⟩
    go_wp2_with (at_make; refine wpList_make_full _ rfl _ _ 28 rfl w1.heap.size 2 i0 (.int .i64 0) 1 Try.underlying28 hi hz0 hz1 .i64 .i64 _ _ M rfl rfl rfl rfl (by rw [hz2]; omega) (by unfold maxLen; omega) (Nat.le_refl _) ?_)
    intro w2 hown hg
    rw [made_ints] at hown
    have F0 : LayS w1 w1.heap.size M zs M 0 0 w2 (List.replicate M 0) := ⟨Ext.of_grown hg, hown, by simp, fun j hj => by simp [abv, hj]⟩
    have d2 := (Ext.of_grown hg : Ext w1 w2).cell c2
    clear hown hg
    go_wp2
    clear c0 c1 c2 d2
    go_loopw [18] (fun i wr => ∃ (k : Nat) (ys : List Int), k ≤ n ∧ i = .int .i64 k ∧ LayS w1 w1.heap.size M zs M k 0 wr ys) (fun i _ => n - (intOf i).toNat)
    case atStart => exact ⟨0, _, Nat.zero_le _, rfl, F0⟩
    case round =>
      obtain ⟨k, ys, hk, rfl, hF⟩ := hrel
      clear F0
      have HF := Lib.hid hF
      by_cases hlt : k < n
      · have hc := (HA.out.ext hF.ext).ofInts k (by rw [HZ.out]; exact hlt)
        rw [List.getD_eq_getElem?_getD] at hc
        obtain ⟨z0, z1⟩ := HBD.out k hlt
        have hzm : zs[k]?.getD 0 ≤ (M : Int) := by rw [← HM.out]; exact mxI_ge zs n k hlt
        have HZK : Hid (∀ q : Nat, zs[k]?.getD 0 = (q : Int) → ∀ wr ys, LayS w1 w1.heap.size M zs M k q wr ys → LayS w1 w1.heap.size M zs M (k + 1) 0 wr ys) := fun q hq wr ys h => h.whole hq
        clear hF
        generalize zs[k]?.getD 0 = z at *
        obtain ⟨T, rfl⟩ := Int.eq_ofNat_of_zero_le z0
        have hTM : T ≤ M := by omega
        go_wp2
        go_loopw [23] (fun i wr => ∃ (q : Nat) (ys : List Int), q ≤ T ∧ i = .int .i64 q ∧ LayS w1 w1.heap.size M zs M k q wr ys) (fun i _ => T - (intOf i).toNat)
        case atStart => exact ⟨0, ys, Nat.zero_le _, rfl, HF.out⟩
        case round =>
          obtain ⟨q, ys, hq, rfl, hF⟩ := hrel
          clear HF
          have HF := Lib.hid hF
          clear hF

          by_cases hlt2 : q < T
          · have hqM : q < M := by omega
            obtain ⟨hy, hf⟩ := own_int_atL HF.out.own (k := q) (by rw [HF.out.len]; exact hqM)
            rw [HF.out.num q hqM] at hy
            simp only [Nat.lt_irrefl, if_false, Nat.add_zero] at hy
            have hab := abv_le zs k q
            have HN := Lib.hid (HF.out.next hqM (Nat.le_refl _))
            generalize abv zs k q = v at *
            go_wp2
            go_roundw
            case rel => exact ⟨q + 1, _, by omega, by go_num, by simpa using HN.out⟩
            case measure => simp [intOf]; omega
          · obtain rfl : q = T := by omega
            have HN := Lib.hid (HZK.out q rfl _ _ HF.out)
            go_wp2
            go_roundw
            case rel => exact ⟨k + 1, ys, by omega, by go_num, HN.out⟩
            case measure => simp [intOf]; omega
      · obtain rfl : k = n := by omega
        have HL : Hid (ys = layZ zs k) := layZ_of HM.out hF.len (fun j hj => by have := hF.num j hj; simpa using this)
        clear hF
        go_wp2
        refine bodyPost_ret (v := .tuple #[.slice (some ⟨w1.heap.size, 0, none⟩) M M, .bool true]) ?_ rfl ⟨_, M, M, by rw [HV.out], HX.out.trans HF.out.ext, by rw [layR_yes HV.out, ← HL.out]; exact ownsRow_mono HF.out.own HX.out.size, by rw [layR_yes HV.out, ← HL.out]; exact HF.out.len, by omega⟩
        simp only [results, Try.results46]
        go_simp

set_option maxRecDepth 100000 in
set_option maxHeartbeats 2000000 in
theorem specLayers_any (W H : Int) (a : Option Addr) (n c : Nat) (zs : List Int) (hz : zs.length = n) (hn : n ≤ 1048576) (w : World) (hA : VArr w a (ints zs)) :
    Calls Try.prog 45 #[.agg #[.int .i64 W, .int .i64 H, .slice a n c]] w (listB w (layR W H zs n) (vldH W H zs)) := by
  obtain ⟨i0, hi, hz0, hz1, hz2⟩ := info_parts info64
  have hX := (Ext.refl w).alloc (.cells #[.int .i64 W, .int .i64 H, .slice a n c] 33)
  have b0 := heap_new w (.cells #[.int .i64 W, .int .i64 H, .slice a n c] 33)
  have hA1 := hA.ext hX
  go_enter Try.func45, Try.ntmps45
  go_wp2_with fail
  refine (l05Is_any _ W H a n c zs hz (by omega) _ (block3 b0).1 hA1).mono ?_
  generalize w.alloc (.cells #[.int .i64 W, .int .i64 H, .slice a n c] 33) = w0 at *
  generalize hpp : w.heap.size = p at *
  have HPP := Lib.hid hpp
  clear hpp
  rintro e w1 ⟨rfl, hX1⟩
  cases hv : vldH W H zs with
  | false =>
    have HV := Lib.hid hv
    have HE := Lib.hid (hX.trans hX1)
    clear hX hX1 b0 hA hA1 hv
    go_wp2
    refine bodyPost_ret (v := .tuple #[.slice none 0 0, .bool false]) ?_ rfl ⟨none, 0, 0, by rw [HV.out], HE.out, by rw [layR_no HV.out]; exact World.ownsRow_nil _ _ _ _, by rw [layR_no HV.out]; rfl, by omega⟩
    simp only [results, Try.results45]
    go_simp
  | true =>
    obtain ⟨hW, hH, hnn, ⟨hn1, hn2⟩, hb⟩ := vld_facts hv hz
    have HV := Lib.hid hv
    have HZ := Lib.hid hz
    have HBD := Lib.hid hb
    have HX := Lib.hid (hX.trans hX1)
    have HB := Lib.hid (hX1.block b0)
    obtain ⟨b, o, rfl⟩ := hA.starts (i := 0) (by simp; omega)
    have HA := Lib.hid (hA1.ext hX1)
    have hmb := mxI_bd hb n (Nat.le_refl _)
    obtain ⟨M, hM⟩ := Int.eq_ofNat_of_zero_le hmb.1
    have HM := Lib.hid hM
    have hM2 : M ≤ 1000 := by omega
    clear hX hX1 b0 hA hA1 hv hz hb hmb hM hnn
    obtain ⟨⟨c0, c1, c2⟩, _⟩ := block3 HB.out
    go_wp2
    clear c0 c1 c2
    go_loopw [4, 14] (fun m i wr => ∃ k : Nat, k ≤ n ∧ i = .int .i64 k ∧ m = .int .i64 (mxI zs k) ∧ w1 = wr) (fun _ i _ => n - (intOf i).toNat)
    case atStart => exact ⟨0, Nat.zero_le _, rfl, rfl, by first | rfl | trivial⟩
    case round =>
      obtain ⟨k, hk, rfl, rfl, rfl⟩ := hrel
      obtain ⟨⟨c0, c1, c2⟩, _⟩ := block3 HB.out
      by_cases hlt : k < n
      · have hc := HA.out.ofInts k (by rw [HZ.out]; exact hlt)
        rw [List.getD_eq_getElem?_getD] at hc
        have HS : Hid (mxI zs (k + 1) = max (mxI zs k) (zs[k]?.getD 0)) := by show _ = _; rfl
        generalize zs[k]?.getD 0 = z at *
        generalize mxI zs k = m at *
        go_wp2_with (go_at_call 85; refine (l00MaxH_any _ _ _).mono ?_; rintro e w' ⟨rfl, rfl⟩)
        go_roundw
        case rel => exact ⟨k + 1, by omega, by go_num, by rw [HS.out], by first | rfl | trivial⟩
        case measure => simp [intOf]; omega
      · obtain rfl : n = k := by omega
        clear hlt hk
        generalize hmm : mxI zs n = mm
        rw [HM.out] at hmm
        subst hmm
        go_wp2_with (at_make; refine wpList_make_full _ rfl _ _ 28 rfl w1.heap.size 2 i0 (.int .i64 0) 1 Try.underlying28 hi hz0 hz1 .i64 .i64 _ _ M rfl rfl rfl rfl (by rw [hz2]; omega) (by unfold maxLen; omega) (Nat.le_refl _) ?_)
        intro w2 hown hg
        rw [made_ints] at hown
        have F0 : LayS w1 w1.heap.size M zs M 0 0 w2 (List.replicate M 0) := ⟨Ext.of_grown hg, hown, by simp, fun j hj => by simp [abv, hj]⟩
        have d2 := (Ext.of_grown hg : Ext w1 w2).cell c2
        clear hown hg
        go_wp2
        clear c0 c1 c2 d2
        go_loopw [30] (fun i wr => ∃ (k : Nat) (ys : List Int), k ≤ n ∧ i = .int .i64 k ∧ LayS w1 w1.heap.size M zs M k 0 wr ys) (fun i _ => n - (intOf i).toNat)
        case atStart => exact ⟨0, _, Nat.zero_le _, rfl, F0⟩
        case round =>
          obtain ⟨k, ys, hk, rfl, hF⟩ := hrel
          clear F0
          have HF := Lib.hid hF
          by_cases hlt : k < n
          · have hc := (HA.out.ext hF.ext).ofInts k (by rw [HZ.out]; exact hlt)
            rw [List.getD_eq_getElem?_getD] at hc
            obtain ⟨z0, z1⟩ := HBD.out k hlt
            have hzm : zs[k]?.getD 0 ≤ (M : Int) := by rw [← HM.out]; exact mxI_ge zs n k hlt
            have HZK : Hid (∀ q : Nat, zs[k]?.getD 0 = (q : Int) → ∀ wr ys, LayS w1 w1.heap.size M zs M k q wr ys → LayS w1 w1.heap.size M zs M (k + 1) 0 wr ys) := fun q hq wr ys h => h.whole hq
            clear hF
            obtain ⟨T, hT⟩ := Int.eq_ofNat_of_zero_le z0
            have HKT := Lib.hid hT
            rw [hT] at hc z1 hzm HZK
            clear hT z0
            have hTM : T ≤ M := by omega
            obtain ⟨⟨e0, e1, e2⟩, _⟩ := block3 (HF.out.ext.block HB.out)
            go_wp2
            clear e0 e1 e2
            go_loopw [8] (fun i wr => ∃ (q : Nat) (ys : List Int), q ≤ T ∧ i = .int .i64 q ∧ LayS w1 w1.heap.size M zs M k q wr ys) (fun i _ => T - (intOf i).toNat)
            case atStart => exact ⟨0, ys, Nat.zero_le _, rfl, HF.out⟩
            case round =>
              obtain ⟨q, ys, hq, rfl, hF⟩ := hrel
              clear HF
              have HF := Lib.hid hF
              clear hF
              obtain ⟨⟨e0, e1, e2⟩, _⟩ := block3 (HF.out.ext.block HB.out)
              have hc := (HA.out.ext HF.out.ext).ofInts k (by rw [HZ.out]; exact hlt)
              rw [List.getD_eq_getElem?_getD, HKT.out] at hc
              by_cases hlt2 : q < T
              · have hqM : q < M := by omega
                obtain ⟨hy, hf⟩ := own_int_atL HF.out.own (k := q) (by rw [HF.out.len]; exact hqM)
                rw [HF.out.num q hqM] at hy
                simp only [Nat.lt_irrefl, if_false, Nat.add_zero] at hy
                have hab := abv_le zs k q
                have HN := Lib.hid (HF.out.next hqM (Nat.le_refl _))
                generalize abv zs k q = v at *
                go_wp2
                go_roundw
                case rel => exact ⟨q + 1, _, by omega, by go_num, by simpa using HN.out⟩
                case measure => simp [intOf]; omega
              · obtain rfl : q = T := by omega
                have HN := Lib.hid (HZK.out q rfl _ _ HF.out)
                go_wp2
                go_roundw
                case rel => exact ⟨k + 1, ys, by omega, by go_num, HN.out⟩
                case measure => simp [intOf]; omega
          · obtain rfl : k = n := by omega
            have HL : Hid (ys = layZ zs k) := layZ_of HM.out hF.len (fun j hj => by have := hF.num j hj; simpa using this)
            clear hF
            go_wp2
            refine bodyPost_ret (v := .tuple #[.slice (some ⟨w1.heap.size, 0, none⟩) M M, .bool true]) ?_ rfl ⟨_, M, M, by rw [HV.out], HX.out.trans HF.out.ext, by rw [layR_yes HV.out, ← HL.out]; exact ownsRow_mono HF.out.own HX.out.size, by rw [layR_yes HV.out, ← HL.out]; exact HF.out.len, by omega⟩
            simp only [results, Try.results45]
            go_simp
end Go.Proofs.Ytdggpkgbncmlbaa
