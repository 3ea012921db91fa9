/-
  The laws' source of choices: numbers picked from bytes.
-/
import Derived.Test.YtllpbkmdcaikoaaFtA
namespace Go.Proofs.Ytllpbkmdcaikoaa
open Go.RowKit
set_option linter.unusedVariables false
set_option linter.unusedSimpArgs false
set_option linter.unnecessarySimpa false

/-- A slice's bytes. -/
def byts (zs : List Int) : List Value := zs.map (Value.int .u8)
theorem byts_get {zs : List Int} {i : Nat} (h : i < zs.length) : (byts zs)[i]? = some (.int .u8 (zs[i]?.getD 0)) := by
  unfold byts
  rw [List.getElem?_map, List.getElem?_eq_getElem h]; rfl
def wfB (zs : List Int) : Prop := ∀ i, i < zs.length → 0 ≤ zs[i]?.getD 0 ∧ zs[i]?.getD 0 ≤ 255

/-- The source's box. -/
def SrcAt (w : World) (p : Nat) (s : Option Addr) (n c : Nat) (k : Int) : Prop := ∃ sd : Int, w.heap[p]? = some (.cells #[.slice s n c, .int .i64 k, .int .u64 sd] 95 (0, 0))
theorem Ext.touch {a b c : World} {p : Nat} (h : Ext a b) (hp : a.heap.size ≤ p) (k : b.grownBy c (some p)) : Ext a c :=
  Below.mk (k.os.trans (Below.os h)) (k.tape.trans (Below.tape h)) (k.output.trans (Below.output h)) (Nat.le_trans (Below.size h) k.size) fun i hi =>
    (k.block i (Nat.lt_of_lt_of_le hi (Below.size h)) (by
      intro e
      cases e
      omega)).trans (Below.block h i hi)
theorem touch_refl (w : World) (p : Nat) : w.grownBy w (some p) := ⟨rfl, rfl, rfl, Nat.le_refl _, fun _ _ _ => rfl⟩
theorem touch_ext {w w' : World} {p : Nat} (h : Ext w w') : w.grownBy w' (some p) :=
  ⟨Below.os h, Below.tape h, Below.output h, Below.size h, fun k hk _ => Below.block h k hk⟩
theorem touch_trans {a b c : World} {p : Nat} (h : a.grownBy b (some p)) (k : b.grownBy c (some p)) : a.grownBy c (some p) :=
  ⟨k.os.trans h.os, k.tape.trans h.tape, k.output.trans h.output, Nat.le_trans h.size k.size, fun i hi hne => (k.block i (Nat.lt_of_lt_of_le hi h.size) hne).trans (h.block i hi hne)⟩
theorem touch_set (w : World) (p i : Nat) (v : Value) : w.grownBy (w.setCell ⟨p, i, none⟩ v) (some p) :=
  ⟨rfl, rfl, rfl, by simp [World.setCell], fun k _ hne => cells_setOther (w := w) (q := p) (fun e => hne (by rw [e])) v⟩
/-- A row stays when a box of another kind is touched. -/
theorem row_touch {w w' : World} {base : Nat} {e T : TypeId} {v : Value} {n p : Nat} {xs : List Value} {ca : Array Value} {fr : Nat × Nat} (hT : T ≠ e) (hO : w.ownsRow base e 1 v n xs) (D : w.heap[p]? = some (.cells ca T fr)) (hG : w.grownBy w' (some p)) : w'.ownsRow base e 1 v n xs :=
  hO.kept hG (by
    rcases hO.2 with ⟨rfl, _⟩ | ⟨g, cap, cur, rfl, hb, hg, _⟩
    · exact .inl rfl
    · refine .inr fun hh => ?_
      simp only [Value.ownBlock, Option.some.injEq] at hh
      subst hh
      rw [hg] at D
      simp only [Option.some.injEq, Obj.cells.injEq] at D
      exact hT D.2.1.symm)
theorem block_touch {w w' : World} {p q : Nat} {o : Obj} (h : w.heap[q]? = some o) (hne : q ≠ p) (k : w.grownBy w' (some p)) : w'.heap[q]? = some o := by
  rw [k.block q (lt_of_block h) (by intro e; cases e; exact hne rfl)]; exact h
theorem and255 (x : Int) : 0 ≤ wrap64 (bits .and .u64 x 255) ∧ wrap64 (bits .and .u64 x 255) ≤ 255 := by
  have h : (BitVec.ofInt IntKind.u64.bits x &&& BitVec.ofInt IntKind.u64.bits 255).toNat ≤ 255 := by
    rw [BitVec.toNat_and]
    exact Nat.le_trans Nat.and_le_right (by decide)
  unfold bits wrap64
  dsimp only
  generalize (BitVec.ofInt IntKind.u64.bits x &&& BitVec.ofInt IntKind.u64.bits 255).toNat = m at *
  have e1 : IntKind.u64.wrap (m : Int) = m := by simp [IntKind.wrap, IntKind.bits, IntKind.signed]; omega
  rw [e1]
  omega

set_option maxRecDepth 100000 in
set_option maxHeartbeats 1000000 in
theorem next_any (wb : World) (p : Nat) (s : Option Addr) (n c : Nat) (zs : List Int) (k : Int) (hz : zs.length = n) (hn : n ≤ 1048576) (hw : wfB zs) (hk0 : 0 ≤ k) (hk1 : k ≤ 1000000) (hA : VArr wb s (byts zs)) (w : World) (E : Ext wb w) (hp : wb.heap.size ≤ p) (hs : SrcAt w p s n c k) :
    Calls Try.prog 118 #[.pointer (some ⟨p, 0, none⟩)] w fun e w' => ∃ z : Int, e = .returned (.int .i64 z) ∧ 0 ≤ z ∧ z ≤ 255 ∧ w.grownBy w' (some p) ∧ SrcAt w' p s n c (k + 1) := by
  obtain ⟨sd, D⟩ := hs
  have HD := Lib.hid D
  go_enter Try.func118, Try.ntmps118
  go_wp2_with fail
  clear D
  refine region_grow (C := Ext w) (K := fun _ _ _ _ => False) ⟨fun _ _ h k => h.trans k, fun _ _ _ _ _ h _ => h⟩ (by kernel_rfl) (by kernel_rfl) ((Ext.refl w).drew) ?_
  repeat (refine grow_q rfl ?_; apply Exists.intro; refine ⟨fun u hu _ => ?_, ?_⟩; focus (obtain ⟨⟨c0, c1, c2⟩, _⟩ := block3 (hu.block HD.out); go_simp; rfl))
  refine grow_nil (fun w1 hX1 _ => ?_)
  go_simp
  have HD1 := Lib.hid (hX1.block HD.out)
  have HX1 := Lib.hid hX1
  clear hX1
  by_cases hlt : k < n
  · obtain ⟨i, rfl⟩ := Int.eq_ofNat_of_zero_le hk0
    have hi : i < zs.length := by omega
    obtain ⟨b, o, rfl⟩ := hA.starts (i := i) (by simpa [byts] using hi)
    have HC := Lib.hid ((E.trans HX1.out).cell (hA.at (byts_get hi)))
    obtain ⟨z0, z1⟩ := hw i hi
    generalize zs[i]?.getD 0 = z at *
    go_wp2_with fail
    refine region_grow (C := Ext w1) (K := fun _ _ _ _ => False) ⟨fun _ _ h k => h.trans k, fun _ _ _ _ _ h _ => h⟩ (by kernel_rfl) (by kernel_rfl) ((Ext.refl w1).drew) ?_
    repeat (refine grow_q rfl ?_; apply Exists.intro; refine ⟨fun u hu _ => ?_, ?_⟩; focus (obtain ⟨⟨c0, c1, c2⟩, _⟩ := block3 (hu.block HD1.out); have hcc := hu.cell HC.out; go_simp; rfl))
    refine grow_nil (fun w2 hX2 _ => ?_)
    go_simp
    have HD2 := Lib.hid (hX2.block HD1.out)
    have HX2 := Lib.hid (HX1.out.trans hX2)
    clear hX2 HX1 HD1 HC
    obtain ⟨⟨c0, c1, c2⟩, f0, f1, f2⟩ := block3 HD2.out
    have key : ∀ v1 v2 : Value, ((w2.setCell ⟨p, 1, none⟩ v1).setCell ⟨p, 2, none⟩ v2).heap[p]? = some (.cells #[.slice (some ⟨b, o, none⟩) n c, v1, v2] 95 (0, 0)) := fun v1 v2 => cells_setCell (cells_setCell HD2.out (i := 1) v1) (i := 2) v2
    have HK := Lib.hid key
    have HT : Hid (∀ v1 v2 : Value, w.grownBy ((w2.setCell ⟨p, 1, none⟩ v1).setCell ⟨p, 2, none⟩ v2) (some p)) := fun v1 v2 => touch_trans (touch_ext HX2.out) (touch_trans (touch_set _ _ _ _) (touch_set _ _ _ _))
    clear key
    go_wp2_with fail
    clear c0 c1 c2 f0 f1 f2
    refine region_grow (C := Ext _) (K := fun _ _ _ _ => False) ⟨fun _ _ h k => h.trans k, fun _ _ _ _ _ h _ => h⟩ (by kernel_rfl) (by kernel_rfl) ((Ext.refl _).drew) ?_
    repeat (refine grow_q rfl ?_; apply Exists.intro; refine ⟨fun u hu _ => ?_, ?_⟩; focus (obtain ⟨⟨c0, c1, c2⟩, _⟩ := block3 (hu.block (HK.out _ _)); go_simp; rfl))
    refine grow_nil (fun w3 hX3 _ => ?_)
    obtain ⟨sd2, hs2⟩ : ∃ sd2 : Int, w3.heap[p]? = some (.cells #[.slice (some ⟨b, o, none⟩) n c, .int .i64 (i + 1), .int .u64 sd2] 95 (0, 0)) := ⟨_, hX3.block (HK.out _ _)⟩
    have HG := Lib.hid (touch_trans (HT.out _ _) (touch_ext hX3))
    clear hX3 HT HK
    obtain ⟨⟨c0, c1, c2⟩, _⟩ := block3 hs2
    have HS2 := Lib.hid hs2
    clear hs2
    go_simp
    go_wp2
    refine bodyPost_ret (v := .int .i64 z) ?_ rfl ⟨z, rfl, z0, z1, HG.out, sd2, HS2.out⟩
    simp only [results, Try.results118]
    go_simp
    try exact wrapS (by omega) (by omega)
  · have HD2 := Lib.hid HD1.out
    have HX2 := Lib.hid HX1.out
    clear HX1 HD1
    generalize hww : w1 = w2 at *
    clear hww
    obtain ⟨⟨c0, c1, c2⟩, f0, f1, f2⟩ := block3 HD2.out
    have key : ∀ v1 v2 : Value, ((w2.setCell ⟨p, 1, none⟩ v1).setCell ⟨p, 2, none⟩ v2).heap[p]? = some (.cells #[.slice s n c, v1, v2] 95 (0, 0)) := fun v1 v2 => cells_setCell (cells_setCell HD2.out (i := 1) v1) (i := 2) v2
    have HK := Lib.hid key
    have HT : Hid (∀ v1 v2 : Value, w.grownBy ((w2.setCell ⟨p, 1, none⟩ v1).setCell ⟨p, 2, none⟩ v2) (some p)) := fun v1 v2 => touch_trans (touch_ext HX2.out) (touch_trans (touch_set _ _ _ _) (touch_set _ _ _ _))
    clear key
    go_wp2_with fail
    clear c0 c1 c2 f0 f1 f2
    refine region_grow (C := Ext _) (K := fun _ _ _ _ => False) ⟨fun _ _ h k => h.trans k, fun _ _ _ _ _ h _ => h⟩ (by kernel_rfl) (by kernel_rfl) ((Ext.refl _).drew) ?_
    repeat (refine grow_q rfl ?_; apply Exists.intro; refine ⟨fun u hu _ => ?_, ?_⟩; focus (obtain ⟨⟨c0, c1, c2⟩, _⟩ := block3 (hu.block (HK.out _ _)); go_simp; rfl))
    refine grow_nil (fun w3 hX3 _ => ?_)
    obtain ⟨sd2, hs2⟩ : ∃ sd2 : Int, w3.heap[p]? = some (.cells #[.slice s n c, .int .i64 (k + 1), .int .u64 sd2] 95 (0, 0)) := ⟨_, hX3.block (HK.out _ _)⟩
    have HG := Lib.hid (touch_trans (HT.out _ _) (touch_ext hX3))
    clear hX3 HT HK
    obtain ⟨⟨c0, c1, c2⟩, _⟩ := block3 hs2
    have HS2 := Lib.hid hs2
    clear hs2
    go_simp
    go_wp2
    have ha := and255 (sd2 / 1099511627776)
    refine bodyPost_ret (v := .int .i64 (wrap64 (bits .and .u64 (sd2 / 1099511627776) 255))) ?_ rfl ⟨_, rfl, ha.1, ha.2, HG.out, sd2, HS2.out⟩
    simp only [results, Try.results118]
    go_simp

theorem pick_any (wb : World) (p : Nat) (s : Option Addr) (n c : Nat) (zs : List Int) (k m : Int) (hz : zs.length = n) (hn : n ≤ 1048576) (hw : wfB zs) (hk0 : 0 ≤ k) (hk1 : k ≤ 1000000) (hm : 2 ≤ m ∧ m ≤ 200) (hA : VArr wb s (byts zs)) (w : World) (E : Ext wb w) (hp : wb.heap.size ≤ p) (hs : SrcAt w p s n c k) :
    Calls Try.prog 100 #[.pointer (some ⟨p, 0, none⟩), .int .i64 m] w fun e w' => ∃ z : Int, e = .returned (.int .i64 z) ∧ 0 ≤ z ∧ z < m ∧ w.grownBy w' (some p) ∧ SrcAt w' p s n c (k + 1) := by
  have HN := Lib.hid (next_any wb p s n c zs k hz hn hw hk0 hk1 hA w E hp hs)
  obtain ⟨m1, m2⟩ := hm
  clear hA hs hz hw
  go_enter Try.func100, Try.ntmps100
  go_wp2_with fail
  refine HN.out.mono ?_
  rintro e w1 ⟨z, rfl, z0, z1, hg, hs⟩
  have HG := Lib.hid hg
  have HS := Lib.hid hs
  clear hg hs HN
  have hr1 := Int.emod_nonneg z (show m ≠ 0 by omega)
  have hr2 := Int.emod_lt_of_pos z (show 0 < m by omega)
  go_wp2
  refine bodyPost_ret (v := .int .i64 (z % m)) ?_ rfl ⟨_, rfl, hr1, hr2, HG.out, HS.out⟩
  simp only [results, Try.results100]
  go_simp
theorem one_any (wb : World) (p : Nat) (s : Option Addr) (n c : Nat) (zs : List Int) (k m : Int) (hz : zs.length = n) (hn : n ≤ 1048576) (hw : wfB zs) (hk0 : 0 ≤ k) (hk1 : k ≤ 1000000) (hm : 2 ≤ m ∧ m ≤ 200) (hA : VArr wb s (byts zs)) (w : World) (E : Ext wb w) (hp : wb.heap.size ≤ p) (hs : SrcAt w p s n c k) :
    Calls Try.prog 101 #[.pointer (some ⟨p, 0, none⟩), .int .i64 m] w fun e w' => ∃ z : Bool, e = .returned (.bool z) ∧ w.grownBy w' (some p) ∧ SrcAt w' p s n c (k + 1) := by
  have HN := Lib.hid (pick_any wb p s n c zs k m hz hn hw hk0 hk1 hm hA w E hp hs)
  clear hA hs hz hw
  go_enter Try.func101, Try.ntmps101
  go_wp2_with fail
  refine HN.out.mono ?_
  rintro e w1 ⟨z, rfl, z0, z1, hg, hs⟩
  have HG := Lib.hid hg
  have HS := Lib.hid hs
  clear hg hs HN
  go_wp2
  refine bodyPost_ret (v := .bool (z == 0)) ?_ rfl ⟨_, rfl, HG.out, HS.out⟩
  simp only [results, Try.results101]
  go_simp
theorem l00From_any (s : Option Addr) (n c : Nat) (w : World) :
    Calls Try.prog 99 #[.slice s n c] w fun e w' => ∃ p, e = .returned (.pointer (some ⟨p, 0, none⟩)) ∧ Ext w w' ∧ w.heap.size ≤ p ∧ SrcAt w' p s n c 0 := by
  have HX := Lib.hid ((Ext.refl w).alloc (.cells #[.slice s n c, .int .i64 0, .int .u64 0] 95))
  have HB := Lib.hid (heap_new w (.cells #[.slice s n c, .int .i64 0, .int .u64 0] 95))
  go_enter Try.func99, Try.ntmps99
  go_wp2
  go_ret
  exact ⟨_, rfl, HX.out, Nat.le_refl _, 0, HB.out⟩

-- the laws' own choices
theorem r8At_any (s : Option Addr) (n c : Nat) (zs : List Int) (k m : Int) (hz : zs.length = n) (hn : n ≤ 1048576) (hw : wfB zs) (hk0 : 0 ≤ k) (hm : 2 ≤ m ∧ m ≤ 1000) (w : World) (hA : VArr w s (byts zs)) :
    Calls Try.prog 56 #[.slice s n c, .int .i64 k, .int .i64 m] w fun e w' => ∃ z : Int, e = .returned (.int .i64 z) ∧ 0 ≤ z ∧ z < m ∧ w = w' := by
  obtain ⟨m1, m2⟩ := hm
  by_cases hlt : k < n
  · obtain ⟨i, rfl⟩ := Int.eq_ofNat_of_zero_le hk0
    have hi : i < zs.length := by omega
    obtain ⟨b, o, rfl⟩ := hA.starts (i := i) (by simpa [byts] using hi)
    have hc := hA.at (byts_get hi)
    obtain ⟨z0, z1⟩ := hw i hi
    generalize zs[i]?.getD 0 = z at *
    have hr1 := Int.emod_nonneg z (show m ≠ 0 by omega)
    have hr2 := Int.emod_lt_of_pos z (show 0 < m by omega)
    clear hA hw hz
    go_enter Try.func56, Try.ntmps56
    go_wp2
    refine bodyPost_ret (v := .int .i64 (z % m)) ?_ rfl ⟨_, rfl, hr1, hr2, rfl⟩
    simp only [results, Try.results56]
    go_simp
  · clear hA hw hz
    go_enter Try.func56, Try.ntmps56
    go_wp2
    refine bodyPost_ret (v := .int .i64 0) ?_ rfl ⟨0, rfl, by omega, by omega, rfl⟩
    simp only [results, Try.results56]
    go_simp
theorem r8Long_any (s s' : Option Addr) (n c n' c' : Nat) (w : World) :
    Calls Try.prog 52 #[.slice s n c, .slice s' n' c'] w fun e w' => e = .returned (.bool (decide ((48 : Int) < n) || decide ((48 : Int) < n'))) ∧ w = w' := by
  by_cases h1 : (48 : Int) < n
  · go_enter Try.func52, Try.ntmps52
    go_wp2
    go_ret
    simp [h1]
  · go_enter Try.func52, Try.ntmps52
    go_wp2
    go_ret
    simp [h1]
    intro h
    omega
end Go.Proofs.Ytllpbkmdcaikoaa
