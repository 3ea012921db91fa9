/-
  Copies of singles: slices.Clone, l02Own; a field's box filled anew.
-/
import Derived.Test.YtllpbkmdcaikoaaFlF
import Derived.Lib.SliceRun
namespace Go.Proofs.Ytllpbkmdcaikoaa
open Go.RowKit
set_option linter.unusedVariables false
set_option linter.unusedSimpArgs false
set_option linter.unnecessarySimpa false

/-- 'append(x, s...)', x empty and of the call's own, at a plain region's list. -/
theorem wpList_copyF {P : Program} {ops : Array Oper} {rest : List Oper} {o : Oper} {a : Act} {w : World} {Q : Exit → Act → World → Prop} (hgd : o.guard = none) (x s : Operand) (t e : TypeId)
    (ho : o.op = .call { callee := .builtin .append, args := #[x, s], argTypes := #[t, t] }) (i : TypeInfo) (z : Value) (bytes B b n c : Nat) (sa : Option Addr) (vs : List Value)
    (ht : P.underlying t = some (.slice e)) (hi : P.info? e = some i) (hz : i.zero = some z) (hsize : i.size = 1) (hby : i.bytes = bytes) (hzs : z.cells.size = 1) (hB : B ≤ b) (hb : w.heap[b]? = some (.cells #[] e (0, 0))) (hl : vs.length = n) (hV : VArr w sa vs) (h63 : n ≤ maxLen) (hbytes : n * bytes ≤ 140737488355328)
    (hx : a.eval x = .slice (some ⟨b, 0, none⟩) 0 0) (hs : a.eval s = .slice sa n c)
    (h : ∀ a' c' w', w'.ownsRow B e 1 (.slice a' n c') n vs → Ext w w' → wpList P ops Q rest (a.put o.dst (.slice a' n c')) w') : wpList P ops Q (o :: rest) a w := by
  refine wpList_plain hgd fun K hK => ?_
  obtain ⟨v', w', hr, h3, h4⟩ := run_append_copy (P := P) w t o.type e i z bytes ht hi hz hsize hby hzs B b hB hb sa n c vs hl hV h63 hbytes
  obtain ⟨a', c', rfl⟩ := ownsRow_shape h3
  unfold Oper.wp execOp
  simp only [ho, resolve, invoke, builtin, Sem.run_bind, Sem.run_pure, Result.andThen_ok, List.map_toArray, List.map_cons, List.map_nil, hx, hs, hr]
  exact hK _ _ (h a' c' w' h3 h4)

theorem own_flt {w : World} {base : Nat} {e : TypeId} {a : Option Addr} {n m c : Nat} {zs : List Nat} (h : w.ownsRow base e 1 (.slice a n c) m (flts zs)) {k : Nat} (hk : k < zs.length) : ∃ g, a = some ⟨g, 0, none⟩ ∧ base ≤ g ∧ w.cell? ⟨g, k, none⟩ = some (.float .f32 (zs[k]?.getD 0)) ∧ w.frozen? ⟨g, k, none⟩ = false := by
  rcases ownsRow_cases h with ⟨rfl, rfl, rfl, hx, rfl⟩ | ⟨g, rfl, hb, _⟩
  · have := congrArg List.length hx
    simp at this; subst this; simp at hk
  · have := (ownsRow_varr h).ofFlts k hk
    simp only [Nat.zero_add, List.getD_eq_getElem?_getD] at this
    exact ⟨g, rfl, hb, this, ownsRow_frozen h k⟩
theorem own_flt_at {w : World} {base : Nat} {e : TypeId} {g n m c : Nat} {zs : List Nat} (h : w.ownsRow base e 1 (.slice (some ⟨g, 0, none⟩) n c) m (flts zs)) {k : Nat} (hk : k < zs.length) : w.cell? ⟨g, k, none⟩ = some (.float .f32 (zs[k]?.getD 0)) ∧ w.frozen? ⟨g, k, none⟩ = false := by
  have := (ownsRow_varr h).ofFlts k hk
  simp only [Nat.zero_add, List.getD_eq_getElem?_getD] at this
  exact ⟨this, ownsRow_frozen h k⟩
theorem ne_of_rowF {w : World} {base e n m c g q : Nat} {T : TypeId} {xs : List Value} {ca : Array Value} {fr : Nat × Nat} (hO : w.ownsRow base e 1 (.slice (some ⟨g, 0, none⟩) n c) m xs) (hT : T ≠ e) (D : w.heap[q]? = some (.cells ca T fr)) : q ≠ g := by
  rintro rfl
  rcases hO.2 with ⟨h, _⟩ | ⟨g', cap, cur, h, hb, hg, _⟩
  · simp at h
  · simp only [Value.slice.injEq, Option.some.injEq, Addr.mk.injEq, and_true, true_and] at h
    obtain ⟨rfl, rfl, rfl⟩ := h
    rw [hg] at D
    simp only [Option.some.injEq, Obj.cells.injEq] at D
    exact hT D.2.1.symm
theorem empty_block {w : World} {B e b : Nat} (h : w.ownsRow B e 1 (.slice (some ⟨b, 0, none⟩) 0 0) 0 []) : w.heap[b]? = some (.cells #[] e (0, 0)) := by
  rcases h.2 with ⟨h, _⟩ | ⟨g, cap, cur, hv, hb, hh, hle, hm, hs, ht⟩
  · simp at h
  · simp only [Value.slice.injEq, Option.some.injEq, Addr.mk.injEq, and_true, true_and] at hv
    obtain ⟨rfl, rfl⟩ := hv
    have : cur = #[] := Array.eq_empty_of_size_eq_zero (by simpa using hs)
    rw [hh, this]
/-- A field's box, filled anew by four stores. -/
theorem stored4b {w w1 : World} {e T : TypeId} {B q m : Nat} {v0 v1 v2 v3 u0 u1 u2 u3 : Value} {v : Value} {xs : List Value} (hX : Ext w w1) (hT : T ≠ e) (hq : w.heap.size ≤ q) (D : w1.heap[q]? = some (.cells #[v0, v1, v2, v3] T (0, 0))) (hO : w1.ownsRow B e 1 v m xs) :
    Ext w ((((w1.setCell ⟨q, 0, none⟩ u0).setCell ⟨q, 1, none⟩ u1).setCell ⟨q, 2, none⟩ u2).setCell ⟨q, 3, none⟩ u3) ∧ ((((w1.setCell ⟨q, 0, none⟩ u0).setCell ⟨q, 1, none⟩ u1).setCell ⟨q, 2, none⟩ u2).setCell ⟨q, 3, none⟩ u3).ownsRow B e 1 v m xs ∧
    ((((w1.setCell ⟨q, 0, none⟩ u0).setCell ⟨q, 1, none⟩ u1).setCell ⟨q, 2, none⟩ u2).setCell ⟨q, 3, none⟩ u3).heap[q]? = some (.cells #[u0, u1, u2, u3] T (0, 0)) ∧
    ∀ q', q' ≠ q → ((((w1.setCell ⟨q, 0, none⟩ u0).setCell ⟨q, 1, none⟩ u1).setCell ⟨q, 2, none⟩ u2).setCell ⟨q, 3, none⟩ u3).heap[q']? = w1.heap[q']? := by
  obtain ⟨h1, h2⟩ := stored4 (u0 := u0) (u1 := u1) (u2 := u2) (u3 := u3) hX hT hq D hO
  refine ⟨h1, h2, ?_, fun q' h => ?_⟩
  · have a0 := cells_setCell (i := 0) D u0
    have a1 := cells_setCell (i := 1) a0 u1
    have a2 := cells_setCell (i := 2) a1 u2
    have a3 := cells_setCell (i := 3) a2 u3
    simpa using a3
  · rw [cells_setOther h, cells_setOther h, cells_setOther h, cells_setOther h]

set_option maxRecDepth 100000 in
theorem cloneF_any (b o : Nat) (n c : Nat) (zs : List Nat) (hz : zs.length = n) (hn : n ≤ 1048576) (w : World) (hA : VArr w (some ⟨b, o, none⟩) (flts zs)) :
    Calls Try.prog 91 #[.slice (some ⟨b, o, none⟩) n c] w fun e w' => ∃ a' c', e = .returned (.slice a' n c') ∧ Ext w w' ∧ w'.ownsRow w.heap.size 30 1 (.slice a' n c') n (flts zs) := by
  obtain ⟨i0, hi, hz0, hz1, hz2⟩ := info_parts info32
  have hX := (Ext.refl w).alloc (.cells #[] 30)
  have b0 := heap_new w (.cells #[] 30)
  have hA1 := hA.ext hX
  have e0 := Lib.run_eql_slice_nil (P := Try.prog) w 22 30 (some ⟨b, o, none⟩) n c 0 0 Try.underlying22
  go_enter Try.func91, Try.ntmps91
  go_wp2_with (at_builtin; refine wpList_copyF rfl _ _ 22 30 rfl i0 (.float .f32 0) 4 w.heap.size w.heap.size n c (some ⟨b, o, none⟩) (flts zs) Try.underlying22 hi hz0 hz1 hz2 rfl (Nat.le_refl _) b0 (by simp [hz]) hA1 (by unfold maxLen; omega) (by omega) rfl rfl ?_)
  intro a' c' w1 hO hX1
  go_wp2
  go_ret
  exact ⟨a', c', rfl, hX.trans hX1, hO⟩

set_option maxRecDepth 100000 in
set_option maxHeartbeats 2000000 in
theorem l02Own_any (p : Nat) (W H : Int) (R : Bool) (a : Option Addr) (n c : Nat) (zs : List Nat) (hz : zs.length = n) (hn : n ≤ 1048576) (w : World) (hp : FldAt w p W H R a n c) (hA : VArr w a (flts zs)) :
    Calls Try.prog 89 #[.pointer (some ⟨p, 0, none⟩)] w fun e w' => ∃ a' c', e = .returned (.agg #[.int .i64 W, .int .i64 H, .bool R, .slice a' n c']) ∧ Ext w w' ∧ w'.ownsRow w.heap.size 30 1 (.slice a' n c') n (flts zs) := by
  obtain ⟨i0, hi, hz0, hz1, hz2⟩ := info_parts info32
  have hX := (Ext.refl w).alloc (.cells #[.int .i64 0, .int .i64 0, .bool false, .slice none 0 0] 27)
  have b0 := heap_new w (.cells #[.int .i64 0, .int .i64 0, .bool false, .slice none 0 0] 27)
  have hsz : w.heap.size < (w.alloc (.cells #[.int .i64 0, .int .i64 0, .bool false, .slice none 0 0] 27)).heap.size := by simp
  have HP := Lib.hid (hp.ext hX)
  have HA := Lib.hid (hA.ext hX)
  have HZ := Lib.hid hz
  clear hp hA hz
  go_enter Try.func89, Try.ntmps89
  go_wp2_with fail
  generalize w.alloc (.cells #[.int .i64 0, .int .i64 0, .bool false, .slice none 0 0] 27) = w0 at *
  refine region_grow_tail 14 (C := Ext w0) (K := fun _ _ v wv => ∃ bb, v = .agg #[.int .i64 W, .int .i64 H, .bool R, .slice (some ⟨bb, 0, none⟩) 0 0] ∧ w0.heap.size ≤ bb ∧ wv.heap[bb]? = some (.cells #[] 30 (0, 0))) ⟨fun _ _ h k => h.trans k, fun _ _ _ _ _ ⟨bb, h1, h3, h2⟩ k => ⟨bb, h1, h3, k.block h2⟩⟩ (by kernel_rfl) (by kernel_rfl) ((Ext.refl w0).drew) ?_
  simp only [List.take_succ_cons, List.take_zero, List.drop_succ_cons, List.drop_zero]
  iterate 12 (refine grow_q rfl ?_; apply Exists.intro; refine ⟨fun u hu _ => ?_, ?_⟩; focus (obtain ⟨c0, c1, c2, c3⟩ := HP.out.ext hu; go_simp; rfl))
  refine grow_cg 71 (fun v => ∃ bb, v = .agg #[.int .i64 W, .int .i64 H, .bool R, .slice (some ⟨bb, 0, none⟩) 0 0] ∧ w0.heap.size ≤ bb) (fun v wv => ∀ bb, v = .agg #[.int .i64 W, .int .i64 H, .bool R, .slice (some ⟨bb, 0, none⟩) 0 0] → wv.heap[bb]? = some (.cells #[] 30 (0, 0))) rfl ?_
  refine ⟨#[.int .i64 W, .int .i64 H, .bool R], fun u => ?_, fun u hu _ => ?_, fun v u h => ?_, fun v hv => ?_⟩
  · go_simp
  · refine (l02New_any W H R u).mono fun e u' h => ?_
    obtain ⟨bb, he, hx, hb, ho⟩ := h
    exact ⟨_, he, hx, bb, rfl, Nat.le_trans hu.size hb, empty_block ho⟩
  · obtain ⟨bb, rfl, hb, ho⟩ := h
    refine ⟨⟨bb, rfl, hb⟩, fun b2 he => ?_⟩
    simp at he
    subst he
    exact ho
  obtain ⟨bb, rfl, hbb⟩ := hv
  refine grow_newB (mk := fun b => .pointer (some ⟨b, 0, none⟩)) (ob := .cells #[.int .i64 0, .int .i64 0, .bool false, .slice none 0 0] 27) w0.heap.size rfl (fun b b' h => by simpa using h) (fun u hu => hu.size) (fun u _ _ => ?_) (fun q hq => ?_)
  · go_simp
  refine grow_nil (fun w1 hX1 hh => ?_)
  obtain ⟨⟨_, hrow⟩, hbox⟩ := hh
  have hO := hrow bb rfl
  clear hrow
  have hne : bb ≠ q := by
    rintro rfl
    rw [hO] at hbox
    simp at hbox
  refine store_box rfl 27 _ _ rfl q #[.int .i64 W, .int .i64 H, .bool R, .slice (some ⟨bb, 0, none⟩) 0 0] ?_ ?_ 27 _ hbox (by kernel_rfl) rfl (by simp [Value.oneCell']) ?_
  · go_simp
  · go_simp
  intro w3 hS D
  have hX3 := hX1.row hS hq
  have hO3 : w3.heap[bb]? = some (.cells #[] 30 (0, 0)) := by rw [hS.block bb (lt_of_block hO) (by simpa using hne)]; exact hO
  have HXX := Lib.hid (hX.trans hX3)
  have hR3 := hX3.block b0
  have HA3 := Lib.hid (HA.out.ext hX3)
  have HP3 := Lib.hid (HP.out.ext hX3)
  have hq2 : w.heap.size < q := by omega
  clear hX1 hO hbox hS b0 hX hX3 HA HP
  go_wp2_with fail
  refine region_grow_tail 8 (C := Ext w3) (K := fun _ _ _ _ => True) ⟨fun _ _ h k => h.trans k, fun _ _ _ _ _ h _ => h⟩ (by kernel_rfl) (by kernel_rfl) ((Ext.refl w3).drew) ?_
  simp only [List.take_succ_cons, List.take_zero, List.drop_succ_cons, List.drop_zero]
  iterate 6 (refine grow_q rfl ?_; apply Exists.intro; refine ⟨fun u hu _ => ?_, ?_⟩; focus (obtain ⟨c0, c1, c2, c3⟩ := HP3.out.ext hu; obtain ⟨⟨d0, d1, d2, d3⟩, _⟩ := block4 (hu.block D); go_simp; rfl))
  refine grow_copy _ _ 22 30 i0 (.float .f32 0) 4 w.heap.size bb n c a (flts zs) rfl rfl Try.underlying22 hi hz0 hz1 hz2 rfl (by omega) (by simp [HZ.out]) (by unfold maxLen; omega) (by omega) ?_ ?_ (fun u hu _ => ⟨hu.block hO3, HA3.out.ext hu⟩) (fun a' c' => ?_)
  · go_simp
  · go_simp
  refine grow_q rfl ?_; apply Exists.intro; refine ⟨fun u hu _ => ?_, ?_⟩; focus (go_simp; rfl)
  refine grow_nil (fun w4 hX4 hh => ?_)
  obtain ⟨_, hrow⟩ := hh
  have D4 := hX4.block D
  obtain ⟨E5, B5, O5⟩ := stored (i := 3) (u := .slice a' n c') (HXX.out.trans hX4) (by decide) (by omega) D4 hrow
  have R5 := hX4.block hR3
  rw [← cells_setOther (q := q) (i := 3) (by omega) (.slice a' n c')] at R5
  obtain ⟨⟨c0, c1, c2, c3⟩, _, _, _, g3⟩ := block4 D4
  obtain ⟨⟨e0, e1, e2, e3⟩, _⟩ := block4 (by simpa using B5)
  obtain ⟨⟨d0, d1, d2, d3⟩, f0, f1, f2, f3⟩ := block4 R5
  obtain ⟨HE, HO⟩ := stored4 (T := 27) (u0 := .int .i64 W) (u1 := .int .i64 H) (u2 := .bool R) (u3 := .slice a' n c') E5 (by decide) (Nat.le_refl _) R5 O5
  have HE' := Lib.hid HE
  have HO' := Lib.hid HO
  clear HE HO E5 B5 O5 R5 D4 hX4 D hO3 hR3 hrow
  go_simp
  go_wp2
  refine bodyPost_ret (v := .agg #[.int .i64 W, .int .i64 H, .bool R, .slice a' n c']) ?_ rfl ⟨_, _, rfl, HE'.out, HO'.out⟩
  simp only [results, Try.results89]
  go_simp
end Go.Proofs.Ytllpbkmdcaikoaa
