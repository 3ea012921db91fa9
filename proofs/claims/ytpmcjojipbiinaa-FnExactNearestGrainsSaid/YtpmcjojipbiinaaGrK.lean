/-
  Copies of a row of integers: l00Own, slices.Clone.
-/
import Derived.Test.YtpmcjojipbiinaaGrE
import Derived.Test.YtpmcjojipbiinaaLib5
namespace Go.Proofs.Ytpmcjojipbiinaa
open Go.RowKit
set_option linter.unusedVariables false
set_option linter.unusedSimpArgs false
set_option linter.unnecessarySimpa false

/-- 'append(x, s...)', x empty and of the call's own, at a plain region's list. -/
theorem wpList_copy {P : Program} {ops : Array Oper} {rest : List Oper} {o : Oper} {a : Act} {w : World} {Q : Exit → Act → World → Prop} (hgd : o.guard = none) (x s : Operand) (t e : TypeId)
    (ho : o.op = .call { callee := .builtin .append, args := #[x, s], argTypes := #[t, t] }) (i : TypeInfo) (z : Value) (bytes B b n c : Nat) (sa : Option Addr) (vs : List Value)
    (ht : P.underlying t = some (.slice e)) (hi : P.info? e = some i) (hz : i.zero = some z) (hsize : i.size = 1) (hby : i.bytes = bytes) (hzs : z.cells.size = 1) (hB : B ≤ b) (hb : w.heap[b]? = some (.cells #[] e (0, 0))) (hl : vs.length = n) (hV : VArr w sa vs) (h63 : n ≤ maxLen) (hbytes : n * bytes ≤ 140737488355328)
    (hx : a.eval x = .slice (some ⟨b, 0, none⟩) 0 0) (hs : a.eval s = .slice sa n c)
    (h : ∀ a' c' w', w'.ownsRow B e 1 (.slice a' n c') n vs → Ext w w' → wpList P ops Q rest (a.put o.dst (.slice a' n c')) w') : wpList P ops Q (o :: rest) a w := by
  refine wpList_plain hgd fun K hK => ?_
  obtain ⟨v', w', hr, h3, h4⟩ := run_append_copy (P := P) w t o.type e i z bytes ht hi hz hsize hby hzs B b hB hb sa n c vs hl hV h63 hbytes
  obtain ⟨a', c', rfl⟩ := ownsRow_shape h3
  unfold Oper.wp execOp
  simp only [ho, resolve, invoke, builtin, Sem.run_bind, Sem.run_pure, Result.andThen_ok, List.map_toArray, List.map_cons, List.map_nil, hx, hs, hr]
  exact hK _ _ (h a' c' w' h3 h4)

theorem l00Own_any (a : Option Addr) (n c : Nat) (zs : List Int) (hz : zs.length = n) (hn : n ≤ 1048576) (w : World) (hA : VArr w a (ints zs)) :
    Calls Try.prog 72 #[.slice a n c] w fun e w' => ∃ a' c', e = .returned (.slice a' n c') ∧ Ext w w' ∧ w'.ownsRow w.heap.size 2 1 (.slice a' n c') n (ints zs) := by
  obtain ⟨i0, hi, hz0, hz1, hz2⟩ := info_parts info64
  have hX := (Ext.refl w).alloc (.cells #[] 2)
  have b0 := heap_new w (.cells #[] 2)
  have hA1 := hA.ext hX
  go_enter Try.func72, Try.ntmps72
  go_wp2_with (at_builtin; refine wpList_copy rfl _ _ 23 2 rfl i0 (.int .i64 0) 8 w.heap.size w.heap.size n c a (ints zs) Try.underlying23 hi hz0 hz1 hz2 rfl (Nat.le_refl _) b0 (by simp [hz]) hA1 (by unfold maxLen; omega) (by omega) rfl rfl ?_)
  intro a' c' w1 hO hX1
  go_wp2
  go_ret
  exact ⟨a', c', rfl, hX.trans hX1, hO⟩
set_option maxRecDepth 100000 in
/-- A copy of one's own. -/
theorem l04Own_any (p : Nat) (W H : Int) (a : Option Addr) (n c : Nat) (zs : List Int) (hz : zs.length = n) (hn : n ≤ 1048576) (w : World) (hp : GrsAt w p W H a n c) (hA : VArr w a (ints zs)) :
    Calls Try.prog 42 #[.pointer (some ⟨p, 0, none⟩)] w fun e w' => ∃ a' c', e = .returned (.agg #[.int .i64 W, .int .i64 H, .slice a' n c']) ∧ Ext w w' ∧ w'.ownsRow w.heap.size 2 1 (.slice a' n c') n (ints zs) := by
  have hX := (Ext.refl w).alloc (.cells #[.int .i64 0, .int .i64 0, .slice none 0 0] 25)
  have b0 := heap_new w (.cells #[.int .i64 0, .int .i64 0, .slice none 0 0] 25)
  have hp1 := hp.ext hX
  have hA1 := hA.ext hX
  clear hp hA
  go_enter Try.func42, Try.ntmps42
  go_wp2_with fail
  generalize w.alloc (.cells #[.int .i64 0, .int .i64 0, .slice none 0 0] 25) = w0 at *
  refine region_grow_tail 14 (C := Ext w0) (K := fun _ _ v wv => ∃ a' c', v = .slice a' n c' ∧ wv.ownsRow w0.heap.size 2 1 (.slice a' n c') n (ints zs)) ⟨fun _ _ h k => h.trans k, fun _ _ _ _ _ ⟨a', c', h1, h2⟩ k => ⟨a', c', h1, ownsRow_ext h2 k⟩⟩ (by kernel_rfl) (by kernel_rfl) ((Ext.refl w0).drew) ?_
  simp only [List.take_succ_cons, List.take_zero, List.drop_succ_cons, List.drop_zero]
  iterate 12 (refine grow_q rfl ?_; apply Exists.intro; refine ⟨fun u hu _ => ?_, ?_⟩; focus (obtain ⟨c0, c1, c2⟩ := hp1.ext hu; go_simp; rfl))
  refine grow_cg 72 (fun v => ∃ a' c', v = .slice a' n c') (fun v wv => ∀ a' c', v = .slice a' n c' → wv.ownsRow w0.heap.size 2 1 (.slice a' n c') n (ints zs)) rfl ?_
  refine ⟨#[.slice a n c], fun u => ?_, fun u hu _ => ?_, fun v u h => ?_, fun v hv => ?_⟩
  · go_simp
  · refine (l00Own_any a n c zs hz hn u (hA1.ext hu)).mono fun e u' h => ?_
    obtain ⟨a', c', he, hx, ho⟩ := h
    exact ⟨_, he, hx, a', c', rfl, ownsRow_mono ho hu.size⟩
  · obtain ⟨a', c', rfl, ho⟩ := h
    refine ⟨⟨a', c', rfl⟩, fun a2 c2 he => ?_⟩
    simp at he
    obtain ⟨rfl, rfl⟩ := he
    exact ho
  obtain ⟨a', c', rfl⟩ := hv
  refine grow_q rfl ?_; apply Exists.intro; refine ⟨fun u hu _ => ?_, ?_⟩
  · go_simp; rfl
  refine grow_nil (fun w3 hu hh => ?_)
  obtain ⟨_, hO'⟩ := hh
  have hO := ownsRow_mono (hO' a' c' rfl) hX.size
  obtain ⟨⟨d0, d1, d2⟩, f0, f1, f2⟩ := block3 (hu.block b0)
  obtain ⟨HE, HO⟩ := stored3 (T := 25) (u0 := .int .i64 W) (u1 := .int .i64 H) (u2 := .slice a' n c') (hX.trans hu) (by decide) (Nat.le_refl _) (hu.block b0) hO
  have HE' := Lib.hid HE
  have HO2 := Lib.hid HO
  clear HE HO hX hu b0 hp1 hA1 hO hO'
  go_simp
  go_wp2
  refine bodyPost_ret (v := .agg #[.int .i64 W, .int .i64 H, .slice a' n c']) ?_ rfl ⟨_, _, rfl, HE'.out, HO2.out⟩
  simp only [results, Try.results42]
  go_simp
end Go.Proofs.Ytpmcjojipbiinaa
