/-
  Plain words: a copy by append onto an empty slice of one's own, as a step of a region that draws its order; and lists that are filled one after another.
-/
import Derived.Test.YtajfpjggdbifjaaLib4
import Derived.ArgAppend
namespace Go.Proofs.Ytajfpjggdbifjaa
open Go.RowKit
set_option linter.unusedVariables false
set_option linter.unusedSimpArgs false
set_option linter.unnecessarySimpa false

theorem run_append_copy {P : Program} (w : World) (t ty e : TypeId) (i : TypeInfo) (z : Value) (bytes : Nat) (ht : P.underlying t = some (.slice e)) (hi : P.info? e = some i) (hz : i.zero = some z) (hsize : i.size = 1) (hby : i.bytes = bytes) (hzs : z.cells.size = 1)
    (B b : Nat) (hB : B ≤ b) (hb : w.heap[b]? = some (.cells #[] e (0, 0))) (s : Option Addr) (n c : Nat) (vs : List Value) (hl : vs.length = n) (hV : VArr w s vs) (h63 : n ≤ maxLen) (hbytes : n * bytes ≤ 140737488355328) :
    ∃ v' w', (Builtin.append_ #[t, t] ty #[.slice (some ⟨b, 0, none⟩) 0 0, .slice s n c]).run P w = .ok v' w' ∧ w'.ownsRow B e 1 v' n vs ∧ Ext w w' := by
  by_cases hn : n = 0
  · subst hn
    have : vs = [] := List.eq_nil_of_length_eq_zero hl
    subst this
    refine ⟨.slice (some ⟨b, 0, none⟩) 0 0, w, ?_, ⟨rfl, .inr ⟨b, 0, #[], rfl, hB, hb, Nat.le_refl _, by simp [maxLen], rfl, rfl⟩⟩, Ext.refl _⟩
    cases s <;> simp [Builtin.append_, run_underlying ht, sizeOf, typeInfo, hi, Builtin.lenOf, Builtin.firstCells, loadCells, loadCellsFrom, storeCells]
  · obtain ⟨b', o, rfl⟩ := hV.starts (i := 0) (by omega)
    obtain ⟨v', w', h1, h2, h3⟩ := run_append_arg_grows (P := P) w t ty e i z 1 bytes ht hi hz hsize hby hzs (by omega) ⟨b, 0, none⟩ 0 0 [] rfl (by simp) ⟨b', o, none⟩ n c vs (by omega) (fun j u hj => by have h := hV.at hj; cases j <;> simpa [Addr.add] using h) (by omega) (by simpa using h63) (by simpa using hbytes)
    have hb' : b < w.heap.size := (Array.getElem?_eq_some_iff.1 hb).1
    exact ⟨v', w', h1, ownsRow_mono (by simpa using h2) (by omega), Ext.of_grown h3⟩

section
variable {P : Program} {ops : Array Oper} {C : World → Prop} {K : FuncId → Array Value → Value → World → Prop} {QW : Act → World → Prop} {a : Act} {G : Facts} {H : World → Prop} {o : Oper} {rest : List Oper}
/-- 'append(x, s...)', x empty and of the call's own. -/
theorem grow_copy (x s : Operand) (t e : TypeId) (i : TypeInfo) (z : Value) (bytes B b n c : Nat) (sa : Option Addr) (vs : List Value) (hw : Region.wanted o (yielded ops a.tmps) = true)
    (ho : o.op = .call { callee := .builtin .append, args := #[x, s], argTypes := #[t, t] })
    (ht : P.underlying t = some (.slice e)) (hi : P.info? e = some i) (hz : i.zero = some z) (hsize : i.size = 1) (hby : i.bytes = bytes) (hzs : z.cells.size = 1) (hB : B ≤ b) (hl : vs.length = n) (h63 : n ≤ maxLen) (hbytes : n * bytes ≤ 140737488355328)
    (hx : a.eval x = .slice (some ⟨b, 0, none⟩) 0 0) (hs : a.eval s = .slice sa n c)
    (hf : ∀ w, C w → known ops G o w → w.heap[b]? = some (.cells #[] e (0, 0)) ∧ VArr w sa vs)
    (h2 : ∀ a' c', wpGrow P ops C K (fin C QW) rest (a.put o.dst (.slice a' n c')) (upd G o.dst (fun w => w.ownsRow B e 1 (.slice a' n c') n vs)) (fun w => H w ∧ w.ownsRow B e 1 (.slice a' n c') n vs)) : wpGrow P ops C K (fin C QW) (o :: rest) a G H := by
  refine grow_gen (fun v => ∃ a' c', v = .slice a' n c') (fun v w => w.ownsRow B e 1 v n vs) hw (fun w hc hk => ?_) (fun v ⟨a', c', hv⟩ => ?_)
  · obtain ⟨f1, f2⟩ := hf w hc hk
    obtain ⟨v', w', hr, h3, h4⟩ := run_append_copy (P := P) w t o.type e i z bytes ht hi hz hsize hby hzs B b hB f1 sa n c vs hl f2 h63 hbytes
    have he : (execOp a.eval o).run P w = .ok (.value v') w' := by
      unfold execOp
      simp only [ho, resolve, invoke, builtin, Sem.run_bind, Sem.run_pure, Result.andThen_ok, List.map_toArray, List.map_cons, List.map_nil, hx, hs, hr]
    rw [he]
    refine ⟨h4, fun v u hg => ?_⟩
    obtain ⟨rfl, hg⟩ := hg
    exact ⟨ownsRow_shape h3, ownsRow_ext h3 hg⟩
  · subst hv
    exact h2 a' c'
end

theorem wrapS {n : Int} (h : -9223372036854775808 ≤ n) (h' : n ≤ 9223372036854775807) : IntKind.i64.wrap n = n := by rw [IntKind.wrap_i64]; omega

/-- Four new blocks. -/
theorem four_new (w : World) (o0 o1 o2 o3 : Obj) : (((((w.alloc o0).alloc o1).alloc o2).alloc o3).heap[w.heap.size]? = some o0) ∧ (((((w.alloc o0).alloc o1).alloc o2).alloc o3).heap[w.heap.size + 1]? = some o1) ∧ (((((w.alloc o0).alloc o1).alloc o2).alloc o3).heap[w.heap.size + 2]? = some o2) ∧ (((((w.alloc o0).alloc o1).alloc o2).alloc o3).heap[w.heap.size + 3]? = some o3) := by
  refine ⟨?_, ?_, ?_, ?_⟩
  · rw [heap_old _ _ (by simp; omega)]; exact heap_mid3 w o0 o1 o2
  · rw [heap_old _ _ (by simp)]; exact heap_mid2 w o0 o1 o2
  · rw [heap_old _ _ (by simp)]; exact heap_new2 w o0 o1 o2
  · have := heap_new (((w.alloc o0).alloc o1).alloc o2) o3; simpa using this

/-- A list that is filled from the front. -/
theorem fill_set {α : Type} [Inhabited α] (f : Nat → α) (zs : List α) {k : Nat} (hk : k < zs.length) : (((List.range k).map f) ++ zs.drop k).set k (f k) = ((List.range (k + 1)).map f) ++ zs.drop (k + 1) := by
  rw [List.set_append_right _ _ (by simp)]
  simp only [List.length_map, List.length_range, Nat.sub_self]
  rw [List.drop_eq_getElem_cons (by omega), List.set_cons_zero, List.range_succ]
  simp
theorem fill_get {α : Type} (f : Nat → α) (zs : List α) {k j : Nat} (hk : k ≤ j) (hj : j < zs.length) : (((List.range k).map f) ++ zs.drop k)[j]? = zs[j]? := by
  rw [List.getElem?_append_right (by simp; omega)]
  simp
  congr 1; omega
theorem fill_len {α : Type} (f : Nat → α) (zs : List α) {k : Nat} (hk : k ≤ zs.length) : (((List.range k).map f) ++ zs.drop k).length = zs.length := by
  simp; omega

/-- The cells of one's own row, one after another: integers. -/
theorem own_int {w : World} {base : Nat} {e : TypeId} {a : Option Addr} {n m c : Nat} {zs : List Int} (h : w.ownsRow base e 1 (.slice a n c) m (ints zs)) {k : Nat} (hk : k < zs.length) : ∃ g, a = some ⟨g, 0, none⟩ ∧ base ≤ g ∧ w.cell? ⟨g, k, none⟩ = some (.int .i64 (zs[k]?.getD 0)) ∧ w.frozen? ⟨g, k, none⟩ = false := by
  rcases ownsRow_cases h with ⟨rfl, rfl, rfl, hx, rfl⟩ | ⟨g, rfl, hb, _⟩
  · have := congrArg List.length hx
    simp at this; subst this; simp at hk
  · have := (ownsRow_varr h).ofInts k hk
    simp only [Nat.zero_add, List.getD_eq_getElem?_getD] at this
    exact ⟨g, rfl, hb, this, ownsRow_frozen h k⟩
end Go.Proofs.Ytajfpjggdbifjaa
