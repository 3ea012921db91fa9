/-
  PutLabel by the reference.
-/
import Derived.Test.YtaakkdcpkllgoaaGrL
namespace Go.Proofs.Ytaakkdcpkllgoaa
open Go.RowKit
set_option linter.unusedVariables false
set_option linter.unusedSimpArgs false
set_option linter.unnecessarySimpa false

def putOk (W H : Int) (zs : List Int) (x y l : Int) : Bool := hasF W H zs x y && inB l 0 63
def putZ (W : Int) (zs : List Int) (x y l : Int) : List Int := zs.set (x + W * y).toNat l
theorem ne_of_row {w : World} {base e n m c g q : Nat} {T : TypeId} {xs : List Value} {ca : Array Value} {fr : Nat × Nat} (hO : w.ownsRow base e 1 (.slice (some ⟨g, 0, none⟩) n c) m xs) (hT : T ≠ e) (D : w.heap[q]? = some (.cells ca T fr)) : q ≠ g := by
  rintro rfl
  rcases hO.2 with ⟨h, _⟩ | ⟨g', cap, cur, h, hb, hg, _⟩
  · simp at h
  · simp only [Value.slice.injEq, Option.some.injEq, Addr.mk.injEq, and_true, true_and] at h
    obtain ⟨rfl, rfl, rfl⟩ := h
    rw [hg] at D
    simp only [Option.some.injEq, Obj.cells.injEq] at D
    exact hT D.2.1.symm
theorem own_int_at {w : World} {base : Nat} {e : TypeId} {g n m c : Nat} {zs : List Int} (h : w.ownsRow base e 1 (.slice (some ⟨g, 0, none⟩) n c) m (ints zs)) {k : Nat} (hk : k < zs.length) : w.cell? ⟨g, k, none⟩ = some (.int .i64 (zs[k]?.getD 0)) ∧ w.frozen? ⟨g, k, none⟩ = false := by
  have := (ownsRow_varr h).ofInts k hk
  simp only [Nat.zero_add, List.getD_eq_getElem?_getD] at this
  exact ⟨this, ownsRow_frozen h k⟩

set_option maxRecDepth 100000 in
theorem specPut_any (W H x y l : Int) (a : Option Addr) (n c : Nat) (zs : List Int) (hz : zs.length = n) (hn : n ≤ 1048576) (w : World) (hA : VArr w a (ints zs)) :
    Calls Try.prog 34 #[.agg #[.int .i64 W, .int .i64 H, .slice a n c], .int .i64 x, .int .i64 y, .int .i64 l] w (keepH w (putOk W H zs x y l) W H (putZ W zs x y l)) := by
  have hX := ((Ext.refl w).alloc (.cells #[.int .i64 W, .int .i64 H, .slice a n c] 24)).alloc (.cells #[.int .i64 0, .int .i64 0, .slice none 0 0] 24)
  have b0 := heap_mid1 w (.cells #[.int .i64 W, .int .i64 H, .slice a n c] 24) (.cells #[.int .i64 0, .int .i64 0, .slice none 0 0] 24)
  have b3 := heap_new1 w (.cells #[.int .i64 W, .int .i64 H, .slice a n c] 24) (.cells #[.int .i64 0, .int .i64 0, .slice none 0 0] 24)
  have hA1 := hA.ext hX
  go_enter Try.func34, Try.ntmps34
  go_wp2_with fail
  refine (l04Cell_any _ W H x y a n c zs hz hn _ (block3 b0).1 hA1).mono ?_
  generalize (w.alloc (.cells #[.int .i64 W, .int .i64 H, .slice a n c] 24)).alloc (.cells #[.int .i64 0, .int .i64 0, .slice none 0 0] 24) = w0 at *
  rintro e w1 ⟨rfl, hX1⟩
  cases hv : hasF W H zs x y with
  | false =>
    have HR : Hid (putOk W H zs x y l = false) := by show _ = _; simp [putOk, hv]
    obtain ⟨⟨d0, d1, d2⟩, f0, f1, f2⟩ := block3 (hX1.block b3)
    have HE := Lib.hid ((hX.trans hX1).fin3 (q := w.heap.size + 1) (by omega) (.int .i64 0) (.int .i64 0) (.slice none 0 0))
    clear hX hX1 b0 b3 hA hA1 hv
    go_wp2
    refine bodyPost_ret (v := .tuple #[.agg #[.int .i64 0, .int .i64 0, .slice none 0 0], .bool false]) ?_ rfl (keepH_no HR.out ⟨none, 0, 0, rfl, HE.out, World.ownsRow_nil _ _ _ _, rfl, by omega⟩)
    simp only [results, Try.results34]
    go_simp
  | true =>
    cases hl : inB l 0 63 with
    | false =>
      have HR : Hid (putOk W H zs x y l = false) := by show _ = _; simp [putOk, hl]
      have HL := Lib.hid hl
      obtain ⟨⟨d0, d1, d2⟩, f0, f1, f2⟩ := block3 (hX1.block b3)
      have HE := Lib.hid ((hX.trans hX1).fin3 (q := w.heap.size + 1) (by omega) (.int .i64 0) (.int .i64 0) (.slice none 0 0))
      clear hX hX1 b0 b3 hA hA1 hv hl
      go_wp2_with (go_at_call 55; refine (l04Label_any _ _).mono ?_; rw [HL.out]; rintro e w' ⟨rfl, rfl⟩)
      refine bodyPost_ret (v := .tuple #[.agg #[.int .i64 0, .int .i64 0, .slice none 0 0], .bool false]) ?_ rfl (keepH_no HR.out ⟨none, 0, 0, rfl, HE.out, World.ownsRow_nil _ _ _ _, rfl, by omega⟩)
      simp only [results, Try.results34]
      go_simp
    | true =>
      have HR : Hid (putOk W H zs x y l = true) := by show _ = _; simp [putOk, hl, hv]
      have HL := Lib.hid hl
      obtain ⟨hvl, hx, hy⟩ := hasF_iff.1 hv
      obtain ⟨x0, x1⟩ := inB_iff.1 hx
      obtain ⟨y0, y1⟩ := inB_iff.1 hy
      obtain ⟨hW, hH, hnn, ⟨hn1, hn2⟩, _⟩ := vld_facts hvl hz
      have hcf := cellF_bd x y (show 1 ≤ W by omega) (show 1 ≤ H by omega)
      rw [cellF_id x0 (by omega) y0 (by omega)] at hcf
      obtain ⟨m, hm⟩ := Int.eq_ofNat_of_zero_le hcf.1
      have hmn : m < n := by omega
      have m1 := Int.mul_nonneg (a := W) (b := y) (by omega) y0
      have HM : Hid ((x + W * y).toNat = m) := by show _ = _; omega
      clear hl hv hvl hx hy
      go_wp2_with fail
      refine (l04Label_any _ _).mono ?_
      rw [HL.out]
      rintro e w' ⟨rfl, rfl⟩
      go_wp2_with fail
      refine (l04Own_any _ W H a n c zs hz hn _ (block3 (hX1.block b0)).1 (hA1.ext hX1)).mono ?_
      rintro e w2 ⟨a', c', rfl, hX2, hO⟩
      have hXa := (Ext.refl w2).alloc (.cells #[.int .i64 W, .int .i64 H, .slice a' n c'] 24)
      have bq := heap_new w2 (.cells #[.int .i64 W, .int .i64 H, .slice a' n c'] 24)
      obtain ⟨g, rfl, hg, _⟩ := own_int hO (k := 0) (by omega)
      have hXX := ((hX.trans hX1).trans hX2).trans hXa
      have hP := hXa.block (hX2.block (hX1.block b0))
      have hRr := hXa.block (hX2.block (hX1.block b3))
      have hOo := ownsRow_ext (ownsRow_mono hO (hX.trans hX1).size) hXa
      have hg' : w.heap.size ≤ g := Nat.le_trans (hX.trans hX1).size hg
      obtain ⟨hd, hf⟩ := own_int_at hOo (k := m) (by omega)
      have W4 := oneCell_setCell hOo (i := m) (.int .i64 l)
      rw [ints_set] at W4
      have Q4 := bq
      rw [← cells_setOther (i := m) (ne_of_row hOo (by decide) bq) (.int .i64 l)] at Q4
      have R4 := hRr
      rw [← cells_setOther (i := m) (ne_of_row hOo (by decide) hRr) (.int .i64 l)] at R4
      have E4 := Below.setCell (p := ⟨g, m, none⟩) hXX hg' (.int .i64 l)
      obtain ⟨⟨c0, c1, c2⟩, _⟩ := block3 bq
      obtain ⟨⟨p0, p1, p2⟩, _⟩ := block3 hP
      clear hX hX1 hX2 hXa b0 b3 bq hA1 hO hg hXX hP hRr hOo
      obtain ⟨⟨d0, d1, d2⟩, f0, f1, f2⟩ := block3 R4
      obtain ⟨⟨q0, q1, q2⟩, _⟩ := block3 Q4
      obtain ⟨HE, HO⟩ := stored3 (T := 24) (u0 := .int .i64 W) (u1 := .int .i64 H) (u2 := .slice (some ⟨g, 0, none⟩) n c') E4 (by decide) (by omega) R4 W4
      have HE' := Lib.hid HE
      have HO' := Lib.hid HO
      clear HE HO W4 Q4 R4 E4
      go_wp2
      refine bodyPost_ret (v := .tuple #[.agg #[.int .i64 W, .int .i64 H, .slice (some ⟨g, 0, none⟩) n c'], .bool true]) ?_ rfl (keepH_yes HR.out ⟨_, n, c', rfl, HE'.out, by unfold putZ; rw [HM.out]; exact HO'.out, by unfold putZ; simp [hz], hn⟩)
      simp only [results, Try.results34]
      go_simp
end Go.Proofs.Ytaakkdcpkllgoaa
