/-
  RollGrains, by the program and by the reference.
-/
import Derived.Test.YtaakkdcpkllgoaaGrH
namespace Go.Proofs.Ytaakkdcpkllgoaa
open Go.RowKit
set_option linter.unusedVariables false
set_option linter.unusedSimpArgs false
set_option linter.unnecessarySimpa false

def rollG (W H : Int) (zs : List Int) (x y : Int) (u v : Int) : Int := zs[(cellF W H (u - x) (v - y)).toNat]?.getD 0
def rollZ (W H : Int) (zs : List Int) (x y : Int) : List Int := gridV W.toNat (rollG W H zs x y) (H.toNat * W.toNat)
def rollOk (W H : Int) (zs : List Int) (x y : Int) : Bool := vldG W H zs && (inB x (-16) 16 && inB y (-16) 16)

theorem roll1_any (W H x y u v : Int) (a : Option Addr) (n c : Nat) (zs : List Int) (hz : zs.length = n) (hv : vldG W H zs = true) (hx : inB x (-16) 16 = true) (hy : inB y (-16) 16 = true) (p q r : Nat) (w : World) (hA : VArr w a (ints zs))
    (hp : w.heap[p]? = some (.cells #[.int .i64 W, .int .i64 H, .slice a n c] 24 (0, 0))) (hq : w.heap[q]? = some (.cells #[.int .i64 x] 2 (0, 0))) (hr : w.heap[r]? = some (.cells #[.int .i64 y] 2 (0, 0))) (u0 : 0 ≤ u) (u1 : u < W) (v0 : 0 ≤ v) (v1 : v < H) :
    Calls Try.prog 84 #[.int .i64 u, .int .i64 v, .pointer (some ⟨p, 0, none⟩), .pointer (some ⟨q, 0, none⟩), .pointer (some ⟨r, 0, none⟩)] w fun e w' => e = .returned (.int .i64 (rollG W H zs x y u v)) ∧ Ext w w' := by
  obtain ⟨hW, hH, hn, ⟨hn1, hn2⟩, hb⟩ := vld_facts hv hz
  obtain ⟨x0, x1⟩ := inB_iff.1 hx
  obtain ⟨y0, y1⟩ := inB_iff.1 hy
  obtain ⟨⟨c0, c1, c2⟩, _⟩ := block3 hp
  obtain ⟨d0, _⟩ := block1 hq
  obtain ⟨e0, _⟩ := block1 hr
  obtain ⟨b, o, rfl⟩ := hA.starts (i := 0) (by simp; omega)
  have HV := Lib.hid hv
  have HA := Lib.hid hA
  clear hb hv hA hp hq hr hx hy
  go_enter Try.func84, Try.ntmps84
  go_wp2_with fail
  refine (about_any W H (u - x) (v - y) b o n c zs hz HV.out _ HA.out).mono ?_
  rintro e w1 ⟨rfl, hX1⟩
  go_wp2
  go_ret
  exact ⟨rfl, hX1⟩

theorem grown_roll (W H x y : Int) (a : Option Addr) (n c : Nat) (zs : List Int) (hz : zs.length = n) (hv : vldG W H zs = true) (hx : inB x (-16) 16 = true) (hy : inB y (-16) 16 = true) (p q r : Nat) (w : World) (hA : VArr w a (ints zs))
    (hp : w.heap[p]? = some (.cells #[.int .i64 W, .int .i64 H, .slice a n c] 24 (0, 0))) (hq : w.heap[q]? = some (.cells #[.int .i64 x] 2 (0, 0))) (hr : w.heap[r]? = some (.cells #[.int .i64 y] 2 (0, 0))) :
    Calls Try.prog 59 #[.int .i64 W, .int .i64 H, .func (.func 84) #[] #[.pointer (some ⟨p, 0, none⟩), .pointer (some ⟨q, 0, none⟩), .pointer (some ⟨r, 0, none⟩)]] w (newG w W H (rollZ W H zs x y)) :=
  grown_any W H 84 #[.pointer (some ⟨p, 0, none⟩), .pointer (some ⟨q, 0, none⟩), .pointer (some ⟨r, 0, none⟩)] (rollG W H zs x y) (vldG_iff.1 hv).1 w (fun args u => by go_simp)
    (fun u v w' h u0 u1 v0 v1 => roll1_any W H x y u v a n c zs hz hv hx hy p q r w' (hA.ext h) (h.block hp) (h.block hq) (h.block hr) u0 u1 v0 v1)

set_option maxRecDepth 100000 in
theorem implRoll_any (W H x y : Int) (a : Option Addr) (n c : Nat) (zs : List Int) (hz : zs.length = n) (hn : n ≤ 1048576) (w : World) (hA : VArr w a (ints zs)) :
    Calls Try.prog 43 #[.agg #[.int .i64 W, .int .i64 H, .slice a n c], .int .i64 x, .int .i64 y] w (keepH w (rollOk W H zs x y) W H (rollZ W H zs x y)) := by
  have hX := ((((Ext.refl w).alloc (.cells #[.int .i64 W, .int .i64 H, .slice a n c] 24)).alloc (.cells #[.int .i64 x] 2)).alloc (.cells #[.int .i64 y] 2)).alloc (.cells #[.int .i64 0, .int .i64 0, .slice none 0 0] 24)
  have B := four_new w (.cells #[.int .i64 W, .int .i64 H, .slice a n c] 24) (.cells #[.int .i64 x] 2) (.cells #[.int .i64 y] 2) (.cells #[.int .i64 0, .int .i64 0, .slice none 0 0] 24)
  have hA1 := hA.ext hX
  go_enter Try.func43, Try.ntmps43
  go_wp2_with fail
  refine (implValid_any W H a n c zs hz (by omega) _ hA1).mono ?_
  generalize (((w.alloc (.cells #[.int .i64 W, .int .i64 H, .slice a n c] 24)).alloc (.cells #[.int .i64 x] 2)).alloc (.cells #[.int .i64 y] 2)).alloc (.cells #[.int .i64 0, .int .i64 0, .slice none 0 0] 24) = w0 at *
  obtain ⟨b0, b1, b2, b3⟩ := B
  rintro e w1 ⟨rfl, hX1⟩
  cases hv : vldG W H zs with
  | false =>
    have HR : Hid (rollOk W H zs x y = false) := by show _ = _; simp [rollOk, hv]
    obtain ⟨⟨d0, d1, d2⟩, f0, f1, f2⟩ := block3 (hX1.block b3)
    have HE := Lib.hid ((hX.trans hX1).fin3 (q := w.heap.size + 3) (by omega) (.int .i64 0) (.int .i64 0) (.slice none 0 0))
    clear hX hX1 b0 b1 b2 b3 hA hA1 hv
    go_wp2
    refine bodyPost_ret (v := .tuple #[.agg #[.int .i64 0, .int .i64 0, .slice none 0 0], .bool false]) ?_ rfl (keepH_no HR.out ⟨none, 0, 0, rfl, HE.out, World.ownsRow_nil _ _ _ _, rfl, by omega⟩)
    simp only [results, Try.results43]
    go_simp
  | true =>
    obtain ⟨⟨c0, c1, c2⟩, _⟩ := block3 (hX1.block b0)
    obtain ⟨x0, _⟩ := block1 (hX1.block b1)
    obtain ⟨y0, _⟩ := block1 (hX1.block b2)
    have e2 : allIn (-16) 16 [x, y] = (inB x (-16) 16 && inB y (-16) 16) := allIn_two
    have hY := (Ext.refl w1).alloc (.cells #[.int .i64 x, .int .i64 y] 2)
    have b4 := heap_new w1 (.cells #[.int .i64 x, .int .i64 y] 2)
    go_wp2_with fail
    refine (areWithin_any _ 2 2 [x, y] rfl (by omega) (-16) 16 _ (VArr.two b4)).mono ?_
    rw [e2]
    generalize w1.alloc (.cells #[.int .i64 x, .int .i64 y] 2) = w1' at *
    rintro e w2 ⟨rfl, hX2⟩
    have hX3 := (hX1.trans hY).trans hX2
    clear hY b4 hX2 hX1 c0 c1 c2 x0 y0
    obtain ⟨⟨d0, d1, d2⟩, f0, f1, f2⟩ := block3 (hX3.block b3)
    cases hxy : (inB x (-16) 16 && inB y (-16) 16) with
    | false =>
      have HR : Hid (rollOk W H zs x y = false) := by show _ = _; simp [rollOk, hxy]
      have HE := Lib.hid ((hX.trans hX3).fin3 (q := w.heap.size + 3) (by omega) (.int .i64 0) (.int .i64 0) (.slice none 0 0))
      clear hX hX3 b0 b1 b2 b3 hA hA1 hv hxy e2
      go_wp2
      refine bodyPost_ret (v := .tuple #[.agg #[.int .i64 0, .int .i64 0, .slice none 0 0], .bool false]) ?_ rfl (keepH_no HR.out ⟨none, 0, 0, rfl, HE.out, World.ownsRow_nil _ _ _ _, rfl, by omega⟩)
      simp only [results, Try.results43]
      go_simp
    | true =>
      have HR : Hid (rollOk W H zs x y = true) := by show _ = _; simp [rollOk, hxy, hv]
      obtain ⟨hx, hy⟩ := (Bool.and_eq_true_iff).1 hxy
      obtain ⟨⟨c0, c1, c2⟩, _⟩ := block3 (hX3.block b0)
      have HV := Lib.hid hv
      have HXY := Lib.hid (And.intro hx hy)
      clear hv hx hy hxy e2
      go_wp2_with fail
      refine (grown_roll W H x y a n c zs hz HV.out HXY.out.1 HXY.out.2 _ _ _ _ (hA1.ext hX3) (hX3.block b0) (hX3.block b1) (hX3.block b2)).mono ?_
      rintro e w4 ⟨a', n', c', rfl, hX4, hO, hl, hle⟩
      clear d0 d1 d2 f0 f1 f2
      obtain ⟨⟨d0, d1, d2⟩, f0, f1, f2⟩ := block3 (hX4.block (hX3.block b3))
      obtain ⟨HE, HO⟩ := stored3 (T := 24) (u0 := .int .i64 W) (u1 := .int .i64 H) (u2 := .slice a' n' c') ((hX.trans hX3).trans hX4) (by decide) (by omega) (hX4.block (hX3.block b3)) (ownsRow_mono hO (hX.trans hX3).size)
      have HE' := Lib.hid HE
      have HO' := Lib.hid HO
      have HL := Lib.hid hl
      clear HE HO hl hX hX3 hX4 hO b0 b1 b2 b3 hA hA1 c0 c1 c2
      go_wp2
      refine bodyPost_ret (v := .tuple #[.agg #[.int .i64 W, .int .i64 H, .slice a' n' c'], .bool true]) ?_ rfl (keepH_yes HR.out ⟨a', n', c', rfl, HE'.out, HO'.out, HL.out, hle⟩)
      simp only [results, Try.results43]
      go_simp
end Go.Proofs.Ytaakkdcpkllgoaa
