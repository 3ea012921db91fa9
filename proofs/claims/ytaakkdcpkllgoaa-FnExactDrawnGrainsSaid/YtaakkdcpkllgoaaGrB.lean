/-
  FlatGrains, by the program and by the reference.
-/
import Derived.Test.YtaakkdcpkllgoaaGrA
namespace Go.Proofs.Ytaakkdcpkllgoaa
open Go.RowKit
set_option linter.unusedVariables false
set_option linter.unusedSimpArgs false
set_option linter.unnecessarySimpa false

theorem isLabel_any (z : Int) (w : World) : Calls Try.prog 58 #[.int .i64 z] w fun e w' => e = .returned (.bool (inB z 0 63)) ∧ w = w' := by
  go_enter Try.func58, Try.ntmps58
  go_wp2_with (go_at_call 64; refine (within_any _ _ _ _).mono ?_; rintro e w' ⟨rfl, rfl⟩)
  go_ret
  exact ⟨rfl, rfl⟩

def flatZ (W H l : Int) : List Int := gridV W.toNat (fun _ _ => l) (H.toNat * W.toNat)
def flatOk (W H l : Int) : Bool := szG W H && inB l 0 63

theorem flat1_any (x y l : Int) (A : Addr) (w : World) (hA : w.cell? A = some (.int .i64 l)) :
    Calls Try.prog 60 #[.int .i64 x, .int .i64 y, .pointer (some A)] w fun e w' => e = .returned (.int .i64 l) ∧ Ext w w' := by
  go_enter Try.func60, Try.ntmps60
  go_wp2
  go_ret
  exact ⟨rfl, Ext.refl _⟩
theorem grown_flat (W H l : Int) (A : Addr) (hs : szG W H = true) (w : World) (hA : w.cell? A = some (.int .i64 l)) :
    Calls Try.prog 59 #[.int .i64 W, .int .i64 H, .func (.func 60) #[] #[.pointer (some A)]] w (newG w W H (flatZ W H l)) :=
  grown_any W H 60 #[.pointer (some A)] (fun _ _ => l) hs _ (fun args u => by go_simp) (fun x y w' h _ _ _ _ => flat1_any x y l _ _ (h.cell hA))

theorem implFlat_any (W H l : Int) (w : World) :
    Calls Try.prog 17 #[.int .i64 W, .int .i64 H, .int .i64 l] w (keepH w (flatOk W H l) W H (flatZ W H l)) := by
  have hX := (((Ext.refl w).alloc (.cells #[.int .i64 l] 2)).alloc (.cells #[.int .i64 0, .int .i64 0, .slice none 0 0] 24)).alloc (.cells #[.int .i64 W, .int .i64 H] 2)
  have b0 := heap_mid3 w (.cells #[.int .i64 l] 2) (.cells #[.int .i64 0, .int .i64 0, .slice none 0 0] 24) (.cells #[.int .i64 W, .int .i64 H] 2)
  have b1 := heap_mid2 w (.cells #[.int .i64 l] 2) (.cells #[.int .i64 0, .int .i64 0, .slice none 0 0] 24) (.cells #[.int .i64 W, .int .i64 H] 2)
  have b2 := heap_new2 w (.cells #[.int .i64 l] 2) (.cells #[.int .i64 0, .int .i64 0, .slice none 0 0] 24) (.cells #[.int .i64 W, .int .i64 H] 2)
  have e2 : allIn 1 16 [W, H] = szG W H := allIn_two
  go_enter Try.func17, Try.ntmps17
  go_wp2_with fail
  refine (areWithin_any _ 2 2 [W, H] rfl (by omega) 1 16 _ (VArr.two b2)).mono ?_
  rw [e2]
  generalize ((w.alloc (.cells #[.int .i64 l] 2)).alloc (.cells #[.int .i64 0, .int .i64 0, .slice none 0 0] 24)).alloc (.cells #[.int .i64 W, .int .i64 H] 2) = w0 at *
  rintro e w1 ⟨rfl, hX1⟩
  have hX2 := hX.trans hX1
  have B0 := hX1.block b0
  have B1 := hX1.block b1
  obtain ⟨c0, _⟩ := block1 B0
  obtain ⟨⟨d0, d1, d2⟩, f0, f1, f2⟩ := block3 B1
  clear b0 b1 b2 hX hX1 e2
  cases hs : szG W H with
  | false =>
    have HR : Hid (flatOk W H l = false) := by show _ = _; simp [flatOk, hs]
    have HE := Lib.hid (hX2.fin3 (q := w.heap.size + 1) (by omega) (.int .i64 0) (.int .i64 0) (.slice none 0 0))
    clear hX2 B0 B1 hs
    go_wp2
    refine bodyPost_ret (v := .tuple #[.agg #[.int .i64 0, .int .i64 0, .slice none 0 0], .bool false]) ?_ rfl (keepH_no HR.out ⟨none, 0, 0, rfl, HE.out, World.ownsRow_nil _ _ _ _, rfl, by omega⟩)
    simp only [results, Try.results17]
    go_simp
  | true =>
    cases hl : inB l 0 63 with
    | false =>
      have HR : Hid (flatOk W H l = false) := by show _ = _; simp [flatOk, hl]
      have HE := Lib.hid (hX2.fin3 (q := w.heap.size + 1) (by omega) (.int .i64 0) (.int .i64 0) (.slice none 0 0))
      have HL := Lib.hid hl
      clear hX2 B0 B1 hs hl
      go_wp2_with (go_at_call 58; refine (isLabel_any _ _).mono ?_; rw [HL.out]; rintro e w' ⟨rfl, rfl⟩)
      refine bodyPost_ret (v := .tuple #[.agg #[.int .i64 0, .int .i64 0, .slice none 0 0], .bool false]) ?_ rfl (keepH_no HR.out ⟨none, 0, 0, rfl, HE.out, World.ownsRow_nil _ _ _ _, rfl, by omega⟩)
      simp only [results, Try.results17]
      go_simp
    | true =>
      have HR : Hid (flatOk W H l = true) := by show _ = _; simp [flatOk, hl, hs]
      have HL := Lib.hid hl
      have HS := Lib.hid hs
      clear hl hs
      go_wp2_with fail
      refine (isLabel_any _ _).mono ?_
      rw [HL.out]
      rintro e w' ⟨rfl, rfl⟩
      go_wp2_with fail
      refine (grown_flat W H l ⟨w.heap.size, 0, none⟩ HS.out _ c0).mono ?_
      rintro e w4 ⟨a', n', c', rfl, hX4, hO, hl, hle⟩
      clear d0 d1 d2 f0 f1 f2 c0
      obtain ⟨⟨d0, d1, d2⟩, f0, f1, f2⟩ := block3 (hX4.block B1)
      obtain ⟨HE, HO⟩ := stored3 (T := 24) (u0 := .int .i64 W) (u1 := .int .i64 H) (u2 := .slice a' n' c') (hX2.trans hX4) (by decide) (by omega) (hX4.block B1) (ownsRow_mono hO hX2.size)
      have HE' := Lib.hid HE
      have HO' := Lib.hid HO
      have HLL := Lib.hid hl
      clear HE HO hl hX2 hX4 hO B0 B1
      go_wp2
      refine bodyPost_ret (v := .tuple #[.agg #[.int .i64 W, .int .i64 H, .slice a' n' c'], .bool true]) ?_ rfl (keepH_yes HR.out ⟨a', n', c', rfl, HE'.out, HO'.out, HLL.out, hle⟩)
      simp only [results, Try.results17]
      go_simp
end Go.Proofs.Ytaakkdcpkllgoaa
