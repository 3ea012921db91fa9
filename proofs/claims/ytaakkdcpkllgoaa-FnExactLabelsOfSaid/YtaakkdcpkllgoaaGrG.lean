/-
  MirrorGrains, by the program and by the reference.
-/
import Derived.Test.YtaakkdcpkllgoaaGrF
namespace Go.Proofs.Ytaakkdcpkllgoaa
open Go.RowKit
set_option linter.unusedVariables false
set_option linter.unusedSimpArgs false
set_option linter.unnecessarySimpa false

def mirrorG (W H : Int) (zs : List Int) (u v : Int) : Int := zs[(cellF W H (W - 1 - u) v).toNat]?.getD 0
def mirrorZ (W H : Int) (zs : List Int) : List Int := gridV W.toNat (mirrorG W H zs) (H.toNat * W.toNat)
theorem tmod_nat (k W : Nat) : (k : Int).tmod (W : Int) = ((k % W : Nat) : Int) := rfl
theorem tdiv_nat (k W : Nat) : (k : Int).tdiv (W : Int) = ((k / W : Nat) : Int) := rfl
theorem gridV_next (W : Nat) (g : Int → Int → Int) (k : Nat) : gridV W g (k + 1) = gridV W g k ++ [g ((k % W : Nat) : Int) ((k / W : Nat) : Int)] := by
  unfold gridV
  rw [List.range_succ, List.map_append]
  simp only [List.map_cons, List.map_nil]

theorem mirror1_any (W H u v : Int) (a : Option Addr) (n c : Nat) (zs : List Int) (hz : zs.length = n) (hv : vldG W H zs = true) (p : Nat) (w : World) (hA : VArr w a (ints zs))
    (hp : w.heap[p]? = some (.cells #[.int .i64 W, .int .i64 H, .slice a n c] 24 (0, 0))) (u0 : 0 ≤ u) (u1 : u < W) (v0 : 0 ≤ v) (v1 : v < H) :
    Calls Try.prog 83 #[.int .i64 u, .int .i64 v, .pointer (some ⟨p, 0, none⟩)] w fun e w' => e = .returned (.int .i64 (mirrorG W H zs u v)) ∧ Ext w w' := by
  obtain ⟨hW, hH, hn, ⟨hn1, hn2⟩, hb⟩ := vld_facts hv hz
  obtain ⟨⟨c0, c1, c2⟩, _⟩ := block3 hp
  obtain ⟨b, o, rfl⟩ := hA.starts (i := 0) (by simp; omega)
  have HV := Lib.hid hv
  have HA := Lib.hid hA
  clear hb hv hA hp
  go_enter Try.func83, Try.ntmps83
  go_wp2_with fail
  refine (about_any W H (W - 1 - u) v b o n c zs hz HV.out _ HA.out).mono ?_
  rintro e w1 ⟨rfl, hX1⟩
  go_wp2
  go_ret
  exact ⟨rfl, hX1⟩

theorem grown_mirror (W H : Int) (a : Option Addr) (n c : Nat) (zs : List Int) (hz : zs.length = n) (hv : vldG W H zs = true) (p : Nat) (w : World) (hA : VArr w a (ints zs))
    (hp : w.heap[p]? = some (.cells #[.int .i64 W, .int .i64 H, .slice a n c] 24 (0, 0))) :
    Calls Try.prog 59 #[.int .i64 W, .int .i64 H, .func (.func 83) #[] #[.pointer (some ⟨p, 0, none⟩)]] w (newG w W H (mirrorZ W H zs)) :=
  grown_any W H 83 #[.pointer (some ⟨p, 0, none⟩)] (mirrorG W H zs) (vldG_iff.1 hv).1 w (fun args u => by go_simp)
    (fun u v w' h u0 u1 v0 v1 => mirror1_any W H u v a n c zs hz hv p w' (hA.ext h) (h.block hp) u0 u1 v0 v1)

theorem implMirror_any (W H : Int) (a : Option Addr) (n c : Nat) (zs : List Int) (hz : zs.length = n) (hn : n ≤ 1048576) (w : World) (hA : VArr w a (ints zs)) :
    Calls Try.prog 41 #[.agg #[.int .i64 W, .int .i64 H, .slice a n c]] w (keepH w (vldG W H zs) W H (mirrorZ W H zs)) := by
  have hX := ((Ext.refl w).alloc (.cells #[.int .i64 W, .int .i64 H, .slice a n c] 24)).alloc (.cells #[.int .i64 0, .int .i64 0, .slice none 0 0] 24)
  have b0 := heap_mid1 w (.cells #[.int .i64 W, .int .i64 H, .slice a n c] 24) (.cells #[.int .i64 0, .int .i64 0, .slice none 0 0] 24)
  have b3 := heap_new1 w (.cells #[.int .i64 W, .int .i64 H, .slice a n c] 24) (.cells #[.int .i64 0, .int .i64 0, .slice none 0 0] 24)
  have hA1 := hA.ext hX
  go_enter Try.func41, Try.ntmps41
  go_wp2_with fail
  refine (implValid_any W H a n c zs hz (by omega) _ hA1).mono ?_
  generalize (w.alloc (.cells #[.int .i64 W, .int .i64 H, .slice a n c] 24)).alloc (.cells #[.int .i64 0, .int .i64 0, .slice none 0 0] 24) = w0 at *
  rintro e w1 ⟨rfl, hX1⟩
  cases hv : vldG W H zs with
  | false =>
    obtain ⟨⟨d0, d1, d2⟩, f0, f1, f2⟩ := block3 (hX1.block b3)
    have HE := Lib.hid ((hX.trans hX1).fin3 (q := w.heap.size + 1) (by omega) (.int .i64 0) (.int .i64 0) (.slice none 0 0))
    have HV := Lib.hid hv
    clear hX hX1 b0 b3 hA hA1 hv
    go_wp2
    refine bodyPost_ret (v := .tuple #[.agg #[.int .i64 0, .int .i64 0, .slice none 0 0], .bool false]) ?_ rfl (keepH_no HV.out ⟨none, 0, 0, rfl, HE.out, World.ownsRow_nil _ _ _ _, rfl, by omega⟩)
    simp only [results, Try.results41]
    go_simp
  | true =>
    obtain ⟨⟨c0, c1, c2⟩, _⟩ := block3 (hX1.block b0)
    have HV := Lib.hid hv
    clear hv
    go_wp2_with fail
    refine (grown_mirror W H a n c zs hz HV.out _ _ (hA1.ext hX1) (hX1.block b0)).mono ?_
    rintro e w4 ⟨a', n', c', rfl, hX4, hO, hl, hle⟩
    obtain ⟨⟨d0, d1, d2⟩, f0, f1, f2⟩ := block3 (hX4.block (hX1.block b3))
    obtain ⟨HE, HO⟩ := stored3 (T := 24) (u0 := .int .i64 W) (u1 := .int .i64 H) (u2 := .slice a' n' c') ((hX.trans hX1).trans hX4) (by decide) (by omega) (hX4.block (hX1.block b3)) (ownsRow_mono hO (hX.trans hX1).size)
    have HE' := Lib.hid HE
    have HO' := Lib.hid HO
    have HL := Lib.hid hl
    clear HE HO hl hX hX1 hX4 hO b0 b3 hA hA1 c0 c1 c2
    go_wp2
    refine bodyPost_ret (v := .tuple #[.agg #[.int .i64 W, .int .i64 H, .slice a' n' c'], .bool true]) ?_ rfl (keepH_yes HV.out ⟨a', n', c', rfl, HE'.out, HO'.out, HL.out, hle⟩)
    simp only [results, Try.results41]
    go_simp
end Go.Proofs.Ytaakkdcpkllgoaa
