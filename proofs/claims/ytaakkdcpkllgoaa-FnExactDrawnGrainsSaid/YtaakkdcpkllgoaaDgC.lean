/-
  DrawnGrains, by the program and by the reference.
-/
import Derived.Test.YtaakkdcpkllgoaaDgB
import Derived.Test.YtaakkdcpkllgoaaGrC
import Derived.Test.YtaakkdcpkllgoaaLib5
namespace Go.Proofs.Ytaakkdcpkllgoaa
open Go.RowKit
set_option linter.unusedVariables false
set_option linter.unusedSimpArgs false
set_option linter.unnecessarySimpa false

def drawnOk (W H c s : Int) : Bool := szG W H && inB c 1 64 && inB s 0 2147483647
def drawnZ (W H c s : Int) : List Int := drawZ s c (H.toNat * W.toNat)
def drawnS (W H s : Int) : Int := seedN s (H.toNat * W.toNat)
/-- Grains of one's own and a seed, as an answer. -/
def newDr (w : World) (W H : Int) (zs : List Int) (sd : Int) (ok : Bool) (e : Ending) (w' : World) : Prop :=
  ∃ a n c, e = .returned (.tuple #[.agg #[.int .i64 W, .int .i64 H, .slice a n c], .int .i64 sd, .bool ok]) ∧ Ext w w' ∧ w'.ownsRow w.heap.size 2 1 (.slice a n c) n (ints zs) ∧ zs.length = n ∧ n ≤ 1048576
def keepDr (w : World) (ok : Bool) (W H : Int) (zs : List Int) (sd : Int) (e : Ending) (w' : World) : Prop := newDr w (keepI ok W) (keepI ok H) (keepL ok zs) (keepI ok sd) ok e w'
theorem keepDr_no {w : World} {ok : Bool} {W H sd : Int} {zs : List Int} {e : Ending} {w' : World} (h : ok = false) (k : newDr w 0 0 [] 0 false e w') : keepDr w ok W H zs sd e w' := by
  unfold keepDr; rw [h]; exact k
theorem keepDr_yes {w : World} {ok : Bool} {W H sd : Int} {zs : List Int} {e : Ending} {w' : World} (h : ok = true) (k : newDr w W H zs sd true e w') : keepDr w ok W H zs sd e w' := by
  unfold keepDr; rw [h]; exact k

theorem isSeed_any (z : Int) (w : World) : Calls Try.prog 65 #[.int .i64 z] w fun e w' => e = .returned (.bool (inB z 0 2147483647)) ∧ w = w' := by
  go_enter Try.func65, Try.ntmps65
  go_wp2_with (go_at_call 64; refine (within_any _ _ _ _).mono ?_; rintro e w' ⟨rfl, rfl⟩)
  go_ret
  exact ⟨rfl, rfl⟩
theorem l02Seed_any (z : Int) (w : World) : Calls Try.prog 62 #[.int .i64 z] w fun e w' => e = .returned (.bool (inB z 0 2147483647)) ∧ w = w' := by
  go_enter Try.func62, Try.ntmps62
  go_wp2_with (go_at_call 61; refine (l00In_any _ _ _ _).mono ?_; rintro e w' ⟨rfl, rfl⟩)
  go_ret
  exact ⟨rfl, rfl⟩
theorem l02Next_any (s : Int) (h1 : 0 ≤ s) (h2 : s ≤ 2147483647) (w : World) : Calls Try.prog 63 #[.int .i64 s] w fun e w' => e = .returned (.int .i64 (nxtS s)) ∧ w = w' := by
  have HR : Hid (nxtS s = (1103515245 * s + 12345) % 2147483648) := rfl
  go_enter Try.func63, Try.ntmps63
  go_wp2
  go_ret
  rw [HR.out]
  exact ⟨rfl, rfl⟩

set_option maxRecDepth 100000 in
set_option maxHeartbeats 4000000 in
theorem implDrawn_any (W H c s : Int) (w : World) :
    Calls Try.prog 22 #[.int .i64 W, .int .i64 H, .int .i64 c, .int .i64 s] w (keepDr w (drawnOk W H c s) W H (drawnZ W H c s) (drawnS W H s)) := by
  have hX := ((((Ext.refl w).alloc (.cells #[.int .i64 c] 2)).alloc (.cells #[.int .i64 s] 2)).alloc (.cells #[.int .i64 0, .int .i64 0, .slice none 0 0] 24)).alloc (.cells #[.int .i64 W, .int .i64 H] 2)
  obtain ⟨b0, b1, b2, b3⟩ := four_new w (.cells #[.int .i64 c] 2) (.cells #[.int .i64 s] 2) (.cells #[.int .i64 0, .int .i64 0, .slice none 0 0] 24) (.cells #[.int .i64 W, .int .i64 H] 2)
  have e2 : allIn 1 16 [W, H] = szG W H := allIn_two
  go_enter Try.func22, Try.ntmps22
  go_wp2_with fail
  refine (areWithin_any _ 2 2 [W, H] rfl (by omega) 1 16 _ (VArr.two b3)).mono ?_
  rw [e2]
  generalize (((w.alloc (.cells #[.int .i64 c] 2)).alloc (.cells #[.int .i64 s] 2)).alloc (.cells #[.int .i64 0, .int .i64 0, .slice none 0 0] 24)).alloc (.cells #[.int .i64 W, .int .i64 H] 2) = w0 at *
  rintro e w1 ⟨rfl, hX1⟩
  have hX2 := hX.trans hX1
  have B0 := hX1.block b0
  have B1 := hX1.block b1
  have B2 := hX1.block b2
  obtain ⟨c0, _⟩ := block1 B0
  obtain ⟨c1, _⟩ := block1 B1
  obtain ⟨⟨d0, d1, d2⟩, f0, f1, f2⟩ := block3 B2
  clear b0 b1 b2 b3 hX hX1 e2
  have HE := Lib.hid (hX2.fin3 (q := w.heap.size + 2) (by omega) (.int .i64 0) (.int .i64 0) (.slice none 0 0))
  cases hs : szG W H with
  | false =>
    have HR : Hid (drawnOk W H c s = false) := by show _ = _; simp [drawnOk, hs]
    clear hX2 B0 B1 B2 hs
    go_wp2
    refine bodyPost_ret (v := .tuple #[.agg #[.int .i64 0, .int .i64 0, .slice none 0 0], .int .i64 0, .bool false]) ?_ rfl (keepDr_no HR.out ⟨none, 0, 0, rfl, HE.out, World.ownsRow_nil _ _ _ _, rfl, by omega⟩)
    simp only [results, Try.results22]
    go_simp
  | true =>
    cases hl : inB c 1 64 with
    | false =>
      have HR : Hid (drawnOk W H c s = false) := by show _ = _; simp [drawnOk, hl]
      have HL := Lib.hid hl
      clear hX2 B0 B1 B2 hs hl
      go_wp2_with (go_at_call 64; refine (within_any _ _ _ _).mono ?_; rw [HL.out]; rintro e w' ⟨rfl, rfl⟩)
      refine bodyPost_ret (v := .tuple #[.agg #[.int .i64 0, .int .i64 0, .slice none 0 0], .int .i64 0, .bool false]) ?_ rfl (keepDr_no HR.out ⟨none, 0, 0, rfl, HE.out, World.ownsRow_nil _ _ _ _, rfl, by omega⟩)
      simp only [results, Try.results22]
      go_simp
    | true =>
      have HL := Lib.hid hl
      cases hq : inB s 0 2147483647 with
      | false =>
        have HR : Hid (drawnOk W H c s = false) := by show _ = _; simp [drawnOk, hq]
        have HQ := Lib.hid hq
        clear hX2 B0 B1 B2 hs hl hq
        go_wp2_with (first | (go_at_call 64; refine (within_any _ _ _ _).mono ?_; rw [HL.out]; rintro e w' ⟨rfl, rfl⟩) | (go_at_call 65; refine (isSeed_any _ _).mono ?_; rw [HQ.out]; rintro e w' ⟨rfl, rfl⟩))
        refine bodyPost_ret (v := .tuple #[.agg #[.int .i64 0, .int .i64 0, .slice none 0 0], .int .i64 0, .bool false]) ?_ rfl (keepDr_no HR.out ⟨none, 0, 0, rfl, HE.out, World.ownsRow_nil _ _ _ _, rfl, by omega⟩)
        simp only [results, Try.results22]
        go_simp
      | true =>
        have HR : Hid (drawnOk W H c s = true) := by show _ = _; simp [drawnOk, hl, hs, hq]
        have HQ := Lib.hid hq
        have hcc := inB_iff.1 hl
        have hss := inB_iff.1 hq
        have hgr := grown_drawn W H s c (w.heap.size + 1) w.heap.size _ _ hs hss hcc.1 hcc.2 (by omega) w1 B1 B0
        have HX2 := Lib.hid hX2
        have HB2 := Lib.hid B2
        have HB1 := Lib.hid B1
        clear hl hs hq hX2 B0 B1 B2 HE
        go_wp2_with (first | (go_at_call 64; refine (within_any _ _ _ _).mono ?_; rw [HL.out]; rintro e w' ⟨rfl, rfl⟩) | (go_at_call 65; refine (isSeed_any _ _).mono ?_; rw [HQ.out]; rintro e w' ⟨rfl, rfl⟩) | fail)
        refine hgr.mono ?_
        clear hgr
        rintro e w4 ⟨a', n', c', rfl, hX4, hO, hl, hle⟩
        change Ext (w1.setCell ⟨w.heap.size + 1, 0, none⟩ (.int .i64 (drawnS W H s))) w4 at hX4
        change w4.ownsRow w1.heap.size 2 1 (.slice a' n' c') n' (ints (drawnZ W H c s)) at hO
        change (drawnZ W H c s).length = n' at hl
        have HLL := Lib.hid hl
        have hXs : Ext w (w1.setCell ⟨w.heap.size + 1, 0, none⟩ (.int .i64 (drawnS W H s))) := Below.setCell HX2.out (by show w.heap.size ≤ w.heap.size + 1; omega) _
        have b2 : w4.heap[w.heap.size + 2]? = _ := hX4.block (by rw [cells_setOther (by omega)]; exact HB2.out)
        have b1 : w4.heap[w.heap.size + 1]? = _ := hX4.block (cells_setCell HB1.out (i := 0) (.int .i64 (drawnS W H s)))
        have b1' : w4.heap[w.heap.size + 1]? = some (.cells #[.int .i64 (drawnS W H s)] 2 (0, 0)) := b1
        generalize drawnS W H s = sd at *
        generalize drawnZ W H c s = zs at *
        have hXx := hXs.trans hX4
        have hXa := (Ext.refl w4).alloc (.cells #[.int .i64 W, .int .i64 H, .slice a' n' c'] 24)
        have hO2 := ownsRow_ext (ownsRow_mono hO HX2.out.size) hXa
        obtain ⟨HE, HO⟩ := stored3 (e := 2) (T := 24) (u0 := .int .i64 W) (u1 := .int .i64 H) (u2 := .slice a' n' c') (hXx.trans hXa).drew (by decide) (by omega) ((hXa.drew).block b2) (ownsRow_ext hO2 (Ext.refl _).drew)
        clear d0 d1 d2 f0 f1 f2 c0 c1
        obtain ⟨⟨d0, d1, d2⟩, f0, f1, f2⟩ := block3 (hXa.block b2)
        obtain ⟨c1, _⟩ := block1 (hXa.block b1')
        obtain ⟨c1', _⟩ := block1 b1'
        have HE' := Lib.hid HE
        have HO' := Lib.hid HO
        clear HE HO hl hXs hX4 hO b1 b1' b2 hXx hXa hO2 hcc hss HB1 HB2
        go_wp2
        go_region
        all_goals go_wp2
        all_goals refine bodyPost_ret (v := .tuple #[.agg #[.int .i64 W, .int .i64 H, .slice a' n' c'], .int .i64 sd, .bool true]) ?_ rfl (keepDr_yes HR.out ⟨a', n', c', rfl, HE'.out, HO'.out, HLL.out, hle⟩)
        all_goals simp only [results, Try.results22]
        all_goals go_simp
end Go.Proofs.Ytaakkdcpkllgoaa
