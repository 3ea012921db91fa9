/-
  AddHeights, by the program and by the reference.
-/
import Derived.Test.YtdggpkgbncmlbaaAtI
namespace Go.Proofs.Ytdggpkgbncmlbaa
open Go.RowKit
set_option linter.unusedVariables false
set_option linter.unusedSimpArgs false
set_option linter.unnecessarySimpa false

def addG (W H : Int) (zs zs' : List Int) (u v : Int) : Int := zs[(cellF W H u v).toNat]?.getD 0 + zs'[(cellF W H u v).toNat]?.getD 0
def addZ (W H : Int) (zs zs' : List Int) : List Int := gridV W.toNat (addG W H zs zs') (H.toNat * W.toNat)
def addIn (W H W' H' : Int) (zs zs' : List Int) : Bool := vldH W H zs && vldH W' H' zs' && decide (W = W') && decide (H = H')
def addOk (W H W' H' : Int) (zs zs' : List Int) : Bool := addIn W H W' H' zs zs' && vldH W H (addZ W H zs zs')

theorem keepH_give {w : World} {b : Bool} {W H : Int} {zs : List Int} {e : Ending} {w' : World} (hb : b = true) (h : giveH w W H zs e w') : keepH w (b && vldH W H zs) W H zs e w' := by
  rw [hb, Bool.true_and]; exact h

/-- What 'top' answers, as a region's contract: whatever heights are handed over. -/
def topPost (w0 : World) (x y : Int) (args : Array Value) (v : Value) : Prop :=
  ∀ W H a n c, args = #[.agg #[.int .i64 W, .int .i64 H, .slice a n c], .int .i64 x, .int .i64 y] → ∀ zs : List Int, zs.length = n → VArr w0 a (ints zs) → v = .int .i64 (zs[(cellF W H x y).toNat]?.getD 0)
theorem topPost_mk {w0 : World} {x y W H : Int} {a : Option Addr} {n c : Nat} {zs : List Int} (hz : zs.length = n) (h0 : VArr w0 a (ints zs)) :
    topPost w0 x y #[.agg #[.int .i64 W, .int .i64 H, .slice a n c], .int .i64 x, .int .i64 y] (.int .i64 (zs[(cellF W H x y).toNat]?.getD 0)) := by
  intro W' H' a' n' c' he zs' hz' h'
  simp at he
  obtain ⟨rfl, rfl, rfl, rfl, rfl⟩ := he
  have := ints_inj (VArr.unique (by simp [hz, hz']) h0 h')
  subst this
  rfl

theorem add1_any (W H W' H' u v : Int) (a a' : Option Addr) (n c n' c' : Nat) (zs zs' : List Int) (hz : zs.length = n) (hz' : zs'.length = n') (hv : vldH W H zs = true) (hv' : vldH W' H' zs' = true) (hW : W = W') (hH : H = H') (p q : Nat) (w : World) (hA : VArr w a (ints zs)) (hA' : VArr w a' (ints zs'))
    (hp : w.heap[p]? = some (.cells #[.int .i64 W, .int .i64 H, .slice a n c] 33 (0, 0))) (hq : w.heap[q]? = some (.cells #[.int .i64 W', .int .i64 H', .slice a' n' c'] 33 (0, 0))) (u0 : 0 ≤ u) (u1 : u < W) (v0 : 0 ≤ v) (v1 : v < H) :
    Calls Try.prog 91 #[.int .i64 u, .int .i64 v, .pointer (some ⟨p, 0, none⟩), .pointer (some ⟨q, 0, none⟩)] w fun e w' => e = .returned (.int .i64 (addG W H zs zs' u v)) ∧ Ext w w' := by
  subst hW hH
  obtain ⟨hW, hH, hn, ⟨hn1, hn2⟩, hb⟩ := vld_facts hv hz
  obtain ⟨_, _, hn', ⟨hn1', hn2'⟩, hb'⟩ := vld_facts hv' hz'
  obtain ⟨b, o, rfl⟩ := hA.starts (i := 0) (by simp; omega)
  obtain ⟨b', o', rfl⟩ := hA'.starts (i := 0) (by simp; omega)
  obtain ⟨m1, m2⟩ := cellF_bd u v (show 1 ≤ W by omega) (show 1 ≤ H by omega)
  obtain ⟨z, hzm⟩ : ∃ z, zs[(cellF W H u v).toNat]?.getD 0 = z := ⟨_, rfl⟩
  obtain ⟨z', hzm'⟩ : ∃ z', zs'[(cellF W H u v).toNat]?.getD 0 = z' := ⟨_, rfl⟩
  have hb1 := hb (cellF W H u v).toNat (by omega)
  have hb2 := hb' (cellF W H u v).toNat (by omega)
  rw [hzm] at hb1
  rw [hzm'] at hb2
  have HG : Hid (addG W H zs zs' u v = z + z') := by show _ = _; unfold addG; rw [hzm, hzm']
  have HV := Lib.hid hv
  have HV' := Lib.hid hv'
  have HZ := Lib.hid hzm
  have HZ' := Lib.hid hzm'
  clear hb hb' hv hv' m1 m2 hzm hzm'
  go_enter Try.func91, Try.ntmps91
  go_wp2_with fail
  refine region_grow (C := Ext w) (K := fun _ args V _ => topPost w u v args V) ⟨fun _ _ h k => h.trans k, fun _ _ _ _ _ h _ => h⟩ (by kernel_rfl) (by kernel_rfl) ((Ext.refl w).drew) ?_
  have T1 : topPost w u v #[.agg #[.int .i64 W, .int .i64 H, .slice (some ⟨b, o, none⟩) n c], .int .i64 u, .int .i64 v] (.int .i64 z) := by rw [← HZ.out]; exact topPost_mk hz hA
  have T2 : topPost w u v #[.agg #[.int .i64 W, .int .i64 H, .slice (some ⟨b', o', none⟩) n' c'], .int .i64 u, .int .i64 v] (.int .i64 z') := by rw [← HZ'.out]; exact topPost_mk hz' hA'
  have G1 : ∀ V, topPost w u v #[.agg #[.int .i64 W, .int .i64 H, .slice (some ⟨b, o, none⟩) n c], .int .i64 u, .int .i64 v] V → V = .int .i64 z := fun V h => by rw [← HZ.out]; exact h _ _ _ _ _ rfl _ hz hA
  have G2 : ∀ V, topPost w u v #[.agg #[.int .i64 W, .int .i64 H, .slice (some ⟨b', o', none⟩) n' c'], .int .i64 u, .int .i64 v] V → V = .int .i64 z' := fun V h => by rw [← HZ'.out]; exact h _ _ _ _ _ rfl _ hz' hA'
  have HT1 := Lib.hid T1
  have HT2 := Lib.hid T2
  have HG1 := Lib.hid G1
  have HG2 := Lib.hid G2
  clear T1 T2 G1 G2
  iterate 3 (refine grow_q rfl ?_; apply Exists.intro; refine ⟨fun u' hu _ => ?_, ?_⟩; focus (obtain ⟨⟨c0, c1, c2⟩, _⟩ := block3 (hu.block hp); go_simp; rfl))
  refine grow_c1 77 rfl ?_
  refine ⟨#[.agg #[.int .i64 W, .int .i64 H, .slice (some ⟨b, o, none⟩) n c], .int .i64 u, .int .i64 v], fun u' => ?_, .int .i64 z, fun u' hu _ => ?_, fun V _ h => HG1.out V h, fun _ => HT1.out, ?_⟩
  · go_simp
  · rw [← HZ.out]; exact top_any W H u v b o n c zs hz HV.out u' (hA.ext hu)
  iterate 3 (refine grow_q rfl ?_; apply Exists.intro; refine ⟨fun u' hu _ => ?_, ?_⟩; focus (obtain ⟨⟨c0, c1, c2⟩, _⟩ := block3 (hu.block hq); go_simp; rfl))
  refine grow_c1 77 rfl ?_
  refine ⟨#[.agg #[.int .i64 W, .int .i64 H, .slice (some ⟨b', o', none⟩) n' c'], .int .i64 u, .int .i64 v], fun u' => ?_, .int .i64 z', fun u' hu _ => ?_, fun V _ h => HG2.out V h, fun _ => HT2.out, ?_⟩
  · go_simp
  · rw [← HZ'.out]; exact top_any W H u v b' o' n' c' zs' hz' HV'.out u' (hA'.ext hu)
  iterate 2 (refine grow_q rfl ?_; apply Exists.intro; refine ⟨fun u' hu _ => ?_, ?_⟩; focus (go_simp; rfl))
  refine grow_nil (fun w2 hw _ => ?_)
  go_simp
  rw [wrapS (by omega) (by omega)]
  go_wp2
  go_ret
  exact ⟨by rw [HG.out]; rfl, hw⟩

theorem built_add (W H W' H' : Int) (a a' : Option Addr) (n c n' c' : Nat) (zs zs' : List Int) (hz : zs.length = n) (hz' : zs'.length = n') (hi : addIn W H W' H' zs zs' = true) (p q : Nat) (w : World) (hA : VArr w a (ints zs)) (hA' : VArr w a' (ints zs'))
    (hp : w.heap[p]? = some (.cells #[.int .i64 W, .int .i64 H, .slice a n c] 33 (0, 0))) (hq : w.heap[q]? = some (.cells #[.int .i64 W', .int .i64 H', .slice a' n' c'] 33 (0, 0))) :
    Calls Try.prog 80 #[.int .i64 W, .int .i64 H, .func (.func 91) #[] #[.pointer (some ⟨p, 0, none⟩), .pointer (some ⟨q, 0, none⟩)]] w (giveH w W H (addZ W H zs zs')) := by
  simp only [addIn, Bool.and_eq_true, decide_eq_true_eq] at hi
  exact built_any W H 91 #[.pointer (some ⟨p, 0, none⟩), .pointer (some ⟨q, 0, none⟩)] (addG W H zs zs') w (fun args u => by go_simp)
    (fun _ u v w' h u0 u1 v0 v1 => add1_any W H W' H' u v a a' n c n' c' zs zs' hz hz' hi.1.1.1 hi.1.1.2 hi.1.2 hi.2 p q w' (hA.ext h) (hA'.ext h) (h.block hp) (h.block hq) u0 u1 v0 v1)

set_option maxRecDepth 100000 in
theorem implAdd_any (W H W' H' : Int) (a a' : Option Addr) (n c n' c' : Nat) (zs zs' : List Int) (hz : zs.length = n) (hz' : zs'.length = n') (hn : n ≤ 1048576) (hn' : n' ≤ 1048576) (w : World) (hA : VArr w a (ints zs)) (hA' : VArr w a' (ints zs')) :
    Calls Try.prog 51 #[.agg #[.int .i64 W, .int .i64 H, .slice a n c], .agg #[.int .i64 W', .int .i64 H', .slice a' n' c']] w (keepH w (addOk W H W' H' zs zs') W H (addZ W H zs zs')) := by
  have hX := (((Ext.refl w).alloc (.cells #[.int .i64 W, .int .i64 H, .slice a n c] 33)).alloc (.cells #[.int .i64 W', .int .i64 H', .slice a' n' c'] 33)).alloc (.cells #[.int .i64 0, .int .i64 0, .slice none 0 0] 33)
  have b0 := heap_mid3 w (.cells #[.int .i64 W, .int .i64 H, .slice a n c] 33) (.cells #[.int .i64 W', .int .i64 H', .slice a' n' c'] 33) (.cells #[.int .i64 0, .int .i64 0, .slice none 0 0] 33)
  have b1 := heap_mid2 w (.cells #[.int .i64 W, .int .i64 H, .slice a n c] 33) (.cells #[.int .i64 W', .int .i64 H', .slice a' n' c'] 33) (.cells #[.int .i64 0, .int .i64 0, .slice none 0 0] 33)
  have b2 := heap_new2 w (.cells #[.int .i64 W, .int .i64 H, .slice a n c] 33) (.cells #[.int .i64 W', .int .i64 H', .slice a' n' c'] 33) (.cells #[.int .i64 0, .int .i64 0, .slice none 0 0] 33)
  have hA1 := hA.ext hX
  have hA2 := hA'.ext hX
  go_enter Try.func51, Try.ntmps51
  go_wp2_with fail
  refine (implValid_any W H a n c zs hz (by omega) _ hA1).mono ?_
  generalize ((w.alloc (.cells #[.int .i64 W, .int .i64 H, .slice a n c] 33)).alloc (.cells #[.int .i64 W', .int .i64 H', .slice a' n' c'] 33)).alloc (.cells #[.int .i64 0, .int .i64 0, .slice none 0 0] 33) = w0 at *
  rintro e w1 ⟨rfl, hX1⟩
  cases hv : vldH W H zs with
  | false =>
    have HR : Hid (addOk W H W' H' zs zs' = false) := by show _ = _; simp [addOk, addIn, hv]
    obtain ⟨⟨d0, d1, d2⟩, f0, f1, f2⟩ := block3 (hX1.block b2)
    have HE := Lib.hid ((hX.trans hX1).fin3 (q := w.heap.size + 2) (by omega) (.int .i64 0) (.int .i64 0) (.slice none 0 0))
    clear hX hX1 b0 b1 b2 hA hA' hA1 hA2 hv
    go_wp2
    refine bodyPost_ret (v := .tuple #[.agg #[.int .i64 0, .int .i64 0, .slice none 0 0], .bool false]) ?_ rfl (keepH_no HR.out ⟨none, 0, 0, rfl, HE.out, World.ownsRow_nil _ _ _ _, rfl, by omega⟩)
    simp only [results, Try.results51]
    go_simp
  | true =>
    obtain ⟨⟨c0, c1, c2⟩, _⟩ := block3 (hX1.block b1)
    go_wp2_with fail
    refine (implValid_any W' H' a' n' c' zs' hz' (by omega) _ (hA2.ext hX1)).mono ?_
    rintro e w2 ⟨rfl, hX2⟩
    have hX3 := hX1.trans hX2
    clear hX1 hX2 c0 c1 c2
    obtain ⟨⟨d0, d1, d2⟩, f0, f1, f2⟩ := block3 (hX3.block b2)
    obtain ⟨⟨c0, c1, c2⟩, _⟩ := block3 (hX3.block b0)
    obtain ⟨⟨e0, e1, e2⟩, _⟩ := block3 (hX3.block b1)
    cases hi : addIn W H W' H' zs zs' with
    | false =>
      have HR : Hid (addOk W H W' H' zs zs' = false) := by show _ = _; simp [addOk, hi]
      have HE := Lib.hid ((hX.trans hX3).fin3 (q := w.heap.size + 2) (by omega) (.int .i64 0) (.int .i64 0) (.slice none 0 0))
      cases hv' : vldH W' H' zs' with
      | false =>
        clear hX hX3 b0 b1 b2 hA hA' hA1 hA2 hv hv' hi
        go_wp2
        refine bodyPost_ret (v := .tuple #[.agg #[.int .i64 0, .int .i64 0, .slice none 0 0], .bool false]) ?_ rfl (keepH_no HR.out ⟨none, 0, 0, rfl, HE.out, World.ownsRow_nil _ _ _ _, rfl, by omega⟩)
        simp only [results, Try.results51]
        go_simp
      | true =>
        by_cases hw : W = W'
        · have hh : ¬ H = H' := by
            rintro rfl
            subst hw
            simp [addIn, hv, hv'] at hi
          have hw2 : W' = W := hw.symm
          clear hX hX3 b0 b1 b2 hA hA' hA1 hA2 hv hv' hi hw
          subst hw2
          go_wp2
          refine bodyPost_ret (v := .tuple #[.agg #[.int .i64 0, .int .i64 0, .slice none 0 0], .bool false]) ?_ rfl (keepH_no HR.out ⟨none, 0, 0, rfl, HE.out, World.ownsRow_nil _ _ _ _, rfl, by omega⟩)
          simp only [results, Try.results51]
          go_simp
        · clear hX hX3 b0 b1 b2 hA hA' hA1 hA2 hv hv' hi
          go_wp2
          refine bodyPost_ret (v := .tuple #[.agg #[.int .i64 0, .int .i64 0, .slice none 0 0], .bool false]) ?_ rfl (keepH_no HR.out ⟨none, 0, 0, rfl, HE.out, World.ownsRow_nil _ _ _ _, rfl, by omega⟩)
          simp only [results, Try.results51]
          go_simp
    | true =>
      have HI := Lib.hid hi
      simp only [addIn, Bool.and_eq_true, decide_eq_true_eq] at hi
      obtain ⟨⟨⟨_, hv'⟩, rfl⟩, rfl⟩ := hi
      rw [hv']
      clear hv hv'
      go_wp2_with fail
      refine (built_add W H W H a a' n c n' c' zs zs' hz hz' HI.out _ _ _ (hA1.ext hX3) (hA2.ext hX3) (hX3.block b0) (hX3.block b1)).mono ?_
      rintro e w4 ⟨a2, n2, c2', rfl, hX4, hO, hl, hle⟩
      clear d0 d1 d2 f0 f1 f2
      obtain ⟨⟨d0, d1, d2⟩, f0, f1, f2⟩ := block3 (hX4.block (hX3.block b2))
      obtain ⟨HE, HO⟩ := stored3 (T := 33) (u0 := .int .i64 (keepI (vldH W H (addZ W H zs zs')) W)) (u1 := .int .i64 (keepI (vldH W H (addZ W H zs zs')) H)) (u2 := .slice a2 n2 c2') ((hX.trans hX3).trans hX4) (by decide) (by omega) (hX4.block (hX3.block b2)) (ownsRow_mono hO (hX.trans hX3).size)
      have HE' := Lib.hid HE
      have HO' := Lib.hid HO
      have HL := Lib.hid hl
      clear HE HO hl hX hX3 hX4 hO b0 b1 b2 hA hA' hA1 hA2 c0 c1 c2 e0 e1 e2
      go_wp2
      refine bodyPost_ret (v := .tuple #[.agg #[.int .i64 (keepI (vldH W H (addZ W H zs zs')) W), .int .i64 (keepI (vldH W H (addZ W H zs zs')) H), .slice a2 n2 c2'], .bool (vldH W H (addZ W H zs zs'))]) ?_ rfl (keepH_give HI.out ⟨a2, n2, c2', rfl, HE'.out, HO'.out, HL.out, hle⟩)
      simp only [results, Try.results51]
      go_simp
end Go.Proofs.Ytdggpkgbncmlbaa
