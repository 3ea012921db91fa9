/-
  SlopesOf by the reference. (Printed by gen_slopes.py.)
-/
import Derived.Test.YtllpbkmdcaikoaaSlA
namespace Go.Proofs.Ytllpbkmdcaikoaa
open Go.RowKit
set_option linter.unusedVariables false
set_option linter.unusedSimpArgs false
set_option linter.unnecessarySimpa false

/-- What stands while two fields are filled in turn: the boxes of the results at r1, r2, the fields' at q1, q2; their rows are apart. -/
structure FillT (w : World) (r1 r2 q1 q2 : Nat) (W H : Int) (R : Bool) (xs ys : List Nat) (wr : World) (k l : Nat) : Prop where
  ext : Ext w wr
  res1 : wr.heap[r1]? = some (.cells #[.int .i64 0, .int .i64 0, .bool false, .slice none 0 0] 27 (0, 0))
  res2 : wr.heap[r2]? = some (.cells #[.int .i64 0, .int .i64 0, .bool false, .slice none 0 0] 27 (0, 0))
  own : ∃ a c b d, wr.heap[q1]? = some (.cells #[.int .i64 W, .int .i64 H, .bool R, .slice a k c] 27 (0, 0)) ∧ wr.heap[q2]? = some (.cells #[.int .i64 W, .int .i64 H, .bool R, .slice b l d] 27 (0, 0)) ∧ wr.ownsRow w.heap.size 30 1 (.slice a k c) k (flts xs) ∧ wr.ownsRow w.heap.size 30 1 (.slice b l d) l (flts ys) ∧ ∀ g, (Value.slice a k c).ownBlock = some g → (Value.slice b l d).ownBlock ≠ some g
theorem FillT.swap {w : World} {r1 r2 q1 q2 : Nat} {W H : Int} {R : Bool} {xs ys : List Nat} {wr : World} {k l : Nat} (h : FillT w r1 r2 q1 q2 W H R xs ys wr k l) : FillT w r2 r1 q2 q1 W H R ys xs wr l k :=
  let ⟨a, c, b, d, h1, h2, h3, h4, h5⟩ := h.own
  ⟨h.ext, h.res2, h.res1, b, d, a, c, h2, h1, h4, h3, apart_symm h5⟩
theorem FillT.push {w : World} {r1 r2 q1 q2 : Nat} {W H : Int} {R : Bool} {xs ys : List Nat} {wr w1 : World} {k l c d : Nat} {a b : Option Addr} {z : Nat} {v' : Value} (hX : Ext w wr) (hr1 : r1 < w.heap.size) (hr2 : r2 < w.heap.size) (hq1 : w.heap.size ≤ q1) (hq2 : q2 ≠ q1)
    (hR1 : wr.heap[r1]? = some (.cells #[.int .i64 0, .int .i64 0, .bool false, .slice none 0 0] 27 (0, 0))) (hR2 : wr.heap[r2]? = some (.cells #[.int .i64 0, .int .i64 0, .bool false, .slice none 0 0] 27 (0, 0)))
    (hB1 : wr.heap[q1]? = some (.cells #[.int .i64 W, .int .i64 H, .bool R, .slice a k c] 27 (0, 0))) (hB2 : wr.heap[q2]? = some (.cells #[.int .i64 W, .int .i64 H, .bool R, .slice b l d] 27 (0, 0)))
    (hO1 : wr.ownsRow w.heap.size 30 1 (.slice a k c) k (flts xs)) (hO2 : wr.ownsRow w.heap.size 30 1 (.slice b l d) l (flts ys)) (hap : ∀ g, (Value.slice a k c).ownBlock = some g → (Value.slice b l d).ownBlock ≠ some g)
    (hown : w1.ownsRow w.heap.size 30 1 v' (k + 1) (flts xs ++ [.float .f32 z])) (hg : wr.grownBy w1 (Value.slice a k c).ownBlock) (hn : ∀ g, v'.ownBlock = some g → (Value.slice a k c).ownBlock = some g ∨ wr.heap.size ≤ g) :
    FillT w r1 r2 q1 q2 W H R (xs ++ [z]) ys (w1.setCell ⟨q1, 3, none⟩ v') (k + 1) l := by
  obtain ⟨a', c', rfl⟩ := ownsRow_shape hown
  obtain ⟨h1, h2⟩ := appended hX hO1 hg
  have hK := row_keepA hO2 (apart_symm hap) hg
  obtain ⟨h3, h4, h5⟩ := stored (i := 3) (u := .slice a' (k + 1) c') h1 (by decide) (by omega) (h2 (by decide) hB1) hown
  obtain ⟨_, _, h6⟩ := stored (i := 3) (u := .slice a' (k + 1) c') h1 (by decide) (by omega) (h2 (by decide) hB1) hK
  refine ⟨h3, ?_, ?_, a', c', b, d, h4, ?_, ?_, h6, apart_symm (apart_new hO2 (apart_symm hap) hn)⟩
  · rw [cells_setOther (by omega)]; exact h2 (by decide) hR1
  · rw [cells_setOther (by omega)]; exact h2 (by decide) hR2
  · rw [cells_setOther hq2]; exact h2 (by decide) hB2
  · rw [flts_append]; exact h5

set_option maxRecDepth 100000 in
set_option maxHeartbeats 4000000 in
theorem specSlopes_any (W H : Int) (R : Bool) (a : Option Addr) (n c : Nat) (zs : List Nat) (hz : zs.length = n) (hn : n ≤ 1048576) (w : World) (hA : VArr w a (flts zs)) :
    Calls Try.prog 37 #[.agg #[.int .i64 W, .int .i64 H, .bool R, .slice a n c]] w (keepFF w (vldF W H n) W H R (gridF W.toNat (slopeXG W H R (fas zs)) (H.toNat * W.toNat)) (gridF W.toNat (slopeYG W H R (fas zs)) (H.toNat * W.toNat))) := by
  obtain ⟨i0, hi, hz0, hz1, hz2⟩ := info_parts info32
  have hX : Ext w (((w.alloc (.cells #[.int .i64 W, .int .i64 H, .bool R, .slice a n c] 27)).alloc (.cells #[.int .i64 0, .int .i64 0, .bool false, .slice none 0 0] 27)).alloc (.cells #[.int .i64 0, .int .i64 0, .bool false, .slice none 0 0] 27)) := (((Ext.refl w).alloc _).alloc _).alloc _
  have b0 := heap_mid3 w (.cells #[.int .i64 W, .int .i64 H, .bool R, .slice a n c] 27) (.cells #[.int .i64 0, .int .i64 0, .bool false, .slice none 0 0] 27) (.cells #[.int .i64 0, .int .i64 0, .bool false, .slice none 0 0] 27)
  have b1 := heap_mid2 w (.cells #[.int .i64 W, .int .i64 H, .bool R, .slice a n c] 27) (.cells #[.int .i64 0, .int .i64 0, .bool false, .slice none 0 0] 27) (.cells #[.int .i64 0, .int .i64 0, .bool false, .slice none 0 0] 27)
  have b2 := heap_new2 w (.cells #[.int .i64 W, .int .i64 H, .bool R, .slice a n c] 27) (.cells #[.int .i64 0, .int .i64 0, .bool false, .slice none 0 0] 27) (.cells #[.int .i64 0, .int .i64 0, .bool false, .slice none 0 0] 27)
  have hA1 := hA.ext hX
  go_enter Try.func37, Try.ntmps37
  go_wp2_with fail
  refine (l02Is_any _ W H R a n c (by omega) _ (FldAt.box b0)).mono ?_
  generalize ((w.alloc (.cells #[.int .i64 W, .int .i64 H, .bool R, .slice a n c] 27)).alloc (.cells #[.int .i64 0, .int .i64 0, .bool false, .slice none 0 0] 27)).alloc (.cells #[.int .i64 0, .int .i64 0, .bool false, .slice none 0 0] 27) = w0 at *
  rintro e w1 ⟨rfl, hX1⟩
  cases hv : vldF W H n with
  | false =>
    have HOK := Lib.hid hv
    obtain ⟨⟨d0, d1, d2, d3⟩, f0, f1, f2, f3⟩ := block4 (hX1.block b1)
    obtain ⟨⟨e0, e1, e2, e3⟩, g0, g1, g2, g3⟩ := block4 (hX1.block b2)
    have HE := Lib.hid (((hX.trans hX1).fin4 (q := w.heap.size + 1) (by omega) (.int .i64 0) (.int .i64 0) (.bool false) (.slice none 0 0)).fin4 (q := w.heap.size + 2) (by omega) (.int .i64 0) (.int .i64 0) (.bool false) (.slice none 0 0))
    clear hX hX1 b0 b1 b2 hA hA1 hv hz
    go_wp2
    refine bodyPost_ret (v := .tuple #[.agg #[.int .i64 0, .int .i64 0, .bool false, .slice none 0 0], .agg #[.int .i64 0, .int .i64 0, .bool false, .slice none 0 0], .bool false]) ?_ rfl (keepFF_no HOK.out (newFF_none HE.out))
    simp only [results, Try.results37]
    go_simp
  | true =>
    have HOK := Lib.hid hv
    obtain ⟨Wn, Hn, rfl, rfl, k1, k2, k3, k4, hnn, hn256⟩ := vldF_facts hv
    have hM : (Wn : Int) * Hn = n := by rw [hnn, Int.natCast_mul, Int.mul_comm]
    have hn1 : 0 < n := by rw [hnn]; exact Nat.mul_pos (by omega) (by omega)
    obtain ⟨b, o, rfl⟩ := hA.starts (i := 0) (by simp; omega)
    have HNN := Lib.hid hnn
    have HV := Lib.hid hv
    have HZ := Lib.hid hz
    have HA := Lib.hid (hA1.ext hX1)
    clear hv hnn hA hA1 hz
    obtain ⟨⟨c0, c1, c2, c3⟩, _⟩ := block4 (hX1.block b0)
    go_wp2_with fail
    refine (l02New_any Wn Hn R _).mono ?_
    rintro e w2 ⟨bb, rfl, hX2, hbb, hO⟩
    have hXa := (Ext.refl w2).alloc (.cells #[.int .i64 Wn, .int .i64 Hn, .bool R, .slice (some ⟨bb, 0, none⟩) 0 0] 27)
    have bq := heap_new w2 (.cells #[.int .i64 Wn, .int .i64 Hn, .bool R, .slice (some ⟨bb, 0, none⟩) 0 0] 27)
    have hbl := (hO.lt bb (by simp [Value.ownBlock])).2
    have hr2 : w.heap.size + 2 < w1.heap.size := lt_of_block (hX1.block b2)
    have hw : w.heap.size ≤ w1.heap.size := (hX.trans hX1).size
    have HP := Lib.hid (hX1.block b0)
    have HX := Lib.hid (hX.trans hX1)
    have hX2a := hX2.trans hXa
    have hq1 : w1.heap.size ≤ w2.heap.size := hX2.size
    have P0 := hX2a.block (hX1.block b0)
    have Z1 := hX2a.block (hX1.block b1)
    have Z2 := hX2a.block (hX1.block b2)
    have O1 := ownsRow_ext hO hXa
    clear c0 c1 c2 c3
    obtain ⟨⟨c0, c1, c2, c3⟩, _⟩ := block4 P0
    clear hO hX hX1 hX2 hXa b0 b1 b2
    go_wp2_with fail
    refine (l02New_any Wn Hn R _).mono ?_
    generalize hw2q : w2.alloc (.cells #[.int .i64 Wn, .int .i64 Hn, .bool R, .slice (some ⟨bb, 0, none⟩) 0 0] 27) = w2' at *
    have hsz2 : w2'.heap.size = w2.heap.size + 1 := by rw [← hw2q]; simp only [World.alloc, Array.size_push]
    clear hw2q
    rintro e w3 ⟨bd, rfl, hX3, hbd, hO3⟩
    have hXb := (Ext.refl w3).alloc (.cells #[.int .i64 Wn, .int .i64 Hn, .bool R, .slice (some ⟨bd, 0, none⟩) 0 0] 27)
    have bq2 := heap_new w3 (.cells #[.int .i64 Wn, .int .i64 Hn, .bool R, .slice (some ⟨bd, 0, none⟩) 0 0] 27)
    have hX3b := hX3.trans hXb
    have hq12 : w3.heap.size ≠ w2.heap.size := by have := hX3.size; omega
    have hq2 : w1.heap.size ≤ w3.heap.size := by have := hX3.size; omega
    have F0 : FillT w1 (w.heap.size + 1) (w.heap.size + 2) w2.heap.size w3.heap.size Wn Hn R [] [] (w3.alloc (.cells #[.int .i64 Wn, .int .i64 Hn, .bool R, .slice (some ⟨bd, 0, none⟩) 0 0] 27)) 0 0 :=
      ⟨hX2a.trans hX3b, hX3b.block Z1, hX3b.block Z2, _, 0, _, 0, hX3b.block bq, bq2, ownsRow_ext O1 hX3b, ownsRow_mono (ownsRow_ext hO3 hXb) (by omega), fun g h1 h2 => by
        simp only [Value.ownBlock, Option.some.injEq] at h1 h2
        omega⟩
    clear hX2a hX3 hXb hX3b P0 Z1 Z2 O1 hO3 bq bq2 hbb hbd c0 c1 c2 c3 hsz2 hbl
    go_wp2
    generalize w3.alloc (.cells #[.int .i64 Wn, .int .i64 Hn, .bool R, .slice (some ⟨bd, 0, none⟩) 0 0] 27) = w4 at *
    generalize w2.heap.size = q1 at *
    generalize w3.heap.size = q2 at *
    go_loopw [7] (fun i wr => ∃ (k : Nat) (xs ys : List Nat), k ≤ n ∧ i = .int .i64 k ∧ fas xs = gridF Wn (slopeXG Wn Hn R (fas zs)) k ∧ fas ys = gridF Wn (slopeYG Wn Hn R (fas zs)) k ∧ FillT w1 (w.heap.size + 1) (w.heap.size + 2) q1 q2 Wn Hn R xs ys wr k k) (fun i _ => n - (intOf i).toNat)
    case atStart => exact ⟨0, [], [], Nat.zero_le _, rfl, rfl, rfl, F0⟩
    case round =>
      obtain ⟨k, xs, ys, hk, rfl, hxs, hys, hF⟩ := hrel
      clear F0
      have HXS := Lib.hid hxs
      have HYS := Lib.hid hys
      clear hxs hys
      by_cases hlt : k < n
      · have hu2 : k % Wn < Wn := Nat.mod_lt _ (by omega)
        have hv2 : k / Wn < Hn := Nat.div_lt_of_lt_mul (by rw [Nat.mul_comm]; have := HNN.out; omega)
        have HGX := Lib.hid (gridF_next Wn (slopeXG Wn Hn R (fas zs)) k)
        have HGY := Lib.hid (gridF_next Wn (slopeYG Wn Hn R (fas zs)) k)
        have hu := tmodF_nat k Wn
        have hv := tdivF_nat k Wn
        have hne : ¬ Wn = 0 := by omega
        generalize k % Wn = u at *
        generalize k / Wn = v at *
        obtain ⟨hX, hR1, hR2, a', c', b', d', hB1, hB2, hO1, hO2, hap⟩ := hF
        have hP := hX.block HP.out
        obtain ⟨⟨c0, c1, c2, c3⟩, _⟩ := block4 hP
        have HA2 := Lib.hid (HA.out.ext hX)
        go_wp2_with fail
        refine region_grow_tail 12 (C := Ext wr) (K := fun f args V _ => args = #[.pointer (some ⟨w.heap.size, 0, none⟩), .int .i64 u, .int .i64 v] → ∃ r, V = .float .f32 r ∧ fa .f32 r = slopeXG Wn Hn R (fas zs) u v) ⟨fun _ _ h k => h.trans k, fun _ _ _ _ _ h _ => h⟩ (by kernel_rfl) (by kernel_rfl) ((Ext.refl wr).drew) ?_
        simp only [List.take_succ_cons, List.take_zero, List.drop_succ_cons, List.drop_zero]
        iterate 10 (refine grow_q rfl ?_; apply Exists.intro; refine ⟨fun u' hu' _ => ?_, ?_⟩; focus (obtain ⟨⟨c0, c1, c2, c3⟩, _⟩ := block4 (hu'.block hP); obtain ⟨⟨e0, e1, e2, e3⟩, _⟩ := block4 (hu'.block hB1); go_simp; rfl))
        refine grow_cf 80 .f32 rfl ⟨#[.pointer (some ⟨w.heap.size, 0, none⟩), .int .i64 u, .int .i64 v], fun u' => ?_, _, fun u' hu' _ => l02SlopeX_any _ Wn Hn u v R b o n c zs (fas zs) HZ.out rfl HV.out ⟨by omega, by omega⟩ ⟨by omega, by omega⟩ u' (FldAt.box (hu'.block hP)) (HA2.out.ext hu'), fun V u' => ⟨fun h => h rfl, fun h0 => fun _ => h0⟩, fun z hz' => ?_⟩
        · go_simp
          all_goals (first | done | ((have hvw := wrapS (n := (v : Int)) (by omega) (by omega)); ((try simp only [hu, hv, hvw]) <;> ((repeat' apply And.intro) <;> first | rfl | exact wrapS (by omega) (by omega)))))
        refine grow_newB (mk := fun b => .slice (some ⟨b, 0, none⟩) 1 1) (ob := .cells #[.float .f32 z] 30) wr.heap.size rfl (fun b b' h => by simpa using h) (fun u hu => hu.size) (fun u _ _ => ?_) (fun nb hnb => ?_)
        · go_simp
        refine grow_nil (fun w5 hw5 hh => ?_)
        obtain ⟨_, hb3⟩ := hh
        have HZV1 := Lib.hid hz'
        clear hz'
        have HXu := Lib.hid (hX.trans hw5)
        have HR1u := Lib.hid (hw5.block hR1)
        have HR2u := Lib.hid (hw5.block hR2)
        have HB1u := Lib.hid (hw5.block hB1)
        have HB2u := Lib.hid (hw5.block hB2)
        have HO1u := Lib.hid (ownsRow_ext hO1 hw5)
        have HO2u := Lib.hid (ownsRow_ext hO2 hw5)
        have HAP := Lib.hid hap
        clear hX hP hR1 hR2 hB1 hB2 hO1 hO2 hw5 c0 c1 c2 c3 hap HA2
        have HU := Lib.hid HXu.out.size
        go_simp
        go_wp2_with (at_builtin; refine wpList_append_apart rfl _ _ 22 rfl w1.heap.size 30 i0 (.float .f32 0) 4 Try.underlying22 hi hz0 hz1 hz2 rfl (.slice a' k c') k (flts xs) rfl HO1u.out ⟨nb, 0, none⟩ 1 1 [.float .f32 z] rfl rfl ?c1 ?c2 ?c3 ?c4 ?c5 ?_)
        case c1 => exact cell_one_at hb3
        case c2 => intro u hu; simp at hu; subst hu; rfl
        case c3 => unfold maxLen; omega
        case c4 => omega
        case c5 => exact HU.out
        intro v' w6 hown hg hnew
        obtain ⟨a2, c2', rfl⟩ := ownsRow_shape hown
        have hb4 := (appended HXu.out HO1u.out hg).2 (by decide) HB1u.out
        obtain ⟨⟨_, _, _, c3⟩, _, _, _, f3⟩ := block4 hb4
        clear hb4
        have HF := Lib.hid (FillT.push (z := z) HXu.out (show w.heap.size + 1 < w1.heap.size by omega) (show w.heap.size + 2 < w1.heap.size by omega) hq1 hq12 HR1u.out HR2u.out HB1u.out HB2u.out HO1u.out HO2u.out HAP.out hown hg hnew)
        have hcg := HXS.out
        clear hown hg hnew HXu HR1u HR2u HB1u HB2u HO1u HO2u HAP HU hb3
        go_wp2_with fail
        generalize w6.setCell ⟨q1, 3, none⟩ (.slice a2 (k + 1) c2') = wr2 at *
        clear c3 f3
        have HZX := Lib.hid HZV1.out
        obtain ⟨hX, hR1, hR2, a', c', b', d', hB1, hB2, hO1, hO2, hap⟩ := HF.out
        clear HF HZV1 hcg
        rename_i _ zx
        have hP := hX.block HP.out
        obtain ⟨⟨c0, c1, c2, c3⟩, _⟩ := block4 hP
        have HA2 := Lib.hid (HA.out.ext hX)
        go_wp2_with fail
        refine region_grow_tail 12 (C := Ext wr2) (K := fun f args V _ => args = #[.pointer (some ⟨w.heap.size, 0, none⟩), .int .i64 u, .int .i64 v] → ∃ r, V = .float .f32 r ∧ fa .f32 r = slopeYG Wn Hn R (fas zs) u v) ⟨fun _ _ h k => h.trans k, fun _ _ _ _ _ h _ => h⟩ (by kernel_rfl) (by kernel_rfl) ((Ext.refl wr2).drew) ?_
        simp only [List.take_succ_cons, List.take_zero, List.drop_succ_cons, List.drop_zero]
        iterate 10 (refine grow_q rfl ?_; apply Exists.intro; refine ⟨fun u' hu' _ => ?_, ?_⟩; focus (obtain ⟨⟨c0, c1, c2, c3⟩, _⟩ := block4 (hu'.block hP); obtain ⟨⟨e0, e1, e2, e3⟩, _⟩ := block4 (hu'.block hB2); go_simp; rfl))
        refine grow_cf 81 .f32 rfl ⟨#[.pointer (some ⟨w.heap.size, 0, none⟩), .int .i64 u, .int .i64 v], fun u' => ?_, _, fun u' hu' _ => l02SlopeY_any _ Wn Hn u v R b o n c zs (fas zs) HZ.out rfl HV.out ⟨by omega, by omega⟩ ⟨by omega, by omega⟩ u' (FldAt.box (hu'.block hP)) (HA2.out.ext hu'), fun V u' => ⟨fun h => h rfl, fun h0 => fun _ => h0⟩, fun z hz' => ?_⟩
        · go_simp
          all_goals (first | done | ((have hvw := wrapS (n := (v : Int)) (by omega) (by omega)); ((try simp only [hu, hv, hvw]) <;> ((repeat' apply And.intro) <;> first | rfl | exact wrapS (by omega) (by omega)))))
        refine grow_newB (mk := fun b => .slice (some ⟨b, 0, none⟩) 1 1) (ob := .cells #[.float .f32 z] 30) wr2.heap.size rfl (fun b b' h => by simpa using h) (fun u hu => hu.size) (fun u _ _ => ?_) (fun nb hnb => ?_)
        · go_simp
        refine grow_nil (fun w5 hw5 hh => ?_)
        obtain ⟨_, hb3⟩ := hh
        have HZV2 := Lib.hid hz'
        clear hz'
        have HXu := Lib.hid (hX.trans hw5)
        have HR1u := Lib.hid (hw5.block hR1)
        have HR2u := Lib.hid (hw5.block hR2)
        have HB1u := Lib.hid (hw5.block hB1)
        have HB2u := Lib.hid (hw5.block hB2)
        have HO1u := Lib.hid (ownsRow_ext hO1 hw5)
        have HO2u := Lib.hid (ownsRow_ext hO2 hw5)
        have HAP := Lib.hid hap
        clear hX hP hR1 hR2 hB1 hB2 hO1 hO2 hw5 c0 c1 c2 c3 hap HA2
        have HU := Lib.hid HXu.out.size
        go_simp
        go_wp2_with (at_builtin; refine wpList_append_apart rfl _ _ 22 rfl w1.heap.size 30 i0 (.float .f32 0) 4 Try.underlying22 hi hz0 hz1 hz2 rfl (.slice b' k d') k (flts ys) rfl HO2u.out ⟨nb, 0, none⟩ 1 1 [.float .f32 z] rfl rfl ?c1 ?c2 ?c3 ?c4 ?c5 ?_)
        case c1 => exact cell_one_at hb3
        case c2 => intro u hu; simp at hu; subst hu; rfl
        case c3 => unfold maxLen; omega
        case c4 => omega
        case c5 => exact HU.out
        intro v' w6 hown hg hnew
        obtain ⟨a2, c2', rfl⟩ := ownsRow_shape hown
        have hb4 := (appended HXu.out HO2u.out hg).2 (by decide) HB2u.out
        obtain ⟨⟨_, _, _, c3⟩, _, _, _, f3⟩ := block4 hb4
        clear hb4
        have HF := Lib.hid (FillT.push (z := z) HXu.out (show w.heap.size + 2 < w1.heap.size by omega) (show w.heap.size + 1 < w1.heap.size by omega) hq2 (Ne.symm hq12) HR2u.out HR1u.out HB2u.out HB1u.out HO2u.out HO1u.out (apart_symm HAP.out) hown hg hnew).swap
        clear hown hg hnew HXu HR1u HR2u HB1u HB2u HO1u HO2u HAP HU hb3
        go_wp2
        go_roundw
        case rel =>
          refine ⟨k + 1, _, _, by omega, by go_num, ?_, ?_, HF.out⟩
          · rw [HGX.out, fas_append, HXS.out]; exact congrArg (fun q => gridF Wn (slopeXG Wn Hn R (fas zs)) k ++ [q]) HZX.out
          · rw [HGY.out, fas_append, HYS.out]; exact congrArg (fun q => gridF Wn (slopeYG Wn Hn R (fas zs)) k ++ [q]) HZV2.out
        case measure => simp [intOf]; omega
      · obtain rfl : k = n := by omega
        obtain ⟨hX, hR1, hR2, a', c', b', d', hB1, hB2, hO1, hO2, hap⟩ := hF
        have HAP := Lib.hid hap
        have hP := hX.block HP.out
        obtain ⟨⟨c0, c1, c2, c3⟩, _⟩ := block4 hP
        have HY := Lib.hid (HX.out.trans hX)
        have hsz := hX.size
        obtain ⟨HE1, HP1⟩ := stored4 (T := 27) (u0 := .int .i64 Wn) (u1 := .int .i64 Hn) (u2 := .bool R) (u3 := .slice a' k c') HY.out (by decide) (by omega) hR1 hO1
        obtain ⟨_, HP2⟩ := stored4 (T := 27) (u0 := .int .i64 Wn) (u1 := .int .i64 Hn) (u2 := .bool R) (u3 := .slice a' k c') HY.out (by decide) (by omega) hR1 hO2
        have b2'' := keepBlock4 hR2 (show w.heap.size + 2 ≠ w.heap.size + 1 by omega) (.int .i64 Wn) (.int .i64 Hn) (.bool R) (.slice a' k c')
        obtain ⟨HE2, HQ1⟩ := stored4 (T := 27) (u0 := .int .i64 Wn) (u1 := .int .i64 Hn) (u2 := .bool R) (u3 := .slice b' k d') HE1 (by decide) (by omega) b2'' HP1
        obtain ⟨_, HQ2⟩ := stored4 (T := 27) (u0 := .int .i64 Wn) (u1 := .int .i64 Hn) (u2 := .bool R) (u3 := .slice b' k d') HE1 (by decide) (by omega) b2'' HP2
        have HE' := Lib.hid HE2.drew
        have HQ1' := Lib.hid (ownsRow_ext (ownsRow_mono HQ1 hw) (Ext.refl _).drew)
        have HQ2' := Lib.hid (ownsRow_ext (ownsRow_mono HQ2 hw) (Ext.refl _).drew)
        clear HE1 HP1 HP2 HE2 HQ1 HQ2 b2''
        obtain ⟨⟨d0, d1, d2, d3⟩, _⟩ := block4 hB1
        obtain ⟨⟨e0, e1, e2, e3⟩, _⟩ := block4 hB2
        obtain ⟨_, f0, f1, f2, f3⟩ := block4 hR1
        obtain ⟨_, g0, g1, g2, g3⟩ := block4 hR2
        clear hX hP hR1 hR2 hB1 hB2 hO1 hO2 hap
        go_wp2
        go_region
        all_goals go_wp2
        all_goals refine bodyPost_ret (v := .tuple #[.agg #[.int .i64 Wn, .int .i64 Hn, .bool R, .slice a' k c'], .agg #[.int .i64 Wn, .int .i64 Hn, .bool R, .slice b' k d'], .bool true]) ?_ rfl (keepFF_yes HOK.out ⟨a', _, c', xs, b', _, d', ys, rfl, HE'.out, HQ1'.out, ?_, by omega, ?_, HQ2'.out, ?_, by omega, ?_, HAP.out⟩)
        all_goals first
          | (have h := congrArg List.length HXS.out; simpa using h)
          | (have h := congrArg List.length HYS.out; simpa using h)
          | (simp only [Int.toNat_natCast]; rw [← HNN.out]; exact HXS.out)
          | (simp only [Int.toNat_natCast]; rw [← HNN.out]; exact HYS.out)
          | (simp only [results, Try.results37]; go_simp)
end Go.Proofs.Ytllpbkmdcaikoaa
