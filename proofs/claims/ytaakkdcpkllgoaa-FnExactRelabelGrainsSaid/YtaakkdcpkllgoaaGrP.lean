/-
  RelabelGrains, by the program and by the reference.
-/
import Derived.Test.YtaakkdcpkllgoaaGrE
import Derived.Test.YtaakkdcpkllgoaaGrG
namespace Go.Proofs.Ytaakkdcpkllgoaa
open Go.RowKit
set_option linter.unusedVariables false
set_option linter.unusedSimpArgs false
set_option linter.unnecessarySimpa false

def relOk (W H : Int) (zs : List Int) (m : Nat) (ls : List Int) : Bool := vldG W H zs && ((m : Int) == 64) && allIn 0 63 ls
def relG (W H : Int) (zs ls : List Int) (u v : Int) : Int := ls[(zs[(cellF W H u v).toNat]?.getD 0).toNat]?.getD 0
def relZ (W H : Int) (zs ls : List Int) : List Int := gridV W.toNat (relG W H zs ls) (H.toNat * W.toNat)
theorem cellF_natG {Wn Hn k : Nat} (hW : 1 ≤ Wn) (h : k < Hn * Wn) : (cellF Wn Hn ((k % Wn : Nat) : Int) ((k / Wn : Nat) : Int)).toNat = k := by
  have h1 : k % Wn < Wn := Nat.mod_lt _ (by omega)
  have h2 : k / Wn < Hn := Nat.div_lt_of_lt_mul (by rw [Nat.mul_comm]; omega)
  rw [cellF_id (Int.natCast_nonneg _) (by exact_mod_cast h1) (Int.natCast_nonneg _) (by exact_mod_cast h2)]
  have h3 := Nat.mod_add_div k Wn
  have : ((k % Wn : Nat) : Int) + (Wn : Int) * ((k / Wn : Nat) : Int) = (k : Int) := by exact_mod_cast h3
  omega

/-- What stands while grains are filled: the box of the result at r, the grains' at q. -/
structure FillG (w : World) (r q : Nat) (W H : Int) (xs : List Int) (wr : World) (k : Nat) : Prop where
  ext : Ext w wr
  res : wr.heap[r]? = some (.cells #[.int .i64 0, .int .i64 0, .slice none 0 0] 24 (0, 0))
  own : ∃ a c, wr.heap[q]? = some (.cells #[.int .i64 W, .int .i64 H, .slice a k c] 24 (0, 0)) ∧ wr.ownsRow w.heap.size 2 1 (.slice a k c) k (ints xs)

theorem FillG.push {w : World} {r q : Nat} {W H : Int} {xs : List Int} {wr w1 : World} {k c : Nat} {a : Option Addr} {z : Int} {v' : Value} (hX : Ext w wr) (hq : w.heap.size ≤ q) (hrq : r < q)
    (hR : wr.heap[r]? = some (.cells #[.int .i64 0, .int .i64 0, .slice none 0 0] 24 (0, 0)))
    (hB : wr.heap[q]? = some (.cells #[.int .i64 W, .int .i64 H, .slice a k c] 24 (0, 0)))
    (hO : wr.ownsRow w.heap.size 2 1 (.slice a k c) k (ints xs))
    (hown : w1.ownsRow w.heap.size 2 1 v' (k + 1) (ints xs ++ [.int .i64 z])) (hg : wr.grownBy w1 (Value.slice a k c).ownBlock) :
    FillG w r q W H (xs ++ [z]) (w1.setCell ⟨q, 2, none⟩ v') (k + 1) := by
  obtain ⟨a', c', rfl⟩ := ownsRow_shape hown
  obtain ⟨h1, h2⟩ := appended hX hO hg
  obtain ⟨h3, h4, h5⟩ := stored (i := 2) (u := .slice a' (k + 1) c') h1 (by decide) (by omega) (h2 (by decide) hB) hown
  refine ⟨h3, ?_, a', c', h4, ?_⟩
  · rw [cells_setOther (by omega)]; exact h2 (by decide) hR
  · rw [ints_append]; exact h5
theorem FillG.cellAt {w : World} {q : Nat} {W H : Int} {xs : List Int} {wr w1 : World} {k c : Nat} {a : Option Addr} (hX : Ext w wr)
    (hB : wr.heap[q]? = some (.cells #[.int .i64 W, .int .i64 H, .slice a k c] 24 (0, 0)))
    (hO : wr.ownsRow w.heap.size 2 1 (.slice a k c) k (ints xs)) (hg : wr.grownBy w1 (Value.slice a k c).ownBlock) :
    w1.heap[q]? = some (.cells #[.int .i64 W, .int .i64 H, .slice a k c] 24 (0, 0)) :=
  (appended hX hO hg).2 (by decide) hB

set_option maxRecDepth 100000 in
theorem rel1_any (W H u v : Int) (b o n c b2 o2 m c2 : Nat) (zs ls : List Int) (hz : zs.length = n) (hl : ls.length = m) (hm : m = 64) (hv : vldG W H zs = true) (p q : Nat) (w : World) (hA : VArr w (some ⟨b, o, none⟩) (ints zs)) (hL : VArr w (some ⟨b2, o2, none⟩) (ints ls))
    (hp : w.heap[p]? = some (.cells #[.int .i64 W, .int .i64 H, .slice (some ⟨b, o, none⟩) n c] 24 (0, 0))) (hq : w.heap[q]? = some (.cells #[.slice (some ⟨b2, o2, none⟩) m c2] 22 (0, 0))) :
    Calls Try.prog 74 #[.int .i64 u, .int .i64 v, .pointer (some ⟨q, 0, none⟩), .pointer (some ⟨p, 0, none⟩)] w fun e w' => e = .returned (.int .i64 (relG W H zs ls u v)) ∧ Ext w w' := by
  have HC := Lib.hid (fun w' (h : Ext w w') => about_any W H u v b o n c zs hz hv w' (hA.ext h))
  obtain ⟨hW, hH, hnn, ⟨hn1, hn2⟩, hb⟩ := vld_facts hv hz
  have hcb := cellF_bd u v (show 1 ≤ W by omega) (show 1 ≤ H by omega)
  obtain ⟨z0, z1⟩ := hb (cellF W H u v).toNat (by omega)
  unfold relG
  clear hz hv hA hb hnn hcb
  generalize zs[(cellF W H u v).toNat]?.getD 0 = z at *
  obtain ⟨i, rfl⟩ := Int.eq_ofNat_of_zero_le z0
  have hc := hL.ofInts i (by omega)
  rw [List.getD_eq_getElem?_getD] at hc
  simp only [Int.toNat_natCast]
  clear hL
  generalize ls[i]?.getD 0 = y at *
  subst hm
  go_enter Try.func74, Try.ntmps74
  go_wp2_with fail
  refine region_grow (C := Ext w) (K := fun _ _ V _ => V = .int .i64 i) ⟨fun _ _ h k => h.trans k, fun _ _ _ _ _ h _ => h⟩ (by kernel_rfl) (by kernel_rfl) ((Ext.refl w).drew) ?_
  iterate 4 (refine grow_q rfl ?_; apply Exists.intro; refine ⟨fun u' hu _ => ?_, ?_⟩; focus (obtain ⟨⟨c0, c1, c2⟩, _⟩ := block3 (hu.block hp); obtain ⟨d0, _⟩ := block1 (hu.block hq); go_simp; rfl))
  refine grow_c1 73 rfl ⟨#[.agg #[.int .i64 W, .int .i64 H, .slice (some ⟨b, o, none⟩) n c], .int .i64 u, .int .i64 v], fun u' => ?_, _, fun u' hu _ => HC.out u' hu, fun V u h => h, fun u => rfl, ?_⟩
  · go_simp
  have him : (i : Int) < 64 := by omega
  iterate 3 (refine grow_q rfl ?_; apply Exists.intro; refine ⟨fun u' hu _ => ?_, ?_⟩; focus (have e0 := hu.cell hc; go_simp; rfl))
  refine grow_nil (fun w2 hw _ => ?_)
  have HW := Lib.hid hw
  clear hw hp hq hc
  go_simp
  go_wp2
  go_ret
  exact ⟨rfl, HW.out⟩

theorem grown_rel (W H : Int) (b o n c b2 o2 m c2 : Nat) (zs ls : List Int) (hz : zs.length = n) (hl : ls.length = m) (hm : m = 64) (hv : vldG W H zs = true) (p q : Nat) (w : World) (hA : VArr w (some ⟨b, o, none⟩) (ints zs)) (hL : VArr w (some ⟨b2, o2, none⟩) (ints ls))
    (hp : w.heap[p]? = some (.cells #[.int .i64 W, .int .i64 H, .slice (some ⟨b, o, none⟩) n c] 24 (0, 0))) (hq : w.heap[q]? = some (.cells #[.slice (some ⟨b2, o2, none⟩) m c2] 22 (0, 0))) :
    Calls Try.prog 59 #[.int .i64 W, .int .i64 H, .func (.func 74) #[] #[.pointer (some ⟨q, 0, none⟩), .pointer (some ⟨p, 0, none⟩)]] w (newG w W H (relZ W H zs ls)) :=
  grown_any W H 74 #[.pointer (some ⟨q, 0, none⟩), .pointer (some ⟨p, 0, none⟩)] (relG W H zs ls) (vldG_iff.1 hv).1 w (fun args u => by go_simp)
    (fun u v w' h u0 u1 v0 v1 => rel1_any W H u v b o n c b2 o2 m c2 zs ls hz hl hm hv p q w' (hA.ext h) (hL.ext h) (h.block hp) (h.block hq))

set_option maxRecDepth 100000 in
theorem implRel_any (W H : Int) (a : Option Addr) (n c : Nat) (s : Option Addr) (m c2 : Nat) (zs ls : List Int) (hz : zs.length = n) (hl : ls.length = m) (hn : n ≤ 1048576) (hm : m ≤ 1048576) (w : World) (hA : VArr w a (ints zs)) (hL : VArr w s (ints ls)) :
    Calls Try.prog 31 #[.agg #[.int .i64 W, .int .i64 H, .slice a n c], .slice s m c2] w (keepH w (relOk W H zs m ls) W H (relZ W H zs ls)) := by
  have hX := (((Ext.refl w).alloc (.cells #[.int .i64 W, .int .i64 H, .slice a n c] 24)).alloc (.cells #[.slice s m c2] 22)).alloc (.cells #[.int .i64 0, .int .i64 0, .slice none 0 0] 24)
  have b0 := heap_mid3 w (.cells #[.int .i64 W, .int .i64 H, .slice a n c] 24) (.cells #[.slice s m c2] 22) (.cells #[.int .i64 0, .int .i64 0, .slice none 0 0] 24)
  have b1 := heap_mid2 w (.cells #[.int .i64 W, .int .i64 H, .slice a n c] 24) (.cells #[.slice s m c2] 22) (.cells #[.int .i64 0, .int .i64 0, .slice none 0 0] 24)
  have b2 := heap_new2 w (.cells #[.int .i64 W, .int .i64 H, .slice a n c] 24) (.cells #[.slice s m c2] 22) (.cells #[.int .i64 0, .int .i64 0, .slice none 0 0] 24)
  have hA1 := hA.ext hX
  have hL1 := hL.ext hX
  go_enter Try.func31, Try.ntmps31
  go_wp2_with fail
  refine (implValid_any W H a n c zs hz (by omega) _ hA1).mono ?_
  generalize ((w.alloc (.cells #[.int .i64 W, .int .i64 H, .slice a n c] 24)).alloc (.cells #[.slice s m c2] 22)).alloc (.cells #[.int .i64 0, .int .i64 0, .slice none 0 0] 24) = w0 at *
  rintro e w1 ⟨rfl, hX1⟩
  cases hv : vldG W H zs with
  | false =>
    have HR : Hid (relOk W H zs m ls = false) := by show _ = _; simp [relOk, hv]
    obtain ⟨⟨d0, d1, d2⟩, f0, f1, f2⟩ := block3 (hX1.block b2)
    have HE := Lib.hid ((hX.trans hX1).fin3 (q := w.heap.size + 1 + 1) (by omega) (.int .i64 0) (.int .i64 0) (.slice none 0 0))
    clear hX hX1 b0 b1 b2 hA hA1 hL hL1 hv hz hl
    go_wp2
    refine bodyPost_ret (v := .tuple #[.agg #[.int .i64 0, .int .i64 0, .slice none 0 0], .bool false]) ?_ rfl (keepH_no HR.out ⟨none, 0, 0, rfl, HE.out, World.ownsRow_nil _ _ _ _, rfl, by omega⟩)
    simp only [results, Try.results31]
    go_simp
  | true =>
    obtain ⟨x0, _⟩ := block1 (hX1.block b1)
    by_cases hm64 : m = 64
    · have e64 : ((m : Int) != 64) = false := by simp; omega
      have HM := Lib.hid hm64
      clear hm64
      go_wp2_with fail
      refine (areWithin_any s m c2 ls hl (by omega) 0 63 _ (hL1.ext hX1)).mono ?_
      rintro e w2 ⟨rfl, hX2⟩
      have hXX := hX1.trans hX2
      clear hX1 hX2 x0
      cases hal : allIn 0 63 ls with
      | false =>
        have HR : Hid (relOk W H zs m ls = false) := by show _ = _; simp [relOk, hal]
        obtain ⟨⟨d0, d1, d2⟩, f0, f1, f2⟩ := block3 (hXX.block b2)
        have HE := Lib.hid ((hX.trans hXX).fin3 (q := w.heap.size + 1 + 1) (by omega) (.int .i64 0) (.int .i64 0) (.slice none 0 0))
        clear hX hXX b0 b1 b2 hA hA1 hL hL1 hv hz hl hal
        go_wp2
        refine bodyPost_ret (v := .tuple #[.agg #[.int .i64 0, .int .i64 0, .slice none 0 0], .bool false]) ?_ rfl (keepH_no HR.out ⟨none, 0, 0, rfl, HE.out, World.ownsRow_nil _ _ _ _, rfl, by omega⟩)
        simp only [results, Try.results31]
        go_simp
      | true =>
        have HR : Hid (relOk W H zs m ls = true) := by show _ = _; simp [relOk, hv, hal, HM.out]
        have hn1 : 0 < n := by have := (vld_facts hv hz).2.2.2.1.1; omega
        obtain ⟨b, o, rfl⟩ := hA.starts (i := 0) (by simp; omega)
        obtain ⟨bl, ol, rfl⟩ := hL.starts (i := 0) (by have := HM.out; simp; omega)
        obtain ⟨⟨c0, c1, c2'⟩, _⟩ := block3 (hXX.block b0)
        have HV := Lib.hid hv
        have HZ := Lib.hid hz
        have HL := Lib.hid hl
        clear hv hz hl hal
        go_wp2_with fail
        refine (grown_rel W H b o n c bl ol m c2 zs ls HZ.out HL.out HM.out HV.out _ _ _ (hA1.ext hXX) (hL1.ext hXX) (hXX.block b0) (hXX.block b1)).mono ?_
        rintro e w4 ⟨a', n', c', rfl, hX4, hO, hl4, hle⟩
        clear c0 c1 c2'
        obtain ⟨⟨d0, d1, d2⟩, f0, f1, f2⟩ := block3 (hX4.block (hXX.block b2))
        obtain ⟨HE, HO⟩ := stored3 (T := 24) (u0 := .int .i64 W) (u1 := .int .i64 H) (u2 := .slice a' n' c') ((hX.trans hXX).trans hX4) (by decide) (by omega) (hX4.block (hXX.block b2)) (ownsRow_mono hO (hX.trans hXX).size)
        have HE' := Lib.hid HE
        have HO' := Lib.hid HO
        have HLL := Lib.hid hl4
        clear HE HO hl4 hX hXX hX4 hO b0 b1 b2 hA hA1 hL hL1
        go_wp2
        refine bodyPost_ret (v := .tuple #[.agg #[.int .i64 W, .int .i64 H, .slice a' n' c'], .bool true]) ?_ rfl (keepH_yes HR.out ⟨a', n', c', rfl, HE'.out, HO'.out, HLL.out, hle⟩)
        simp only [results, Try.results31]
        go_simp
    · have e64 : ((m : Int) != 64) = true := by simp; omega
      have HR : Hid (relOk W H zs m ls = false) := by show _ = _; simp [relOk]; intro _ h; omega
      obtain ⟨⟨d0, d1, d2⟩, f0, f1, f2⟩ := block3 (hX1.block b2)
      have HE := Lib.hid ((hX.trans hX1).fin3 (q := w.heap.size + 1 + 1) (by omega) (.int .i64 0) (.int .i64 0) (.slice none 0 0))
      clear hX hX1 b0 b1 b2 hA hA1 hL hL1 hv hz hl hm64
      go_wp2
      refine bodyPost_ret (v := .tuple #[.agg #[.int .i64 0, .int .i64 0, .slice none 0 0], .bool false]) ?_ rfl (keepH_no HR.out ⟨none, 0, 0, rfl, HE.out, World.ownsRow_nil _ _ _ _, rfl, by omega⟩)
      simp only [results, Try.results31]
      go_simp

set_option maxRecDepth 100000 in
set_option maxHeartbeats 2000000 in
theorem specRel_any (W H : Int) (a : Option Addr) (n c : Nat) (s : Option Addr) (m c2 : Nat) (zs ls : List Int) (hz : zs.length = n) (hl : ls.length = m) (hn : n ≤ 1048576) (hm : m ≤ 1048576) (w : World) (hA : VArr w a (ints zs)) (hL : VArr w s (ints ls)) :
    Calls Try.prog 29 #[.agg #[.int .i64 W, .int .i64 H, .slice a n c], .slice s m c2] w (keepH w (relOk W H zs m ls) W H (relZ W H zs ls)) := by
  obtain ⟨i0, hi, hz0, hz1, hz2⟩ := info_parts info64
  have hX := ((Ext.refl w).alloc (.cells #[.int .i64 W, .int .i64 H, .slice a n c] 24)).alloc (.cells #[.int .i64 0, .int .i64 0, .slice none 0 0] 24)
  have b0 := heap_mid1 w (.cells #[.int .i64 W, .int .i64 H, .slice a n c] 24) (.cells #[.int .i64 0, .int .i64 0, .slice none 0 0] 24)
  have b1 := heap_new1 w (.cells #[.int .i64 W, .int .i64 H, .slice a n c] 24) (.cells #[.int .i64 0, .int .i64 0, .slice none 0 0] 24)
  have hA1 := hA.ext hX
  have hL1 := hL.ext hX
  go_enter Try.func29, Try.ntmps29
  go_wp2_with fail
  refine (l04Is_any _ W H a n c zs hz (by omega) _ (block3 b0).1 hA1).mono ?_
  generalize (w.alloc (.cells #[.int .i64 W, .int .i64 H, .slice a n c] 24)).alloc (.cells #[.int .i64 0, .int .i64 0, .slice none 0 0] 24) = w0 at *
  rintro e w1 ⟨rfl, hX1⟩
  cases hv : vldG W H zs with
  | false =>
    have HR : Hid (relOk W H zs m ls = false) := by show _ = _; simp [relOk, hv]
    obtain ⟨⟨d0, d1, d2⟩, f0, f1, f2⟩ := block3 (hX1.block b1)
    have HE := Lib.hid ((hX.trans hX1).fin3 (q := w.heap.size + 1) (by omega) (.int .i64 0) (.int .i64 0) (.slice none 0 0))
    clear hX hX1 b0 b1 hA hA1 hL hL1 hv hz hl
    go_wp2
    refine bodyPost_ret (v := .tuple #[.agg #[.int .i64 0, .int .i64 0, .slice none 0 0], .bool false]) ?_ rfl (keepH_no HR.out ⟨none, 0, 0, rfl, HE.out, World.ownsRow_nil _ _ _ _, rfl, by omega⟩)
    simp only [results, Try.results29]
    go_simp
  | true =>
    by_cases hm64 : m = 64
    · have e64 : ((m : Int) != 64) = false := by simp; omega
      obtain ⟨bl, ol, rfl⟩ := hL.starts (i := 0) (by simp; omega)
      have HM := Lib.hid hm64
      clear hm64
      have HLA := Lib.hid (hL1.ext hX1)
      have HLL := Lib.hid hl
      clear hl hL hL1
      cases hal : allIn 0 63 ls with
      | false =>
        have HR : Hid (relOk W H zs m ls = false) := by show _ = _; simp [relOk, hal]
        obtain ⟨q, hq, hq1, hq2⟩ := allIn_false hal
        rw [HLL.out] at hq
        have HQ := Lib.hid hq2
        have HQ1 := Lib.hid hq1
        obtain ⟨⟨d0, d1, d2⟩, f0, f1, f2⟩ := block3 (hX1.block b1)
        have HE := Lib.hid ((hX.trans hX1).fin3 (q := w.heap.size + 1) (by omega) (.int .i64 0) (.int .i64 0) (.slice none 0 0))
        clear hX hX1 b0 b1 hA hA1 hv hz hal hq1 hq2
        go_wp2
        clear e64
        go_loopw [6] (fun i wr => ∃ k : Nat, k ≤ q ∧ i = .int .i64 k ∧ w1 = wr) (fun i _ => q - (intOf i).toNat)
        case atStart => exact ⟨0, Nat.zero_le _, rfl, by first | rfl | trivial⟩
        case round =>
          obtain ⟨k, hk, rfl, rfl⟩ := hrel
          have hlt : k < m := by omega
          have hc := HLA.out.ofInts k (by rw [HLL.out]; exact hlt)
          rw [List.getD_eq_getElem?_getD] at hc
          by_cases hkq : k < q
          · have e1 := HQ.out k hkq
            clear d0 d1 d2 f0 f1 f2
            go_wp2_with (go_at_call 55; refine (l04Label_any _ _).mono ?_; rw [e1]; rintro e w' ⟨rfl, rfl⟩)
            go_roundw
            case rel => exact ⟨k + 1, by omega, by go_num, by first | rfl | trivial⟩
            case measure => simp [intOf]; omega
          · obtain rfl : k = q := by omega
            have e1 := HQ1.out
            go_wp2_with (go_at_call 55; refine (l04Label_any _ _).mono ?_; rw [e1]; rintro e w' ⟨rfl, rfl⟩)
            refine bodyPost_ret (v := .tuple #[.agg #[.int .i64 0, .int .i64 0, .slice none 0 0], .bool false]) ?_ rfl (keepH_no HR.out ⟨none, 0, 0, rfl, HE.out, World.ownsRow_nil _ _ _ _, rfl, by omega⟩)
            simp only [results, Try.results29]
            go_simp
      | true =>
        have HR : Hid (relOk W H zs m ls = true) := by show _ = _; simp [relOk, hv, hal, HM.out]
        have HALL := Lib.hid hal
        obtain ⟨hW, hH, hnn, ⟨hn1, hn2⟩, hb⟩ := vld_facts hv hz
        have HBD := Lib.hid hb
        obtain ⟨Wn, rfl⟩ := Int.eq_ofNat_of_zero_le (show 0 ≤ W by omega)
        obtain ⟨Hn, rfl⟩ := Int.eq_ofNat_of_zero_le (show 0 ≤ H by omega)
        have hnn' : n = Hn * Wn := by
          have : ((Hn * Wn : Nat) : Int) = Wn * Hn := by rw [Int.natCast_mul, Int.mul_comm]
          omega
        have HNN := Lib.hid hnn'
        have HZ := Lib.hid hz
        obtain ⟨b, o, rfl⟩ := hA.starts (i := 0) (by simp; omega)
        have HA := Lib.hid (hA1.ext hX1)
        have HXX := Lib.hid hX
        have HX1 := Lib.hid hX1
        clear hX hX1 hA hA1 hv hz hal hb hnn hnn'
        go_wp2
        clear e64
        go_loopw [6] (fun i wr => ∃ k : Nat, k ≤ m ∧ i = .int .i64 k ∧ w1 = wr) (fun i _ => m - (intOf i).toNat)
        case atStart => exact ⟨0, Nat.zero_le _, rfl, by first | rfl | trivial⟩
        case round =>
          obtain ⟨k, hk, rfl, rfl⟩ := hrel
          by_cases hlt : k < m
          · have hc := HLA.out.ofInts k (by rw [HLL.out]; exact hlt)
            rw [List.getD_eq_getElem?_getD] at hc
            have e1 := allIn_true HALL.out (k := k) (by rw [HLL.out]; exact hlt)
            go_wp2_with (go_at_call 55; refine (l04Label_any _ _).mono ?_; rw [e1]; rintro e w' ⟨rfl, rfl⟩)
            go_roundw
            case rel => exact ⟨k + 1, by omega, by go_num, by first | rfl | trivial⟩
            case measure => simp [intOf]; omega
          · obtain rfl : k = m := by omega
            have hX1 := HX1.out
            have hX := HXX.out
            obtain ⟨⟨c0, c1, c2'⟩, _⟩ := block3 (hX1.block b0)
            go_wp2_with fail
            refine (l04New_any Wn Hn _).mono ?_
            rintro e w2 ⟨bb, rfl, hX2, hbb, hO⟩
            have hXa := (Ext.refl w2).alloc (.cells #[.int .i64 Wn, .int .i64 Hn, .slice (some ⟨bb, 0, none⟩) 0 0] 24)
            have bq := heap_new w2 (.cells #[.int .i64 Wn, .int .i64 Hn, .slice (some ⟨bb, 0, none⟩) 0 0] 24)
            have hq : w1.heap.size ≤ w2.heap.size := hX2.size
            have hr : w.heap.size + 1 < w1.heap.size := lt_of_block (hX1.block b1)
            have hw : w.heap.size ≤ w1.heap.size := (hX.trans hX1).size
            have F0 : FillG w1 (w.heap.size + 1) w2.heap.size Wn Hn [] (w2.alloc (.cells #[.int .i64 Wn, .int .i64 Hn, .slice (some ⟨bb, 0, none⟩) 0 0] 24)) 0 :=
              ⟨hX2.trans hXa, hXa.block (hX2.block (hX1.block b1)), _, 0, bq, ownsRow_ext hO hXa⟩
            have HP := Lib.hid (hX1.block b0)
            have HX := Lib.hid (hX.trans hX1)
            clear hX hX1 hX2 hXa b0 b1 bq hO hbb c0 c1 c2' HXX HX1
            go_wp2
            generalize w2.alloc (.cells #[.int .i64 Wn, .int .i64 Hn, .slice (some ⟨bb, 0, none⟩) 0 0] 24) = w3 at *
            generalize w2.heap.size = q at *
            go_loopw [8] (fun i wr => ∃ (j : Nat), j ≤ n ∧ i = .int .i64 j ∧ FillG w1 (w.heap.size + 1) q Wn Hn (gridV Wn (relG Wn Hn zs ls) j) wr j) (fun i _ => n - (intOf i).toNat)
            case atStart => exact ⟨0, Nat.zero_le _, rfl, F0⟩
            case round =>
              obtain ⟨j, hj, rfl, hF⟩ := hrel
              clear F0
              obtain ⟨hX, hR, a', c', hB, hO⟩ := hF
              have hP := hX.block HP.out
              obtain ⟨⟨c0, c1, c2'⟩, _⟩ := block3 hP
              by_cases hlt : j < n
              · have hca := (HA.out.ext hX).ofInts j (by rw [HZ.out]; exact hlt)
                rw [List.getD_eq_getElem?_getD] at hca
                obtain ⟨z0, z1⟩ := HBD.out j hlt
                have HGN : Hid (gridV Wn (relG Wn Hn zs ls) (j + 1) = gridV Wn (relG Wn Hn zs ls) j ++ [ls[(zs[j]?.getD 0).toNat]?.getD 0]) := by
                  show _ = _
                  rw [gridV_next]
                  unfold relG
                  rw [cellF_natG (by omega) (by rw [← HNN.out]; exact hlt)]
                generalize zs[j]?.getD 0 = z at *
                obtain ⟨y, rfl⟩ := Int.eq_ofNat_of_zero_le z0
                have hcb := (HLA.out.ext hX).ofInts y (by have := HLL.out; have := HM.out; omega)
                rw [List.getD_eq_getElem?_getD] at hcb
                simp only [Int.toNat_natCast] at HGN
                have hyk : y < k := by have := HM.out; omega
                generalize ls[y]?.getD 0 = z at *
                go_wp2_with fail
                refine region_grow_tail 11 (C := Ext wr) (K := fun _ _ _ _ => True) ⟨fun _ _ h k => h.trans k, fun _ _ _ _ _ h _ => h⟩ (by kernel_rfl) (by kernel_rfl) ((Ext.refl wr).drew) ?_
                simp only [List.take_succ_cons, List.take_zero, List.drop_succ_cons, List.drop_zero]
                iterate 10 (refine grow_q rfl ?_; apply Exists.intro; refine ⟨fun u' hu' _ => ?_, ?_⟩; focus (obtain ⟨⟨c0, c1, c2⟩, _⟩ := block3 (hu'.block hP); obtain ⟨⟨e0, e1, e2⟩, _⟩ := block3 (hu'.block hB); have g0 := hu'.cell hca; have g1 := hu'.cell hcb; go_simp; rfl))
                refine grow_newB (mk := fun b => .slice (some ⟨b, 0, none⟩) 1 1) (ob := .cells #[.int .i64 z] 2) wr.heap.size rfl (fun b b' h => by simpa using h) (fun u hu => hu.size) (fun u _ _ => ?_) (fun nb hnb => ?_)
                · go_simp
                refine grow_nil (fun w4 hw4 hh => ?_)
                obtain ⟨_, hb3⟩ := hh
                have HXu := Lib.hid (hX.trans hw4)
                have HRu := Lib.hid (hw4.block hR)
                have HBu := Lib.hid (hw4.block hB)
                have HOu := Lib.hid (ownsRow_ext hO hw4)
                clear hX hP hR hB hO hw4 c0 c1 c2' hca hcb
                have HU := Lib.hid HXu.out.size
                go_simp
                go_wp2_with (at_builtin; refine wpList_append_own _ rfl _ _ 22 rfl w1.heap.size 2 i0 (.int .i64 0) 1 8 Try.underlying22 hi hz0 hz1 hz2 rfl (by decide) (.slice a' j c') j (ints (gridV Wn (relG Wn Hn zs ls) j)) rfl HOu.out ⟨nb, 0, none⟩ 1 1 [.int .i64 z] rfl rfl ?c1 ?c2 ?c3 ?c4 ?c5 ?_)
                case c1 => exact cell_one_at hb3
                case c2 => intro u hu; simp at hu; subst hu; rfl
                case c3 => unfold maxLen; omega
                case c4 => omega
                case c5 => exact HU.out
                intro v' w5 hown hg _
                obtain ⟨a3, c3', rfl⟩ := ownsRow_shape hown
                have HOWN := Lib.hid hown
                have HG := Lib.hid hg
                clear hown hg
                have hb4 := FillG.cellAt HXu.out HBu.out HOu.out HG.out
                obtain ⟨⟨_, _, c2'⟩, _, _, f2⟩ := block3 hb4
                clear hb4
                go_wp2
                go_roundw
                case rel =>
                  refine ⟨j + 1, by omega, by go_num, ?_⟩
                  rw [HGN.out]
                  exact FillG.push HXu.out (by omega) (by omega) HRu.out HBu.out HOu.out HOWN.out HG.out
                case measure => simp [intOf]; omega
              · obtain rfl : j = n := by omega
                obtain ⟨⟨e0, e1, e2⟩, _⟩ := block3 hB
                obtain ⟨⟨d0, d1, d2⟩, f0, f1, f2⟩ := block3 hR
                obtain ⟨HE, HO⟩ := stored3 (w := w) (T := 24) (u0 := .int .i64 Wn) (u1 := .int .i64 Hn) (u2 := .slice a' j c') (HX.out.trans hX) (by decide) (by omega) hR (ownsRow_mono hO hw)
                have HE' := Lib.hid HE
                have HO' := Lib.hid HO
                clear hX hP hR hB hO HE HO
                go_wp2
                refine bodyPost_ret (v := .tuple #[.agg #[.int .i64 Wn, .int .i64 Hn, .slice a' j c'], .bool true]) ?_ rfl (keepH_yes HR.out ⟨a', _, c', rfl, HE'.out, ?_, ?_, by omega⟩)
                · simp only [results, Try.results29]
                  go_simp
                · have h := HO'.out
                  unfold relZ
                  simp only [Int.toNat_natCast]
                  rw [← HNN.out]
                  exact h
                · unfold relZ; rw [gridV_length]; simp only [Int.toNat_natCast]; exact HNN.out.symm
    · have e64 : ((m : Int) != 64) = true := by simp; omega
      have HR : Hid (relOk W H zs m ls = false) := by show _ = _; simp [relOk]; intro _ h; omega
      obtain ⟨⟨d0, d1, d2⟩, f0, f1, f2⟩ := block3 (hX1.block b1)
      have HE := Lib.hid ((hX.trans hX1).fin3 (q := w.heap.size + 1) (by omega) (.int .i64 0) (.int .i64 0) (.slice none 0 0))
      clear hX hX1 b0 b1 hA hA1 hL hL1 hv hz hl hm64
      go_wp2
      refine bodyPost_ret (v := .tuple #[.agg #[.int .i64 0, .int .i64 0, .slice none 0 0], .bool false]) ?_ rfl (keepH_no HR.out ⟨none, 0, 0, rfl, HE.out, World.ownsRow_nil _ _ _ _, rfl, by omega⟩)
      simp only [results, Try.results29]
      go_simp
end Go.Proofs.Ytaakkdcpkllgoaa
