/-
  DrawnGrains: grains grown by the closure that draws.
-/
import Derived.Test.YtaakkdcpkllgoaaDgA
namespace Go.Proofs.Ytaakkdcpkllgoaa
open Go.RowKit
set_option linter.unusedVariables false
set_option linter.unusedSimpArgs false
set_option linter.unnecessarySimpa false

@[simp] theorem size_setCellD (w : World) (a : Addr) (v : Value) : (w.setCell a v).heap.size = w.heap.size := by simp [World.setCell]

/-- A cell that is set on both sides. -/
theorem ext_set {w wr : World} {pa : Nat} {T : TypeId} {s0 u v : Value} (hb : w.heap[pa]? = some (.cells #[s0] T (0, 0))) (h : Ext (w.setCell ⟨pa, 0, none⟩ u) wr) : Ext (w.setCell ⟨pa, 0, none⟩ v) (wr.setCell ⟨pa, 0, none⟩ v) := by
  have hlt : pa < w.heap.size := (Array.getElem?_eq_some_iff.1 hb).1
  have e1 : wr.heap[pa]? = some (.cells #[u] T (0, 0)) := by
    have := cells_setCell hb (i := 0) u
    exact h.block this
  have k1 := Below.os h
  have k2 := Below.tape h
  have k3 := Below.output h
  refine Below.mk k1 k2 k3 (by simpa using h.size) fun k hk => ?_
  by_cases hkp : k = pa
  · subst hkp
    have a1 := cells_setCell hb (i := 0) v
    have a2 := cells_setCell e1 (i := 0) v
    rw [a1, a2]; rfl
  · rw [cells_setOther hkp, cells_setOther hkp]
    have := Below.block h k (by simpa using hk)
    rw [this, cells_setOther hkp]

/-- As Filling, beside a seed that has moved on to s. -/
structure FillD (w : World) (pa : Nat) (s : Int) (W H : Int) (zs : List Int) (q : Nat) (wr : World) (k : Nat) : Prop where
  ext : Ext (w.setCell ⟨pa, 0, none⟩ (.int .i64 s)) wr
  res : wr.heap[w.heap.size]? = some (.cells #[.int .i64 0, .int .i64 0, .slice none 0 0] 24 (0, 0))
  own : ∃ a c, wr.heap[q]? = some (.cells #[.int .i64 W, .int .i64 H, .slice a k c] 24 (0, 0)) ∧ wr.ownsRow w.heap.size 2 1 (.slice a k c) k (ints zs)
theorem FillD.iff {w : World} {pa : Nat} {s : Int} {W H : Int} {zs : List Int} {q : Nat} {wr : World} {k : Nat} : FillD w pa s W H zs q wr k ↔ Filling (w.setCell ⟨pa, 0, none⟩ (.int .i64 s)) W H zs q wr k := by
  constructor
  · rintro ⟨h1, h2, a, c, h3, h4⟩
    exact ⟨h1, by rw [size_setCellD]; exact h2, a, c, h3, by rw [size_setCellD]; exact h4⟩
  · rintro ⟨h1, h2, a, c, h3, h4⟩
    rw [size_setCellD] at h2 h4
    exact ⟨h1, h2, a, c, h3, h4⟩
theorem ext_set_self {w : World} {pa : Nat} {T : TypeId} {s : Value} (hb : w.heap[pa]? = some (.cells #[s] T (0, 0))) : Ext (w.setCell ⟨pa, 0, none⟩ s) w := by
  refine Below.mk rfl rfl rfl (by simp) fun k hk => ?_
  by_cases hkp : k = pa
  · subst hkp
    rw [cells_setCell hb (i := 0) s, hb]; rfl
  · rw [cells_setOther hkp]

/-- The result, with the seed moved on. -/
def newD (w : World) (pa : Nat) (s : Int) (W H : Int) (zs : List Int) (e : Ending) (w' : World) : Prop :=
  ∃ a n c, e = .returned (.agg #[.int .i64 W, .int .i64 H, .slice a n c]) ∧ Ext (w.setCell ⟨pa, 0, none⟩ (.int .i64 s)) w' ∧ w'.ownsRow w.heap.size 2 1 (.slice a n c) n (ints zs) ∧ zs.length = n ∧ n ≤ 1048576

set_option maxRecDepth 100000 in
set_option maxHeartbeats 4000000 in
theorem grown_drawn (W H s c : Int) (pa pb : Nat) (T T' : TypeId) (hs : szG W H = true) (h1 : 0 ≤ s ∧ s ≤ 2147483647) (h3 : 1 ≤ c) (h4 : c ≤ 64) (hne : pb ≠ pa) (w : World)
    (hA : w.heap[pa]? = some (.cells #[.int .i64 s] T (0, 0))) (hB : w.heap[pb]? = some (.cells #[.int .i64 c] T' (0, 0))) :
    Calls Try.prog 59 #[.int .i64 W, .int .i64 H, .func (.func 66) #[] #[.pointer (some ⟨pa, 0, none⟩), .pointer (some ⟨pb, 0, none⟩)]] w
      (newD w pa (seedN s (H.toNat * W.toNat)) W H (drawZ s c (H.toNat * W.toNat))) := by
  obtain ⟨i0, hi, hz0, hz1, hz2⟩ := info_parts info64
  obtain ⟨⟨s1, s2⟩, s3, s4⟩ := szG_iff.1 hs
  obtain ⟨Wn, rfl⟩ := Int.eq_ofNat_of_zero_le (show 0 ≤ W by omega)
  obtain ⟨Hn, rfl⟩ := Int.eq_ofNat_of_zero_le (show 0 ≤ H by omega)
  simp only [Int.toNat_natCast]
  have hm : Hn * Wn ≤ 256 := by
    have := Nat.mul_le_mul (show Hn ≤ 16 by omega) (show Wn ≤ 16 by omega); omega
  have hX := (((Ext.refl w).alloc (.cells #[.int .i64 0, .int .i64 0, .slice none 0 0] 24)).alloc (.cells #[] 2)).alloc (.cells #[.int .i64 Wn, .int .i64 Hn, .slice (some ⟨w.heap.size + 1, 0, none⟩) 0 0] 24)
  have b0 := heap_mid3 w (.cells #[.int .i64 0, .int .i64 0, .slice none 0 0] 24) (.cells #[] 2) (.cells #[.int .i64 Wn, .int .i64 Hn, .slice (some ⟨w.heap.size + 1, 0, none⟩) 0 0] 24)
  have b1 := heap_mid2 w (.cells #[.int .i64 0, .int .i64 0, .slice none 0 0] 24) (.cells #[] 2) (.cells #[.int .i64 Wn, .int .i64 Hn, .slice (some ⟨w.heap.size + 1, 0, none⟩) 0 0] 24)
  have b2 := heap_new2 w (.cells #[.int .i64 0, .int .i64 0, .slice none 0 0] 24) (.cells #[] 2) (.cells #[.int .i64 Wn, .int .i64 Hn, .slice (some ⟨w.heap.size + 1, 0, none⟩) 0 0] 24)
  have hq : w.heap.size < w.heap.size + 2 := by omega
  have F0 : FillD w pa (seedN s 0) Wn Hn (drawZ s c 0) (w.heap.size + 2) (((w.alloc (.cells #[.int .i64 0, .int .i64 0, .slice none 0 0] 24)).alloc (.cells #[] 2)).alloc (.cells #[.int .i64 Wn, .int .i64 Hn, .slice (some ⟨w.heap.size + 1, 0, none⟩) 0 0] 24)) 0 :=
    ⟨(ext_set_self hA).trans hX, b0, _, 0, b2, ownsRow_empty (by omega) b1⟩
  clear hX b0 b1 b2 hs
  have hpa := (Array.getElem?_eq_some_iff.1 hA).1
  have hpb := (Array.getElem?_eq_some_iff.1 hB).1
  have HA := Lib.hid hA
  have HB := Lib.hid hB
  clear hA hB
  go_enter Try.func59, Try.ntmps59
  go_wp2
  generalize ((w.alloc (.cells #[.int .i64 0, .int .i64 0, .slice none 0 0] 24)).alloc (.cells #[] 2)).alloc (.cells #[.int .i64 Wn, .int .i64 Hn, .slice (some ⟨w.heap.size + 1, 0, none⟩) 0 0] 24) = w2 at *
  generalize hqq : w.heap.size + 2 = q at *
  clear hqq
  go_loopw [15] (fun i wr => ∃ y : Nat, y ≤ Hn ∧ i = .int .i64 y ∧ FillD w pa (seedN s (y * Wn)) Wn Hn (drawZ s c (y * Wn)) q wr (y * Wn)) (fun i _ => Hn - (intOf i).toNat)
  case atStart => exact ⟨0, Nat.zero_le _, rfl, by simpa using F0⟩
  case round =>
    obtain ⟨y, hy, rfl, hS⟩ := hrel
    clear F0
    have HS := Lib.hid hS
    clear hS
    by_cases hlt : y < Hn
    · have hyW : y * Wn + Wn ≤ Hn * Wn := by
        have := Nat.mul_le_mul_right Wn (show y + 1 ≤ Hn by omega)
        rw [Nat.add_mul] at this; omega
      go_wp2
      go_loopw [19] (fun i wr => ∃ x : Nat, x ≤ Wn ∧ i = .int .i64 x ∧ FillD w pa (seedN s (y * Wn + x)) Wn Hn (drawZ s c (y * Wn + x)) q wr (y * Wn + x)) (fun i _ => Wn - (intOf i).toNat)
      case atStart => exact ⟨0, Nat.zero_le _, rfl, by simpa using HS.out⟩
      case round =>
        obtain ⟨x, hx, rfl, hS2⟩ := hrel
        clear HS
        by_cases hlt2 : x < Wn
        · have hkk : y * Wn + (x + 1) = y * Wn + x + 1 := by omega
          have HKK := Lib.hid hkk
          clear hkk
          obtain ⟨k, hkd⟩ : ∃ k, y * Wn + x = k := ⟨_, rfl⟩
          rw [hkd] at hS2
          have HKD := Lib.hid hkd
          have hk256 : k < 256 := by omega
          clear hkd
          obtain ⟨hX, hR, a, cc, hB, hO⟩ := hS2
          have hsb := seedN_bd h1 k
          have hA1 : wr.heap[pa]? = some (.cells #[.int .i64 (seedN s k)] T (0, 0)) := hX.block (cells_setCell HA.out (i := 0) (.int .i64 (seedN s k)))
          have hB1 : wr.heap[pb]? = some (.cells #[.int .i64 c] T' (0, 0)) := hX.block (by rw [cells_setOther hne]; exact HB.out)
          have HP := Lib.hid (drawZ_succ s c k)
          have HN : Hid (seedN s (k + 1) = nxtS (seedN s k)) := rfl
          generalize seedN s k = sk at *
          have hwd := (Ext.refl wr).drew
          have hcallF := drawn1_any x y sk c pa pb hsb.1 hsb.2 h3 h4 hne wr.drew (block1 (hwd.block hA1)).1 (block1 (hwd.block hA1)).2 (block1 (hwd.block hB1)).1
          generalize nxtS sk / 65536 % c = zv at *
          generalize nxtS sk = sn at *
          have hXd := ext_set (v := .int .i64 sn) HA.out (hX.drew)
          have hqa : q ≠ pa := by omega
          have hB3 : (wr.drew.setCell ⟨pa, 0, none⟩ (.int .i64 sn)).heap[q]? = some (.cells #[.int .i64 Wn, .int .i64 Hn, .slice a k cc] 24 (0, 0)) := by rw [cells_setOther hqa]; exact hwd.block hB
          have hR3 : (wr.drew.setCell ⟨pa, 0, none⟩ (.int .i64 sn)).heap[w.heap.size]? = some (.cells #[.int .i64 0, .int .i64 0, .slice none 0 0] 24 (0, 0)) := by rw [cells_setOther (by omega)]; exact hwd.block hR
          have hO3 := ownsRow_setCell_below (ownsRow_ext hO hwd) (a := ⟨pa, 0, none⟩) hpa (.int .i64 sn)
          have hB2 := hwd.block hB
          generalize wr.drew.setCell ⟨pa, 0, none⟩ (.int .i64 sn) = u1 at *
          obtain ⟨⟨_, _, c2⟩, _⟩ := block3 hB2
          obtain ⟨⟨_, _, d2⟩, _⟩ := block3 hB3
          have hY := (Ext.refl u1).alloc (.cells #[.int .i64 zv] 2)
          obtain ⟨⟨_, _, d2'⟩, _⟩ := block3 (hY.block hB3)
          have HF := Lib.hid hcallF
          go_wp2_with fail
          refine wp_region_any (by kernel_rfl) ?_
          change wpAny _ _ _ _ _ _ _ wr.drew
          clear hB hR hO hX hA1 hB1 hB2 hwd hcallF
          generalize wr.drew = wd at *
          refine wpAny_take (i := 0) (v := ?_) rfl (by kernel_rfl) (by kernel_rfl) (by kernel_rfl) (fun _ _ _ h => h) (Or.inl ⟨by rfl, ?_⟩) ?_
          rotate_left
          · intro w; go_simp
            rfl
          refine wpAny_take (i := 2) (v := ?_) rfl (by kernel_rfl) (by kernel_rfl) (by kernel_rfl) (fun _ _ _ h => h) (Or.inl ⟨by rfl, ?_⟩) ?_
          rotate_left
          · intro w; go_simp
            rfl
          refine wpAny_take (i := 3) (v := ?_) rfl (by kernel_rfl) (by kernel_rfl) (by kernel_rfl) (fun _ _ _ h => h) (Or.inl ⟨by rfl, ?_⟩) ?_
          rotate_left
          · intro w; go_simp
            rfl
          refine wpAny_take (i := 4) (v := ?_) rfl (by kernel_rfl) (by kernel_rfl) (by kernel_rfl) (fun _ _ _ h => h) (Or.inl ⟨by rfl, ?_⟩) ?_
          rotate_left
          · intro w; go_simp
            rfl
          have hb3 := heap_new u1 (.cells #[.int .i64 zv] 2)
          have HXY := Lib.hid (hXd.trans hY)
          have HRY := Lib.hid (hY.block hR3)
          have HBY := Lib.hid (hY.block hB3)
          have HOY := Lib.hid (ownsRow_ext hO3 hY)
          clear hXd hB3 hR3 hO3 hY
          refine wpAny_ready (rs := [1, 5]) (by kernel_rfl) (by simp) (AllReady.cons rfl (fun K hK => ?_) (AllReady.cons rfl (fun K hK => ?_) AllReady.nil))
          · go_simp
            refine hK _ _ ?_
            clear hK K
            refine wpAny_ready (rs := [5]) (by kernel_rfl) (by simp) (AllReady.cons rfl (fun K hK => ?_) AllReady.nil)
            go_simp
            refine HF.out.mono ?_
            rintro e w' ⟨rfl, hu⟩
            rw [hu]
            clear hu w'
            go_simp
            refine hK _ _ ?_
            clear hK K
            refine wpAny_ready (rs := [6]) (by kernel_rfl) (by simp) (AllReady.cons rfl (fun K hK => ?_) AllReady.nil)
            go_simp
            refine hK _ _ ?_
            clear hK K
            refine wpAny_of_seq _ 7 _ _ _ (fun j => ?_) (by kernel_rfl) ?_
            · rcases j with _ | _ | _ | j
              · rfl
              · rfl
              · rfl
              · exact (List.getElem?_eq_none (by simp)).trans (Array.getElem?_eq_none (by simp; omega)).symm
            clear HF c2 d2 d2'
            have HU := Lib.hid HXY.out.size
            generalize hb : u1.heap.size = b at *
            clear hb
            generalize u1.alloc (.cells #[.int .i64 zv] 2) = u2 at *
            go_simp
            go_wp2_with (at_builtin; refine wpList_append_own _ rfl _ _ 22 rfl w.heap.size 2 i0 (.int .i64 0) 1 8 Try.underlying22 hi hz0 hz1 hz2 rfl (by decide) (.slice a k cc) k (ints (drawZ s c k)) rfl HOY.out ⟨b, 0, none⟩ 1 1 [.int .i64 zv] rfl rfl ?c1 ?c2 ?c3 ?c4 ?c5 ?_)
            case c1 => exact cell_one_at hb3
            case c2 => intro u hu; simp at hu; subst hu; rfl
            case c3 => unfold maxLen; omega
            case c4 => omega
            case c5 => simpa using HU.out
            intro v' w4 hown hg _
            obtain ⟨a', c', rfl⟩ := ownsRow_shape hown
            have HOWN := Lib.hid hown
            have HG := Lib.hid hg
            clear hown hg
            have hsz : (w.setCell ⟨pa, 0, none⟩ (.int .i64 sn)).heap.size = w.heap.size := size_setCellD _ _ _
            have HFP : Hid (FillD w pa sn Wn Hn (drawZ s c (k + 1)) q (w4.setCell ⟨q, 2, none⟩ (.slice a' (k + 1) c')) (k + 1)) := by
              rw [Hid, FillD.iff, HP.out]
              exact Filling.push HXY.out (by rw [hsz]; exact hq) (by rw [hsz]; exact HRY.out) HBY.out (by rw [hsz]; exact HOY.out) (by rw [hsz]; exact HOWN.out) HG.out
            have hb4 := Filling.cellAt HXY.out HBY.out (by rw [hsz]; exact HOY.out) HG.out
            obtain ⟨⟨_, _, c2⟩, _, _, f2⟩ := block3 hb4
            clear hb4 hsz hb3
            go_wp2
            go_roundw
            case rel => exact ⟨x + 1, by omega, by go_num, by rw [HKK.out, HKD.out, HN.out]; exact HFP.out⟩
            case measure => simp [intOf]; omega
          · go_simp
            refine HF.out.mono ?_
            rintro e w' ⟨rfl, hu⟩
            rw [hu]
            clear hu w'
            go_simp
            refine hK _ _ ?_
            clear hK K
            refine wpAny_ready (rs := [1, 6]) (by kernel_rfl) (by simp) (AllReady.cons rfl (fun K hK => ?_) (AllReady.cons rfl (fun K hK => ?_) AllReady.nil))
            · go_simp
              refine hK _ _ ?_
              clear hK K
              refine wpAny_ready (rs := [6]) (by kernel_rfl) (by simp) (AllReady.cons rfl (fun K hK => ?_) AllReady.nil)
              go_simp
              refine hK _ _ ?_
              clear hK K
              refine wpAny_of_seq _ 7 _ _ _ (fun j => ?_) (by kernel_rfl) ?_
              · rcases j with _ | _ | _ | j
                · rfl
                · rfl
                · rfl
                · exact (List.getElem?_eq_none (by simp)).trans (Array.getElem?_eq_none (by simp; omega)).symm
              clear HF c2 d2 d2'
              have HU := Lib.hid HXY.out.size
              generalize hb : u1.heap.size = b at *
              clear hb
              generalize u1.alloc (.cells #[.int .i64 zv] 2) = u2 at *
              go_simp
              go_wp2_with (at_builtin; refine wpList_append_own _ rfl _ _ 22 rfl w.heap.size 2 i0 (.int .i64 0) 1 8 Try.underlying22 hi hz0 hz1 hz2 rfl (by decide) (.slice a k cc) k (ints (drawZ s c k)) rfl HOY.out ⟨b, 0, none⟩ 1 1 [.int .i64 zv] rfl rfl ?c1 ?c2 ?c3 ?c4 ?c5 ?_)
              case c1 => exact cell_one_at hb3
              case c2 => intro u hu; simp at hu; subst hu; rfl
              case c3 => unfold maxLen; omega
              case c4 => omega
              case c5 => simpa using HU.out
              intro v' w4 hown hg _
              obtain ⟨a', c', rfl⟩ := ownsRow_shape hown
              have HOWN := Lib.hid hown
              have HG := Lib.hid hg
              clear hown hg
              have hsz : (w.setCell ⟨pa, 0, none⟩ (.int .i64 sn)).heap.size = w.heap.size := size_setCellD _ _ _
              have HFP : Hid (FillD w pa sn Wn Hn (drawZ s c (k + 1)) q (w4.setCell ⟨q, 2, none⟩ (.slice a' (k + 1) c')) (k + 1)) := by
                rw [Hid, FillD.iff, HP.out]
                exact Filling.push HXY.out (by rw [hsz]; exact hq) (by rw [hsz]; exact HRY.out) HBY.out (by rw [hsz]; exact HOY.out) (by rw [hsz]; exact HOWN.out) HG.out
              have hb4 := Filling.cellAt HXY.out HBY.out (by rw [hsz]; exact HOY.out) HG.out
              obtain ⟨⟨_, _, c2⟩, _, _, f2⟩ := block3 hb4
              clear hb4 hsz hb3
              go_wp2
              go_roundw
              case rel => exact ⟨x + 1, by omega, by go_num, by rw [HKK.out, HKD.out, HN.out]; exact HFP.out⟩
              case measure => simp [intOf]; omega
            · go_simp
              refine hK _ _ ?_
              clear hK K
              refine wpAny_ready (rs := [1]) (by kernel_rfl) (by simp) (AllReady.cons rfl (fun K hK => ?_) AllReady.nil)
              go_simp
              refine hK _ _ ?_
              clear hK K
              refine wpAny_of_seq _ 7 _ _ _ (fun j => ?_) (by kernel_rfl) ?_
              · rcases j with _ | _ | _ | j
                · rfl
                · rfl
                · rfl
                · exact (List.getElem?_eq_none (by simp)).trans (Array.getElem?_eq_none (by simp; omega)).symm
              clear HF c2 d2 d2'
              have HU := Lib.hid HXY.out.size
              generalize hb : u1.heap.size = b at *
              clear hb
              generalize u1.alloc (.cells #[.int .i64 zv] 2) = u2 at *
              go_simp
              go_wp2_with (at_builtin; refine wpList_append_own _ rfl _ _ 22 rfl w.heap.size 2 i0 (.int .i64 0) 1 8 Try.underlying22 hi hz0 hz1 hz2 rfl (by decide) (.slice a k cc) k (ints (drawZ s c k)) rfl HOY.out ⟨b, 0, none⟩ 1 1 [.int .i64 zv] rfl rfl ?c1 ?c2 ?c3 ?c4 ?c5 ?_)
              case c1 => exact cell_one_at hb3
              case c2 => intro u hu; simp at hu; subst hu; rfl
              case c3 => unfold maxLen; omega
              case c4 => omega
              case c5 => simpa using HU.out
              intro v' w4 hown hg _
              obtain ⟨a', c', rfl⟩ := ownsRow_shape hown
              have HOWN := Lib.hid hown
              have HG := Lib.hid hg
              clear hown hg
              have hsz : (w.setCell ⟨pa, 0, none⟩ (.int .i64 sn)).heap.size = w.heap.size := size_setCellD _ _ _
              have HFP : Hid (FillD w pa sn Wn Hn (drawZ s c (k + 1)) q (w4.setCell ⟨q, 2, none⟩ (.slice a' (k + 1) c')) (k + 1)) := by
                rw [Hid, FillD.iff, HP.out]
                exact Filling.push HXY.out (by rw [hsz]; exact hq) (by rw [hsz]; exact HRY.out) HBY.out (by rw [hsz]; exact HOY.out) (by rw [hsz]; exact HOWN.out) HG.out
              have hb4 := Filling.cellAt HXY.out HBY.out (by rw [hsz]; exact HOY.out) HG.out
              obtain ⟨⟨_, _, c2⟩, _, _, f2⟩ := block3 hb4
              clear hb4 hsz hb3
              go_wp2
              go_roundw
              case rel => exact ⟨x + 1, by omega, by go_num, by rw [HKK.out, HKD.out, HN.out]; exact HFP.out⟩
              case measure => simp [intOf]; omega
        · obtain rfl : x = Wn := by omega
          have HS2 := Lib.hid hS2
          clear hS2
          go_wp2
          go_roundw
          case rel => exact ⟨y + 1, by omega, by go_num, by rw [Nat.add_mul, Nat.one_mul]; exact HS2.out⟩
          case measure => simp [intOf]; omega
    · obtain rfl : y = Hn := by omega
      obtain ⟨hX, hR, a, cc, hB, hO⟩ := HS.out
      clear HS
      obtain ⟨⟨c0, c1, c2⟩, _⟩ := block3 hB
      obtain ⟨⟨d0, d1, d2⟩, f0, f1, f2⟩ := block3 hR
      have hsz : (w.setCell ⟨pa, 0, none⟩ (.int .i64 (seedN s (y * Wn)))).heap.size = w.heap.size := size_setCellD _ _ _
      obtain ⟨HE, HO⟩ := stored3 (e := 2) (T := 24) (u0 := .int .i64 Wn) (u1 := .int .i64 y) (u2 := .slice a (y * Wn) cc) hX (by decide) (Nat.le_refl _) (by rw [hsz]; exact hR) (by rw [hsz]; exact hO)
      rw [hsz] at HE HO
      have HE' := Lib.hid HE
      have HO' := Lib.hid HO
      have HRR := Lib.hid hm
      clear hX hR hB hO HE HO hsz hm
      go_wp2
      refine bodyPost_ret (v := .agg #[.int .i64 Wn, .int .i64 y, .slice a (y * Wn) cc]) ?_ rfl ⟨a, _, cc, rfl, HE'.out, HO'.out, drawZ_length _ _ _, by have := HRR.out; omega⟩
      simp only [results, Try.results59]
      go_simp
end Go.Proofs.Ytaakkdcpkllgoaa
