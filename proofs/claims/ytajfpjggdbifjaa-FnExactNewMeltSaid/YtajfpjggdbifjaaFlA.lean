/-
  Fields made by a function of the place: 'made'; and l02New.
-/
import Derived.Test.YtajfpjggdbifjaaFld
import Derived.Test.YtajfpjggdbifjaaLate
namespace Go.Proofs.Ytajfpjggdbifjaa
open Go.RowKit
set_option linter.unusedVariables false
set_option linter.unusedSimpArgs false
set_option linter.unnecessarySimpa false

theorem Ext.fin4 {w w5 : World} {q : Nat} (hX : Ext w w5) (hq : w.heap.size ≤ q) (v0 v1 v2 v3 : Value) : Ext w ((((w5.setCell ⟨q, 0, none⟩ v0).setCell ⟨q, 1, none⟩ v1).setCell ⟨q, 2, none⟩ v2).setCell ⟨q, 3, none⟩ v3) :=
  Below.setCell (Below.setCell (Below.setCell (Below.setCell hX hq _) hq _) hq _) hq _
/-- Four stores fill a box. -/
theorem stored4 {w w1 : World} {e T : TypeId} {ca : Array Value} {B q m : Nat} {u0 u1 u2 u3 : Value} {v : Value} {xs : List Value} (hX : Ext w w1) (hT : T ≠ e) (hq : w.heap.size ≤ q) (D : w1.heap[q]? = some (.cells ca T (0, 0))) (hO : w1.ownsRow B e 1 v m xs) :
    Ext w ((((w1.setCell ⟨q, 0, none⟩ u0).setCell ⟨q, 1, none⟩ u1).setCell ⟨q, 2, none⟩ u2).setCell ⟨q, 3, none⟩ u3) ∧ ((((w1.setCell ⟨q, 0, none⟩ u0).setCell ⟨q, 1, none⟩ u1).setCell ⟨q, 2, none⟩ u2).setCell ⟨q, 3, none⟩ u3).ownsRow B e 1 v m xs := by
  have hne : ∀ {w2 : World} {ca : Array Value}, w2.heap[q]? = some (.cells ca T (0, 0)) → w2.ownsRow B e 1 v m xs → ∀ (i : Nat) (u : Value), (w2.setCell ⟨q, i, none⟩ u).ownsRow B e 1 v m xs ∧ (w2.setCell ⟨q, i, none⟩ u).heap[q]? = some (.cells (ca.setIfInBounds i u) T (0, 0)) := by
    intro w2 ca D hO i u
    refine ⟨ownsRow_setCell_other hO ?_ u, cells_setCell D u⟩
    intro hh
    rcases hO.2 with ⟨rfl, _⟩ | ⟨g, cap, cur, rfl, hb, hg, _⟩
    · simp [Value.ownBlock] at hh
    · simp only [Value.ownBlock, Option.some.injEq] at hh
      subst hh
      rw [hg] at D
      simp only [Option.some.injEq, Obj.cells.injEq] at D
      exact hT D.2.1.symm
  obtain ⟨a1, a2⟩ := hne D hO 0 u0
  obtain ⟨b1, b2⟩ := hne a2 a1 1 u1
  obtain ⟨c1, c2⟩ := hne b2 b1 2 u2
  obtain ⟨d1, d2⟩ := hne c2 c1 3 u3
  exact ⟨hX.fin4 hq u0 u1 u2 u3, d1⟩
theorem ownsRow_emptyF {w : World} {B b : Nat} {e : TypeId} (hB : B ≤ b) (hb : w.heap[b]? = some (.cells #[] e (0, 0))) : w.ownsRow B e 1 (.slice (some ⟨b, 0, none⟩) 0 0) 0 [] :=
  ⟨rfl, .inr ⟨b, 0, #[], rfl, hB, hb, Nat.le_refl _, by simp [maxLen], rfl, rfl⟩⟩

/-- The first k values of a grid, row by row. -/
def gridF (W : Nat) (g : Int → Int → Option Nat) (k : Nat) : List (Option Nat) := (List.range k).map fun i => g ((i % W : Nat) : Int) ((i / W : Nat) : Int)
@[simp] theorem gridF_length (W : Nat) (g : Int → Int → Option Nat) (k : Nat) : (gridF W g k).length = k := by simp [gridF]
theorem gridF_next (W : Nat) (g : Int → Int → Option Nat) (k : Nat) : gridF W g (k + 1) = gridF W g k ++ [g ((k % W : Nat) : Int) ((k / W : Nat) : Int)] := by
  unfold gridF
  rw [List.range_succ, List.map_append]
  simp only [List.map_cons, List.map_nil]
theorem gridF_succ {W : Nat} (g : Int → Int → Option Nat) {x y : Nat} (hx : x < W) : gridF W g (y * W + x + 1) = gridF W g (y * W + x) ++ [g x y] := by
  have h1 : (y * W + x) % W = x := by rw [Nat.mul_add_mod_self_right]; exact Nat.mod_eq_of_lt hx
  have h2 : (y * W + x) / W = y := by rw [Nat.mul_comm, Nat.mul_add_div (by omega), Nat.div_eq_of_lt hx]; rfl
  rw [gridF_next, h1, h2]
theorem gridF_get {W : Nat} (g : Int → Int → Option Nat) {k i : Nat} (h : i < k) : fat (gridF W g k) i = g ((i % W : Nat) : Int) ((i / W : Nat) : Int) := by
  simp [fat, gridF, h]
theorem gridF_congr {W : Nat} {g h : Int → Int → Option Nat} {k : Nat} (e : ∀ i, i < k → g ((i % W : Nat) : Int) ((i / W : Nat) : Int) = h ((i % W : Nat) : Int) ((i / W : Nat) : Int)) : gridF W g k = gridF W h k := by
  unfold gridF
  exact List.map_congr_left fun i hi => e i (by simpa using hi)
theorem tmodF_nat (k W : Nat) : (k : Int).tmod (W : Int) = ((k % W : Nat) : Int) := rfl
theorem tdivF_nat (k W : Nat) : (k : Int).tdiv (W : Int) = ((k / W : Nat) : Int) := rfl

/-- What stands while a field is filled: the box of the result at r, the field's at q. -/
structure FillF (w : World) (r q : Nat) (W H : Int) (R : Bool) (xs : List Nat) (wr : World) (k : Nat) : Prop where
  ext : Ext w wr
  res : wr.heap[r]? = some (.cells #[.int .i64 0, .int .i64 0, .bool false, .slice none 0 0] 26 (0, 0))
  own : ∃ a c, wr.heap[q]? = some (.cells #[.int .i64 W, .int .i64 H, .bool R, .slice a k c] 26 (0, 0)) ∧ wr.ownsRow w.heap.size 28 1 (.slice a k c) k (flts xs)

/-- One element more. -/
theorem FillF.push {w : World} {r q : Nat} {W H : Int} {R : Bool} {xs : List Nat} {wr w1 : World} {k c : Nat} {a : Option Addr} {z : Nat} {v' : Value} (hX : Ext w wr) (hq : w.heap.size ≤ q) (hrq : r < q)
    (hR : wr.heap[r]? = some (.cells #[.int .i64 0, .int .i64 0, .bool false, .slice none 0 0] 26 (0, 0)))
    (hB : wr.heap[q]? = some (.cells #[.int .i64 W, .int .i64 H, .bool R, .slice a k c] 26 (0, 0)))
    (hO : wr.ownsRow w.heap.size 28 1 (.slice a k c) k (flts xs))
    (hown : w1.ownsRow w.heap.size 28 1 v' (k + 1) (flts xs ++ [.float .f32 z])) (hg : wr.grownBy w1 (Value.slice a k c).ownBlock) :
    FillF w r q W H R (xs ++ [z]) (w1.setCell ⟨q, 3, none⟩ v') (k + 1) := by
  obtain ⟨a', c', rfl⟩ := ownsRow_shape hown
  obtain ⟨h1, h2⟩ := appended hX hO hg
  obtain ⟨h3, h4, h5⟩ := stored (i := 3) (u := .slice a' (k + 1) c') h1 (by decide) (by omega) (h2 (by decide) hB) hown
  refine ⟨h3, ?_, a', c', h4, ?_⟩
  · rw [cells_setOther (by omega)]; exact h2 (by decide) hR
  · rw [flts_append]; exact h5
/-- The box's cell in front of the store. -/
theorem FillF.cellAt {w : World} {q : Nat} {W H : Int} {R : Bool} {xs : List Nat} {wr w1 : World} {k c : Nat} {a : Option Addr} (hX : Ext w wr)
    (hB : wr.heap[q]? = some (.cells #[.int .i64 W, .int .i64 H, .bool R, .slice a k c] 26 (0, 0)))
    (hO : wr.ownsRow w.heap.size 28 1 (.slice a k c) k (flts xs)) (hg : wr.grownBy w1 (Value.slice a k c).ownBlock) :
    w1.heap[q]? = some (.cells #[.int .i64 W, .int .i64 H, .bool R, .slice a k c] 26 (0, 0)) :=
  (appended hX hO hg).2 (by decide) hB

/-- A field of one's own, alone. -/
def newF (w : World) (W H : Int) (R : Bool) (fs : List (Option Nat)) (e : Ending) (w' : World) : Prop :=
  ∃ a n c xs, e = .returned (.agg #[.int .i64 W, .int .i64 H, .bool R, .slice a n c]) ∧ Ext w w' ∧ w'.ownsRow w.heap.size 28 1 (.slice a n c) n (flts xs) ∧ xs.length = n ∧ n ≤ 1048576 ∧ fas xs = fs

def kI (b : Bool) (x : Int) : Int := if b then x else 0
def kB (b : Bool) (x : Bool) : Bool := if b then x else false
def kL (b : Bool) (fs : List (Option Nat)) : List (Option Nat) := if b then fs else []
/-- A field and whether there is one. -/
def twoF (w : World) (W H : Int) (R : Bool) (fs : List (Option Nat)) (ok : Bool) (e : Ending) (w' : World) : Prop :=
  ∃ a n c xs, e = .returned (.tuple #[.agg #[.int .i64 W, .int .i64 H, .bool R, .slice a n c], .bool ok]) ∧ Ext w w' ∧ w'.ownsRow w.heap.size 28 1 (.slice a n c) n (flts xs) ∧ xs.length = n ∧ n ≤ 1048576 ∧ fas xs = fs
/-- An answer under a condition. -/
def keepF (w : World) (ok : Bool) (W H : Int) (R : Bool) (fs : List (Option Nat)) (e : Ending) (w' : World) : Prop := twoF w (kI ok W) (kI ok H) (kB ok R) (kL ok fs) ok e w'
theorem keepF_no {w : World} {ok : Bool} {W H : Int} {R : Bool} {fs : List (Option Nat)} {e : Ending} {w' : World} (h : ok = false) (k : twoF w 0 0 false [] false e w') : keepF w ok W H R fs e w' := by
  unfold keepF; rw [h]; exact k
theorem keepF_yes {w : World} {ok : Bool} {W H : Int} {R : Bool} {fs : List (Option Nat)} {e : Ending} {w' : World} (h : ok = true) (k : twoF w W H R fs true e w') : keepF w ok W H R fs e w' := by
  unfold keepF; rw [h]; exact k
theorem twoF_none {w w' : World} (h : Ext w w') : twoF w 0 0 false [] false (.returned (.tuple #[.agg #[.int .i64 0, .int .i64 0, .bool false, .slice none 0 0], .bool false])) w' :=
  ⟨none, 0, 0, [], rfl, h, World.ownsRow_nil _ _ _ _, rfl, by omega, rfl⟩

theorem l02New_any (W H : Int) (R : Bool) (w : World) : Calls Try.prog 65 #[.int .i64 W, .int .i64 H, .bool R] w fun e w' => ∃ b, e = .returned (.agg #[.int .i64 W, .int .i64 H, .bool R, .slice (some ⟨b, 0, none⟩) 0 0]) ∧ Ext w w' ∧ w.heap.size ≤ b ∧ w'.ownsRow w.heap.size 28 1 (.slice (some ⟨b, 0, none⟩) 0 0) 0 [] := by
  have HE := Lib.hid (((Ext.refl w).alloc (.cells #[.int .i64 W, .int .i64 H, .bool R, .slice (some ⟨w.heap.size + 1, 0, none⟩) 0 0] 26)).alloc (.cells #[] 28))
  have HO := Lib.hid (ownsRow_emptyF (B := w.heap.size) (by omega) (heap_new1 w (.cells #[.int .i64 W, .int .i64 H, .bool R, .slice (some ⟨w.heap.size + 1, 0, none⟩) 0 0] 26) (.cells #[] 28)))
  go_enter Try.func65, Try.ntmps65
  go_wp2
  refine bodyPost_ret (v := .agg #[.int .i64 W, .int .i64 H, .bool R, .slice (some ⟨w.heap.size + 1, 0, none⟩) 0 0]) ?_ rfl ⟨_, rfl, HE.out, by omega, HO.out⟩
  simp only [results, Try.results65]
  go_simp

set_option maxRecDepth 100000 in
set_option maxHeartbeats 400000 in
theorem made_any (W H : Int) (R : Bool) (F : FuncId) (pre caps : Array Value) (g : Int → Int → Option Nat) (hs : szF W H = true) (w : World) (hcall : ∀ args u, Sem.run Try.prog (callFunc F args) u = .ok (.enter F args) u)
    (hF : ∀ x y w', Ext w w' → 0 ≤ x → x < W → 0 ≤ y → y < H → Calls Try.prog F (pre ++ #[.int .i64 x, .int .i64 y] ++ caps) w' (fun e w'' => ∃ r, e = .returned (.float .f32 r) ∧ fa .f32 r = g x y ∧ Ext w' w'')) :
    Calls Try.prog 76 #[.int .i64 W, .int .i64 H, .bool R, .func (.func F) pre caps] w
      (newF w W H R (gridF W.toNat g (H.toNat * W.toNat))) := by
  obtain ⟨i0, hi, hz0, hz1, hz2⟩ := info_parts info32
  obtain ⟨⟨s1, s2⟩, s3, s4⟩ := szF_iff.1 hs
  obtain ⟨Wn, rfl⟩ := Int.eq_ofNat_of_zero_le (show 0 ≤ W by omega)
  obtain ⟨Hn, rfl⟩ := Int.eq_ofNat_of_zero_le (show 0 ≤ H by omega)
  simp only [Int.toNat_natCast]
  have hm : Hn * Wn ≤ 256 := by
    have := Nat.mul_le_mul (show Hn ≤ 16 by omega) (show Wn ≤ 16 by omega); omega
  have hX := (((Ext.refl w).alloc (.cells #[.int .i64 0, .int .i64 0, .bool false, .slice none 0 0] 26)).alloc (.cells #[] 28)).alloc (.cells #[.int .i64 Wn, .int .i64 Hn, .bool R, .slice (some ⟨w.heap.size + 1, 0, none⟩) 0 0] 26)
  have b0 := heap_mid3 w (.cells #[.int .i64 0, .int .i64 0, .bool false, .slice none 0 0] 26) (.cells #[] 28) (.cells #[.int .i64 Wn, .int .i64 Hn, .bool R, .slice (some ⟨w.heap.size + 1, 0, none⟩) 0 0] 26)
  have b1 := heap_mid2 w (.cells #[.int .i64 0, .int .i64 0, .bool false, .slice none 0 0] 26) (.cells #[] 28) (.cells #[.int .i64 Wn, .int .i64 Hn, .bool R, .slice (some ⟨w.heap.size + 1, 0, none⟩) 0 0] 26)
  have b2 := heap_new2 w (.cells #[.int .i64 0, .int .i64 0, .bool false, .slice none 0 0] 26) (.cells #[] 28) (.cells #[.int .i64 Wn, .int .i64 Hn, .bool R, .slice (some ⟨w.heap.size + 1, 0, none⟩) 0 0] 26)
  have hq : w.heap.size < w.heap.size + 2 := by omega
  have F0 : FillF w w.heap.size (w.heap.size + 2) Wn Hn R [] (((w.alloc (.cells #[.int .i64 0, .int .i64 0, .bool false, .slice none 0 0] 26)).alloc (.cells #[] 28)).alloc (.cells #[.int .i64 Wn, .int .i64 Hn, .bool R, .slice (some ⟨w.heap.size + 1, 0, none⟩) 0 0] 26)) 0 :=
    ⟨hX, b0, _, 0, b2, ownsRow_emptyF (by omega) b1⟩
  clear hX b0 b1 b2 hs
  have HF := Lib.hid hF
  clear hF
  go_enter Try.func76, Try.ntmps76
  go_wp2
  generalize ((w.alloc (.cells #[.int .i64 0, .int .i64 0, .bool false, .slice none 0 0] 26)).alloc (.cells #[] 28)).alloc (.cells #[.int .i64 Wn, .int .i64 Hn, .bool R, .slice (some ⟨w.heap.size + 1, 0, none⟩) 0 0] 26) = w2 at *
  generalize hqq : w.heap.size + 2 = q at *
  clear hqq
  go_loopw [18] (fun i wr => ∃ y : Nat, y ≤ Hn ∧ i = .int .i64 y ∧ ∃ xs, fas xs = gridF Wn g (y * Wn) ∧ FillF w w.heap.size q Wn Hn R xs wr (y * Wn)) (fun i _ => Hn - (intOf i).toNat)
  case atStart => exact ⟨0, Nat.zero_le _, rfl, [], by simp [gridF, fas], by simpa using F0⟩
  case round =>
    obtain ⟨y, hy, rfl, xs, hxs, hS⟩ := hrel
    have HXS := Lib.hid hxs
    clear hxs
    clear F0
    have HS := Lib.hid hS
    clear hS
    by_cases hlt : y < Hn
    · have hyW : y * Wn + Wn ≤ Hn * Wn := by
        have := Nat.mul_le_mul_right Wn (show y + 1 ≤ Hn by omega)
        rw [Nat.add_mul] at this; omega
      go_wp2
      go_loopw [22] (fun i wr => ∃ x : Nat, x ≤ Wn ∧ i = .int .i64 x ∧ ∃ xs, fas xs = gridF Wn g (y * Wn + x) ∧ FillF w w.heap.size q Wn Hn R xs wr (y * Wn + x)) (fun i _ => Wn - (intOf i).toNat)
      case atStart => exact ⟨0, Nat.zero_le _, rfl, xs, by simpa using HXS.out, by simpa using HS.out⟩
      case round =>
        obtain ⟨x, hx, rfl, xs2, hxs2, hS2⟩ := hrel
        clear HS HXS
        have HXS2 := Lib.hid hxs2
        clear hxs2
        by_cases hlt2 : x < Wn
        · have HS2 := Lib.hid hS2
          clear hS2
          obtain ⟨hX, hR, a, c, hB, hO⟩ := HS2.out
          clear HS2
          go_wp2_with fail
          refine region_grow_tail 7 (C := Ext wr) (K := fun _ _ v _ => ∃ r, v = .float .f32 r ∧ fa .f32 r = g x y) ⟨fun _ _ h k => h.trans k, fun _ _ _ _ _ h _ => h⟩ (by kernel_rfl) (by kernel_rfl) ((Ext.refl wr).drew) ?_
          simp only [List.take_succ_cons, List.take_zero, List.drop_succ_cons, List.drop_zero]
          repeat (refine grow_q rfl ?_; apply Exists.intro; refine ⟨fun u hu _ => ?_, ?_⟩; focus (obtain ⟨⟨c0, c1, c2, c3⟩, _⟩ := block4 (hu.block hB); go_simp; rfl))
          refine grow_cf F .f32 rfl ?_
          refine ⟨pre ++ #[.int .i64 x, .int .i64 y] ++ caps, fun u => ?_, g x y, fun u hu _ => ?_, fun v u => Iff.rfl, fun r hr => ?_⟩
          · go_simp; try exact hcall _ _
          · exact HF.out x y u (hX.trans hu) (by omega) (by omega) (by omega) (by omega)
          refine grow_newB (mk := fun b => .slice (some ⟨b, 0, none⟩) 1 1) (ob := .cells #[.float .f32 r] 28) wr.heap.size rfl (fun b b' h => by simpa using h) (fun u hu => hu.size) (fun u _ _ => ?_) (fun b hb => ?_)
          · go_simp
          refine grow_nil (fun w3 hu hh => ?_)
          obtain ⟨_, hb3⟩ := hh
          have hXu := Lib.hid (hX.trans hu)
          have hRu := Lib.hid (hu.block hR)
          have hBu := Lib.hid (hu.block hB)
          have hOu := Lib.hid (ownsRow_ext hO hu)
          clear hX hR hB hO hu
          have HU := Lib.hid hXu.out.size
          have HR := Lib.hid hr
          clear hr
          go_simp
          go_wp2_with (at_builtin; refine wpList_append_own _ rfl _ _ 24 rfl w.heap.size 28 i0 (.float .f32 0) 1 4 Try.underlying24 hi hz0 hz1 hz2 rfl (by decide) (.slice a (y * Wn + x) c) (y * Wn + x) (flts xs2) rfl hOu.out ⟨b, 0, none⟩ 1 1 [.float .f32 r] rfl rfl ?c1 ?c2 ?c3 ?c4 ?c5 ?_)
          case c1 => exact cell_one_at hb3
          case c2 => intro u hu; simp at hu; subst hu; rfl
          case c3 => unfold maxLen; omega
          case c4 => omega
          case c5 => exact HU.out
          intro v' w4 hown hg _
          obtain ⟨a', c', rfl⟩ := ownsRow_shape hown
          have HOWN := Lib.hid hown
          have HG := Lib.hid hg
          clear hown hg
          have hb4 := FillF.cellAt hXu.out hBu.out hOu.out HG.out
          obtain ⟨⟨_, _, _, c3⟩, _, _, _, f3⟩ := block4 hb4
          clear hb4
          go_wp2
          go_roundw
          case rel =>
            refine ⟨x + 1, by omega, by go_num, xs2 ++ [r], ?_, ?_⟩
            · rw [← Nat.add_assoc, gridF_succ g hlt2, fas_append, HXS2.out, ← HR.out]; rfl
            · rw [← Nat.add_assoc]
              exact FillF.push hXu.out (by omega) hq hRu.out hBu.out hOu.out HOWN.out HG.out
          case measure => simp [intOf]; omega
        · obtain rfl : x = Wn := by omega
          have HS2 := Lib.hid hS2
          clear hS2
          go_wp2
          go_roundw
          case rel => exact ⟨y + 1, by omega, by go_num, xs2, by rw [Nat.add_mul, Nat.one_mul]; exact HXS2.out, by rw [Nat.add_mul, Nat.one_mul]; exact HS2.out⟩
          case measure => simp [intOf]; omega
    · obtain rfl : y = Hn := by omega
      obtain ⟨hX, hR, a, c, hB, hO⟩ := HS.out
      clear HS
      obtain ⟨⟨c0, c1, c2, c3⟩, _⟩ := block4 hB
      obtain ⟨⟨d0, d1, d2, d3⟩, f0, f1, f2, f3⟩ := block4 hR
      obtain ⟨HE, HO⟩ := stored4 (T := 26) (u0 := .int .i64 Wn) (u1 := .int .i64 y) (u2 := .bool R) (u3 := .slice a (y * Wn) c) hX (by decide) (Nat.le_refl _) hR hO
      have HE' := Lib.hid HE
      have HO' := Lib.hid HO
      clear hX hR hB hO HE HO
      go_wp2
      refine bodyPost_ret (v := .agg #[.int .i64 Wn, .int .i64 y, .bool R, .slice a (y * Wn) c]) ?_ rfl ⟨a, _, c, xs, rfl, HE'.out, HO'.out, ?_, by omega, HXS.out⟩
      · simp only [results, Try.results76]
        go_simp
      · have h := congrArg List.length HXS.out
        simpa using h

set_option maxRecDepth 100000 in
theorem each_any (W H : Int) (R : Bool) (a : Option Addr) (n c : Nat) (F : FuncId) (pre caps : Array Value) (g : Int → Int → Option Nat) (hs : szF W H = true) (w : World) (hcall : ∀ args u, Sem.run Try.prog (callFunc F args) u = .ok (.enter F args) u)
    (hF : ∀ x y w', Ext w w' → 0 ≤ x → x < W → 0 ≤ y → y < H → Calls Try.prog F (pre ++ #[.int .i64 x, .int .i64 y] ++ caps) w' (fun e w'' => ∃ r, e = .returned (.float .f32 r) ∧ fa .f32 r = g x y ∧ Ext w' w'')) :
    Calls Try.prog 70 #[.agg #[.int .i64 W, .int .i64 H, .bool R, .slice a n c], .func (.func F) pre caps] w
      (newF w W H R (gridF W.toNat g (H.toNat * W.toNat))) := by
  have hX := ((Ext.refl w).alloc (.cells #[.int .i64 W, .int .i64 H, .bool R, .slice a n c] 26)).alloc (.cells #[.int .i64 0, .int .i64 0, .bool false, .slice none 0 0] 26)
  have b0 := heap_mid1 w (.cells #[.int .i64 W, .int .i64 H, .bool R, .slice a n c] 26) (.cells #[.int .i64 0, .int .i64 0, .bool false, .slice none 0 0] 26)
  have b1 := heap_new1 w (.cells #[.int .i64 W, .int .i64 H, .bool R, .slice a n c] 26) (.cells #[.int .i64 0, .int .i64 0, .bool false, .slice none 0 0] 26)
  have HC := Lib.hid hcall
  have HF := Lib.hid hF
  have HS := Lib.hid hs
  clear hcall hF hs
  go_enter Try.func70, Try.ntmps70
  go_wp2_with fail
  refine (made_any W H R F pre caps g HS.out _ HC.out (fun x y w' hw => HF.out x y w' (hX.trans hw))).mono ?_
  rintro e w1 ⟨a', n', c', xs, rfl, hX1, hO, hl, hle, hf⟩
  obtain ⟨⟨d0, d1, d2, d3⟩, f0, f1, f2, f3⟩ := block4 (hX1.block b1)
  obtain ⟨HE, HO⟩ := stored4 (T := 26) (u0 := .int .i64 W) (u1 := .int .i64 H) (u2 := .bool R) (u3 := .slice a' n' c') (hX.trans hX1) (by decide) (by omega) (hX1.block b1) (ownsRow_mono hO hX.size)
  have HE' := Lib.hid HE
  have HO' := Lib.hid HO
  have HL := Lib.hid hl
  have HFF := Lib.hid hf
  clear HE HO hX hX1 hO b0 b1 hl hf HF HC HS
  go_wp2
  refine bodyPost_ret (v := .agg #[.int .i64 W, .int .i64 H, .bool R, .slice a' n' c']) ?_ rfl ⟨a', n', c', xs, rfl, HE'.out, HO'.out, HL.out, hle, HFF.out⟩
  simp only [results, Try.results70]
  go_simp
end Go.Proofs.Ytajfpjggdbifjaa
