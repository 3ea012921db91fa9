/-
  Grains grown by a closure: 'grown'; and l04New.
-/
import Derived.Test.YtpmcjojipbiinaaGrsI
import Derived.Test.YtpmcjojipbiinaaLate
namespace Go.Proofs.Ytpmcjojipbiinaa
open Go.RowKit
set_option linter.unusedVariables false
set_option linter.unusedSimpArgs false
set_option linter.unnecessarySimpa false

theorem Ext.fin3 {w w5 : World} {q : Nat} (hX : Ext w w5) (hq : w.heap.size ≤ q) (v0 v1 v2 : Value) : Ext w (((w5.setCell ⟨q, 0, none⟩ v0).setCell ⟨q, 1, none⟩ v1).setCell ⟨q, 2, none⟩ v2) :=
  Below.setCell (Below.setCell (Below.setCell hX hq _) hq _) hq _

/-- The first k values of a grid, row by row. -/
def gridV (W : Nat) (g : Int → Int → Int) (k : Nat) : List Int := (List.range k).map fun i => g ((i % W : Nat) : Int) ((i / W : Nat) : Int)
@[simp] theorem gridV_length (W : Nat) (g : Int → Int → Int) (k : Nat) : (gridV W g k).length = k := by simp [gridV]
theorem gridV_succ {W : Nat} (g : Int → Int → Int) {x y : Nat} (hx : x < W) : gridV W g (y * W + x + 1) = gridV W g (y * W + x) ++ [g x y] := by
  have h1 : (y * W + x) % W = x := by rw [Nat.mul_add_mod_self_right]; exact Nat.mod_eq_of_lt hx
  have h2 : (y * W + x) / W = y := by rw [Nat.mul_comm, Nat.mul_add_div (by omega), Nat.div_eq_of_lt hx]; rfl
  unfold gridV
  rw [List.range_succ, List.map_append]
  simp only [List.map_cons, List.map_nil, h1, h2]
theorem ints_append (xs ys : List Int) : ints (xs ++ ys) = ints xs ++ ints ys := by simp [ints]

/-- What stands while heights are filled: the result's box at p, the heights' at q. -/
structure Filling (w : World) (W H : Int) (zs : List Int) (q : Nat) (wr : World) (k : Nat) : Prop where
  ext : Ext w wr
  res : wr.heap[w.heap.size]? = some (.cells #[.int .i64 0, .int .i64 0, .slice none 0 0] 25 (0, 0))
  own : ∃ a c, wr.heap[q]? = some (.cells #[.int .i64 W, .int .i64 H, .slice a k c] 25 (0, 0)) ∧ wr.ownsRow w.heap.size 2 1 (.slice a k c) k (ints zs)

theorem Filling.of_ext {w : World} {W H : Int} {zs : List Int} {q : Nat} {wr wr' : World} {k : Nat} (h : Filling w W H zs q wr k) (e : Ext wr wr') : Filling w W H zs q wr' k :=
  let ⟨a, c, h1, h2⟩ := h.own; ⟨h.ext.trans e, e.block h.res, a, c, e.block h1, ownsRow_ext h2 e⟩

/-- One element more. -/
theorem Filling.push {w : World} {W H : Int} {zs : List Int} {q : Nat} {wr w1 : World} {k c : Nat} {a : Option Addr} {z : Int} {v' : Value} (hX : Ext w wr) (hq : w.heap.size < q)
    (hR : wr.heap[w.heap.size]? = some (.cells #[.int .i64 0, .int .i64 0, .slice none 0 0] 25 (0, 0)))
    (hB : wr.heap[q]? = some (.cells #[.int .i64 W, .int .i64 H, .slice a k c] 25 (0, 0)))
    (hO : wr.ownsRow w.heap.size 2 1 (.slice a k c) k (ints zs))
    (hown : w1.ownsRow w.heap.size 2 1 v' (k + 1) (ints zs ++ [.int .i64 z])) (hg : wr.grownBy w1 (Value.slice a k c).ownBlock) :
    Filling w W H (zs ++ [z]) q (w1.setCell ⟨q, 2, none⟩ v') (k + 1) := by
  obtain ⟨a', c', rfl⟩ := ownsRow_shape hown
  obtain ⟨h1, h2⟩ := appended hX hO hg
  obtain ⟨h3, h4, h5⟩ := stored (i := 2) (u := .slice a' (k + 1) c') h1 (by decide) (by omega) (h2 (by decide) hB) hown
  refine ⟨h3, ?_, a', c', h4, ?_⟩
  · rw [cells_setOther (by omega)]; exact h2 (by decide) hR
  · rw [ints_append]; exact h5
/-- The box's cell in front of the store. -/
theorem Filling.cellAt {w : World} {W H : Int} {zs : List Int} {q : Nat} {wr w1 : World} {k c : Nat} {a : Option Addr} (hX : Ext w wr)
    (hB : wr.heap[q]? = some (.cells #[.int .i64 W, .int .i64 H, .slice a k c] 25 (0, 0)))
    (hO : wr.ownsRow w.heap.size 2 1 (.slice a k c) k (ints zs)) (hg : wr.grownBy w1 (Value.slice a k c).ownBlock) :
    w1.heap[q]? = some (.cells #[.int .i64 W, .int .i64 H, .slice a k c] 25 (0, 0)) :=
  (appended hX hO hg).2 (by decide) hB

/-- Heights of one's own, as an answer. -/
def newH (w : World) (W H : Int) (zs : List Int) (ok : Bool) (e : Ending) (w' : World) : Prop :=
  ∃ a n c, e = .returned (.tuple #[.agg #[.int .i64 W, .int .i64 H, .slice a n c], .bool ok]) ∧ Ext w w' ∧ w'.ownsRow w.heap.size 2 1 (.slice a n c) n (ints zs) ∧ zs.length = n ∧ n ≤ 1048576

/-- Heights handed on if they are valid. -/
def keepI (b : Bool) (x : Int) : Int := if b then x else 0
def keepL (b : Bool) (zs : List Int) : List Int := if b then zs else []
/-- An answer under a condition. -/
def keepH (w : World) (ok : Bool) (W H : Int) (zs : List Int) (e : Ending) (w' : World) : Prop := newH w (keepI ok W) (keepI ok H) (keepL ok zs) ok e w'
theorem keepH_no {w : World} {ok : Bool} {W H : Int} {zs : List Int} {e : Ending} {w' : World} (h : ok = false) (k : newH w 0 0 [] false e w') : keepH w ok W H zs e w' := by
  unfold keepH; rw [h]; exact k
theorem keepH_yes {w : World} {ok : Bool} {W H : Int} {zs : List Int} {e : Ending} {w' : World} (h : ok = true) (k : newH w W H zs true e w') : keepH w ok W H zs e w' := by
  unfold keepH; rw [h]; exact k

/-- Grains of one's own, alone. -/
def newG (w : World) (W H : Int) (zs : List Int) (e : Ending) (w' : World) : Prop :=
  ∃ a n c, e = .returned (.agg #[.int .i64 W, .int .i64 H, .slice a n c]) ∧ Ext w w' ∧ w'.ownsRow w.heap.size 2 1 (.slice a n c) n (ints zs) ∧ zs.length = n ∧ n ≤ 1048576

theorem ownsRow_empty {w : World} {B b : Nat} {e : TypeId} (hB : B ≤ b) (hb : w.heap[b]? = some (.cells #[] e (0, 0))) : w.ownsRow B e 1 (.slice (some ⟨b, 0, none⟩) 0 0) 0 [] :=
  ⟨rfl, .inr ⟨b, 0, #[], rfl, hB, hb, Nat.le_refl _, by simp [maxLen], rfl, rfl⟩⟩

theorem l04New_any (W H : Int) (w : World) : Calls Try.prog 27 #[.int .i64 W, .int .i64 H] w fun e w' => ∃ b, e = .returned (.agg #[.int .i64 W, .int .i64 H, .slice (some ⟨b, 0, none⟩) 0 0]) ∧ Ext w w' ∧ w.heap.size ≤ b ∧ w'.ownsRow w.heap.size 2 1 (.slice (some ⟨b, 0, none⟩) 0 0) 0 [] := by
  have HE := Lib.hid (((Ext.refl w).alloc (.cells #[.int .i64 W, .int .i64 H, .slice (some ⟨w.heap.size + 1, 0, none⟩) 0 0] 25)).alloc (.cells #[] 2))
  have HO := Lib.hid (ownsRow_empty (B := w.heap.size) (by omega) (heap_new1 w (.cells #[.int .i64 W, .int .i64 H, .slice (some ⟨w.heap.size + 1, 0, none⟩) 0 0] 25) (.cells #[] 2)))
  go_enter Try.func27, Try.ntmps27
  go_wp2
  refine bodyPost_ret (v := .agg #[.int .i64 W, .int .i64 H, .slice (some ⟨w.heap.size + 1, 0, none⟩) 0 0]) ?_ rfl ⟨_, rfl, HE.out, by omega, HO.out⟩
  simp only [results, Try.results27]
  go_simp

set_option maxRecDepth 100000 in
set_option maxHeartbeats 400000 in
theorem grown_any (W H : Int) (F : FuncId) (caps : Array Value) (g : Int → Int → Int) (hs : szG W H = true) (w : World) (hcall : ∀ args u, Sem.run Try.prog (callFunc F args) u = .ok (.enter F args) u)
    (hF : ∀ x y w', Ext w w' → 0 ≤ x → x < W → 0 ≤ y → y < H → Calls Try.prog F (#[.int .i64 x, .int .i64 y] ++ caps) w' (fun e w'' => e = .returned (.int .i64 (g x y)) ∧ Ext w' w'')) :
    Calls Try.prog 32 #[.int .i64 W, .int .i64 H, .func (.func F) #[] caps] w
      (newG w W H (gridV W.toNat g (H.toNat * W.toNat))) := by
  obtain ⟨i0, hi, hz0, hz1, hz2⟩ := info_parts info64
  obtain ⟨⟨s1, s2⟩, s3, s4⟩ := szG_iff.1 hs
  obtain ⟨Wn, rfl⟩ := Int.eq_ofNat_of_zero_le (show 0 ≤ W by omega)
  obtain ⟨Hn, rfl⟩ := Int.eq_ofNat_of_zero_le (show 0 ≤ H by omega)
  simp only [Int.toNat_natCast]
  have hm : Hn * Wn ≤ 256 := by
    have := Nat.mul_le_mul (show Hn ≤ 16 by omega) (show Wn ≤ 16 by omega); omega
  have hX := (((Ext.refl w).alloc (.cells #[.int .i64 0, .int .i64 0, .slice none 0 0] 25)).alloc (.cells #[] 2)).alloc (.cells #[.int .i64 Wn, .int .i64 Hn, .slice (some ⟨w.heap.size + 1, 0, none⟩) 0 0] 25)
  have b0 := heap_mid3 w (.cells #[.int .i64 0, .int .i64 0, .slice none 0 0] 25) (.cells #[] 2) (.cells #[.int .i64 Wn, .int .i64 Hn, .slice (some ⟨w.heap.size + 1, 0, none⟩) 0 0] 25)
  have b1 := heap_mid2 w (.cells #[.int .i64 0, .int .i64 0, .slice none 0 0] 25) (.cells #[] 2) (.cells #[.int .i64 Wn, .int .i64 Hn, .slice (some ⟨w.heap.size + 1, 0, none⟩) 0 0] 25)
  have b2 := heap_new2 w (.cells #[.int .i64 0, .int .i64 0, .slice none 0 0] 25) (.cells #[] 2) (.cells #[.int .i64 Wn, .int .i64 Hn, .slice (some ⟨w.heap.size + 1, 0, none⟩) 0 0] 25)
  have hq : w.heap.size < w.heap.size + 2 := by omega
  have F0 : Filling w Wn Hn [] (w.heap.size + 2) (((w.alloc (.cells #[.int .i64 0, .int .i64 0, .slice none 0 0] 25)).alloc (.cells #[] 2)).alloc (.cells #[.int .i64 Wn, .int .i64 Hn, .slice (some ⟨w.heap.size + 1, 0, none⟩) 0 0] 25)) 0 :=
    ⟨hX, b0, _, 0, b2, ownsRow_empty (by omega) b1⟩
  clear hX b0 b1 b2 hs
  have HF := Lib.hid hF
  clear hF
  go_enter Try.func32, Try.ntmps32
  go_wp2
  generalize ((w.alloc (.cells #[.int .i64 0, .int .i64 0, .slice none 0 0] 25)).alloc (.cells #[] 2)).alloc (.cells #[.int .i64 Wn, .int .i64 Hn, .slice (some ⟨w.heap.size + 1, 0, none⟩) 0 0] 25) = w2 at *
  generalize hqq : w.heap.size + 2 = q at *
  clear hqq
  go_loopw [15] (fun i wr => ∃ y : Nat, y ≤ Hn ∧ i = .int .i64 y ∧ Filling w Wn Hn (gridV Wn g (y * Wn)) q wr (y * Wn)) (fun i _ => Hn - (intOf i).toNat)
  case atStart => exact ⟨0, Nat.zero_le _, rfl, by simpa [gridV] using F0⟩
  case round =>
    obtain ⟨y, hy, rfl, hS⟩ := hrel
    clear F0
    have HS := Lib.hid hS
    clear hS
    by_cases hlt : y < Hn
    · have hyW : y * Wn + Wn ≤ Hn * Wn := by
        have := Nat.mul_le_mul_right Wn (show y + 1 ≤ Hn by omega)
        rw [Nat.add_mul] at this; omega
      go_wp2
      go_loopw [19] (fun i wr => ∃ x : Nat, x ≤ Wn ∧ i = .int .i64 x ∧ Filling w Wn Hn (gridV Wn g (y * Wn + x)) q wr (y * Wn + x)) (fun i _ => Wn - (intOf i).toNat)
      case atStart => exact ⟨0, Nat.zero_le _, rfl, by simpa using HS.out⟩
      case round =>
        obtain ⟨x, hx, rfl, hS2⟩ := hrel
        clear HS
        by_cases hlt2 : x < Wn
        · have HS2 := Lib.hid hS2
          clear hS2
          obtain ⟨hX, hR, a, c, hB, hO⟩ := HS2.out
          clear HS2
          go_wp2_with fail
          refine region_grow_tail 7 (C := Ext wr) (K := fun _ _ v _ => v = .int .i64 (g x y)) ⟨fun _ _ h k => h.trans k, fun _ _ _ _ _ h _ => h⟩ (by kernel_rfl) (by kernel_rfl) ((Ext.refl wr).drew) ?_
          simp only [List.take_succ_cons, List.take_zero, List.drop_succ_cons, List.drop_zero]
          repeat (refine grow_q rfl ?_; apply Exists.intro; refine ⟨fun u hu _ => ?_, ?_⟩; focus (obtain ⟨⟨c0, c1, c2⟩, _⟩ := block3 (hu.block hB); go_simp; rfl))
          refine grow_c1 F rfl ?_
          refine ⟨#[.int .i64 x, .int .i64 y] ++ caps, fun u => ?_, .int .i64 (g x y), fun u hu _ => ?_, fun v u h => h, fun u => rfl, ?_⟩
          · go_simp; try exact hcall _ _
          · exact HF.out x y u (hX.trans hu) (by omega) (by omega) (by omega) (by omega)
          refine grow_newB (mk := fun b => .slice (some ⟨b, 0, none⟩) 1 1) (ob := .cells #[.int .i64 (g x y)] 2) wr.heap.size rfl (fun b b' h => by simpa using h) (fun u hu => hu.size) (fun u _ _ => ?_) (fun b hb => ?_)
          · go_simp
          refine grow_nil (fun w3 hu hh => ?_)
          obtain ⟨_, hb3⟩ := hh
          have hXu := Lib.hid (hX.trans hu)
          have hRu := Lib.hid (hu.block hR)
          have hBu := Lib.hid (hu.block hB)
          have hOu := Lib.hid (ownsRow_ext hO hu)
          clear hX hR hB hO hu
          have HU := Lib.hid hXu.out.size
          go_simp
          go_wp2_with (at_builtin; refine wpList_append_own _ rfl _ _ 23 rfl w.heap.size 2 i0 (.int .i64 0) 1 8 Try.underlying23 hi hz0 hz1 hz2 rfl (by decide) (.slice a (y * Wn + x) c) (y * Wn + x) (ints (gridV Wn g (y * Wn + x))) rfl hOu.out ⟨b, 0, none⟩ 1 1 [.int .i64 (g x y)] rfl rfl ?c1 ?c2 ?c3 ?c4 ?c5 ?_)
          case c1 => exact cell_one_at hb3
          case c2 => intro u hu; simp at hu; subst hu; rfl
          case c3 => unfold maxLen; omega
          case c4 => omega
          case c5 => exact HU.out
          intro v' w4 hown hg _
          obtain ⟨a', c', rfl⟩ := ownsRow_shape hown
          have HOWN := Lib.hid hown
          have HG := Lib.hid hg
          clear hown hg
          have hb4 := Filling.cellAt hXu.out hBu.out hOu.out HG.out
          obtain ⟨⟨_, _, c2⟩, _, _, f2⟩ := block3 hb4
          clear hb4
          go_wp2
          go_roundw
          case rel =>
            refine ⟨x + 1, by omega, by go_num, ?_⟩
            rw [← Nat.add_assoc, gridV_succ g hlt2]
            exact Filling.push hXu.out hq hRu.out hBu.out hOu.out HOWN.out HG.out
          case measure => simp [intOf]; omega
        · obtain rfl : x = Wn := by omega
          have HS2 := Lib.hid hS2
          clear hS2
          go_wp2
          go_roundw
          case rel => exact ⟨y + 1, by omega, by go_num, by rw [Nat.add_mul, Nat.one_mul]; exact HS2.out⟩
          case measure => simp [intOf]; omega
    · obtain rfl : y = Hn := by omega
      obtain ⟨hX, hR, a, c, hB, hO⟩ := HS.out
      clear HS
      obtain ⟨⟨c0, c1, c2⟩, _⟩ := block3 hB
      obtain ⟨⟨d0, d1, d2⟩, f0, f1, f2⟩ := block3 hR
      obtain ⟨HE, HO⟩ := stored3 (T := 25) (u0 := .int .i64 Wn) (u1 := .int .i64 y) (u2 := .slice a (y * Wn) c) hX (by decide) (Nat.le_refl _) hR hO
      have HE' := Lib.hid HE
      have HO' := Lib.hid HO
      clear hX hR hB hO HE HO
      go_wp2
      refine bodyPost_ret (v := .agg #[.int .i64 Wn, .int .i64 y, .slice a (y * Wn) c]) ?_ rfl ⟨a, _, c, rfl, HE'.out, HO'.out, gridV_length _ _ _, by omega⟩
      simp only [results, Try.results32]
      go_simp
end Go.Proofs.Ytpmcjojipbiinaa
