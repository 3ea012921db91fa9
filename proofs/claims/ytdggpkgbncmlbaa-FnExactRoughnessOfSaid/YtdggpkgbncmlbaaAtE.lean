/-
  Contract of 'built', which fills heights by a closure.
-/
import Derived.Test.YtdggpkgbncmlbaaAtD
import Derived.Test.YtdggpkgbncmlbaaLib4
namespace Go.Proofs.Ytdggpkgbncmlbaa
open Go.RowKit
set_option linter.unusedVariables false
set_option linter.unusedSimpArgs false
set_option linter.unnecessarySimpa false

/-- The first k values of a grid, row by row. -/
def gridV (W : Nat) (g : Int → Int → Int) (k : Nat) : List Int := (List.range k).map fun i => g ((i % W : Nat) : Int) ((i / W : Nat) : Int)
@[simp] theorem gridV_length (W : Nat) (g : Int → Int → Int) (k : Nat) : (gridV W g k).length = k := by simp [gridV]
theorem gridV_succ {W : Nat} (g : Int → Int → Int) {x y : Nat} (hx : x < W) : gridV W g (y * W + x + 1) = gridV W g (y * W + x) ++ [g x y] := by
  have h1 : (y * W + x) % W = x := by rw [Nat.mul_add_mod_self_right]; exact Nat.mod_eq_of_lt hx
  have h2 : (y * W + x) / W = y := by rw [Nat.mul_comm, Nat.mul_add_div (by omega), Nat.div_eq_of_lt hx]; rfl
  unfold gridV
  rw [List.range_succ, List.map_append]
  simp only [List.map_cons, List.map_nil, h1, h2]
theorem ints_append (xs ys : List Int) : ints (xs ++ ys) = ints xs ++ ints ys := by simp [ints]

/-- What stands while heights are filled: the result's box at p, the heights' at q. -/
structure Filling (w : World) (W H : Int) (zs : List Int) (q : Nat) (wr : World) (k : Nat) : Prop where
  ext : Ext w wr
  res : wr.heap[w.heap.size]? = some (.cells #[.int .i64 0, .int .i64 0, .slice none 0 0] 33 (0, 0))
  own : ∃ a c, wr.heap[q]? = some (.cells #[.int .i64 W, .int .i64 H, .slice a k c] 33 (0, 0)) ∧ wr.ownsRow w.heap.size 2 1 (.slice a k c) k (ints zs)

theorem Filling.of_ext {w : World} {W H : Int} {zs : List Int} {q : Nat} {wr wr' : World} {k : Nat} (h : Filling w W H zs q wr k) (e : Ext wr wr') : Filling w W H zs q wr' k :=
  let ⟨a, c, h1, h2⟩ := h.own; ⟨h.ext.trans e, e.block h.res, a, c, e.block h1, ownsRow_ext h2 e⟩

/-- One element more. -/
theorem Filling.push {w : World} {W H : Int} {zs : List Int} {q : Nat} {wr w1 : World} {k c : Nat} {a : Option Addr} {z : Int} {v' : Value} (hX : Ext w wr) (hq : w.heap.size < q)
    (hR : wr.heap[w.heap.size]? = some (.cells #[.int .i64 0, .int .i64 0, .slice none 0 0] 33 (0, 0)))
    (hB : wr.heap[q]? = some (.cells #[.int .i64 W, .int .i64 H, .slice a k c] 33 (0, 0)))
    (hO : wr.ownsRow w.heap.size 2 1 (.slice a k c) k (ints zs))
    (hown : w1.ownsRow w.heap.size 2 1 v' (k + 1) (ints zs ++ [.int .i64 z])) (hg : wr.grownBy w1 (Value.slice a k c).ownBlock) :
    Filling w W H (zs ++ [z]) q (w1.setCell ⟨q, 2, none⟩ v') (k + 1) := by
  obtain ⟨a', c', rfl⟩ := ownsRow_shape hown
  obtain ⟨h1, h2⟩ := appended hX hO hg
  obtain ⟨h3, h4, h5⟩ := stored (i := 2) (u := .slice a' (k + 1) c') h1 (by decide) (by omega) (h2 (by decide) hB) hown
  refine ⟨h3, ?_, a', c', h4, ?_⟩
  · rw [cells_setOther (by omega)]; exact h2 (by decide) hR
  · rw [ints_append]; exact h5
/-- The box's cell in front of the store. -/
theorem Filling.cellAt {w : World} {W H : Int} {zs : List Int} {q : Nat} {wr w1 : World} {k c : Nat} {a : Option Addr} (hX : Ext w wr)
    (hB : wr.heap[q]? = some (.cells #[.int .i64 W, .int .i64 H, .slice a k c] 33 (0, 0)))
    (hO : wr.ownsRow w.heap.size 2 1 (.slice a k c) k (ints zs)) (hg : wr.grownBy w1 (Value.slice a k c).ownBlock) :
    w1.heap[q]? = some (.cells #[.int .i64 W, .int .i64 H, .slice a k c] 33 (0, 0)) :=
  (appended hX hO hg).2 (by decide) hB

/-- Heights of one's own, as an answer. -/
def newH (w : World) (W H : Int) (zs : List Int) (ok : Bool) (e : Ending) (w' : World) : Prop :=
  ∃ a n c, e = .returned (.tuple #[.agg #[.int .i64 W, .int .i64 H, .slice a n c], .bool ok]) ∧ Ext w w' ∧ w'.ownsRow w.heap.size 2 1 (.slice a n c) n (ints zs) ∧ zs.length = n ∧ n ≤ 1048576

/-- Heights handed on if they are valid. -/
def keepI (b : Bool) (x : Int) : Int := if b then x else 0
def keepL (b : Bool) (zs : List Int) : List Int := if b then zs else []
def giveH (w : World) (W H : Int) (zs : List Int) (e : Ending) (w' : World) : Prop := newH w (keepI (vldH W H zs) W) (keepI (vldH W H zs) H) (keepL (vldH W H zs) zs) (vldH W H zs) e w'

set_option maxRecDepth 100000 in
theorem built_no (W H : Int) (how : Value) (hs : szH W H = false) (w : World) :
    Calls Try.prog 80 #[.int .i64 W, .int .i64 H, how] w (newH w 0 0 [] false) := by
  have hX := ((Ext.refl w).alloc (.cells #[.int .i64 0, .int .i64 0, .slice none 0 0] 33)).alloc (.cells #[.int .i64 W, .int .i64 H] 2)
  have b0 := heap_mid1 w (.cells #[.int .i64 0, .int .i64 0, .slice none 0 0] 33) (.cells #[.int .i64 W, .int .i64 H] 2)
  have b1 := heap_new1 w (.cells #[.int .i64 0, .int .i64 0, .slice none 0 0] 33) (.cells #[.int .i64 W, .int .i64 H] 2)
  have e2 : allIn 2 16 [W, H] = false := by rw [allIn_two]; exact hs
  clear hs
  go_enter Try.func80, Try.ntmps80
  go_wp2_with fail
  refine (areWithin_any _ 2 2 [W, H] rfl (by omega) 2 16 _ (VArr.two b1)).mono ?_
  rw [e2]
  generalize (w.alloc (.cells #[.int .i64 0, .int .i64 0, .slice none 0 0] 33)).alloc (.cells #[.int .i64 W, .int .i64 H] 2) = w0 at *
  rintro e w1 ⟨rfl, hX1⟩
  obtain ⟨⟨d0, d1, d2⟩, f0, f1, f2⟩ := block3 (hX1.block b0)
  have HX := Lib.hid (hX.trans hX1)
  clear hX hX1 b0 b1 e2
  go_wp2
  refine bodyPost_ret (v := .tuple #[.agg #[.int .i64 0, .int .i64 0, .slice none 0 0], .bool false]) ?_ rfl ⟨none, 0, 0, rfl, HX.out.fin3 (by omega) _ _ _, World.ownsRow_nil _ _ _ _, rfl, by omega⟩
  simp only [results, Try.results80]
  go_simp

set_option maxRecDepth 100000 in
set_option maxHeartbeats 400000 in
theorem built_yes (W H : Int) (F : FuncId) (caps : Array Value) (g : Int → Int → Int) (hs : szH W H = true) (w : World) (hcall : ∀ args u, Sem.run Try.prog (callFunc F args) u = .ok (.enter F args) u)
    (hF : ∀ x y w', Ext w w' → 0 ≤ x → x < W → 0 ≤ y → y < H → Calls Try.prog F (#[.int .i64 x, .int .i64 y] ++ caps) w' (fun e w'' => e = .returned (.int .i64 (g x y)) ∧ Ext w' w'')) :
    Calls Try.prog 80 #[.int .i64 W, .int .i64 H, .func (.func F) #[] caps] w
      (giveH w W H (gridV W.toNat g (H.toNat * W.toNat))) := by
  obtain ⟨i0, hi, hz0, hz1, hz2⟩ := info_parts info64
  obtain ⟨⟨s1, s2⟩, s3, s4⟩ := szH_iff.1 hs
  obtain ⟨Wn, rfl⟩ := Int.eq_ofNat_of_zero_le (show 0 ≤ W by omega)
  obtain ⟨Hn, rfl⟩ := Int.eq_ofNat_of_zero_le (show 0 ≤ H by omega)
  simp only [Int.toNat_natCast]
  have hm : Hn * Wn ≤ 256 := by
    have := Nat.mul_le_mul (show Hn ≤ 16 by omega) (show Wn ≤ 16 by omega); omega
  have hX := ((Ext.refl w).alloc (.cells #[.int .i64 0, .int .i64 0, .slice none 0 0] 33)).alloc (.cells #[.int .i64 Wn, .int .i64 Hn] 2)
  have b0 := heap_mid1 w (.cells #[.int .i64 0, .int .i64 0, .slice none 0 0] 33) (.cells #[.int .i64 Wn, .int .i64 Hn] 2)
  have b1 := heap_new1 w (.cells #[.int .i64 0, .int .i64 0, .slice none 0 0] 33) (.cells #[.int .i64 Wn, .int .i64 Hn] 2)
  have e2 : allIn 2 16 [(Wn : Int), (Hn : Int)] = true := by rw [allIn_two]; exact hs
  clear hs
  have HF := Lib.hid hF
  clear hF
  go_enter Try.func80, Try.ntmps80
  go_wp2_with fail
  refine (areWithin_any _ 2 2 [(Wn : Int), (Hn : Int)] rfl (by omega) 2 16 _ (VArr.two b1)).mono ?_
  rw [e2]
  generalize (w.alloc (.cells #[.int .i64 0, .int .i64 0, .slice none 0 0] 33)).alloc (.cells #[.int .i64 Wn, .int .i64 Hn] 2) = w0 at *
  rintro e w1 ⟨rfl, hX1⟩
  have hX2 := (hX.trans hX1).alloc (.cells #[.int .i64 Wn, .int .i64 Hn, .slice none 0 0] 33)
  have D0 := ((Ext.refl w1).alloc (.cells #[.int .i64 Wn, .int .i64 Hn, .slice none 0 0] 33)).block (hX1.block b0)
  have D1 := heap_new w1 (.cells #[.int .i64 Wn, .int .i64 Hn, .slice none 0 0] 33)
  have hq : w.heap.size < w1.heap.size := lt_of_block (hX1.block b0)
  have F0 : Filling w Wn Hn [] w1.heap.size (w1.alloc (.cells #[.int .i64 Wn, .int .i64 Hn, .slice none 0 0] 33)) 0 :=
    ⟨hX2, D0, none, 0, D1, World.ownsRow_nil _ _ _ _⟩
  clear hX hX1 b0 b1 e2 hX2 D0 D1
  go_wp2
  generalize w1.alloc (.cells #[.int .i64 Wn, .int .i64 Hn, .slice none 0 0] 33) = w2 at *
  generalize w1.heap.size = q at *
  go_loopw [21] (fun i wr => ∃ y : Nat, y ≤ Hn ∧ i = .int .i64 y ∧ Filling w Wn Hn (gridV Wn g (y * Wn)) q wr (y * Wn)) (fun i _ => Hn - (intOf i).toNat)
  case atStart => exact ⟨0, Nat.zero_le _, rfl, by simpa [gridV] using F0⟩
  case round =>
    obtain ⟨y, hy, rfl, hS⟩ := hrel
    clear F0
    have HS := Lib.hid hS
    clear hS
    by_cases hlt : y < Hn
    · have hyW : y * Wn + Wn ≤ Hn * Wn := by
        have := Nat.mul_le_mul_right Wn (show y + 1 ≤ Hn by omega)
        rw [Nat.add_mul] at this; omega
      go_wp2
      go_loopw [25] (fun i wr => ∃ x : Nat, x ≤ Wn ∧ i = .int .i64 x ∧ Filling w Wn Hn (gridV Wn g (y * Wn + x)) q wr (y * Wn + x)) (fun i _ => Wn - (intOf i).toNat)
      case atStart => exact ⟨0, Nat.zero_le _, rfl, by simpa using HS.out⟩
      case round =>
        obtain ⟨x, hx, rfl, hS2⟩ := hrel
        clear HS
        by_cases hlt2 : x < Wn
        · have HS2 := Lib.hid hS2
          clear hS2
          obtain ⟨hX, hR, a, c, hB, hO⟩ := HS2.out
          clear HS2
          go_wp2_with fail
          refine region_grow_tail 7 (C := Ext wr) (K := fun _ _ v _ => v = .int .i64 (g x y)) ⟨fun _ _ h k => h.trans k, fun _ _ _ _ _ h _ => h⟩ (by kernel_rfl) (by kernel_rfl) ((Ext.refl wr).drew) ?_
          simp only [List.take_succ_cons, List.take_zero, List.drop_succ_cons, List.drop_zero]
          repeat (refine grow_q rfl ?_; apply Exists.intro; refine ⟨fun u hu _ => ?_, ?_⟩; focus (obtain ⟨⟨c0, c1, c2⟩, _⟩ := block3 (hu.block hB); go_simp; rfl))
          refine grow_c1 F rfl ?_
          refine ⟨#[.int .i64 x, .int .i64 y] ++ caps, fun u => ?_, .int .i64 (g x y), fun u hu _ => ?_, fun v u h => h, fun u => rfl, ?_⟩
          · go_simp; try exact hcall _ _
          · exact HF.out x y u (hX.trans hu) (by omega) (by omega) (by omega) (by omega)
          refine grow_newB (mk := fun b => .slice (some ⟨b, 0, none⟩) 1 1) (ob := .cells #[.int .i64 (g x y)] 2) wr.heap.size rfl (fun b b' h => by simpa using h) (fun u hu => hu.size) (fun u _ _ => ?_) (fun b hb => ?_)
          · go_simp
          refine grow_nil (fun w3 hu hh => ?_)
          obtain ⟨_, hb3⟩ := hh
          have hXu := Lib.hid (hX.trans hu)
          have hRu := Lib.hid (hu.block hR)
          have hBu := Lib.hid (hu.block hB)
          have hOu := Lib.hid (ownsRow_ext hO hu)
          clear hX hR hB hO hu
          have HU := Lib.hid hXu.out.size
          go_simp
          go_wp2_with (at_builtin; refine wpList_append_own _ rfl _ _ 28 rfl w.heap.size 2 i0 (.int .i64 0) 1 8 Try.underlying28 hi hz0 hz1 hz2 rfl (by decide) (.slice a (y * Wn + x) c) (y * Wn + x) (ints (gridV Wn g (y * Wn + x))) rfl hOu.out ⟨b, 0, none⟩ 1 1 [.int .i64 (g x y)] rfl rfl ?c1 ?c2 ?c3 ?c4 ?c5 ?_)
          case c1 => exact cell_one_at hb3
          case c2 => intro u hu; simp at hu; subst hu; rfl
          case c3 => unfold maxLen; omega
          case c4 => omega
          case c5 => exact HU.out
          intro v' w4 hown hg _
          obtain ⟨a', c', rfl⟩ := ownsRow_shape hown
          have HOWN := Lib.hid hown
          have HG := Lib.hid hg
          clear hown hg
          have hb4 := Filling.cellAt hXu.out hBu.out hOu.out HG.out
          obtain ⟨⟨_, _, c2⟩, _, _, f2⟩ := block3 hb4
          clear hb4
          go_wp2
          go_roundw
          case rel =>
            refine ⟨x + 1, by omega, by go_num, ?_⟩
            rw [← Nat.add_assoc, gridV_succ g hlt2]
            exact Filling.push hXu.out hq hRu.out hBu.out hOu.out HOWN.out HG.out
          case measure => simp [intOf]; omega
        · obtain rfl : x = Wn := by omega
          have HS2 := Lib.hid hS2
          clear hS2
          go_wp2
          go_roundw
          case rel => exact ⟨y + 1, by omega, by go_num, by rw [Nat.add_mul, Nat.one_mul]; exact HS2.out⟩
          case measure => simp [intOf]; omega
    · obtain rfl : y = Hn := by omega
      obtain ⟨hX, hR, a, c, hB, hO⟩ := HS.out
      clear HS
      obtain ⟨⟨c0, c1, c2⟩, _⟩ := block3 hB
      cases hv : vldH Wn y (gridV Wn g (y * Wn)) with
      | true =>
        go_wp2_with fail
        refine (told_yes Wn y a (y * Wn) c (gridV Wn g (y * Wn)) (gridV_length _ _ _) (by omega) _ (ownsRow_varr hO) hv).mono ?_
        rintro e w5 ⟨rfl, hX5⟩
        obtain ⟨⟨d0, d1, d2⟩, f0, f1, f2⟩ := block3 (hX5.block hR)
        obtain ⟨HE, HO⟩ := stored3 (T := 33) (u0 := .int .i64 Wn) (u1 := .int .i64 y) (u2 := .slice a (y * Wn) c) (hX.trans hX5) (by decide) (Nat.le_refl _) (hX5.block hR) (ownsRow_ext hO hX5)
        have HE' := Lib.hid HE
        have HO' := Lib.hid HO
        have HV := Lib.hid hv
        clear hX hR hB hO c0 c1 c2 hX5 HE HO hv
        go_wp2
        refine bodyPost_ret (v := .tuple #[.agg #[.int .i64 Wn, .int .i64 y, .slice a (y * Wn) c], .bool true]) ?_ rfl ?_
        · simp only [results, Try.results80]
          go_simp
        · unfold giveH newH
          rw [HV.out]
          exact ⟨a, _, c, rfl, HE'.out, HO'.out, by simp [keepL], by omega⟩
      | false =>
        go_wp2_with fail
        refine (told_no Wn y a (y * Wn) c (gridV Wn g (y * Wn)) (gridV_length _ _ _) (by omega) _ (ownsRow_varr hO) hv).mono ?_
        rintro e w5 ⟨rfl, hX5⟩
        obtain ⟨⟨d0, d1, d2⟩, f0, f1, f2⟩ := block3 (hX5.block hR)
        have HE' := Lib.hid ((hX.trans hX5).fin3 (Nat.le_refl _) (.int .i64 0) (.int .i64 0) (.slice none 0 0))
        have HV := Lib.hid hv
        clear hX hR hB hO c0 c1 c2 hX5 hv
        go_wp2
        refine bodyPost_ret (v := .tuple #[.agg #[.int .i64 0, .int .i64 0, .slice none 0 0], .bool false]) ?_ rfl ?_
        · simp only [results, Try.results80]
          go_simp
        · unfold giveH newH
          rw [HV.out]
          exact ⟨none, 0, 0, rfl, HE'.out, World.ownsRow_nil _ _ _ _, rfl, by omega⟩
end Go.Proofs.Ytdggpkgbncmlbaa
