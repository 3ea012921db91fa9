/-
  FlatHeights, by the program and by the reference.
-/
import Derived.Test.YtdggpkgbncmlbaaAtE
namespace Go.Proofs.Ytdggpkgbncmlbaa
open Go.RowKit
set_option linter.unusedVariables false
set_option linter.unusedSimpArgs false
set_option linter.unnecessarySimpa false

theorem giveH_no {w : World} {W H : Int} {zs : List Int} {e : Ending} {w' : World} (h : vldH W H zs = false) (k : newH w 0 0 [] false e w') : giveH w W H zs e w' := by
  unfold giveH; rw [h]; exact k
theorem giveH_yes {w : World} {W H : Int} {zs : List Int} {e : Ending} {w' : World} (h : vldH W H zs = true) (k : newH w W H zs true e w') : giveH w W H zs e w' := by
  unfold giveH; rw [h]; exact k
theorem vldH_size {W H : Int} {zs : List Int} (h : szH W H = false) : vldH W H zs = false := by simp [vldH, h]

theorem built_any (W H : Int) (F : FuncId) (caps : Array Value) (g : Int → Int → Int) (w : World) (hcall : ∀ args u, Sem.run Try.prog (callFunc F args) u = .ok (.enter F args) u)
    (hF : szH W H = true → ∀ x y w', Ext w w' → 0 ≤ x → x < W → 0 ≤ y → y < H → Calls Try.prog F (#[.int .i64 x, .int .i64 y] ++ caps) w' (fun e w'' => e = .returned (.int .i64 (g x y)) ∧ Ext w' w'')) :
    Calls Try.prog 80 #[.int .i64 W, .int .i64 H, .func (.func F) #[] caps] w (giveH w W H (gridV W.toNat g (H.toNat * W.toNat))) := by
  cases hs : szH W H with
  | true => exact built_yes W H F caps g hs w hcall (hF hs)
  | false => exact (built_no W H _ hs w).mono fun e w' h => giveH_no (vldH_size hs) h

def flatZ (W H top : Int) : List Int := gridV W.toNat (fun _ _ => top) (H.toNat * W.toNat)

theorem flat1_any (x y top : Int) (A : Addr) (w : World) (hA : w.cell? A = some (.int .i64 top)) :
    Calls Try.prog 81 #[.int .i64 x, .int .i64 y, .pointer (some A)] w fun e w' => e = .returned (.int .i64 top) ∧ Ext w w' := by
  go_enter Try.func81, Try.ntmps81
  go_wp2
  go_ret
  exact ⟨rfl, Ext.refl _⟩

theorem built_flat (W H top : Int) (A : Addr) (w : World) (hA : w.cell? A = some (.int .i64 top)) :
    Calls Try.prog 80 #[.int .i64 W, .int .i64 H, .func (.func 81) #[] #[.pointer (some A)]] w (giveH w W H (flatZ W H top)) :=
  built_any W H 81 #[.pointer (some A)] (fun _ _ => top) _ (fun args u => by go_simp) (fun _ x y w' h _ _ _ _ => flat1_any x y top _ _ (h.cell hA))

theorem implFlat_any (W H top : Int) (w : World) :
    Calls Try.prog 38 #[.int .i64 W, .int .i64 H, .int .i64 top] w (giveH w W H (flatZ W H top)) := by
  have hX := ((Ext.refl w).alloc (.cells #[.int .i64 top] 2)).alloc (.cells #[.int .i64 0, .int .i64 0, .slice none 0 0] 33)
  have b0 := heap_mid1 w (.cells #[.int .i64 top] 2) (.cells #[.int .i64 0, .int .i64 0, .slice none 0 0] 33)
  have b1 := heap_new1 w (.cells #[.int .i64 top] 2) (.cells #[.int .i64 0, .int .i64 0, .slice none 0 0] 33)
  go_enter Try.func38, Try.ntmps38
  go_wp2_with fail
  refine (built_flat W H top ⟨w.heap.size, 0, none⟩ _ (block1 b0).1).mono ?_
  rintro e w1 ⟨a, n, c, rfl, hX1, hO, hl, hle⟩
  generalize (w.alloc (.cells #[.int .i64 top] 2)).alloc (.cells #[.int .i64 0, .int .i64 0, .slice none 0 0] 33) = w0 at *
  obtain ⟨⟨d0, d1, d2⟩, f0, f1, f2⟩ := block3 (hX1.block b1)
  change List.length (keepL (vldH W H (flatZ W H top)) (flatZ W H top)) = n at hl
  obtain ⟨HE, HO⟩ := stored3 (T := 33) (u0 := .int .i64 (keepI (vldH W H (flatZ W H top)) W)) (u1 := .int .i64 (keepI (vldH W H (flatZ W H top)) H)) (u2 := .slice a n c) (hX.trans hX1) (by decide) (by omega) (hX1.block b1) (ownsRow_mono hO hX.size)
  have HE' := Lib.hid HE
  have HO' := Lib.hid HO
  have HL := Lib.hid hl
  clear HE HO hl hX hX1 hO b0 b1
  go_wp2
  refine bodyPost_ret (v := .tuple #[.agg #[.int .i64 (keepI (vldH W H (flatZ W H top)) W), .int .i64 (keepI (vldH W H (flatZ W H top)) H), .slice a n c], .bool (vldH W H (flatZ W H top))]) ?_ rfl ?_
  · simp only [results, Try.results38]
    go_simp
  · exact ⟨a, n, c, rfl, HE'.out, HO'.out, HL.out, hle⟩
theorem flatZ_succ (W : Nat) (top : Int) (k : Nat) : gridV W (fun _ _ => top) (k + 1) = gridV W (fun _ _ => top) k ++ [top] := by
  unfold gridV
  rw [List.range_succ, List.map_append]
  simp only [List.map_cons, List.map_nil]

theorem specFlat_no (W H top : Int) (hs : szH W H = false) (w : World) :
    Calls Try.prog 37 #[.int .i64 W, .int .i64 H, .int .i64 top] w (newH w 0 0 [] false) := by
  have HX := Lib.hid ((Ext.refl w).alloc (.cells #[.int .i64 0, .int .i64 0, .slice none 0 0] 33))
  go_enter Try.func37, Try.ntmps37
  go_wp2_with (go_at_call 78; refine (l05Size_any _ _ _).mono ?_; rw [hs]; rintro e w' ⟨rfl, rfl⟩)
  refine bodyPost_ret (v := .tuple #[.agg #[.int .i64 0, .int .i64 0, .slice none 0 0], .bool false]) ?_ rfl ⟨none, 0, 0, rfl, HX.out, World.ownsRow_nil _ _ _ _, rfl, by omega⟩
  simp only [results, Try.results37]
  go_simp

set_option maxRecDepth 100000 in
set_option maxHeartbeats 400000 in
theorem specFlat_yes (W H top : Int) (hs : szH W H = true) (w : World) :
    Calls Try.prog 37 #[.int .i64 W, .int .i64 H, .int .i64 top] w (giveH w W H (flatZ W H top)) := by
  obtain ⟨i0, hi, hz0, hz1, hz2⟩ := info_parts info64
  obtain ⟨⟨s1, s2⟩, s3, s4⟩ := szH_iff.1 hs
  obtain ⟨hm1, hm2⟩ := mul_bd (show 1 ≤ W by omega) s2 (show 1 ≤ H by omega) s4
  obtain ⟨M, hM⟩ := Int.eq_ofNat_of_zero_le (show 0 ≤ W * H by omega)
  have hZ : flatZ W H top = gridV W.toNat (fun _ _ => top) M := by
    unfold flatZ
    congr 1
    have : ((H.toNat * W.toNat : Nat) : Int) = W * H := by rw [Int.natCast_mul, Int.toNat_of_nonneg (by omega), Int.toNat_of_nonneg (by omega), Int.mul_comm]
    omega
  rw [hZ]
  generalize W.toNat = Wn at *
  clear hZ
  have hX := ((Ext.refl w).alloc (.cells #[.int .i64 0, .int .i64 0, .slice none 0 0] 33)).alloc (.cells #[.int .i64 W, .int .i64 H, .slice none 0 0] 33)
  have b0 := heap_mid1 w (.cells #[.int .i64 0, .int .i64 0, .slice none 0 0] 33) (.cells #[.int .i64 W, .int .i64 H, .slice none 0 0] 33)
  have b1 := heap_new1 w (.cells #[.int .i64 0, .int .i64 0, .slice none 0 0] 33) (.cells #[.int .i64 W, .int .i64 H, .slice none 0 0] 33)
  have F0 : Filling w W H (gridV Wn (fun _ _ => top) 0) (w.heap.size + 1) ((w.alloc (.cells #[.int .i64 0, .int .i64 0, .slice none 0 0] 33)).alloc (.cells #[.int .i64 W, .int .i64 H, .slice none 0 0] 33)) 0 :=
    ⟨hX, b0, none, 0, b1, World.ownsRow_nil _ _ _ _⟩
  clear hX b0 b1
  go_enter Try.func37, Try.ntmps37
  go_wp2_with (go_at_call 78; refine (l05Size_any _ _ _).mono ?_; rw [hs]; rintro e w' ⟨rfl, rfl⟩)
  generalize (w.alloc (.cells #[.int .i64 0, .int .i64 0, .slice none 0 0] 33)).alloc (.cells #[.int .i64 W, .int .i64 H, .slice none 0 0] 33) = w0 at *
  go_loopw [9] (fun i wr => ∃ k : Nat, k ≤ M ∧ i = .int .i64 k ∧ Filling w W H (gridV Wn (fun _ _ => top) k) (w.heap.size + 1) wr k) (fun i _ => M - (intOf i).toNat)
  case atStart => exact ⟨0, Nat.zero_le _, rfl, F0⟩
  case round =>
    obtain ⟨k, hk, rfl, hS⟩ := hrel
    clear F0
    obtain ⟨hX, hR, a, c, hB, hO⟩ := hS
    obtain ⟨⟨c0, c1, c2⟩, _⟩ := block3 hB
    by_cases hlt : k < M
    · have HXu := Lib.hid (hX.alloc (.cells #[.int .i64 top] 2))
      have HRu := Lib.hid (((Ext.refl wr).alloc (.cells #[.int .i64 top] 2)).block hR)
      have HBu := Lib.hid (((Ext.refl wr).alloc (.cells #[.int .i64 top] 2)).block hB)
      have HOu := Lib.hid (ownsRow_alloc' hO (.cells #[.int .i64 top] 2))
      clear hX hR hB hO
      go_wp2_with (first | (at_builtin; refine wpList_append_own _ rfl _ _ 28 rfl w.heap.size 2 i0 (.int .i64 0) 1 8 Try.underlying28 hi hz0 hz1 hz2 rfl (by decide) (.slice a k c) k (ints (gridV Wn (fun _ _ => top) k)) rfl HOu.out ⟨wr.heap.size, 0, none⟩ 1 1 [.int .i64 top] rfl rfl ?c1 ?c2 ?c3 ?c4 ?c5 ?_) | go_in)
      case c1 => exact cell_one_new _ _ _
      case c2 => intro u hu; simp at hu; subst hu; rfl
      case c3 => unfold maxLen; omega
      case c4 => omega
      case c5 => exact HXu.out.size
      intro v' w4 hown hg _
      obtain ⟨a', c', rfl⟩ := ownsRow_shape hown
      have HOWN := Lib.hid hown
      have HG := Lib.hid hg
      clear hown hg c0 c1 c2
      have hb4 := Filling.cellAt HXu.out HBu.out HOu.out HG.out
      obtain ⟨⟨_, _, c2⟩, _, _, f2⟩ := block3 hb4
      clear hb4
      go_wp2
      go_roundw
      case rel =>
        refine ⟨k + 1, by omega, by go_num, ?_⟩
        rw [flatZ_succ]
        exact Filling.push HXu.out (by omega) HRu.out HBu.out HOu.out HOWN.out HG.out
      case measure => simp [intOf]; omega
    · obtain rfl : k = M := by omega
      cases hv : vldH W H (gridV Wn (fun _ _ => top) k) with
      | true =>
        go_wp2_with fail
        refine (give_yes W H a k c (gridV Wn (fun _ _ => top) k) (gridV_length _ _ _) (by omega) _ (ownsRow_varr hO) hv).mono ?_
        rintro e w5 ⟨rfl, hX5⟩
        obtain ⟨⟨d0, d1, d2⟩, f0, f1, f2⟩ := block3 (hX5.block hR)
        obtain ⟨HE, HO⟩ := stored3 (T := 33) (u0 := .int .i64 W) (u1 := .int .i64 H) (u2 := .slice a k c) (hX.trans hX5) (by decide) (Nat.le_refl _) (hX5.block hR) (ownsRow_ext hO hX5)
        have HE' := Lib.hid HE
        have HO' := Lib.hid HO
        have HV := Lib.hid hv
        clear hX hR hB hO c0 c1 c2 hX5 HE HO hv
        go_wp2
        refine bodyPost_ret (v := .tuple #[.agg #[.int .i64 W, .int .i64 H, .slice a k c], .bool true]) ?_ rfl (giveH_yes HV.out ⟨a, _, c, rfl, HE'.out, HO'.out, gridV_length _ _ _, by omega⟩)
        simp only [results, Try.results37]
        go_simp
      | false =>
        go_wp2_with fail
        refine (give_no W H a k c (gridV Wn (fun _ _ => top) k) (gridV_length _ _ _) (by omega) _ (ownsRow_varr hO) hv).mono ?_
        rintro e w5 ⟨rfl, hX5⟩
        obtain ⟨⟨d0, d1, d2⟩, f0, f1, f2⟩ := block3 (hX5.block hR)
        have HE' := Lib.hid ((hX.trans hX5).fin3 (Nat.le_refl _) (.int .i64 0) (.int .i64 0) (.slice none 0 0))
        have HV := Lib.hid hv
        clear hX hR hB hO c0 c1 c2 hX5 hv
        go_wp2
        refine bodyPost_ret (v := .tuple #[.agg #[.int .i64 0, .int .i64 0, .slice none 0 0], .bool false]) ?_ rfl (giveH_no HV.out ⟨none, 0, 0, rfl, HE'.out, World.ownsRow_nil _ _ _ _, rfl, by omega⟩)
        simp only [results, Try.results37]
        go_simp

theorem specFlat_any (W H top : Int) (w : World) :
    Calls Try.prog 37 #[.int .i64 W, .int .i64 H, .int .i64 top] w (giveH w W H (flatZ W H top)) := by
  cases hs : szH W H with
  | true => exact specFlat_yes W H top hs w
  | false => exact (specFlat_no W H top hs w).mono fun e w' h => giveH_no (vldH_size hs) h
end Go.Proofs.Ytdggpkgbncmlbaa
