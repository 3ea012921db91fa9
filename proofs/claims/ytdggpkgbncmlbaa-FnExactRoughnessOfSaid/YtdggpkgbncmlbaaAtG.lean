/-
  Heights moved: l05Own, ShiftHeights by the program and by the reference.
-/
import Derived.Test.YtdggpkgbncmlbaaAtF
import Derived.Test.YtdggpkgbncmlbaaLib5
namespace Go.Proofs.Ytdggpkgbncmlbaa
open Go.RowKit
set_option linter.unusedVariables false
set_option linter.unusedSimpArgs false
set_option linter.unnecessarySimpa false

/-- An answer under a condition. -/
def keepH (w : World) (ok : Bool) (W H : Int) (zs : List Int) (e : Ending) (w' : World) : Prop := newH w (keepI ok W) (keepI ok H) (keepL ok zs) ok e w'
theorem keepH_no {w : World} {ok : Bool} {W H : Int} {zs : List Int} {e : Ending} {w' : World} (h : ok = false) (k : newH w 0 0 [] false e w') : keepH w ok W H zs e w' := by
  unfold keepH; rw [h]; exact k
theorem keepH_yes {w : World} {ok : Bool} {W H : Int} {zs : List Int} {e : Ending} {w' : World} (h : ok = true) (k : newH w W H zs true e w') : keepH w ok W H zs e w' := by
  unfold keepH; rw [h]; exact k

/-- A copy of one's own. -/
theorem l05Own_any (p : Nat) (W H : Int) (a : Option Addr) (n c : Nat) (zs : List Int) (hz : zs.length = n) (hn : n ≤ 1048576) (w : World) (hp : HtsAt w p W H a n c) (hA : VArr w a (ints zs)) :
    Calls Try.prog 90 #[.pointer (some ⟨p, 0, none⟩)] w fun e w' => ∃ a' c', e = .returned (.agg #[.int .i64 W, .int .i64 H, .slice a' n c']) ∧ Ext w w' ∧ w'.ownsRow w.heap.size 2 1 (.slice a' n c') n (ints zs) := by
  obtain ⟨i0, hi, hz0, hz1, hz2⟩ := info_parts info64
  have hX := (Ext.refl w).alloc (.cells #[.int .i64 0, .int .i64 0, .slice none 0 0] 33)
  have b0 := heap_new w (.cells #[.int .i64 0, .int .i64 0, .slice none 0 0] 33)
  have hp1 := hp.ext hX
  have hA1 := hA.ext hX
  clear hp hA
  go_enter Try.func90, Try.ntmps90
  go_wp2_with fail
  generalize w.alloc (.cells #[.int .i64 0, .int .i64 0, .slice none 0 0] 33) = w0 at *
  refine region_grow_tail 15 (C := Ext w0) (K := fun _ _ _ _ => True) ⟨fun _ _ h k => h.trans k, fun _ _ _ _ _ h _ => h⟩ (by kernel_rfl) (by kernel_rfl) ((Ext.refl w0).drew) ?_
  simp only [List.take_succ_cons, List.take_zero, List.drop_succ_cons, List.drop_zero]
  iterate 8 (refine grow_q rfl ?_; apply Exists.intro; refine ⟨fun u hu _ => ?_, ?_⟩; focus (obtain ⟨c0, c1, c2⟩ := hp1.ext hu; go_simp; rfl))
  refine grow_newB (mk := fun b => .slice (some ⟨b, 0, none⟩) 0 0) (ob := .cells #[] 2) w.heap.size rfl (fun b b' h => by simpa using h) (fun u hu => Nat.le_trans hX.size hu.size) (fun u _ _ => ?_) (fun b hb => ?_)
  · go_simp
  iterate 4 (refine grow_q rfl ?_; apply Exists.intro; refine ⟨fun u hu _ => ?_, ?_⟩; focus (obtain ⟨c0, c1, c2⟩ := hp1.ext hu; go_simp; rfl))
  refine grow_copy _ _ 28 2 i0 (.int .i64 0) 8 w.heap.size b n c a (ints zs) rfl rfl Try.underlying28 hi hz0 hz1 hz2 rfl hb (by simp [hz]) (by unfold maxLen; omega) (by omega) ?_ ?_ (fun u hu hk => ⟨?_, hA1.ext hu⟩) (fun a' c' => ?_)
  · go_simp
  · go_simp
  · exact hk 11 (by simp [Oper.looksAt, Op.operands, Call.operands])
  refine grow_q rfl ?_; apply Exists.intro; refine ⟨fun u hu _ => ?_, ?_⟩
  · go_simp; rfl
  refine grow_nil (fun w3 hu hh => ?_)
  obtain ⟨⟨_, _⟩, hO⟩ := hh
  obtain ⟨⟨d0, d1, d2⟩, f0, f1, f2⟩ := block3 (hu.block b0)
  obtain ⟨HE, HO⟩ := stored3 (T := 33) (u0 := .int .i64 W) (u1 := .int .i64 H) (u2 := .slice a' n c') (hX.trans hu) (by decide) (Nat.le_refl _) (hu.block b0) hO
  have HE' := Lib.hid HE
  have HO' := Lib.hid HO
  clear HE HO hX hu b0 hp1 hA1 hO
  go_simp
  go_wp2
  refine bodyPost_ret (v := .agg #[.int .i64 W, .int .i64 H, .slice a' n c']) ?_ rfl ⟨_, _, rfl, HE'.out, HO'.out⟩
  simp only [results, Try.results90]
  go_simp
end Go.Proofs.Ytdggpkgbncmlbaa
