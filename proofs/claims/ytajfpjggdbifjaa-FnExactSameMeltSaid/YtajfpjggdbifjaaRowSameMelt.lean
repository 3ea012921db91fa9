/-
  FnExactSameMelt returns true for all melts: the program and the reference agree whether two melts are the same; no condition.
-/
import Derived.Test.YtajfpjggdbifjaaOpenM
import Derived.Test.YtajfpjggdbifjaaHead
import Derived.Test.YtajfpjggdbifjaaWalkSameMelt
namespace Go.Proofs.Ytajfpjggdbifjaa.fnExactSameMelt
open Go.ChangeShapes Go.WideShapes Go.ChangeAt Go.RowKit Go.Joins Go.Proofs.Ytajfpjggdbifjaa
set_option linter.unusedVariables false
set_option linter.unusedSimpArgs false

set_option maxRecDepth 100000 in
theorem lifted (os : Os) (started : os.Started) (H : Type) (enc : TypeId × Value → H) :
    ReturnsInHanded {} Try.checked os 6 .any (Rows.fnExactSameMeltSpec.pre6 enc Try.prog Try.f6 Rows.fnExactSameMeltRow.domain false) (Rows.fnExactSameMeltSpec.post enc Try.prog Try.f6 false true false false) := by
  refine returnsInHanded_of_change (C := Try.checked) ownK started (by kernel_rfl) Try.func6
    (ChangeSpec.witness6 (enc := enc) (C := Try.checked) false ⟨#[], #[.agg #[.int .i64 0, .int .i64 0, .bool false, .slice none 0 0, .int .i64 0, .int .i64 0, .bool false, .slice none 0 0, .float .f32 0, .float .f32 0, .float .f32 0, .float .f32 0, .float .f32 0, .int .i64 0], .agg #[.int .i64 0, .int .i64 0, .bool false, .slice none 0 0, .int .i64 0, .int .i64 0, .bool false, .slice none 0 0, .float .f32 0, .float .f32 0, .float .f32 0, .float .f32 0, .float .f32 0, .int .i64 0]], []⟩ 8 (by kernel_rfl) (by kernel_rfl) (by kernel_rfl) (by kernel_rfl)) ?_
  intro W base args ds gs before hval0 hW hcnd _
  have hval : ∀ (j : Nat) t v, Try.f6.params[j]? = some t → args[j]? = some v → Value.okWide Try.prog W .any base t v := hval0
  have hW' := hW
  obtain ⟨p, q, hA0, hV, rfl, hfz, hnd⟩ := hW
  have hA : DataW.TrodAll enc Try.prog W 0 (fun _ => true) true Try.f6.params.toList args.toList ds p := hA0
  rw [Try.params6] at hA hval
  obtain ⟨v0, vs0, d0, ds0, p0, q0, hargs, rfl, rfl, h0, r0⟩ := trodAll_cons hA
  obtain ⟨v1, vs1, d1, ds1, p1, q1, rfl, rfl, rfl, h1, r1⟩ := trodAll_cons r0
  obtain ⟨rfl, rfl, rfl⟩ := trodAll_nil r1
  obtain rfl : args = #[v0, v1] := by cases args; simp_all
  obtain ⟨rfl, rfl⟩ := trodVars_none hV
  have k0 := h0
  have k1 := h1
  obtain ⟨mW, mH, mR, ma, mn, mc, mW', mH', mR', ma', mn', mc', mf1, mf2, mf3, mf4, mf5, mk, mxs, mxs', rfl, mhz, mhn, mhR, mhw, mhz', mhn', mhR', mhw', mwk, mhff⟩ := open_melt (hval 0 58 v0 rfl rfl) h0
  obtain ⟨oW, oH, oR, oa, on, oc, oW', oH', oR', oa', on', oc', of1, of2, of3, of4, of5, ok, oxs, oxs', rfl, ohz, ohn, ohR, ohw, ohz', ohn', ohR', ohw', owk, ohff⟩ := open_melt (hval 1 58 v1 rfl rfl) h1
  clear hA0 hval0
  simp only [List.append_nil] at hW'
  have hlt := fun x hx => hW'.lt x hx
  refine (walk_FnExactSameMelt mW mH mR ma mn mc mW' mH' mR' ma' mn' mc' mf1 mf2 mf3 mf4 mf5 mk mxs mxs' mhz mhn mhz' mhn' mhw mhw' mhff oW oH oR oa on oc oW' oH' oR' oa' on' oc' of1 of2 of3 of4 of5 ok oxs oxs' ohz ohn ohz' ohn' ohw ohw' ohff W mhR mhR' ohR ohR').mono fun e W' ⟨he, hg⟩ => ?_
  subst he
  refine ⟨_, rfl, _, _, _, [] ++ [], (p0 ++ (p1 ++ [])), [], hW', ?_, ?_, rfl, Below.frame hg _, fun h => by cases h⟩
  · exact trodAll_cons_mk (shut_bool Try.underlying4 _) trodAll_mk0
  · exact (trodAll_cons_mk (Below.trod laidOutK (by kernel_rfl) (of_decide_eq_true (by kernel_rfl)) k0 hg (fun x hx => hlt x (by simp [hx]))) (trodAll_cons_mk (Below.trod laidOutK (by kernel_rfl) (of_decide_eq_true (by kernel_rfl)) k1 hg (fun x hx => hlt x (by simp [hx]))) trodAll_mk0))

theorem closed : joinedFacts Try.checked.prog 6 Try.f6 Rows.fnExactSameMeltSpec Rows.fnExactSameMeltRow = true := by
  unfold joinedFacts
  repeat' (with_reducible refine (Bool.and_eq_true_iff).mpr (And.intro ?_ ?_))
  all_goals first | (with_reducible exact head_enter) | (rw [head_final]; rfl) | (rw [head_make]; kernel_rfl) | (as_aux_lemma => kernel_rfl)

theorem over : Rows.fnExactSameMeltRow.holds Try.pinned (OpenSpec.ofChange Rows.fnExactSameMeltSpec) :=
  OpenClaim.holds_of_wide 6 Try.f6 rfl rfl rfl rfl rfl rfl rfl ⟨rfl, rfl, rfl, rfl, rfl⟩ rfl rfl rfl rfl rfl (by as_aux_lemma => kernel_rfl) Try.func6 closed
    (by as_aux_lemma => exact (of_decide_eq_true (by kernel_rfl))) (by as_aux_lemma => (unfold Func.isWrapper; first | (rw [if_pos (by decide +kernel)]; kernel_rfl) | (rw [if_neg (by decide +kernel)]; exact ⟨rfl, rfl⟩)))
    (fun os started H enc _ => lifted os started H enc)

theorem proved : Rows.FnExactSameMeltSaid :=
  over
#print axioms proved
end Go.Proofs.Ytajfpjggdbifjaa.fnExactSameMelt
