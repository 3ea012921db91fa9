/-
  FnExactSlopesOf returns true for all fields: the program and the reference make the same two fields of slopes; no condition.
-/
import Derived.Test.YtllpbkmdcaikoaaOpenF
import Derived.Test.YtllpbkmdcaikoaaHead
import Derived.Test.YtllpbkmdcaikoaaWalkSlopesOf
namespace Go.Proofs.Ytllpbkmdcaikoaa.fnExactSlopesOf
open Go.ChangeShapes Go.WideShapes Go.ChangeAt Go.RowKit Go.Joins Go.Proofs.Ytllpbkmdcaikoaa
set_option linter.unusedVariables false
set_option linter.unusedSimpArgs false

set_option maxRecDepth 100000 in
theorem lifted (os : Os) (started : os.Started) (H : Type) (enc : TypeId × Value → H) :
    ReturnsInHanded {} Try.checked os 10 .any (Rows.fnExactSlopesOfSpec.pre6 enc Try.prog Try.f10 Rows.fnExactSlopesOfRow.domain false) (Rows.fnExactSlopesOfSpec.post enc Try.prog Try.f10 false true false false) := by
  refine returnsInHanded_of_change (C := Try.checked) ownK started (by kernel_rfl) Try.func10
    (ChangeSpec.witness6 (enc := enc) (C := Try.checked) false ⟨#[], #[.agg #[.int .i64 0, .int .i64 0, .bool false, .slice none 0 0]], []⟩ 8 (by kernel_rfl) (by kernel_rfl) (by kernel_rfl) (by kernel_rfl)) ?_
  intro W base args ds gs before hval0 hW hcnd _
  have hval : ∀ (j : Nat) t v, Try.f10.params[j]? = some t → args[j]? = some v → Value.okWide Try.prog W .any base t v := hval0
  have hW' := hW
  obtain ⟨p, q, hA0, hV, rfl, hfz, hnd⟩ := hW
  have hA : DataW.TrodAll enc Try.prog W 0 (fun _ => true) true Try.f10.params.toList args.toList ds p := hA0
  rw [Try.params10] at hA hval
  obtain ⟨v0, vs0, d0, ds0, p0, q0, hargs, rfl, rfl, h0, r0⟩ := trodAll_cons hA
  obtain ⟨rfl, rfl, rfl⟩ := trodAll_nil r0
  obtain rfl : args = #[v0] := by cases args; simp_all
  obtain ⟨rfl, rfl⟩ := trodVars_none hV
  have k0 := h0
  obtain ⟨W0, H0, Q0, s0, n0, c0, zs0, rfl, hz0, hn0, hR0, wW0, wH0⟩ := open_fieldv (hval 0 24 v0 rfl rfl) h0
  clear hA0 hval0
  simp only [List.append_nil] at hW'
  have hlt := fun x hx => hW'.lt x hx
  refine (walk_FnExactSlopesOf W0 H0 Q0 s0 n0 c0 zs0 hz0 hn0 wW0 wH0 W hR0).mono fun e W' ⟨he, hg⟩ => ?_
  subst he
  refine ⟨_, rfl, _, _, _, [] ++ [], (p0 ++ []), [], hW', ?_, ?_, rfl, Below.frame hg _, fun h => by cases h⟩
  · exact trodAll_cons_mk (shut_bool Try.underlying4 _) trodAll_mk0
  · exact (trodAll_cons_mk (Below.trod laidOutK (by kernel_rfl) (of_decide_eq_true (by kernel_rfl)) k0 hg (fun x hx => hlt x (by simp [hx]))) trodAll_mk0)

theorem closed : joinedFacts Try.checked.prog 10 Try.f10 Rows.fnExactSlopesOfSpec Rows.fnExactSlopesOfRow = true := by
  unfold joinedFacts
  repeat' (with_reducible refine (Bool.and_eq_true_iff).mpr (And.intro ?_ ?_))
  all_goals first | (with_reducible exact head_enter) | (rw [head_final]; rfl) | (rw [head_make]; kernel_rfl) | (as_aux_lemma => kernel_rfl)

theorem over : Rows.fnExactSlopesOfRow.holds Try.pinned (OpenSpec.ofChange Rows.fnExactSlopesOfSpec) :=
  OpenClaim.holds_of_wide 10 Try.f10 rfl rfl rfl rfl rfl rfl rfl ⟨rfl, rfl, rfl, rfl, rfl⟩ rfl rfl rfl rfl rfl (by as_aux_lemma => kernel_rfl) Try.func10 closed
    (by as_aux_lemma => exact (of_decide_eq_true (by kernel_rfl))) (by as_aux_lemma => (unfold Func.isWrapper; first | (rw [if_pos (by decide +kernel)]; kernel_rfl) | (rw [if_neg (by decide +kernel)]; exact ⟨rfl, rfl⟩)))
    (fun os started H enc _ => lifted os started H enc)

theorem proved : Rows.FnExactSlopesOfSaid :=
  over
#print axioms proved
end Go.Proofs.Ytllpbkmdcaikoaa.fnExactSlopesOf
