/-
  FnFieldTurns returns true for all bytes: fields mirrored, exchanged and rolled back are the same, and their differences are mirrored, exchanged and rolled with them; no condition.
-/
import Derived.Test.YtllpbkmdcaikoaaOpenB
import Derived.Test.YtllpbkmdcaikoaaHead
import Derived.Test.YtllpbkmdcaikoaaWalkFieldTurns
namespace Go.Proofs.Ytllpbkmdcaikoaa.fnFieldTurns
open Go.ChangeShapes Go.WideShapes Go.ChangeAt Go.RowKit Go.Joins Go.Proofs.Ytllpbkmdcaikoaa
set_option linter.unusedVariables false
set_option linter.unusedSimpArgs false

set_option maxRecDepth 100000 in
theorem lifted (os : Os) (started : os.Started) (H : Type) (enc : TypeId × Value → H) :
    ReturnsInHanded {} Try.checked os 16 .any (Rows.fnFieldTurnsSpec.pre6 enc Try.prog Try.f16 Rows.fnFieldTurnsRow.domain false) (Rows.fnFieldTurnsSpec.post enc Try.prog Try.f16 false true false false) := by
  refine returnsInHanded_of_change (C := Try.checked) ownK started (by kernel_rfl) Try.func16
    (ChangeSpec.witness6 (enc := enc) (C := Try.checked) false ⟨#[], #[.slice none 0 0, .slice none 0 0], []⟩ 8 (by kernel_rfl) (by kernel_rfl) (by kernel_rfl) (by kernel_rfl)) ?_
  intro W base args ds gs before hval0 hW hcnd _
  have hval : ∀ (j : Nat) t v, Try.f16.params[j]? = some t → args[j]? = some v → Value.okWide Try.prog W .any base t v := hval0
  have hW' := hW
  obtain ⟨p, q, hA0, hV, rfl, hfz, hnd⟩ := hW
  have hA : DataW.TrodAll enc Try.prog W 0 (fun _ => true) true Try.f16.params.toList args.toList ds p := hA0
  rw [Try.params16] at hA hval
  obtain ⟨v0, vs0, d0, ds0, p0, q0, hargs, rfl, rfl, h0, r0⟩ := trodAll_cons hA
  obtain ⟨v1, vs1, d1, ds1, p1, q1, rfl, rfl, rfl, h1, r1⟩ := trodAll_cons r0
  obtain ⟨rfl, rfl, rfl⟩ := trodAll_nil r1
  obtain rfl : args = #[v0, v1] := by cases args; simp_all
  obtain ⟨rfl, rfl⟩ := trodVars_none hV
  have k0 := h0
  have k1 := h1
  obtain ⟨s0, n0, c0, zs0, rfl, hz0, hn0, hb0, hR0⟩ := open_bytev (hval 0 53 v0 rfl rfl) h0
  obtain ⟨s1, n1, c1, zs1, rfl, hz1, hn1, hb1, hR1⟩ := open_bytev (hval 1 53 v1 rfl rfl) h1
  clear hA0 hval0
  simp only [List.append_nil] at hW'
  have hlt := fun x hx => hW'.lt x hx
  refine (walk_FnFieldTurns s0 n0 c0 zs0 hz0 hn0 hb0 s1 n1 c1 zs1 hz1 hn1 hb1 W hR0 hR1).mono fun e W' ⟨he, hg⟩ => ?_
  subst he
  refine ⟨_, rfl, _, _, _, [] ++ [], (p0 ++ (p1 ++ [])), [], hW', ?_, ?_, rfl, Below.frame hg _, fun h => by cases h⟩
  · exact trodAll_cons_mk (shut_bool Try.underlying4 _) trodAll_mk0
  · exact (trodAll_cons_mk (Below.trod laidOutK (by kernel_rfl) (of_decide_eq_true (by kernel_rfl)) k0 hg (fun x hx => hlt x (by simp [hx]))) (trodAll_cons_mk (Below.trod laidOutK (by kernel_rfl) (of_decide_eq_true (by kernel_rfl)) k1 hg (fun x hx => hlt x (by simp [hx]))) trodAll_mk0))

theorem closed : joinedFacts Try.checked.prog 16 Try.f16 Rows.fnFieldTurnsSpec Rows.fnFieldTurnsRow = true := by
  unfold joinedFacts
  repeat' (with_reducible refine (Bool.and_eq_true_iff).mpr (And.intro ?_ ?_))
  all_goals first | (with_reducible exact head_enter) | (rw [head_final]; rfl) | (rw [head_make]; kernel_rfl) | (as_aux_lemma => kernel_rfl)

theorem over : Rows.fnFieldTurnsRow.holds Try.pinned (OpenSpec.ofChange Rows.fnFieldTurnsSpec) :=
  OpenClaim.holds_of_wide 16 Try.f16 rfl rfl rfl rfl rfl rfl rfl ⟨rfl, rfl, rfl, rfl, rfl⟩ rfl rfl rfl rfl rfl (by as_aux_lemma => kernel_rfl) Try.func16 closed
    (by as_aux_lemma => exact (of_decide_eq_true (by kernel_rfl))) (by as_aux_lemma => (unfold Func.isWrapper; first | (rw [if_pos (by decide +kernel)]; kernel_rfl) | (rw [if_neg (by decide +kernel)]; exact ⟨rfl, rfl⟩)))
    (fun os started H enc _ => lifted os started H enc)

theorem proved : Rows.FnFieldTurnsSaid :=
  over
#print axioms proved
end Go.Proofs.Ytllpbkmdcaikoaa.fnFieldTurns
