/-
  Regions that draw their order, with one operation that may come behind the store of the tail (the model's late stores): that operation reads no memory, so the order makes no difference. A plain theorem over the model's regions.
-/
import Derived.Test.YtajfpjggdbifjaaLib5
namespace Go.Proofs.Ytajfpjggdbifjaa
open Go.RowKit
set_option linter.unusedVariables false
set_option linter.unusedSimpArgs false

section
variable {P : Program} {ops : Array Oper} {md : Region.Mode} {C : World → Prop} {K : FuncId → Array Value → Value → World → Prop}

/-- Each operation of the head but 'l' is waited for by a later one of the head, or by the tail's first. -/
def sinkL (md : Region.Mode) (ops : Array Oper) (n l : Nat) : Bool :=
  (List.range n).all fun i => i == l || (List.range (n + 1)).any fun j => decide (i < j) && j != l && Region.waitsFor md ops j i

theorem tail_waitsL {n l : Nat} {listed : Array Bool} (hs : sinkL md ops n l = true) (hn : n < ops.size) (inv : HeadInv md ops n listed) :
    ∀ (d i : Nat), n - i = d → i < n → i ≠ l → listed.getD i true = false → n ∉ Region.ready md ops listed := by
  intro d
  induction d using Nat.strongRecOn with
  | _ d ih =>
    intro i hd hi hil hun hr
    obtain ⟨_, ot, hot, hall⟩ := mem_ready.1 hr
    have h1 := List.all_eq_true.1 hs i (List.mem_range.2 hi)
    simp only [Bool.or_eq_true, beq_iff_eq, hil, false_or] at h1
    obtain ⟨j, hj, hj2⟩ := List.any_eq_true.1 h1
    simp only [Bool.and_eq_true, decide_eq_true_eq, bne_iff_ne, ne_eq] at hj2
    obtain ⟨oj, hoj, e, he, hb, hon⟩ := Region.waitsFor_spec hj2.2
    have hjle : j ≤ n := by have := List.mem_range.1 hj; omega
    by_cases hjt : j = n
    · subst hjt
      have : oj = ot := Option.some.inj (hoj.symm.trans hot)
      subst this
      have h2 := hall e he hb
      rw [hon, getD_both hun] at h2
      cases h2
    · cases hl : listed.getD j false with
      | true =>
        have h2 := inv.closed j oj hoj hl e he hb
        rw [hon, getD_both hun] at h2
        cases h2
      | false =>
        have hjs : j < listed.size := by rw [inv.size]; omega
        exact ih (n - j) (by omega) j rfl (by omega) hj2.1.2 (getD_in hjs hl) hr
theorem tail_chain {n : Nat} {listed : Array Bool} (hc : Region.chainB md ops n = true) (inv : HeadInv md ops n listed) : ∀ t, n < t → t ∉ Region.ready md ops listed := by
  intro t htn hr
  obtain ⟨_, ot, hot, hall⟩ := mem_ready.1 hr
  have htlt : t < ops.size := (Array.getElem?_eq_some_iff.1 hot).1
  have h1 := List.all_eq_true.1 hc t (List.mem_range.2 htlt)
  simp only [Bool.or_eq_true, decide_eq_true_eq] at h1
  rcases h1 with h1 | h1
  · omega
  · obtain ⟨o', ho', e, he, hb, hon⟩ := Region.waitsFor_spec h1
    have : o' = ot := Option.some.inj (ho'.symm.trans hot)
    subst this
    have h2 := hall e he hb
    rw [hon, getD_both (inv.tail (t - 1) (by omega) (by omega))] at h2
    cases h2

def wpAnyE (P : Program) (md : Region.Mode) (ops : Array Oper) (C : World → Prop) (K : FuncId → Array Value → Value → World → Prop) (L : Array Bool → Cont) (n l : Nat) (ol : Oper) : Nat → Array Bool → Cont
  | 0, listed, a, G, H => L listed a G H
  | f + 1, listed, a, G, H =>
    Region.ready md ops listed ≠ [] ∧ ∀ i ∈ Region.ready md ops listed, (i < n ∧ gOp P ops C K i (wpAnyE P md ops C K L n l ol f (listed.setIfInBounds i true)) a G H) ∨
      (i = n ∧ f = 0 ∧ l ∈ Region.ready md ops listed ∧ YieldsG P ops C K ol (L (listed.setIfInBounds l true)) a G H)

theorem wpAnyE_first (hC : Closed C K) {n l i : Nat} {oi ol : Oper} {L : Array Bool → Cont} (hi : ops[i]? = some oi) (hol : ops[l]? = some ol) (hsel : ∀ (j : Nat) (o : Oper) cs b, ops[j]? = some o → o.op ≠ .select cs b)
    (htail : ∀ listed, HeadInv md ops n listed → listed.getD i true = false → ∀ t, n ≤ t → t ∈ Region.ready md ops listed → i = l ∧ t = n) (hin : i < n)
    (hdone : ∀ listed a G H, L listed a G H → ∀ j ∈ Region.ready md ops listed, n ≤ j) :
    ∀ (f : Nat) (listed : Array Bool) (a : Act) (G : Facts) (H : World → Prop), Inv C G H → HeadInv md ops n listed →
      (∀ j oj, ops[j]? = some oj → j ≠ i → listed.getD j true = false → (∀ e ∈ oj.after, Region.binds md e = true → e.on ≠ i) → oi.apart ops oj = true) →
      i ∈ Region.ready md ops listed →
      YieldsG P ops C K oi (wpAnyE P md ops C K L n l ol f (listed.setIfInBounds i true)) a G H → wpAnyE P md ops C K L n l ol (f + 1) listed a G H := by
  intro f
  induction f with
  | zero =>
    intro listed a G H I inv _ hr Y
    have hun := (mem_ready.1 hr).1
    refine ⟨fun h => (by rw [h] at hr; cases hr), fun j hj => ?_⟩
    rcases Nat.lt_or_ge j n with hjn | hjn
    · refine .inl ⟨hjn, ?_⟩
      by_cases hji : j = i
      · subst hji; exact (gOp_some hi).2 Y
      · exfalso
        have hmem := ready_mono hj hji
        have : ∃ a G H, L (listed.setIfInBounds i true) a G H := by
          unfold YieldsG at Y
          split at Y
          · obtain ⟨v, w, c, hh, g⟩ := I.some hC Y.1
            exact ⟨_, _, _, Y.2 v ⟨w, c, hh, g⟩⟩
          · exact ⟨_, _, _, Y⟩
        obtain ⟨a', G', H', hL⟩ := this
        have := hdone _ _ _ _ hL j hmem
        omega
    · obtain ⟨rfl, rfl⟩ := htail _ inv hun j hjn hj
      have : oi = ol := Option.some.inj (hi.symm.trans hol)
      subst this
      exact .inr ⟨rfl, rfl, hr, Y⟩
  | succ f ih =>
    intro listed a G H I inv hfree hr Y
    have hun := (mem_ready.1 hr).1
    refine ⟨fun h => (by rw [h] at hr; cases hr), fun j hj => ?_⟩
    rcases Nat.lt_or_ge j n with hjn | hjn
    · refine .inl ⟨hjn, ?_⟩
      by_cases hji : j = i
      · subst hji; exact (gOp_some hi).2 Y
      · obtain ⟨hjun, oj, hoj, hall⟩ := mem_ready.1 hj
        have hnot : ∀ e ∈ oj.after, Region.binds md e = true → e.on ≠ i := fun e he hb heq => by
          have h1 := hall e he hb
          rw [heq, getD_both hun] at h1
          cases h1
        have Y2 : YieldsG P ops C K oi (YieldsG P ops C K oj (wpAnyE P md ops C K L n l ol f ((listed.setIfInBounds i true).setIfInBounds j true))) a G H :=
          YieldsG_mono hC I (fun a G H _ h => (gOp_some hoj).1 (by
            rcases h.2 j (ready_mono hj hji) with h1 | h1
            · exact h1.2
            · omega)) Y
        have Y3 := YieldsG_comm hC (hfree j oj hoj hji hjun hnot) (fun cs b => hsel i oi cs b hi) (fun cs b => hsel j oj cs b hoj) I Y2
        have hfree' : ∀ k ok, ops[k]? = some ok → k ≠ i → (listed.setIfInBounds j true).getD k true = false →
            (∀ e ∈ ok.after, Region.binds md e = true → e.on ≠ i) → oi.apart ops ok = true := fun k ok hk hki hun hno => by
          refine hfree k ok hk hki ?_ hno
          by_cases hjk : j = k
          · subst hjk; exact hjun
          · rw [getD_set_ne true hjk] at hun; exact hun
        rw [gOp_some hoj]
        refine YieldsG_mono hC I (fun a' G' H' I' h3 => ih (listed.setIfInBounds j true) a' G' H' I' (inv.set hj hjn) hfree' (ready_mono hr (Ne.symm hji)) ?_) Y3
        rw [Array.setIfInBounds_comm _ _ hji]
        exact h3
    · exfalso
      obtain ⟨rfl, rfl⟩ := htail _ inv hun j hjn hj
      have : ∃ a G H, wpAnyE P md ops C K L j i ol (f + 1) (listed.setIfInBounds i true) a G H := by
        unfold YieldsG at Y
        split at Y
        · obtain ⟨v, w, c, hh, g⟩ := I.some hC Y.1
          exact ⟨_, _, _, Y.2 v ⟨w, c, hh, g⟩⟩
        · exact ⟨_, _, _, Y⟩
      obtain ⟨a', G', H', hE⟩ := this
      rcases hE.2 j (ready_mono hj (by omega)) with h1 | h1
      · omega
      · have h2 := (mem_ready.1 h1.2.2.1).1
        have h3 := (mem_ready.1 hr).1
        have hsz : i < listed.size := by
          rcases Nat.lt_or_ge i listed.size with h | h
          · exact h
          · simp [Array.getElem?_eq_none h] at h3
        simp [hsz] at h2

theorem wpAnyE_lex (hC : Closed C K) {n l : Nat} {ol : Oper} {L : Array Bool → Cont} {Lq : Cont} {end_ : Nat → Array Bool → Bool} (hsel : Region.noSelect ops = true) (hol : ops[l]? = some ol)
    (htail : ∀ i listed, i < n → HeadInv md ops n listed → listed.getD i true = false → ∀ t, n ≤ t → t ∈ Region.ready md ops listed → i = l ∧ t = n)
    (hLq : ∀ listed a G H, end_ n listed = true → Lq a G H → L listed a G H)
    (hdone : ∀ listed a G H, L listed a G H → ∀ j ∈ Region.ready md ops listed, n ≤ j)
    (lexF : Nat → Nat → Array Bool → Bool) (lex0 : ∀ k listed, lexF 0 k listed = true → end_ k listed = true)
    (lexS : ∀ f k listed, lexF (f + 1) k listed = true → (Region.ready md ops listed).contains k = true ∧ Region.free md ops listed k = true ∧ lexF f (k + 1) (listed.setIfInBounds k true) = true) :
    ∀ (ls : List Oper) (k : Nat) (listed : Array Bool) (a : Act) (G : Facts) (H : World → Prop), Inv C G H → (∀ j, j < ls.length → ls[j]? = ops[k + j]?) → k + ls.length = n → HeadInv md ops n listed →
    lexF ls.length k listed = true → wpGrow P ops C K Lq ls a G H → wpAnyE P md ops C K L n l ol ls.length listed a G H
  | [], k, listed, a, G, H, _, _, hk, _, hB, h => by
    have : k = n := by simpa using hk
    subst this
    exact hLq _ _ _ _ (lex0 _ _ hB) h
  | o :: ls, k, listed, a, G, H, I, hl, hk, inv, hB, h => by
    have h0 : ops[k]? = some o := by simpa using (hl 0 (by simp)).symm
    obtain ⟨hr, hf, hB'⟩ := lexS _ _ _ hB
    have hkn : k < n := by simp only [List.length_cons] at hk; omega
    have hr' : k ∈ Region.ready md ops listed := by simpa using hr
    have Y : YieldsG P ops C K o (wpGrow P ops C K Lq ls) a G H := h
    refine wpAnyE_first hC h0 hol (Region.noSelect_spec hsel) (fun listed inv hun => htail k listed hkn inv hun) hkn hdone ls.length listed a G H I inv (Region.free_spec h0 hf) hr' ?_
    exact YieldsG_mono hC I (fun a' G' H' I' h' => wpAnyE_lex hC hsel hol htail hLq hdone lexF lex0 lexS ls (k + 1) _ a' G' H' I' (fun j hj => by have := hl (j + 1) (by simp; omega); simpa [Nat.add_assoc, Nat.add_comm 1 j] using this) (by simp only [List.length_cons] at hk; omega) (inv.set hr' hkn) hB' h') Y

/-- An operation that reads no memory. -/
def Blind (P : Program) (o : Oper) : Prop := ∀ (ρ : Operand → Value) u n w1, (execOp ρ o).run P u = .ok n w1 → ∃ v, n = .value v ∧ ∀ u', (execOp ρ o).run P u' = .ok (.value v) u'

theorem blind_extract {o : Oper} {t : Operand} {i : Nat} (ho : o.op = .extract t i) : Blind P o := by
  intro ρ u n w1 h
  cases hr : ρ t with
  | tuple vs =>
    cases hv : vs[i]? with
    | some v =>
      have e : ∀ u', (execOp ρ o).run P u' = .ok (.value v) u' := by
        intro u'; unfold execOp; simp [ho, Instr.extract, hr, hv]
      rw [e] at h
      cases h
      exact ⟨v, rfl, e⟩
    | none => unfold execOp at h; simp [ho, Instr.extract, hr, hv, stuck] at h
  | _ => unfold execOp at h; simp [ho, Instr.extract, hr, stuck] at h

theorem wpAny_of_growE (hC : Closed C K) {n l g : Nat} {ol on_ : Oper} {tl : List Oper} {L : Array Bool → Cont} {Q' : Exit → Act → World → Prop}
    (hon : ops[n]? = some on_) (hol : ops[l]? = some ol) (hln : l ≠ n) (gn : on_.guard = none) (gl : ol.guard = none) (dn : on_.dst = none) (hb : Blind P ol) (hseln : ∀ cs b, on_.op ≠ .select cs b) (hap : ∀ d, ol.dst = some d → d ∉ on_.looksAt ops)
    (hw1 : ∀ listed, Region.seqB md ops (g + 1) n (listed.setIfInBounds l true) = true → l ∈ Region.ready md ops listed → ∀ k ∈ Region.ready md ops (listed.setIfInBounds n true), k = l)
    (htl : ∀ j, tl[j]? = ops[n + 1 + j]?) (hg : tl.length = g)
    (hL : ∀ listed a G H, L listed a G H → Region.seqB md ops (g + 1) n listed = true ∧ ∀ w', C w' → H w' → ∃ w'', (execOp a.eval on_).run P w' = .ok .skip w'' ∧ wpList P ops Q' tl a w'') :
    ∀ (f : Nat) (listed : Array Bool) (a : Act) (G : Facts) (H : World → Prop) (w : World), C w → H w → Inv C G H → wpAnyE P md ops C K L n l ol f listed a G H → wpAny P md ops Q' (f + (g + 1)) listed a w
  | 0, listed, a, G, H, w, hw, hH, _, h => by
    rw [Nat.zero_add]
    obtain ⟨h1, h2⟩ := hL _ _ _ _ h
    obtain ⟨w'', hr, hl⟩ := h2 w hw hH
    have h1' := h1
    simp only [Region.seqB, Bool.and_eq_true, decide_eq_true_eq] at h1'
    refine ⟨fun h0 => (by rw [h1'.1] at h0; cases h0), fun i hi => ?_⟩
    rw [h1'.1] at hi
    have hin : i = n := by simpa using hi
    subst hin
    unfold wpOp
    simp only [hon, Region.wanted, gn, if_true]
    refine .inl ?_
    unfold Go.Oper.wp
    rw [hr]
    simp only [Go.Oper.upon, dn, Act.put]
    have := wpAny_of_seq (md := md) (Q' := Q') tl (i + 1) (listed.setIfInBounds i true) a w'' (fun j => htl j) (by rw [hg]; exact h1'.2) hl
    rwa [hg] at this
  | f + 1, listed, a, G, H, w, hw, hH, I, h => by
    rw [show f + 1 + (g + 1) = (f + (g + 1)) + 1 by omega]
    refine ⟨fun h0 => absurd h0 h.1, fun i hi => ?_⟩
    rcases h.2 i hi with ⟨_, h1⟩ | ⟨rfl, rfl, hrl, Y⟩
    · unfold gOp at h1
      unfold wpOp
      split
      · rename_i ho; simp only [ho] at h1
        exact wpAny_of_growE hC hon hol hln gn gl dn hb hseln hap hw1 htl hg hL f _ a G H w hw hH I h1
      · rename_i o ho
        simp only [ho] at h1
        split
        · rename_i hwa
          simp only [hwa, if_true] at h1
          exact .inl (Oper.wp_of_grow hC hw hH I.facts I.stable (fun v w' hw' hH' =>
            wpAny_of_growE hC hon hol hln gn gl dn hb hseln hap hw1 htl hg hL f _ _ _ _ w' hw' hH' (I.next hC ⟨w', hw', hH'.1, hH'.2⟩) (h1.2 v ⟨w', hw', hH'.1, hH'.2⟩)) h1.1)
        · rename_i hwa
          simp only [hwa] at h1
          exact wpAny_of_growE hC hon hol hln gn gl dn hb hseln hap hw1 htl hg hL f _ _ _ _ w hw hH (I.skip _) h1
    · unfold YieldsG at Y
      simp only [Region.wanted, gl, if_true] at Y
      have kn : known ops G ol w := fun t _ => I.facts w hH t
      have hok := Y.1 w hw kn
      generalize hr : (execOp a.eval ol).run P w = r at hok
      cases r with
      | halt x u => exact hok.elim
      | ok nx u =>
        obtain ⟨v, rfl, hv⟩ := hb _ _ _ _ hr
        have hgv : opGives P ops C K G ol a v w := ⟨w, hw, kn, by rw [hv w]; exact ⟨rfl, Ext.refl _⟩⟩
        obtain ⟨h1, h2⟩ := hL _ _ _ _ (Y.2 v ⟨w, hw, hH, hgv⟩)
        obtain ⟨w'', hrn, hl⟩ := h2 w hw ⟨hH, hgv⟩
        rw [execOp_put on_ hseln a ol.dst v hap] at hrn
        unfold wpOp
        simp only [hon, Region.wanted, gn, if_true]
        refine .inl ?_
        unfold Go.Oper.wp
        rw [hrn]
        simp only [Go.Oper.upon, dn, Act.put]
        rw [Nat.zero_add]
        have hmem := ready_mono (i := i) hrl hln
        refine ⟨fun h0 => (by rw [h0] at hmem; cases hmem), fun k hk => ?_⟩
        have hkl : k = l := hw1 listed h1 hrl k hk
        subst hkl
        unfold wpOp
        simp only [hol, Region.wanted, gl, if_true]
        refine .inl ?_
        unfold Go.Oper.wp
        rw [hv w'']
        simp only [Go.Oper.upon]
        simp only [Region.seqB, Bool.and_eq_true, decide_eq_true_eq] at h1
        have := wpAny_of_seq (md := md) (Q' := Q') tl (i + 1) ((listed.setIfInBounds k true).setIfInBounds i true) (a.put ol.dst v) w'' (fun j => htl j) (by rw [hg]; exact h1.2) hl
        rw [hg] at this
        rw [Array.setIfInBounds_comm _ _ hln.symm]
        exact this
end

/-- When a region's tail is one store and what follows it, and operation 'l' alone may come behind the store. -/
def lexLateB (md : Region.Mode) (ops : Array Oper) (n l : Nat) : Bool :=
  Region.noSelect ops && decide (n < ops.size) && decide (l < n) && sinkL md ops n l && Region.chainB md ops n && Region.lexHead md ops (ops.size - n) n 0 (Array.replicate ops.size false) && Region.waitsFor md ops (n + 1) l

theorem region_grow_late {P : Program} {C : World → Prop} {K : FuncId → Array Value → Value → World → Prop} {id : Nat} {Q : Exit → Act → World → Prop} {a : Act} {w : World} {ls : List Oper} (n l : Nat) {ol on_ : Oper}
    (hC : Closed C K) (hm : P.follows .mixedOrders = true) (hB : lexLateB .any ls.toArray n l = true) (hon : ls[n]? = some on_) (hol : ls[l]? = some ol) (gn : on_.guard = none) (gl : ol.guard = none) (dn : on_.dst = none) (hb : Blind P ol) (hap : ol.apart ls.toArray on_ = true) (h0 : C w.drew)
    (h : wpGrow P ls.toArray C K (fin C fun a' w' => ∃ w'', (execOp a'.eval on_).run P w' = .ok .skip w'' ∧ wpList P ls.toArray Q (ls.drop (n + 1)) a' w'') (ls.take n) a (fun _ _ => True) (fun _ => True)) : (Code.region id ls.toArray true).wp P Q a w := by
  simp only [lexLateB, Bool.and_eq_true, decide_eq_true_eq] at hB
  obtain ⟨⟨⟨⟨⟨⟨hsel, hn⟩, hln⟩, hs⟩, hc⟩, hlex⟩, hwf⟩ := hB
  have hn' : n < ls.length := by simpa using hn
  have htl : (ls.take n).length = n := by simp; omega
  have hdl : (ls.drop (n + 1)).length = ls.toArray.size - n - 1 := by simp; omega
  have hon' : ls.toArray[n]? = some on_ := by simpa using hon
  have hol' : ls.toArray[l]? = some ol := by simpa using hol
  have hseln := fun cs b => Region.noSelect_spec hsel n on_ cs b hon'
  have I0 : Inv C (fun _ _ => True) (fun _ => True) := ⟨fun _ _ _ => trivial, fun _ _ _ _ => trivial, _, h0, trivial⟩
  have inv0 : HeadInv .any ls.toArray n (Array.replicate ls.toArray.size false) :=
    ⟨by simp, fun j oj _ hl => (by rw [getD_replicate_false] at hl; cases hl), fun t _ ht => getD_in (by simpa using ht) (getD_replicate_false _ _)⟩
  have hsz : ls.toArray.size - n = (ls.toArray.size - n - 1) + 1 := by omega
  have H := wpAnyE_lex (md := .any) (n := n) (l := l) (ol := ol) (end_ := fun k listed => Region.seqB .any ls.toArray (ls.toArray.size - n) k listed)
    (L := fun listed a' _ H => Region.seqB .any ls.toArray (ls.toArray.size - n) n listed = true ∧ ∀ w', C w' → H w' → ∃ w'', (execOp a'.eval on_).run P w' = .ok .skip w'' ∧ wpList P ls.toArray Q (ls.drop (n + 1)) a' w'') hC hsel hol'
    (fun i listed hi inv hun t ht hr => by
      have htn : t = n := by
        rcases Nat.lt_or_ge n t with h | h
        · exact absurd hr (tail_chain hc inv t h)
        · omega
      subst htn
      refine ⟨?_, rfl⟩
      by_cases hil : i = l
      · exact hil
      · exact absurd hr (tail_waitsL hs hn inv _ i rfl hi hil hun))
    (fun listed a G H he hq => ⟨he, hq⟩)
    (fun listed a G H hL => seqB_ready hL.1)
    (Region.lexHead .any ls.toArray (ls.toArray.size - n)) (fun k listed hh => by simpa [Region.lexHead] using hh)
    (fun f k listed hh => by simp only [Region.lexHead, Bool.and_eq_true] at hh; exact ⟨hh.1.1, hh.1.2, hh.2⟩)
    (ls.take n) 0 _ a _ _ I0 (fun j hj => by
      have hj' : j < n := by rw [htl] at hj; exact hj
      simp [hj']) (by simpa using htl) inv0 (by rw [htl]; exact hlex) h
  refine wp_region_any hm ?_
  have := wpAny_of_growE (Q' := Q) (g := ls.toArray.size - n - 1) (tl := ls.drop (n + 1)) hC hon' hol' (by omega) gn gl dn hb hseln (Oper.apart_spec hap).1
    (fun listed hq hr k hk => by
      by_cases hkl : k = l
      · exact hkl
      · exfalso
        have h1 := ready_mono (i := l) hk hkl
        rw [Array.setIfInBounds_comm _ _ (by omega : n ≠ l)] at h1
        simp only [Region.seqB, Bool.and_eq_true, decide_eq_true_eq] at hq
        have h2 : k = n + 1 := by
          have hq2 := hq.2
          cases hg : ls.toArray.size - n - 1 with
          | zero => rw [hg] at hq2; simp only [Region.seqB, List.isEmpty_iff] at hq2; rw [hq2] at h1; cases h1
          | succ g' => rw [hg] at hq2; simp only [Region.seqB, Bool.and_eq_true, decide_eq_true_eq] at hq2; rw [hq2.1] at h1; simpa using h1
        subst h2
        obtain ⟨o', ho', e, he, hbd, hone⟩ := Region.waitsFor_spec hwf
        obtain ⟨_, ok, hok, hall⟩ := mem_ready.1 hk
        have : o' = ok := Option.some.inj (ho'.symm.trans hok)
        subst this
        have h3 := hall e he hbd
        rw [hone, getD_set_ne false (by omega)] at h3
        have h4 := getD_both (mem_ready.1 hr).1
        rw [h4] at h3
        cases h3)
    (fun j => by simp [List.getElem?_drop]) hdl
    (fun listed a' G H hL => by rw [← hsz]; exact hL) _ _ _ _ _ w.drew h0 trivial I0 H
  rw [htl, show n + (ls.toArray.size - n - 1 + 1) = ls.toArray.size by omega] at this
  exact this

/-- The store of the tail fills a box; the world behind it is known by its blocks alone. -/
theorem late_box {P : Program} {a : Act} {w : World} {o : Oper} {R : World → Prop} (ty : TypeId) (x y : Operand) (ho : o.op = .store ty x y)
    (g : Nat) (cells : Array Value) (hx : a.eval x = .pointer (some ⟨g, 0, none⟩)) (hy : a.eval y = .agg cells)
    (t : TypeId) (old : Array Value) (hg : w.heap[g]? = some (.cells old t (0, 0))) (hi : (P.info? ty).map (·.size) = some cells.size)
    (hold : old.size = cells.size) (h1 : cells.all (·.oneCell') = true)
    (h : ∀ w', w.grownBy w' (some g) → w'.heap[g]? = some (.cells cells t (0, 0)) → R w') :
    ∃ w'', (execOp a.eval o).run P w = .ok .skip w'' ∧ R w'' := by
  refine ⟨w.setRow g cells, ?_, h _ (grownBy_setRow w g cells) (setRow_heap w g old cells t (0, 0) hg)⟩
  unfold execOp
  simp only [ho, hx, hy, Instr.storeAt, Instr.sureAddr, Sem.run_bind, Sem.run_pure, Result.andThen_ok, run_storeVar_row w g t ty old cells hg hi hold h1]
end Go.Proofs.Ytajfpjggdbifjaa
