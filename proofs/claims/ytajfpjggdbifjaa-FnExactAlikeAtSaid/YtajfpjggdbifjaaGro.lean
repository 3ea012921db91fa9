/-
  Regions that draw their order of evaluation, whose operations leave what was there as it was (they may make new blocks, draw from the tape, and yield values that are not fixed: the bits of a NaN, the address of a new block): one walk of the text's order serves every order. A plain theorem over the model's regions, without any program in it.
-/
import Derived.Orders
import Derived.Still
import Derived.StillTail
import Derived.Below
namespace Go.Proofs.Ytajfpjggdbifjaa
open Go.RowKit

/-- Of what was there nothing has turned; new blocks may lie behind it. -/
def Ext (w w' : World) : Prop := Below w.heap.size w w'

theorem Ext.refl (w : World) : Ext w w := Below.refl _ _
theorem Ext.trans {a b c : World} (h : Ext a b) (k : Ext b c) : Ext a c :=
  Below.trans (B := a.heap.size) h (Below.mono (B := b.heap.size) k (Below.size h))
theorem Ext.drew {a w : World} (h : Ext a w) : Ext a w.drew := Below.drew h
theorem Ext.alloc {a w : World} (h : Ext a w) (o : Obj) : Ext a (w.alloc o) := Below.alloc h (Below.size h) o
theorem Ext.size {a w : World} (h : Ext a w) : a.heap.size ≤ w.heap.size := Below.size h
theorem Ext.cell {a w : World} (h : Ext a w) {p : Addr} {v : Value} (hp : a.cell? p = some v) : w.cell? p = some v := by
  have := World.block_lt_of_cell? _ _ hp
  rw [Below.cell h this]; exact hp
theorem Ext.block {a w : World} (h : Ext a w) {k : Nat} {o : Obj} (hp : a.heap[k]? = some o) : w.heap[k]? = some o := by
  have : k < a.heap.size := (Array.getElem?_eq_some_iff.1 hp).1
  rw [Below.block h k this]; exact hp

section
variable {P : Program} {ops : Array Oper} {md : Region.Mode} {C : World → Prop} {K : FuncId → Array Value → Value → World → Prop}

/-- What an operation may do. -/
def okUpon (P : Program) (K : FuncId → Array Value → Value → World → Prop) (w : World) : Result Next → Prop
  | .ok (.value _) w' => Ext w w'
  | .ok .skip w' => Ext w w'
  | .ok (.enter f args) w' => w' = w ∧ Calls P f args w (fun e w'' => ∃ v, e = .returned v ∧ Ext w w'' ∧ K f args v w'')
  | _ => False

/-- In the world w, v may be what the operation has yielded. -/
def givesUpon (K : FuncId → Array Value → Value → World → Prop) (v : Value) (w : World) : Result Next → Prop
  | .ok (.value u) w' => u = v ∧ Ext w' w
  | .ok .skip w' => v = undef ∧ Ext w' w
  | .ok (.enter f args) _ => K f args v w
  | _ => False

abbrev Facts := Tmp → World → Prop

def known (ops : Array Oper) (G : Facts) (o : Oper) (w : World) : Prop := ∀ t ∈ o.looksAt ops, G t w
def opOk (P : Program) (ops : Array Oper) (C : World → Prop) (K : FuncId → Array Value → Value → World → Prop) (G : Facts) (o : Oper) (a : Act) : Prop :=
  ∀ w, C w → known ops G o w → okUpon P K w ((execOp a.eval o).run P w)
def opGives (P : Program) (ops : Array Oper) (C : World → Prop) (K : FuncId → Array Value → Value → World → Prop) (G : Facts) (o : Oper) (a : Act) (v : Value) (w : World) : Prop :=
  ∃ w1, C w1 ∧ known ops G o w1 ∧ givesUpon K v w ((execOp a.eval o).run P w1)
def upd (G : Facts) (dst : Option Tmp) (F : World → Prop) : Facts := fun t w => if dst = some t then F w else G t w

abbrev Cont := Act → Facts → (World → Prop) → Prop

def gOp (P : Program) (ops : Array Oper) (C : World → Prop) (K : FuncId → Array Value → Value → World → Prop) (i : Nat) (N : Cont) (a : Act) (G : Facts) (H : World → Prop) : Prop :=
  match ops[i]? with
  | none => N a G H
  | some o => if Region.wanted o (yielded ops a.tmps) then
      opOk P ops C K G o a ∧ ∀ v, (∃ w, C w ∧ H w ∧ opGives P ops C K G o a v w) →
        N (a.put o.dst v) (upd G o.dst (opGives P ops C K G o a v)) (fun w => H w ∧ opGives P ops C K G o a v w)
    else N (a.put o.dst undef) (upd G o.dst fun _ => True) H

theorem gOp_mono {i : Nat} {a : Act} {G : Facts} {H : World → Prop} {N N' : Cont} (h : ∀ a G H, N a G H → N' a G H) (hh : gOp P ops C K i N a G H) : gOp P ops C K i N' a G H := by
  unfold gOp at *
  split
  · exact h _ _ _ (by simpa [*] using hh)
  · rename_i o ho
    simp only [ho] at hh
    split
    · rename_i hw; simp only [hw, if_true] at hh; exact ⟨hh.1, fun v hv => h _ _ _ (hh.2 v hv)⟩
    · rename_i hw; simp only [hw] at hh; exact h _ _ _ hh

/-- The walk in the text's order. -/
def wpGrow (P : Program) (ops : Array Oper) (C : World → Prop) (K : FuncId → Array Value → Value → World → Prop) (Q : Cont) : List Oper → Cont
  | [], a, G, H => Q a G H
  | o :: rest, a, G, H => if Region.wanted o (yielded ops a.tmps) then
      opOk P ops C K G o a ∧ ∀ v, (∃ w, C w ∧ H w ∧ opGives P ops C K G o a v w) →
        wpGrow P ops C K Q rest (a.put o.dst v) (upd G o.dst (opGives P ops C K G o a v)) (fun w => H w ∧ opGives P ops C K G o a v w)
    else wpGrow P ops C K Q rest (a.put o.dst undef) (upd G o.dst fun _ => True) H

/-- What is kept along the walk. -/
structure Inv (C : World → Prop) (G : Facts) (H : World → Prop) : Prop where
  facts : ∀ w, H w → ∀ t, G t w
  stable : ∀ w w', H w → Ext w w' → H w'
  sat : ∃ w, C w ∧ H w

structure Closed (C : World → Prop) (K : FuncId → Array Value → Value → World → Prop) : Prop where
  cls : ∀ w w', C w → Ext w w' → C w'
  con : ∀ f args v w w', K f args v w → Ext w w' → K f args v w'

theorem gives_stable (hC : Closed C K) {v : Value} {w w' : World} (h : Ext w w') {r : Result Next} (hr : givesUpon K v w r) : givesUpon K v w' r := by
  cases r with
  | ok n u =>
    cases n <;> simp only [givesUpon] at hr ⊢
    · exact ⟨hr.1, hr.2.trans h⟩
    · exact ⟨hr.1, hr.2.trans h⟩
    · exact hC.con _ _ _ _ _ hr h
  | halt x u => exact hr

theorem opGives_stable (hC : Closed C K) {G : Facts} {o : Oper} {a : Act} {v : Value} {w w' : World} (h : Ext w w') (hr : opGives P ops C K G o a v w) : opGives P ops C K G o a v w' := by
  obtain ⟨w1, h1, h2, h3⟩ := hr
  exact ⟨w1, h1, h2, gives_stable hC h h3⟩

theorem Inv.next (hC : Closed C K) {G : Facts} {H : World → Prop} (I : Inv C G H) {o : Oper} {a : Act} {v : Value} (hv : ∃ w, C w ∧ H w ∧ opGives P ops C K G o a v w) :
    Inv C (upd G o.dst (opGives P ops C K G o a v)) (fun w => H w ∧ opGives P ops C K G o a v w) := by
  refine ⟨fun w hw t => ?_, fun w w' hw he => ⟨I.stable w w' hw.1 he, opGives_stable hC he hw.2⟩, ?_⟩
  · unfold upd
    split
    · exact hw.2
    · exact I.facts w hw.1 t
  · obtain ⟨w, h1, h2, h3⟩ := hv
    exact ⟨w, h1, h2, h3⟩

theorem Inv.skip {G : Facts} {H : World → Prop} (I : Inv C G H) (d : Option Tmp) : Inv C (upd G d fun _ => True) H :=
  ⟨fun w hw t => by unfold upd; split; exact trivial; exact I.facts w hw t, I.stable, I.sat⟩

/-- An operation that is all right yields something. -/
theorem Inv.some (hC : Closed C K) {G : Facts} {H : World → Prop} (I : Inv C G H) {o : Oper} {a : Act} (h : opOk P ops C K G o a) : ∃ v w, C w ∧ H w ∧ opGives P ops C K G o a v w := by
  obtain ⟨w, hw, hH⟩ := I.sat
  have kn : known ops G o w := fun t _ => I.facts w hH t
  have h1 := h w hw kn
  generalize hr : (execOp a.eval o).run P w = r at h1
  cases r with
  | ok n u =>
    cases n <;> simp only [okUpon] at h1
    case value x => exact ⟨x, u, hC.cls _ _ hw h1, I.stable _ _ hH h1, w, hw, kn, by rw [hr]; exact ⟨rfl, Ext.refl _⟩⟩
    case skip => exact ⟨undef, u, hC.cls _ _ hw h1, I.stable _ _ hH h1, w, hw, kn, by rw [hr]; exact ⟨rfl, Ext.refl _⟩⟩
    case enter f args =>
      obtain ⟨e, w', fr, ⟨v, _, he, hk⟩, _⟩ := h1.2 []
      exact ⟨v, w', hC.cls _ _ hw he, I.stable _ _ hH he, w, hw, kn, by rw [hr]; exact hk⟩
  | halt x u => exact h1.elim

def wpAnyG (P : Program) (md : Region.Mode) (ops : Array Oper) (C : World → Prop) (K : FuncId → Array Value → Value → World → Prop) (L : Array Bool → Cont) (n : Nat) : Nat → Array Bool → Cont
  | 0, listed, a, G, H => L listed a G H
  | f + 1, listed, a, G, H =>
    Region.ready md ops listed ≠ [] ∧ ∀ i ∈ Region.ready md ops listed, i < n ∧ gOp P ops C K i (wpAnyG P md ops C K L n f (listed.setIfInBounds i true)) a G H

theorem Oper.wp_of_grow (hC : Closed C K) {o : Oper} {a : Act} {G : Facts} {H : World → Prop} {K' : Act → World → Prop} {Q' : Exit → Act → World → Prop} {w : World} (hw : C w) (hH : H w) (hf : ∀ w, H w → ∀ t, G t w) (hst : ∀ w w', H w → Ext w w' → H w')
    (h : ∀ v w', C w' → (H w' ∧ opGives P ops C K G o a v w') → K' (a.put o.dst v) w') (hh : opOk P ops C K G o a) : o.wp P a w K' Q' := by
  have kn : known ops G o w := fun t _ => hf w hH t
  have h1 := hh w hw kn
  unfold Go.Oper.wp
  generalize hr : (execOp a.eval o).run P w = r at h1
  cases r with
  | ok n u =>
    cases n <;> simp only [okUpon] at h1 <;> simp only [Go.Oper.upon]
    case value x => exact h _ _ (hC.cls _ _ hw h1) ⟨hst _ _ hH h1, w, hw, kn, by rw [hr]; exact ⟨rfl, Ext.refl _⟩⟩
    case skip => exact h _ _ (hC.cls _ _ hw h1) ⟨hst _ _ hH h1, w, hw, kn, by rw [hr]; exact ⟨rfl, Ext.refl _⟩⟩
    case enter f args =>
      obtain ⟨rfl, hc⟩ := h1
      refine hc.mono fun e w'' ⟨v, he, hx, hk⟩ => ?_
      subst he
      exact h _ _ (hC.cls _ _ hw hx) ⟨hst _ _ hH hx, _, hw, kn, by rw [hr]; exact hk⟩
  | halt x u => exact h1.elim

theorem wpAny_of_grow (hC : Closed C K) {n g : Nat} {L : Array Bool → Cont} {Q' : Exit → Act → World → Prop} (hL : ∀ listed a G H w, C w → H w → L listed a G H → wpAny P md ops Q' g listed a w) :
    ∀ (f : Nat) (listed : Array Bool) (a : Act) (G : Facts) (H : World → Prop) (w : World), C w → H w → Inv C G H → wpAnyG P md ops C K L n f listed a G H → wpAny P md ops Q' (f + g) listed a w
  | 0, listed, a, G, H, w, hw, hH, _, h => by rw [Nat.zero_add]; exact hL _ _ _ _ _ hw hH h
  | f + 1, listed, a, G, H, w, hw, hH, I, h => by
    rw [show f + 1 + g = (f + g) + 1 by omega]
    refine ⟨fun h0 => absurd h0 h.1, fun i hi => ?_⟩
    have h1 := (h.2 i hi).2
    unfold gOp at h1
    unfold wpOp
    split
    · rename_i ho; simp only [ho] at h1
      exact wpAny_of_grow hC hL f _ a G H w hw hH I h1
    · rename_i o ho
      simp only [ho] at h1
      split
      · rename_i hwa
        simp only [hwa, if_true] at h1
        exact .inl (Oper.wp_of_grow hC hw hH I.facts I.stable (fun v w' hw' hH' =>
          wpAny_of_grow hC hL f _ _ _ _ w' hw' hH' (I.next hC ⟨w', hw', hH'.1, hH'.2⟩) (h1.2 v ⟨w', hw', hH'.1, hH'.2⟩)) h1.1)
      · rename_i hwa
        simp only [hwa] at h1
        exact wpAny_of_grow hC hL f _ _ _ _ w hw hH (I.skip _) h1

/-- What the walk shows of operation 'o' in a state. -/
def YieldsG (P : Program) (ops : Array Oper) (C : World → Prop) (K : FuncId → Array Value → Value → World → Prop) (o : Oper) (N : Cont) (a : Act) (G : Facts) (H : World → Prop) : Prop :=
  if Region.wanted o (yielded ops a.tmps) then
      opOk P ops C K G o a ∧ ∀ v, (∃ w, C w ∧ H w ∧ opGives P ops C K G o a v w) →
        N (a.put o.dst v) (upd G o.dst (opGives P ops C K G o a v)) (fun w => H w ∧ opGives P ops C K G o a v w)
    else N (a.put o.dst undef) (upd G o.dst fun _ => True) H

theorem gOp_some {i : Nat} {o : Oper} (hi : ops[i]? = some o) {N : Cont} {a : Act} {G : Facts} {H : World → Prop} : gOp P ops C K i N a G H ↔ YieldsG P ops C K o N a G H := by
  unfold gOp YieldsG; simp only [hi]

theorem upd_comm {G : Facts} {d e : Option Tmp} {F F' : World → Prop} (h : ∀ x, d = some x → e ≠ some x) : upd (upd G d F) e F' = upd (upd G e F') d F := by
  funext t w
  unfold upd
  by_cases h1 : d = some t
  · simp [h1, h t h1]
  · simp [h1]

theorem known_upd {G : Facts} {o : Oper} {d : Option Tmp} {F : World → Prop} (h : ∀ x, d = some x → x ∉ o.looksAt ops) : known ops (upd G d F) o = known ops G o := by
  funext w
  unfold known
  refine propext ⟨fun hh t ht => ?_, fun hh t ht => ?_⟩
  · have := hh t ht
    unfold upd at this
    rwa [if_neg (fun e => h t e ht)] at this
  · unfold upd
    rw [if_neg (fun e => h t e ht)]
    exact hh t ht

theorem opOk_put {G : Facts} {o : Oper} (hs : ∀ cs b, o.op ≠ .select cs b) {d : Option Tmp} {F : World → Prop} {a : Act} {v : Value} (h : ∀ x, d = some x → x ∉ o.looksAt ops) :
    opOk P ops C K (upd G d F) o (a.put d v) = opOk P ops C K G o a := by
  unfold opOk
  rw [known_upd h, execOp_put o hs a d v h]

theorem opGives_put {G : Facts} {o : Oper} (hs : ∀ cs b, o.op ≠ .select cs b) {d : Option Tmp} {F : World → Prop} {a : Act} {v : Value} (h : ∀ x, d = some x → x ∉ o.looksAt ops) :
    opGives P ops C K (upd G d F) o (a.put d v) = opGives P ops C K G o a := by
  unfold opGives
  rw [known_upd h, execOp_put o hs a d v h]

/-- Two operations apart change places. -/
theorem YieldsG_comm (hC : Closed C K) {oi oj : Oper} (hap : oi.apart ops oj = true) (hsi : ∀ cs b, oi.op ≠ .select cs b) (hsj : ∀ cs b, oj.op ≠ .select cs b) {N : Cont} {a : Act} {G : Facts} {H : World → Prop} (I : Inv C G H)
    (h : YieldsG P ops C K oi (YieldsG P ops C K oj N) a G H) : YieldsG P ops C K oj (YieldsG P ops C K oi N) a G H := by
  obtain ⟨h1, h2, h3⟩ := Oper.apart_spec hap
  have h2' : ∀ d, oj.dst = some d → oi.dst ≠ some d := fun d hd e => h2 d e hd
  by_cases wi : Region.wanted oi (yielded ops a.tmps) = true
  · unfold YieldsG at h
    rw [if_pos wi] at h
    obtain ⟨ho, hv⟩ := h
    obtain ⟨v0, w0, c0, hh0, g0⟩ := I.some hC ho
    by_cases wj : Region.wanted oj (yielded ops a.tmps) = true
    · have e0 := hv v0 ⟨w0, c0, hh0, g0⟩
      rw [wanted_put oj a oi.dst v0 h1, if_pos wj, opOk_put hsj h1] at e0
      unfold YieldsG
      rw [if_pos wj]
      refine ⟨e0.1, fun u hu => ?_⟩
      rw [wanted_put oi a oj.dst u h3, if_pos wi, opOk_put hsi h3, opGives_put hsi h3]
      refine ⟨ho, fun v hvv => ?_⟩
      obtain ⟨w, cw, ⟨hw, gu⟩, gv⟩ := hvv
      have e := hv v ⟨w, cw, hw, gv⟩
      rw [wanted_put oj a oi.dst v h1, if_pos wj, opOk_put hsj h1, opGives_put hsj h1] at e
      have e' := e.2 u ⟨w, cw, ⟨hw, gv⟩, gu⟩
      rw [Act.put_comm a v u h2, upd_comm h2] at e'
      have eH : (fun w => (H w ∧ opGives P ops C K G oi a v w) ∧ opGives P ops C K G oj a u w) = (fun w => (H w ∧ opGives P ops C K G oj a u w) ∧ opGives P ops C K G oi a v w) := by
        funext w; exact propext ⟨fun ⟨⟨x, y⟩, z⟩ => ⟨⟨x, z⟩, y⟩, fun ⟨⟨x, y⟩, z⟩ => ⟨⟨x, z⟩, y⟩⟩
      rw [eH] at e'
      exact e'
    · unfold YieldsG
      rw [if_neg wj, wanted_put oi a oj.dst undef h3, if_pos wi, opOk_put hsi h3, opGives_put hsi h3]
      refine ⟨ho, fun v hvv => ?_⟩
      have e := hv v hvv
      rw [wanted_put oj a oi.dst v h1, if_neg wj, Act.put_comm a v undef h2, upd_comm h2] at e
      exact e
  · unfold YieldsG at h
    rw [if_neg wi] at h
    by_cases wj : Region.wanted oj (yielded ops a.tmps) = true
    · rw [wanted_put oj a oi.dst undef h1, if_pos wj, opOk_put hsj h1, opGives_put hsj h1] at h
      unfold YieldsG
      rw [if_pos wj]
      refine ⟨h.1, fun u hu => ?_⟩
      rw [wanted_put oi a oj.dst u h3, if_neg wi]
      have e := h.2 u hu
      rw [Act.put_comm a undef u h2, upd_comm h2] at e
      exact e
    · rw [wanted_put oj a oi.dst undef h1, if_neg wj] at h
      unfold YieldsG
      rw [if_neg wj, wanted_put oi a oj.dst undef h3, if_neg wi]
      rw [Act.put_comm a undef undef h2, upd_comm h2] at h
      exact h

theorem YieldsG_mono {o : Oper} (hC : Closed C K) {a : Act} {G : Facts} {H : World → Prop} (I : Inv C G H) {N N' : Cont} (h : ∀ a G H, Inv C G H → N a G H → N' a G H) (hh : YieldsG P ops C K o N a G H) : YieldsG P ops C K o N' a G H := by
  unfold YieldsG at *
  split
  · rename_i hw; rw [if_pos hw] at hh
    exact ⟨hh.1, fun v hv => h _ _ _ (I.next hC hv) (hh.2 v hv)⟩
  · rename_i hw; rw [if_neg hw] at hh
    exact h _ _ _ (I.skip _) hh

theorem wpAnyG_first (hC : Closed C K) {n i : Nat} {oi : Oper} {L : Array Bool → Cont} (hi : ops[i]? = some oi) (hsel : ∀ (j : Nat) (o : Oper) cs b, ops[j]? = some o → o.op ≠ .select cs b)
    (htail : ∀ listed, HeadInv md ops n listed → listed.getD i true = false → ∀ t, n ≤ t → t ∉ Region.ready md ops listed) (hin : i < n)
    (hdone : ∀ listed a G H, L listed a G H → ∀ j ∈ Region.ready md ops listed, n ≤ j) :
    ∀ (f : Nat) (listed : Array Bool) (a : Act) (G : Facts) (H : World → Prop), Inv C G H → HeadInv md ops n listed →
      (∀ j oj, ops[j]? = some oj → j ≠ i → listed.getD j true = false → (∀ e ∈ oj.after, Region.binds md e = true → e.on ≠ i) → oi.apart ops oj = true) →
      i ∈ Region.ready md ops listed →
      YieldsG P ops C K oi (wpAnyG P md ops C K L n f (listed.setIfInBounds i true)) a G H → wpAnyG P md ops C K L n (f + 1) listed a G H := by
  intro f
  induction f with
  | zero =>
    intro listed a G H I inv _ hr Y
    have hun := (mem_ready.1 hr).1
    refine ⟨fun h => (by rw [h] at hr; cases hr), fun j hj => ?_⟩
    have hjn : j < n := by
      rcases Nat.lt_or_ge j n with h | h
      · exact h
      · exact absurd hj (htail _ inv hun j h)
    refine ⟨hjn, ?_⟩
    by_cases hji : j = i
    · subst hji; exact (gOp_some hi).2 Y
    · exfalso
      have hmem := ready_mono hj hji
      have : ∃ a G H, L (listed.setIfInBounds i true) a G H := by
        unfold YieldsG at Y
        split at Y
        · obtain ⟨v, w, c, hh, g⟩ := I.some hC Y.1
          exact ⟨_, _, _, Y.2 v ⟨w, c, hh, g⟩⟩
        · exact ⟨_, _, _, Y⟩
      obtain ⟨a', G', H', hL⟩ := this
      have := hdone _ _ _ _ hL j hmem
      omega
  | succ f ih =>
    intro listed a G H I inv hfree hr Y
    have hun := (mem_ready.1 hr).1
    refine ⟨fun h => (by rw [h] at hr; cases hr), fun j hj => ?_⟩
    have hjn : j < n := by
      rcases Nat.lt_or_ge j n with h | h
      · exact h
      · exact absurd hj (htail _ inv hun j h)
    refine ⟨hjn, ?_⟩
    by_cases hji : j = i
    · subst hji; exact (gOp_some hi).2 Y
    · obtain ⟨hjun, oj, hoj, hall⟩ := mem_ready.1 hj
      have hnot : ∀ e ∈ oj.after, Region.binds md e = true → e.on ≠ i := fun e he hb heq => by
        have h1 := hall e he hb
        rw [heq, getD_both hun] at h1
        cases h1
      have Y2 : YieldsG P ops C K oi (YieldsG P ops C K oj (wpAnyG P md ops C K L n f ((listed.setIfInBounds i true).setIfInBounds j true))) a G H :=
        YieldsG_mono hC I (fun a G H _ h => (gOp_some hoj).1 (h.2 j (ready_mono hj hji)).2) Y
      have Y3 := YieldsG_comm hC (hfree j oj hoj hji hjun hnot) (fun cs b => hsel i oi cs b hi) (fun cs b => hsel j oj cs b hoj) I Y2
      have hfree' : ∀ k ok, ops[k]? = some ok → k ≠ i → (listed.setIfInBounds j true).getD k true = false →
          (∀ e ∈ ok.after, Region.binds md e = true → e.on ≠ i) → oi.apart ops ok = true := fun k ok hk hki hun hno => by
        refine hfree k ok hk hki ?_ hno
        by_cases hjk : j = k
        · subst hjk; exact hjun
        · rw [getD_set_ne true hjk] at hun; exact hun
      rw [gOp_some hoj]
      refine YieldsG_mono hC I (fun a' G' H' I' h3 => ih (listed.setIfInBounds j true) a' G' H' I' (inv.set hj hjn) hfree' (ready_mono hr (Ne.symm hji)) ?_) Y3
      rw [Array.setIfInBounds_comm _ _ hji]
      exact h3

theorem wpAnyG_lex (hC : Closed C K) {n : Nat} {L : Array Bool → Cont} {Lq : Cont} {end_ : Nat → Array Bool → Bool} (hsel : Region.noSelect ops = true)
    (htail : ∀ i listed, i < n → HeadInv md ops n listed → listed.getD i true = false → ∀ t, n ≤ t → t ∉ Region.ready md ops listed)
    (hLq : ∀ listed a G H, end_ n listed = true → Lq a G H → L listed a G H)
    (hdone : ∀ listed a G H, L listed a G H → ∀ j ∈ Region.ready md ops listed, n ≤ j)
    (lexF : Nat → Nat → Array Bool → Bool) (lex0 : ∀ k listed, lexF 0 k listed = true → end_ k listed = true)
    (lexS : ∀ f k listed, lexF (f + 1) k listed = true → (Region.ready md ops listed).contains k = true ∧ Region.free md ops listed k = true ∧ lexF f (k + 1) (listed.setIfInBounds k true) = true) :
    ∀ (l : List Oper) (k : Nat) (listed : Array Bool) (a : Act) (G : Facts) (H : World → Prop), Inv C G H → (∀ j, j < l.length → l[j]? = ops[k + j]?) → k + l.length = n → HeadInv md ops n listed →
    lexF l.length k listed = true → wpGrow P ops C K Lq l a G H → wpAnyG P md ops C K L n l.length listed a G H
  | [], k, listed, a, G, H, _, _, hk, _, hB, h => by
    have : k = n := by simpa using hk
    subst this
    exact hLq _ _ _ _ (lex0 _ _ hB) h
  | o :: l, k, listed, a, G, H, I, hl, hk, inv, hB, h => by
    have h0 : ops[k]? = some o := by simpa using (hl 0 (by simp)).symm
    obtain ⟨hr, hf, hB'⟩ := lexS _ _ _ hB
    have hkn : k < n := by simp only [List.length_cons] at hk; omega
    have hr' : k ∈ Region.ready md ops listed := by simpa using hr
    have Y : YieldsG P ops C K o (wpGrow P ops C K Lq l) a G H := h
    refine wpAnyG_first hC h0 (Region.noSelect_spec hsel) (fun listed inv hun => htail k listed hkn inv hun) hkn hdone l.length listed a G H I inv (Region.free_spec h0 hf) hr' ?_
    exact YieldsG_mono hC I (fun a' G' H' I' h' => wpAnyG_lex hC hsel htail hLq hdone lexF lex0 lexS l (k + 1) _ a' G' H' I' (fun j hj => by have := hl (j + 1) (by simp; omega); simpa [Nat.add_assoc, Nat.add_comm 1 j] using this) (by simp only [List.length_cons] at hk; omega) (inv.set hr' hkn) hB' h') Y

theorem wp_region_grow {id : Nat} {Q : Exit → Act → World → Prop} {a : Act} {w : World} {l : List Oper} (hC : Closed C K) (hm : P.follows .mixedOrders = true) (hB : Region.lexB .any l.toArray = true) (h0 : C w.drew)
    (h : wpGrow P l.toArray C K (fun a' _ H => ∀ w', C w' → H w' → Q .normal a' w') l a (fun _ _ => True) (fun _ => True)) : (Code.region id l.toArray true).wp P Q a w := by
  simp only [Region.lexB, Bool.and_eq_true] at hB
  have I0 : Inv C (fun _ _ => True) (fun _ => True) := ⟨fun _ _ _ => trivial, fun _ _ _ _ => trivial, _, h0, trivial⟩
  have inv0 : HeadInv .any l.toArray l.length (Array.replicate l.toArray.size false) :=
    ⟨by simp, fun j oj _ hl => (by rw [getD_replicate_false] at hl; cases hl), fun t ht ht' => by simp at ht'; omega⟩
  have H := wpAnyG_lex (md := .any) (n := l.length) (end_ := fun _ listed => (Region.ready .any l.toArray listed).isEmpty) (L := fun listed a' _ H => Region.ready .any l.toArray listed = [] ∧ ∀ w', C w' → H w' → Q .normal a' w') hC hB.1
    (fun i listed hi _ _ t ht hr => by
      obtain ⟨_, ot, hot, _⟩ := mem_ready.1 hr
      have := (Array.getElem?_eq_some_iff.1 hot).1
      simp at this; omega)
    (fun listed a G H he hq => ⟨by simpa using he, hq⟩)
    (fun listed a G H hL j hj => by rw [hL.1] at hj; cases hj)
    (Region.lexFrom .any l.toArray) (fun k listed hh => by simpa [Region.lexFrom] using hh)
    (fun f k listed hh => by simp only [Region.lexFrom, Bool.and_eq_true] at hh; exact ⟨hh.1.1, hh.1.2, hh.2⟩)
    l 0 _ a _ _ I0 (fun j _ => by simp) (by simp) inv0 (by simpa using hB.2) h
  refine wp_region_any hm ?_
  have := wpAny_of_grow (Q' := Q) (g := 0) hC (fun listed a' G H w hw hH hL => ⟨hL.1, hL.2 w hw hH⟩) _ _ _ _ _ w.drew h0 trivial I0 H
  simpa using this

theorem wp_region_grow_tail {id : Nat} {Q : Exit → Act → World → Prop} {a : Act} {w : World} {l : List Oper} (n : Nat) (hC : Closed C K) (hm : P.follows .mixedOrders = true) (hB : Region.lexTailB .any l.toArray n = true) (h0 : C w.drew)
    (h : wpGrow P l.toArray C K (fun a' _ H => ∀ w', C w' → H w' → wpList P l.toArray Q (l.drop n) a' w') (l.take n) a (fun _ _ => True) (fun _ => True)) : (Code.region id l.toArray true).wp P Q a w := by
  simp only [Region.lexTailB, Bool.and_eq_true, decide_eq_true_eq] at hB
  obtain ⟨⟨⟨⟨hsel, hn⟩, hs⟩, hc⟩, hlex⟩ := hB
  have hn' : n < l.length := by simpa using hn
  have htl : (l.take n).length = n := by simp; omega
  have hdl : (l.drop n).length = l.toArray.size - n := by simp
  have I0 : Inv C (fun _ _ => True) (fun _ => True) := ⟨fun _ _ _ => trivial, fun _ _ _ _ => trivial, _, h0, trivial⟩
  have inv0 : HeadInv .any l.toArray n (Array.replicate l.toArray.size false) :=
    ⟨by simp, fun j oj _ hl => (by rw [getD_replicate_false] at hl; cases hl), fun t _ ht => getD_in (by simpa using ht) (getD_replicate_false _ _)⟩
  have H := wpAnyG_lex (md := .any) (n := n) (end_ := fun k listed => Region.seqB .any l.toArray (l.toArray.size - n) k listed) (L := fun listed a' _ H => Region.seqB .any l.toArray (l.toArray.size - n) n listed = true ∧ ∀ w', C w' → H w' → wpList P l.toArray Q (l.drop n) a' w') hC hsel
    (fun i listed hi inv hun t ht => tail_waits hs hc hn inv _ i rfl hi hun t ht)
    (fun listed a G H he hq => ⟨he, hq⟩)
    (fun listed a G H hL => seqB_ready hL.1)
    (Region.lexHead .any l.toArray (l.toArray.size - n)) (fun k listed hh => by simpa [Region.lexHead] using hh)
    (fun f k listed hh => by simp only [Region.lexHead, Bool.and_eq_true] at hh; exact ⟨hh.1.1, hh.1.2, hh.2⟩)
    (l.take n) 0 _ a _ _ I0 (fun j hj => by
      have hj' : j < n := by rw [htl] at hj; exact hj
      simp [hj']) (by simpa using htl) inv0 (by rw [htl]; exact hlex) h
  refine wp_region_any hm ?_
  have := wpAny_of_grow (Q' := Q) (g := l.toArray.size - n) hC (fun listed a' G H w hw hH hL => by
    have := wpAny_of_seq (md := .any) (Q' := Q) (l.drop n) n listed a' w (fun j => by simp [List.getElem?_drop]) (by rw [hdl]; exact hL.1) (hL.2 w hw hH)
    rwa [hdl] at this) _ _ _ _ _ w.drew h0 trivial I0 H
  rw [htl, show n + (l.toArray.size - n) = l.toArray.size by omega] at this
  exact this
end
end Go.Proofs.Ytajfpjggdbifjaa
