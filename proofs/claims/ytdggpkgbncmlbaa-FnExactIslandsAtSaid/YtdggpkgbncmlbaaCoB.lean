/-
  The program's search: 'components', for whichever places count and are joined.
-/
import Derived.Test.YtdggpkgbncmlbaaCoA
import Derived.Test.YtdggpkgbncmlbaaCoQ
import Derived.Test.YtdggpkgbncmlbaaFlQ
namespace Go.Proofs.Ytdggpkgbncmlbaa
open Go.RowKit
set_option linter.unusedVariables false
set_option linter.unusedSimpArgs false
set_option linter.unnecessarySimpa false

theorem grown_setC (w : World) (a : Addr) (u : Value) : w.grownBy (w.setCell a u) (some a.block) :=
  ⟨rfl, rfl, rfl, by simp [World.setCell], fun k hk hne => Below.heap_setCell _ _ _ _ (by simpa using hne)⟩
theorem Ext.grew {a b c : World} {row : Option Nat} (h : Ext a b) (k : b.grownBy c row) (hB : ∀ g, row = some g → a.heap.size ≤ g) : Ext a c :=
  Below.mk (k.os.trans (Below.os h)) (k.tape.trans (Below.tape h)) (k.output.trans (Below.output h)) (Nat.le_trans (Below.size h) k.size) fun i hi =>
    (k.block i (Nat.lt_of_lt_of_le hi (Below.size h)) (by
      intro e
      have := hB i e.symm
      omega)).trans (Below.block h i hi)

/-- The marks' row, over a world. -/
structure Sea (W0 : World) (B1 g0 n c0 : Nat) (wr : World) (z : List Int) : Prop where
  ext : Ext W0 wr
  row : wr.ownsRow W0.heap.size 2 1 (.slice (some ⟨g0, 0, none⟩) n c0) n (ints z)
  big : B1 ≤ wr.heap.size
theorem Sea.of_ext {W0 : World} {B1 g0 n c0 : Nat} {wr wr' : World} {z : List Int} (h : Sea W0 B1 g0 n c0 wr z) (e : Ext wr wr') : Sea W0 B1 g0 n c0 wr' z :=
  ⟨h.ext.trans e, ownsRow_ext h.row e, Nat.le_trans h.big e.size⟩
theorem Sea.set {W0 : World} {B1 g0 n c0 : Nat} {wr : World} {z : List Int} (h : Sea W0 B1 g0 n c0 wr z) (hg : W0.heap.size ≤ g0) (k : Nat) (m : Int) : Sea W0 B1 g0 n c0 (wr.setCell ⟨g0, k, none⟩ (.int .i64 m)) (z.set k m) :=
  ⟨Below.setCell h.ext hg _, by rw [← ints_set]; exact oneCell_setCell h.row _, Nat.le_trans h.big (grown_setC wr _ _).size⟩
theorem Sea.grown {W0 : World} {B1 g0 n c0 : Nat} {wr wr' : World} {z : List Int} {row : Option Nat} (h : Sea W0 B1 g0 n c0 wr z) (hg : W0.heap.size ≤ g0) (hB : g0 < B1) (k : wr.grownBy wr' row) (hr : ∀ g, row = some g → B1 ≤ g) : Sea W0 B1 g0 n c0 wr' z :=
  ⟨h.ext.grew k fun g e => by have := hr g e; omega, h.row.kept k (.inr fun e => by
    have := hr g0 e.symm
    omega), Nat.le_trans h.big k.size⟩
theorem Sea.cell {W0 : World} {B1 g0 n c0 : Nat} {wr : World} {z : List Int} (h : Sea W0 B1 g0 n c0 wr z) (hz : z.length = n) {k : Nat} (hk : k < n) : wr.cell? ⟨g0, k, none⟩ = some (.int .i64 (atZ z k)) ∧ wr.frozen? ⟨g0, k, none⟩ = false := own_int_atF h.row (by omega)

def rowOf (w : World) (g n : Nat) : List Int := match w.heap[g]? with
  | some (.cells cur _ _) => (cur.toList.take n).map intOf
  | _ => []
theorem rowOf_eq {w : World} {base g n c : Nat} {z : List Int} (h : w.ownsRow base 2 1 (.slice (some ⟨g, 0, none⟩) n c) n (ints z)) : rowOf w g n = z := by
  rcases h.2 with ⟨h0, _⟩ | ⟨g', c', cur, he, hb, hg, h1, h2, h3, h4⟩
  · cases h0
  · simp at he
    obtain ⟨rfl, rfl⟩ := he
    unfold rowOf
    rw [hg]
    rw [Nat.mul_one] at h4
    simp only [h4]
    simp [ints, intOf, Function.comp_def]
def sliceLen : Value → Nat
  | .slice _ n _ => n
  | _ => 0
def nums (q : List Nat) : List Int := q.map fun (k : Nat) => (k : Int)
@[simp] theorem nums_length (q : List Nat) : (nums q).length = q.length := by simp [nums]
theorem nums_append (q r : List Nat) : nums (q ++ r) = nums q ++ nums r := by simp [nums]
theorem nums_get {q : List Nat} {j : Nat} (h : j < q.length) : (nums q)[j]?.getD 0 = ((q[j]?.getD 0 : Nat) : Int) := by simp [nums, h]

def adjF (Wn Hn : Nat) (R : Bool) (cnt : Nat → Bool) (jn : Nat → Nat → Bool) (j k : Nat) : Prop := (k : Int) ∈ (nbL Wn Hn R j).filter (fun z => z != (j : Int)) ∧ cnt k = true ∧ jn j k = true
def doneF (M : List Int) (r k : Nat) : Prop := ∃ j, j < r ∧ M[j]?.getD 0 = (k : Int)
theorem doneF_step {M : List Int} {r k kk : Nat} (h : doneF M (r + 1) k) (hr : M[r]?.getD 0 = (kk : Int)) : doneF M r k ∨ k = kk := by
  obtain ⟨j, h1, h2⟩ := h
  by_cases e : j = r
  · subst e
    rw [hr] at h2
    exact .inr (by omega)
  · exact .inl ⟨j, by omega, h2⟩
theorem doneF_all {M : List Int} {k : Nat} (h : (k : Int) ∈ M) : doneF M M.length k := by
  obtain ⟨j, hj, he⟩ := List.getElem_of_mem h
  exact ⟨j, hj, by simp [hj, he]⟩
theorem mem_at {M : List Int} {r : Nat} (h : r < M.length) : M[r]?.getD 0 ∈ M := by
  simp [h]

set_option maxRecDepth 100000 in
set_option maxHeartbeats 4000000 in
theorem components_any (Wn Hn : Nat) (R : Bool) (a0 : Option Addr) (n c : Nat) (hW : 1 ≤ Wn ∧ Wn ≤ 16) (hH : 1 ≤ Hn ∧ Hn ≤ 16) (hnn : n = Hn * Wn) (cnt : Nat → Bool) (jn : Nat → Nat → Bool) (FC FJ : FuncId) (capC capJ : Array Value) (w : World)
    (hcC : ∀ args u, Sem.run Try.prog (callFunc FC args) u = .ok (.enter FC args) u) (hcJ : ∀ args u, Sem.run Try.prog (callFunc FJ args) u = .ok (.enter FJ args) u)
    (hC : ∀ (k : Nat) u, k < n → Ext w u → Calls Try.prog FC (#[.int .i64 k] ++ capC) u fun e u' => e = .returned (.bool (cnt k)) ∧ Ext u u')
    (hJ : ∀ (j k : Nat) u, j < n → k < n → Ext w u → Calls Try.prog FJ (#[.int .i64 j, .int .i64 k] ++ capJ) u fun e u' => e = .returned (.bool (jn j k)) ∧ Ext u u') :
    Calls Try.prog 96 #[.agg #[.int .i64 Wn, .int .i64 Hn, .bool R, .slice a0 n c], .func (.func FC) #[] capC, .func (.func FJ) #[] capJ] w fun e w' =>
      ∃ g cc Z M, e = .returned (.tuple #[.slice (some ⟨g, 0, none⟩) n cc, .int .i64 (M : Nat)]) ∧ Ext w w' ∧ w'.ownsRow w.heap.size 2 1 (.slice (some ⟨g, 0, none⟩) n cc) n (ints Z) ∧ St (adjF Wn Hn R cnt jn) cnt n n Z M := by
  obtain ⟨i0, hi, hz0, hz1, hz2⟩ := info_parts info64
  have hn1 : 0 < n := by rw [hnn]; exact Nat.mul_pos (by omega) (by omega)
  have hn2 : n ≤ 256 := by rw [hnn]; exact Nat.mul_le_mul hH.2 hW.2
  have HNN := Lib.hid hnn
  have HC := Lib.hid hC
  have HJ := Lib.hid hJ
  have HAB : Hid (∀ j k, adjF Wn Hn R cnt jn j k → k < n) := by
    intro j k h
    obtain ⟨i, hi, he⟩ := List.getElem_of_mem h.1
    have := (nbF_bd (i := j) R hW.1 hH.1 _ rfl hi).2
    rw [List.getElem?_eq_getElem hi, Option.getD_some, he] at this
    rw [hnn]
    exact_mod_cast this
  obtain ⟨k1, k2⟩ := hW
  obtain ⟨k3, k4⟩ := hH
  clear hnn hC hJ
  have hX := (Ext.refl w).alloc (.cells #[.int .i64 Wn, .int .i64 Hn, .bool R, .slice a0 n c] 85)
  have b0 := heap_new w (.cells #[.int .i64 Wn, .int .i64 Hn, .bool R, .slice a0 n c] 85)
  have hX1 := (Ext.refl (w.alloc (.cells #[.int .i64 Wn, .int .i64 Hn, .bool R, .slice a0 n c] 85))).alloc (.cells #[] 2)
  have r0 := ownsRow_emptyF (B := (w.alloc (.cells #[.int .i64 Wn, .int .i64 Hn, .bool R, .slice a0 n c] 85)).heap.size) (Nat.le_refl _) (heap_new (w.alloc (.cells #[.int .i64 Wn, .int .i64 Hn, .bool R, .slice a0 n c] 85)) (.cells #[] 2))
  have hsz : (w.alloc (.cells #[.int .i64 Wn, .int .i64 Hn, .bool R, .slice a0 n c] 85)).heap.size = w.heap.size + 1 := by simp
  obtain ⟨⟨c0, c1, c2, c3⟩, _⟩ := block4 (hX1.block b0)
  go_enter Try.func96, Try.ntmps96
  go_wp2
  clear c0 c1 c2 c3
  rw [hsz] at r0
  generalize (w.alloc (.cells #[.int .i64 Wn, .int .i64 Hn, .bool R, .slice a0 n c] 85)).alloc (.cells #[] 2) = w0 at *
  generalize w.alloc (.cells #[.int .i64 Wn, .int .i64 Hn, .bool R, .slice a0 n c] 85) = W0 at *
  generalize hpp : w.heap.size = p at *
  have HPP := Lib.hid hpp
  have HSZ := Lib.hid hsz
  have HX0 := Lib.hid hX
  have HB0 := Lib.hid b0
  have hlt0 := lt_of_block b0
  have hr0 : w0.ownsRow W0.heap.size 2 1 (.slice (some ⟨p + 1, 0, none⟩) 0 0) 0 (ints (List.replicate 0 (-1))) := by rw [hsz]; exact r0
  clear hpp hsz hX b0 r0
  -- all are free
  go_loopw [8, 19] (fun v i wr => ∃ (k : Nat) (a' : Option Addr) (c' : Nat), k ≤ n ∧ i = .int .i64 k ∧ v = .slice a' k c' ∧ Ext W0 wr ∧ wr.ownsRow W0.heap.size 2 1 (.slice a' k c') k (ints (List.replicate k (-1)))) (fun _ i _ => n - (intOf i).toNat)
  case atStart => exact ⟨0, _, 0, Nat.zero_le _, rfl, rfl, hX1, hr0⟩
  case round =>
    obtain ⟨k, a', c', hk, rfl, rfl, hX, hO⟩ := hrel
    clear hX1 hr0
    by_cases hlt : k < n
    · have hXa := Lib.hid (hX.alloc (.cells #[.int .i64 (-1)] 2))
      have hOa := Lib.hid (ownsRow_ext hO ((Ext.refl wr).alloc (.cells #[.int .i64 (-1)] 2)))
      have hb3 := heap_new wr (.cells #[.int .i64 (-1)] 2)
      have HU := Lib.hid hXa.out.size
      clear hX hO
      go_wp2_with (at_builtin; refine wpList_append_own _ rfl _ _ 28 rfl W0.heap.size 2 i0 (.int .i64 0) 1 8 Try.underlying28 hi hz0 hz1 hz2 rfl (by decide) (.slice a' k c') k (ints (List.replicate k (-1))) rfl hOa.out ⟨_, 0, none⟩ 1 1 [.int .i64 (-1)] rfl rfl ?c1 ?c2 ?c3 ?c4 ?c5 ?_)
      case c1 => exact cell_one_at hb3
      case c2 => intro u hu; simp at hu; subst hu; rfl
      case c3 => unfold maxLen; omega
      case c4 => omega
      case c5 => exact HU.out
      intro v' w5 hown hg _
      obtain ⟨a2, c2, rfl⟩ := ownsRow_shape hown
      have HX5 := Lib.hid (Ext.rowv hXa.out hOa.out (Nat.le_refl _) hg)
      have HO5 : Hid (w5.ownsRow W0.heap.size 2 1 (.slice a2 (k + 1) c2) (k + 1) (ints (List.replicate (k + 1) (-1)))) := by
        show _
        rw [List.replicate_succ', ints_appendF]
        exact hown
      clear hown hg hXa hOa hb3
      go_wp2
      go_roundw
      case rel => exact ⟨k + 1, a2, c2, by omega, by go_num, rfl, HX5.out, HO5.out⟩
      case measure => simp [intOf]; omega
    · obtain rfl : n = k := by omega
      obtain ⟨g0, rfl, hg0, _⟩ := own_int hO (k := 0) (by simpa using hn1)
      have hgb := (hO.lt g0 rfl).2
      have F0 : Sea W0 wr.heap.size g0 n c' wr (List.replicate n (-1)) := ⟨hX, hO, Nat.le_refl _⟩
      generalize hB1 : wr.heap.size = B1 at *
      clear hX hO hlt hk
      go_wp2
      go_loopw [9, 27] (fun m i wr => ∃ (k mm : Nat) (z : List Int), k ≤ n ∧ i = .int .i64 k ∧ m = .int .i64 mm ∧ St (adjF Wn Hn R cnt jn) cnt n k z mm ∧ Sea W0 B1 g0 n c' wr z) (fun _ i _ => n - (intOf i).toNat)
      case atStart => exact ⟨0, 0, _, Nat.zero_le _, rfl, rfl, .zero, F0⟩
      case round =>
        obtain ⟨k, mm, z, hk, rfl, rfl, hst, hF⟩ := hrel
        clear F0
        have HST := Lib.hid hst
        have HF := Lib.hid hF
        clear hst hF
        by_cases hlt : k < n
        · obtain ⟨hy, _⟩ := HF.out.cell HST.out.len hlt
          have hmk := HST.out.le
          by_cases hfree : atZ z k < 0
          · have e0 : decide (0 ≤ atZ z k) = false := by simpa using hfree
            have HFR := Lib.hid hfree
            clear hfree
            go_wp2_with fail
            refine (HC.out k _ hlt (HX0.out.trans HF.out.ext)).mono ?_
            rintro e w5 ⟨rfl, hX5⟩
            have HF5 := Lib.hid (HF.out.of_ext hX5)
            clear HF hX5 hy
            cases hcn : cnt k with
            | false =>
              have HN := Lib.hid (St.skip HST.out (.inr hcn))
              clear hcn
              go_wp2
              go_roundw
              case rel => exact ⟨k + 1, mm, z, by omega, by go_num, rfl, HN.out, HF5.out⟩
              case measure => simp [intOf]; omega
            | true =>
              have HCN := Lib.hid hcn
              clear hcn
              have HFa := Lib.hid (HF5.out.of_ext ((Ext.refl w5).alloc (.cells #[.int .i64 k] 2)))
              have hq0 : Que (w5.alloc (.cells #[.int .i64 k] 2)) B1 (.slice (some ⟨w5.heap.size, 0, none⟩) 1 1) (nums [k]) := Que.one HF5.out.big (heap_new w5 (.cells #[.int .i64 k] 2))
              obtain ⟨hy, hfz⟩ := HFa.out.cell HST.out.len hlt
              have HQ0 : Hid (Que ((w5.alloc (.cells #[.int .i64 k] 2)).setCell ⟨g0, k, none⟩ (.int .i64 mm)) B1 (.slice (some ⟨w5.heap.size, 0, none⟩) 1 1) (nums [k])) := hq0.keep fun q e => by
                simp only [Value.ownBlock, Option.some.injEq] at e
                exact cells_setOther (by have := HF5.out.big; omega) _
              have HS0 := Lib.hid (HFa.out.set hg0 k mm)
              have HFi := Lib.hid (Fi.start (A := adjF Wn Hn R cnt jn) (m := mm) HST.out.len hlt HFR.out)
              have hs5 := HF5.out.big
              clear HF5 hq0
              go_wp2
              clear hy hfz HFa
              generalize (w5.alloc (.cells #[.int .i64 k] 2)).setCell ⟨g0, k, none⟩ (.int .i64 mm) = w6 at *
              generalize w5.heap.size = q0 at *
              go_loopw [11] (fun v wr => ∃ (z1 : List Int) (q : List Nat), Que wr B1 v (nums q) ∧ Fi (adjF Wn Hn R cnt jn) n z k mm z1 q ∧ Sea W0 B1 g0 n c' wr z1) (fun v wr => 2 * negs (rowOf wr g0 n) + sliceLen v)
              case atStart => exact ⟨_, [k], HQ0.out, HFi.out, HS0.out⟩
              case round =>
                obtain ⟨z1, q, hq, hfi, hS⟩ := hrel
                clear HQ0 HFi HS0
                have HQ := Lib.hid hq
                have HFI := Lib.hid hfi
                have HS := Lib.hid hS
                clear hfi hS
                obtain ⟨gq, oq, cq, rfl, hqc, hgq⟩ := hq.shape
                clear hq
                have hqn : q.length ≤ n := by have := HFI.out.room; omega
                rw [nums_length] at *
                rcases List.eq_nil_or_concat q with rfl | ⟨q', pp, rfl⟩
                · -- all is found
                  have HN := Lib.hid (St.fill HST.out HFR.out HCN.out (HFI.out.done HAB.out hlt HFR.out))
                  go_wp2
                  go_roundw
                  case rel => exact ⟨k + 1, mm + 1, z1, by omega, by go_num, by go_num, HN.out, HS.out⟩
                  case measure => simp [intOf]; omega
                · rw [List.concat_eq_append] at *
                  have hql : (q' ++ [pp]).length = q'.length + 1 := by simp
                  have HQA : Hid (Que wr B1 (.slice (some ⟨gq, oq, none⟩) (q'.length + 1) cq) (nums q' ++ [(pp : Int)])) := by
                    have := HQ.out
                    rw [hql, nums_append] at this
                    exact this
                  have hqp := HQA.out.cell (j := q'.length) (by simp)
                  have hpp : (nums q' ++ [(pp : Int)])[q'.length]?.getD 0 = (pp : Int) := by simp
                  rw [hpp] at hqp
                  have HQB : Hid (Que wr B1 (.slice (some ⟨gq, oq, none⟩) q'.length cq) (nums q')) := by
                    have := HQA.out.back
                    rw [nums_length] at this
                    exact this
                  have hpn := (HFI.out.mem pp (by simp)).1
                  have HFN := Lib.hid (HFI.out.pop (p := pp) (q' := q') (by simp) (fun j hj => by simpa [or_comm] using hj) (fun j hj => by simp [hj]) (by simp))
                  rw [hql] at hqc hqn ⊢
                  clear hql
                  have hT : 2 * negs (rowOf wr g0 n) + (q'.length + 1) = 2 * negs z1 + (q'.length + 1) := by rw [rowOf_eq HS.out.row]
                  have HT := Lib.hid hT
                  clear hpp HQ HQA HFI hT
                  generalize hsl : q'.length = s at *
                  have HSL := Lib.hid hsl
                  clear hsl
                  have e1 : ((s + 1 : Nat) : Int) - 1 = (s : Int) := by omega
                  have hws := wrapS (n := (s : Int)) (by omega) (by omega)
                  obtain ⟨⟨c0, c1, c2, c3⟩, _⟩ := block4 (HS.out.ext.block HB0.out)
                  go_wp2_with fail
                  clear c0 c1 c2 c3 hqp
                  have hgl : gq < wr.heap.size := by
                    obtain ⟨g, hg, _, h3⟩ := HQB.out.block
                    simp only [Value.ownBlock, Option.some.injEq] at hg
                    omega
                  refine (neighbours_any Wn Hn pp R a0 n c ⟨k1, k2⟩ ⟨k3, k4⟩ (by rw [← HNN.out]; exact hpn) _).mono ?_
                  obtain ⟨M, hM⟩ : ∃ M, (nbL Wn Hn R pp).filter (fun z => z != (pp : Int)) = M := ⟨_, rfl⟩
                  rw [hM]
                  rintro e w7 ⟨a5, m5, c5, rfl, hX7, hO7⟩
                  have hMl : M.length = m5 := by have := (ownsRow_len hO7).1; rw [this]; simp
                  have hm5 : m5 ≤ 4 := by rw [← hMl, ← hM]; exact Nat.le_trans (List.length_filter_le _ _) (by rw [nbL_length]; omega)
                  have HML := Lib.hid hMl
                  have HM := Lib.hid hM
                  have HS7 := Lib.hid (HS.out.of_ext hX7)
                  have HQ7 := Lib.hid (HQB.out.ext hX7)
                  have HO7 := Lib.hid hO7
                  have HD7 : Hid (∀ g, (Value.slice (some ⟨gq, oq, none⟩) s cq).ownBlock = some g → (Value.slice a5 m5 c5).ownBlock ≠ some g) := fun g h1 h2 => by
                    simp only [Value.ownBlock, Option.some.injEq] at h1
                    have := (HO7.out.lt g h2).1
                    omega
                  have HF7 := Lib.hid (HFN.out.pass (D' := doneF M 0) fun k _ h => by obtain ⟨j, h1, _⟩ := h; omega)
                  have hB7 : B1 ≤ wr.heap.size := HS.out.big
                  clear hMl hM hX7 hO7 HS HQB HFN hqc
                  go_wp2
                  go_loopw [11, 65] (fun v j wx => ∃ (r : Nat) (z2 : List Int) (q2 : List Nat), r ≤ m5 ∧ j = .int .i64 r ∧ Que wx B1 v (nums q2) ∧ Fn (adjF Wn Hn R cnt jn) n z k mm pp (doneF M r) z2 q2 ∧ Sea W0 B1 g0 n c' wx z2 ∧ wx.ownsRow wr.heap.size 2 1 (.slice a5 m5 c5) m5 (ints M) ∧ (∀ g, v.ownBlock = some g → (Value.slice a5 m5 c5).ownBlock ≠ some g) ∧ 2 * negs z2 + q2.length ≤ 2 * negs z1 + s) (fun _ j _ => m5 - (intOf j).toNat)
                  case atStart => exact ⟨0, z1, q', Nat.zero_le _, rfl, HQ7.out, HF7.out, HS7.out, HO7.out, HD7.out, by rw [HSL.out]; exact Nat.le_refl _⟩
                  case round =>
                    obtain ⟨r, z2, q2, hr, rfl, hq2, hf2, hs2, ho2, hd2, ht2⟩ := hrel
                    clear HQ7 HF7 HS7 HO7 HD7
                    have HQ2 := Lib.hid hq2
                    have HF2 := Lib.hid hf2
                    have HS2 := Lib.hid hs2
                    have HO2 := Lib.hid ho2
                    have HD2 := Lib.hid hd2
                    have HT2 := Lib.hid ht2
                    clear hq2 hf2 hs2 ho2 hd2 ht2
                    by_cases hlt2 : r < m5
                    · obtain ⟨g5, rfl, _, hyc, _⟩ := own_int HO2.out (k := r) (by rw [HML.out]; exact hlt2)
                      obtain ⟨nb0, nb1⟩ := nbF_bd (i := pp) R k1 k3 M HM.out.symm (j := r) (by rw [HML.out]; exact hlt2)
                      have hmem : M[r]?.getD 0 ∈ M := mem_at (by rw [HML.out]; exact hlt2)
                      obtain ⟨kk, hkk⟩ := Int.eq_ofNat_of_zero_le nb0
                      rw [hkk] at hyc nb1 hmem
                      have HKK := Lib.hid hkk
                      have HME := Lib.hid hmem
                      have hkn : kk < n := by have := HNN.out; omega
                      obtain ⟨hyz, hfz⟩ := HS2.out.cell HF2.out.len hkn
                      clear hkk nb0 nb1 hmem
                      by_cases hfree : atZ z2 kk < 0
                      · have ef : decide (atZ z2 kk < 0) = true := by simpa using hfree
                        have HFR2 := Lib.hid hfree
                        clear hfree
                        go_wp2_with fail
                        refine (HC.out kk _ hkn (HX0.out.trans HS2.out.ext)).mono ?_
                        rintro e w8 ⟨rfl, hX8⟩
                        have HS8 := Lib.hid (HS2.out.of_ext hX8)
                        have HQ8 := Lib.hid (HQ2.out.ext hX8)
                        have HO8 := Lib.hid (ownsRow_ext HO2.out hX8)
                        clear hX8 HS2 HQ2 HO2 hyc hyz hfz
                        cases hcn : cnt kk with
                        | false =>
                          have HN := Lib.hid (HF2.out.pass (D' := doneF M (r + 1)) fun k' _ h => (doneF_step h HKK.out).elim .inl fun e => .inr (.inl fun ha => by rw [e, adjF, hcn] at ha; cases ha.2.1))
                          clear hcn
                          go_wp2
                          go_roundw
                          case rel => exact ⟨r + 1, z2, q2, by omega, by go_num, HQ8.out, HN.out, HS8.out, HO8.out, HD2.out, HT2.out⟩
                          case measure => simp [intOf]; omega
                        | true =>
                          have HCN2 := Lib.hid hcn
                          clear hcn
                          go_wp2_with fail
                          refine (HJ.out pp kk _ hpn hkn (HX0.out.trans HS8.out.ext)).mono ?_
                          rintro e w9 ⟨rfl, hX9⟩
                          have HS9 := Lib.hid (HS8.out.of_ext hX9)
                          have HQ9 := Lib.hid (HQ8.out.ext hX9)
                          have HO9 := Lib.hid (ownsRow_ext HO8.out hX9)
                          clear hX9 HS8 HQ8 HO8
                          cases hjn : jn pp kk with
                          | false =>
                            have HN := Lib.hid (HF2.out.pass (D' := doneF M (r + 1)) fun k' _ h => (doneF_step h HKK.out).elim .inl fun e => .inr (.inl fun ha => by rw [e, adjF, hjn] at ha; cases ha.2.2))
                            clear hjn
                            go_wp2
                            go_roundw
                            case rel => exact ⟨r + 1, z2, q2, by omega, by go_num, HQ9.out, HN.out, HS9.out, HO9.out, HD2.out, HT2.out⟩
                            case measure => simp [intOf]; omega
                          | true =>
                            have HA : Hid (adjF Wn Hn R cnt jn pp kk) := ⟨by rw [HM.out]; exact HME.out, HCN2.out, hjn⟩
                            clear hjn
                            have HN := Lib.hid (HF2.out.push (D' := doneF M (r + 1)) (q' := q2 ++ [kk]) hkn HA.out HFR2.out (fun k' _ h => doneF_step h HKK.out) (fun j => by simp) (by simp))
                            have HNG := Lib.hid (negs_set (z := z2) (k := kk) (m := mm) (by rw [HF2.out.len]; exact hkn) HFR2.out (by omega))
                            have HRM := Lib.hid HF2.out.room
                            obtain ⟨hyz, hfz⟩ := HS9.out.cell HF2.out.len hkn
                            have HS10 := Lib.hid (HS9.out.set hg0 kk mm)
                            have hne2 : ∀ {x : World} {y : Value} {ys : List Int}, Que x B1 y ys → ∀ q, y.ownBlock = some q → q ≠ g0 := fun h q hq => by
                              obtain ⟨g, h1, h2, _⟩ := h.block
                              rw [hq] at h1
                              cases h1
                              omega
                            have HQ10 : Hid (Que (w9.setCell ⟨g0, kk, none⟩ (.int .i64 mm)) B1 _ (nums q2)) := HQ9.out.keep fun q e => cells_setOther (hne2 HQ9.out q e) _
                            have HO10 := Lib.hid (HO9.out.kept (grown_setC w9 ⟨g0, kk, none⟩ (.int .i64 mm)) (.inr fun e => by
                              have := (HO9.out.lt g0 e).1
                              omega))
                            have ha10 := (Ext.refl (w9.setCell ⟨g0, kk, none⟩ (.int .i64 mm))).alloc (.cells #[.int .i64 kk] 2)
                            have hb11 := heap_new (w9.setCell ⟨g0, kk, none⟩ (.int .i64 mm)) (.cells #[.int .i64 kk] 2)
                            have HS11 := Lib.hid (HS10.out.of_ext ha10)
                            have HQ11 := Lib.hid (HQ10.out.ext ha10)
                            have HO11 := Lib.hid (ownsRow_ext HO10.out ha10)
                            have hbs : (w9.setCell ⟨g0, kk, none⟩ (.int .i64 mm)).heap.size = w9.heap.size := by simp [World.setCell]
                            have HB11 : Hid (((w9.setCell ⟨g0, kk, none⟩ (.int .i64 mm)).alloc (.cells #[.int .i64 kk] 2)).cell? ⟨w9.heap.size, 0, none⟩ = some (.int .i64 kk)) := by
                              show _ = _
                              rw [← hbs]
                              exact block_cell hb11 0
                            have HBB := Lib.hid HS11.out.big
                            have HQL : Hid ((nums q2).length + 1 ≤ 1048576) := by have := HRM.out; show _ ≤ _; rw [nums_length]; omega
                            clear ha10 hb11 hbs HS9 HQ9 HO9 HS10 HQ10 HO10 HF2
                            go_wp2_with (at_builtin; refine wpList_append_q _ rfl _ _ 28 rfl B1 i0 (.int .i64 0) Try.underlying28 hi hz0 hz1 hz2 rfl _ (nums q2) rfl HQ11.out ⟨_, 0, none⟩ 1 kk rfl HB11.out HQL.out HBB.out ?_)
                            intro v' w12 hq12 hg12 hnb
                            have HS12 := Lib.hid (HS11.out.grown hg0 hgb hg12 fun g e => by
                              obtain ⟨g', h1, h2, _⟩ := HQ11.out.block
                              rw [e] at h1
                              cases h1
                              exact h2)
                            have HO12 := Lib.hid (HO11.out.kept hg12 (by
                              obtain ⟨g', h1, h2, _⟩ := HQ11.out.block
                              rw [h1]
                              exact .inr (HD2.out g' h1)))
                            have HQ12 : Hid (Que w12 B1 v' (nums (q2 ++ [kk]))) := by
                              show _
                              rw [nums_append]
                              exact hq12
                            have HD12 : Hid (∀ g, v'.ownBlock = some g → (Value.slice (some ⟨g5, 0, none⟩) m5 c5).ownBlock ≠ some g) := fun g h1 h2 => by
                              exact HD2.out g (hnb g h1 (by simpa [World.setCell] using (HO11.out.lt g h2).2)) h2
                            clear hq12 hg12 hnb HS11 HQ11 HO11 HD2 HB11 HBB hyz hfz
                            go_wp2
                            go_roundw
                            case rel => exact ⟨r + 1, z2.set kk mm, q2 ++ [kk], by omega, by go_num, HQ12.out, HN.out, HS12.out, HO12.out, HD12.out, by have h1 := HNG.out; have h2 := HT2.out; rw [List.length_append]; simp only [List.length_cons, List.length_nil]; omega⟩
                            case measure => simp [intOf]; omega
                      · have ef : decide (atZ z2 kk < 0) = false := by simpa using hfree
                        have HN := Lib.hid (HF2.out.pass (D' := doneF M (r + 1)) fun k' _ h => (doneF_step h HKK.out).elim .inl fun e => .inr (.inr (by rw [e]; omega)))
                        clear hfree
                        go_wp2
                        go_roundw
                        case rel => exact ⟨r + 1, z2, q2, by omega, by go_num, HQ2.out, HN.out, HS2.out, HO2.out, HD2.out, HT2.out⟩
                        case measure => simp [intOf]; omega
                    · obtain rfl : r = m5 := by omega
                      have HN := Lib.hid (HF2.out.whole fun k' _ ha => by rw [← HML.out]; exact doneF_all (by rw [← HM.out]; exact ha.1))
                      obtain ⟨g2, o2, cc2, hv2, _⟩ := HQ2.out.shape
                      subst hv2
                      go_wp2
                      go_roundw
                      case rel => exact ⟨z2, q2, HQ2.out, HN.out, HS2.out⟩
                      case measure =>
                        rw [rowOf_eq HS2.out.row]
                        simp only [sliceLen, nums_length]
                        have h1 := HT.out
                        have h2 := HT2.out
                        omega
          · have e0 : decide (0 ≤ atZ z k) = true := by simpa using hfree
            have HN := Lib.hid (St.skip (cnt := cnt) HST.out (.inl (by omega)))
            clear hfree
            go_wp2
            go_roundw
            case rel => exact ⟨k + 1, mm, z, by omega, by go_num, rfl, HN.out, HF.out⟩
            case measure => simp [intOf]; omega
        · obtain rfl : k = n := by omega
          go_wp2
          refine bodyPost_ret (v := .tuple #[.slice (some ⟨g0, 0, none⟩) k c', .int .i64 mm]) ?_ rfl ⟨g0, c', z, mm, rfl, HX0.out.trans HF.out.ext, ownsRow_mono HF.out.row HX0.out.size, HST.out⟩
          simp only [results, Try.results96]
          go_simp
end Go.Proofs.Ytdggpkgbncmlbaa
