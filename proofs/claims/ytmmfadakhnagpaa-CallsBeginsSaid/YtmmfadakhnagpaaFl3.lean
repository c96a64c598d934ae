
/-
  flows: one instruction.
-/
import Derived.Test.YtmmfadakhnagpaaFl2
import Derived.Maps.AppendAt
import Derived.Deep.CutBlock
import Derived.StillTailTactics
import Derived.BigQuiet
namespace Go.Proofs.Ytmmfadakhnagpaa
open Go.RowKit Go.ChangeShapes Go.WideShapes Go.Maps Go.WideMaps Go.Shelf
set_option linter.unusedSimpArgs false
set_option linter.unusedVariables false
attribute [local go_sem] Oper.semAt_some

theorem String_info : (Try.prog.info? 9).map (fun i => (i.zero, i.size, i.bytes)) = some (some (.string ByteArray.empty), 1, 16) := by kernel_rfl
theorem own_block {X : World} {k : Nat} {cs : Array Value} {t e : TypeId} (h : X.heap[k]? = some (.cells cs t (0, 0))) (hte : t ≠ e) {base size m : Nat} {v : Value} {xs : List Value} (hr : X.ownsRow base e size v m xs) : some k ≠ v.ownBlock := by
  rcases hr.2 with ⟨rfl, _⟩ | ⟨g, cap, cur, rfl, _, hgb, _⟩
  · simp [Value.ownBlock]
  · intro e'
    obtain rfl : k = g := by simpa [Value.ownBlock] using e'
    have := h.symm.trans hgb
    simp at this
    exact hte this.2
theorem ownFrom_heap {β : Type} (B k : Nat) (cs : Array Value) (t : TypeId) : OwnFrom B (fun (_ : β) W => W.heap[k]? = some (.cells cs t (0, 0))) := by
  intro s X Y row h hg hrow
  refine (hg.block k (Array.getElem?_eq_some_iff.1 h).1 ?_).trans h
  intro e
  obtain ⟨_, o, ho, hc⟩ := hrow k e.symm
  rw [h] at ho
  cases ho
  cases hc
def AnyP (_ : ByteArray) : Prop := True
theorem ownFrom_size {β : Type} (B n : Nat) : OwnFrom B (fun (_ : β) (W : World) => n ≤ W.heap.size) := fun _ _ _ _ hs hg _ => Nat.le_trans hs hg.size
theorem boxed_app {W w1 : World} {nr B : Nat} {t e : TypeId} {size : Nat} {v v' : Value} {k m : Nat} {xs ys : List Value} {tmp : Obj} (hv : Boxed W B t v) (hte : t ≠ e) (hrow : W.ownsRow nr e size v k xs)
    (hown' : w1.ownsRow nr e size v' m ys) (hgrow : (W.alloc tmp).grownBy w1 v.ownBlock) :
    Boxed w1 B t v ∧ Boxed (w1.setCell ⟨B, 0, none⟩ v') B t v' ∧ (w1.setCell ⟨B, 0, none⟩ v').ownsRow nr e size v' m ys ∧ KeepsOthers W (w1.setCell ⟨B, 0, none⟩ v') ∧ (∀ nb, nb ≤ B → nb ≤ nr → nb ≤ W.heap.size → Below nb W (w1.setCell ⟨B, 0, none⟩ v')) ∧ (∀ k, k < nr → k ≠ B → k < W.heap.size → (w1.setCell ⟨B, 0, none⟩ v').heap[k]? = W.heap[k]?) := by
  have hv1 : Boxed w1 B t v := (hv.alloc tmp).kept hgrow (hv.not_row hte hrow)
  have hnr : ∀ g, v.ownBlock = some g → nr ≤ g := by
    intro g hg
    rcases hrow.2 with ⟨rfl, _⟩ | ⟨g', cap, cur, rfl, hb, _, _⟩
    · simp [Value.ownBlock] at hg
    · obtain rfl : g' = g := by simpa [Value.ownBlock] using hg
      exact hb
  refine ⟨hv1, hv1.set v', hown'.kept (grownBy_setCell' w1 B v') (.inr (hv1.not_row hte hown').symm), ?_, ?_, ?_⟩
  · refine ((KeepsOthers.alloc W tmp).trans (KeepsOthers.of_grownBy hgrow fun j o ej hj => ?_)).trans (KeepsOthers.setCell _ _ _)
    rcases (hrow.alloc tmp).2 with ⟨rfl, _⟩ | ⟨g, cap, cur, rfl, _, hgb, _⟩
    · simp [Value.ownBlock] at ej
    · obtain rfl : g = j := by simpa [Value.ownBlock] using ej
      rw [hgb] at hj; cases hj; rfl
  · intro nb h1 h2 h3
    exact (((Below.refl nb W).alloc h3 tmp).grown hgrow (by simp; omega) fun j ej => Nat.le_trans h2 (hnr j ej)).setCell (p := ⟨B, 0, none⟩) h1 v'
  · intro k h1 h2 h3
    rw [Below.heap_setCell w1 ⟨B, 0, none⟩ v' k h2, hgrow.block k (by simp; omega) (fun e => by have := hnr k e.symm; omega)]
    exact Below.heap_alloc W tmp k h3
theorem ins_ret {w WF : World} {rb D : Nat} {tmps : Array Value} {a b c : Int} (ht : tmps[6]?.getD undef = .pointer (some ⟨rb, 0, none⟩)) (RF : WF.heap[rb]? = some (.cells #[.int .u8 a, .int .i64 b, .int .u64 c] 64 (0, 0))) (KF : WF.heap[D]? = some (.deferred (some []))) (hDr : D ≠ rb) (BF : Below w.heap.size w WF) (hD : w.heap.size ≤ D) :
    bodyPostM Fence.wide 6 Try.prog Try.f106 (fun e w' => e = .returned (.agg #[.int .u8 a, .int .i64 b, .int .u64 c]) ∧ Below w.heap.size w w') .ret { tmps := tmps, defers := [{ target := .collected D, args := #[] }] } WF := by
  have RP : (WF.putObj D (.deferred none)).heap[rb]? = some (.cells #[.int .u8 a, .int .i64 b, .int .u64 c] 64 (0, 0)) := (World.putObj_heap_other (Ne.symm hDr)).trans RF
  have p0 : (WF.putObj D (.deferred none)).cell? ⟨rb, 0, none⟩ = some (.int .u8 a) := hp_cell RP 0
  have p1 : (WF.putObj D (.deferred none)).cell? ⟨rb, 1, none⟩ = some (.int .i64 b) := hp_cell RP 1
  have p2 : (WF.putObj D (.deferred none)).cell? ⟨rb, 2, none⟩ = some (.int .u64 c) := hp_cell RP 2
  refine ⟨by simp, .inl ⟨_, _, rfl, run_takeDeferred KF, ?_⟩⟩
  exact ⟨.agg #[.int .u8 a, .int .i64 b, .int .u64 c], by simp [results, Try.results106, go_sem, ht, p0, p1, p2], rfl, BF.trans ((Below.refl w.heap.size WF).grown (grownBy_putObj' WF D _) BF.size (fun j e => by cases e; exact hD))⟩
theorem still_of_q2 {P : Program} {ops : Array Oper} {w : World} {Q : Act → Prop} : ∀ (l : List Oper) (a : Act), wpQuiet P ops (fun w' => w' = w) Q l a → wpStill P ops w Q l a
  | [], _, h => h
  | o :: l, a, h => by
    unfold wpQuiet at h
    unfold wpStill
    split at h
    · rename_i hw
      rw [if_pos hw]
      obtain ⟨v, h1, h2⟩ := h
      have h1 := h1 w rfl
      have h3 := still_of_q2 l _ h2
      unfold Oper.quietAt at h1
      unfold Oper.still
      generalize (execOp a.eval o).run P w = r at h1 ⊢
      match r, h1 with
      | .ok (.value u) w', h1 => obtain ⟨rfl, rfl⟩ := h1; exact ⟨rfl, h3⟩
      | .ok .skip w', h1 => obtain ⟨rfl, rfl⟩ := h1; exact ⟨rfl, h3⟩
      | .ok (.enter f args) w', h1 => obtain ⟨rfl, hc⟩ := h1; exact ⟨rfl, v, hc, h3⟩
    · rename_i hw
      rw [if_neg hw]
      exact still_of_q2 l _ h
/-- A region whose first n operations only read, and whose rest stands in one order. -/
theorem quiet_tail2 {id : Nat} {P : Program} {Q : Exit → Act → World → Prop} {a : Act} {w : World} {l : List Oper} (n : Nat) (hm : P.follows .mixedOrders = true) (hB : Region.lexTailB .any l.toArray n = true)
    (h : wpQuiet P l.toArray (fun w' => w' = w.drew) (fun a' => wpList P l.toArray Q (l.drop n) a' w.drew) (l.take n) a) : (Code.region id l.toArray true).wp P Q a w :=
  wp_region_still_tail n hm hB (still_of_q2 (w := w.drew) _ _ h)
theorem one_of {ys : List { p : ByteArray // AnyP p }} {A : ByteArray} (h : ys.map (·.1) = [A]) : ∃ y1, ys = [y1] ∧ y1.1 = A := by
  match ys, h with
  | [y], h => simp at h; exact ⟨y, rfl, h⟩
theorem two_of {ys : List { p : ByteArray // AnyP p }} {A B : ByteArray} (h : ys.map (·.1) = [A, B]) : ∃ y1 y2, ys = [y1, y2] ∧ y1.1 = A ∧ y2.1 = B := by
  match ys, h with
  | [y, z], h => simp at h; exact ⟨y, z, rfl, h.1, h.2⟩
def retOnly (Q : Exit → Act → World → Prop) : Exit → Act → World → Prop
  | .ret, a, w => Q .ret a w
  | _, _, _ => False
theorem wp_retOnly {P : Program} {c : Code} {Q : Exit → Act → World → Prop} {a : Act} {w : World} (h : c.wp P (retOnly Q) a w) : c.wp P Q a w :=
  wp_mono h (fun e a w hq => by cases e <;> first | exact hq | exact hq.elim)
theorem hp_dw {w : World} {g : Nat} {o : Obj} (h : w.heap[g]? = some o) : w.drew.heap[g]? = some o := h
theorem heap_kept {W w1 : World} {k B : Nat} {cs : Array Value} {t e : TypeId} {tmp : Obj} (h : W.heap[k]? = some (.cells cs t (0, 0))) (hte : t ≠ e) {base size m : Nat} {v : Value} {xs : List Value} (hr : W.ownsRow base e size v m xs) (hg : (W.alloc tmp).grownBy w1 v.ownBlock) (hk : k ≠ B) (u : Value) : (w1.setCell ⟨B, 0, none⟩ u).heap[k]? = some (.cells cs t (0, 0)) :=
  hp_far ((hg.block k (Array.getElem?_eq_some_iff.1 (hp_alloc h tmp)).1 (own_block (hp_alloc h tmp) hte (hr.alloc tmp))).trans (hp_alloc h tmp)) hk u
set_option maxRecDepth 100000 in
set_option maxHeartbeats 4000000 in
theorem ins_one (tv sz lc vl at' : Int) (s : ByteArray) (hs : s.size ≤ 1000) (hasc : ∀ x ∈ s.data.toList, x.toNat < 128) (op : Int) (W1 : ByteArray) (hp : pcs s 32 = [W1])
    (hrw : ∀ w : World, Calls Try.prog 112 #[.string W1] w fun e w' => (∃ b, e = .returned (.tuple #[.int .u8 op, .bool b])) ∧ Below w.heap.size w w') (w : World) :
    Calls Try.prog 106 #[.agg #[.int .i64 tv, .int .i64 sz, .int .i64 lc, .int .u64 vl], .int .i64 at', .string s] w fun e w' => e = .returned (.agg #[.int .u8 op, .int .i64 0, .int .u64 0]) ∧ Below w.heap.size w w' := by
  refine (callsIn_wide (n := 6)).1 ?_
  refine callsIn_of_wp_marks Try.func106 rfl trivial ?_ rfl
  simp only [Try.ntmps106, List.size_toArray, List.length_cons, List.length_nil, Nat.reduceAdd, Nat.reduceSub, Array.replicate_succ, Array.replicate_zero, List.push_toArray, List.append_toArray, List.nil_append, List.cons_append]
  refine wpIn_wide.2 ?_
  refine wp_retOnly ?_
  go_wp2_with (go_at_call 105; refine (pieces_any s 32 _).mono ?_; rintro e w' ⟨rfl, rfl⟩)
  have BX0 : Below w.heap.size w (((((w.alloc (.cells #[.int .i64 tv, .int .i64 sz, .int .i64 lc, .int .u64 vl] 123)).alloc (.cells #[.int .u8 0, .int .i64 0, .int .u64 0] 64)).alloc (.cells #[.slice none 0 0] 145)).alloc (.cells #[.string s] 9)).alloc (.cells #[.int .i32 32] 21)) := ((((((Below.refl _ w).alloc (Nat.le_refl _) _).alloc (by simp) _).alloc (by simp; omega) _).alloc (by simp; omega) _).alloc (by simp; omega) _)
  have hz0 : ((((((w.alloc (.cells #[.int .i64 tv, .int .i64 sz, .int .i64 lc, .int .u64 vl] 123)).alloc (.cells #[.int .u8 0, .int .i64 0, .int .u64 0] 64)).alloc (.cells #[.slice none 0 0] 145)).alloc (.cells #[.string s] 9)).alloc (.cells #[.int .i32 32] 21))).heap.size = w.heap.size + 1 + 1 + 1 + 1 + 1 := by simp
  have XN0 : ((((((w.alloc (.cells #[.int .i64 tv, .int .i64 sz, .int .i64 lc, .int .u64 vl] 123)).alloc (.cells #[.int .u8 0, .int .i64 0, .int .u64 0] 64)).alloc (.cells #[.slice none 0 0] 145)).alloc (.cells #[.string s] 9)).alloc (.cells #[.int .i32 32] 21))).heap[w.heap.size]? = some (.cells #[.int .i64 tv, .int .i64 sz, .int .i64 lc, .int .u64 vl] 123 (0, 0)) := hp_alloc (hp_alloc (hp_alloc (hp_alloc (heap_alloc_new w _) _) _) _) _
  have XR0 : ((((((w.alloc (.cells #[.int .i64 tv, .int .i64 sz, .int .i64 lc, .int .u64 vl] 123)).alloc (.cells #[.int .u8 0, .int .i64 0, .int .u64 0] 64)).alloc (.cells #[.slice none 0 0] 145)).alloc (.cells #[.string s] 9)).alloc (.cells #[.int .i32 32] 21))).heap[w.heap.size + 1]? = some (.cells #[.int .u8 0, .int .i64 0, .int .u64 0] 64 (0, 0)) := hp_alloc (hp_alloc (hp_alloc ((congrArg _ (by simp)).trans (heap_alloc_new (w.alloc (.cells #[.int .i64 tv, .int .i64 sz, .int .i64 lc, .int .u64 vl] 123)) _)) _) _) _
  have XW0 : ((((((w.alloc (.cells #[.int .i64 tv, .int .i64 sz, .int .i64 lc, .int .u64 vl] 123)).alloc (.cells #[.int .u8 0, .int .i64 0, .int .u64 0] 64)).alloc (.cells #[.slice none 0 0] 145)).alloc (.cells #[.string s] 9)).alloc (.cells #[.int .i32 32] 21))).heap[w.heap.size + 1 + 1]? = some (.cells #[.slice none 0 0] 145 (0, 0)) := hp_alloc (hp_alloc ((congrArg _ (by simp)).trans (heap_alloc_new ((w.alloc (.cells #[.int .i64 tv, .int .i64 sz, .int .i64 lc, .int .u64 vl] 123)).alloc (.cells #[.int .u8 0, .int .i64 0, .int .u64 0] 64)) _)) _) _
  have XT0 : ((((((w.alloc (.cells #[.int .i64 tv, .int .i64 sz, .int .i64 lc, .int .u64 vl] 123)).alloc (.cells #[.int .u8 0, .int .i64 0, .int .u64 0] 64)).alloc (.cells #[.slice none 0 0] 145)).alloc (.cells #[.string s] 9)).alloc (.cells #[.int .i32 32] 21))).heap[w.heap.size + 1 + 1 + 1]? = some (.cells #[.string s] 9 (0, 0)) := hp_alloc ((congrArg _ (by simp)).trans (heap_alloc_new (((w.alloc (.cells #[.int .i64 tv, .int .i64 sz, .int .i64 lc, .int .u64 vl] 123)).alloc (.cells #[.int .u8 0, .int .i64 0, .int .u64 0] 64)).alloc (.cells #[.slice none 0 0] 145)) _)) _
  have XS0 : ((((((w.alloc (.cells #[.int .i64 tv, .int .i64 sz, .int .i64 lc, .int .u64 vl] 123)).alloc (.cells #[.int .u8 0, .int .i64 0, .int .u64 0] 64)).alloc (.cells #[.slice none 0 0] 145)).alloc (.cells #[.string s] 9)).alloc (.cells #[.int .i32 32] 21))).heap[w.heap.size + 1 + 1 + 1 + 1]? = some (.cells #[.int .i32 32] 21 (0, 0)) := (congrArg _ (by simp)).trans (heap_alloc_new ((((w.alloc (.cells #[.int .i64 tv, .int .i64 sz, .int .i64 lc, .int .u64 vl] 123)).alloc (.cells #[.int .u8 0, .int .i64 0, .int .u64 0] 64)).alloc (.cells #[.slice none 0 0] 145)).alloc (.cells #[.string s] 9)) _)
  generalize (((((w.alloc (.cells #[.int .i64 tv, .int .i64 sz, .int .i64 lc, .int .u64 vl] 123)).alloc (.cells #[.int .u8 0, .int .i64 0, .int .u64 0] 64)).alloc (.cells #[.slice none 0 0] 145)).alloc (.cells #[.string s] 9)).alloc (.cells #[.int .i32 32] 21)) = W0 at BX0 hz0 XN0 XR0 XW0 XT0 XS0 ⊢
  obtain ⟨sb, hsb⟩ : ∃ b, w.heap.size + 1 + 1 + 1 + 1 = b := ⟨_, rfl⟩
  obtain ⟨tb, htb⟩ : ∃ b, w.heap.size + 1 + 1 + 1 = b := ⟨_, rfl⟩
  obtain ⟨wb, hwb⟩ : ∃ b, w.heap.size + 1 + 1 = b := ⟨_, rfl⟩
  obtain ⟨rb, hrb⟩ : ∃ b, w.heap.size + 1 = b := ⟨_, rfl⟩
  obtain ⟨nb, hnb⟩ : ∃ b, w.heap.size = b := ⟨_, rfl⟩
  have HZ := Lib.hid (show rb = nb + 1 ∧ wb = nb + 2 ∧ tb = nb + 3 ∧ sb = nb + 4 ∧ W0.heap.size = nb + 5 ∧ w.heap.size = nb by omega)
  rw [hsb] at XS0
  rw [htb] at XT0
  rw [hwb] at XW0
  rw [hrb] at XR0
  rw [hnb] at XN0 BX0
  rw [hsb, htb, hwb, hrb, hnb]
  clear hz0 hsb htb hwb hrb hnb
  obtain ⟨i0, hi, hz0, hz1, hz2⟩ := info_parts String_info
  refine (wpIn_wide (n := 5)).1 ?_
  refine wpIn_rangeFunc_ownG rfl (by omega) (gf := 111) (lb := #[.pointer (some ⟨tb, 0, none⟩), .pointer (some ⟨sb, 0, none⟩)]) rfl trivial (enters_of Try.func111 (by kernel_rfl) rfl)
    (pieces_stops (5 - 1) (by omega) tb sb s 32 (by omega) hasc AnyP (fun _ _ => trivial) W0 (hp_cell XT0 0) (hp_cell XS0 0)) (fun h k => kq_t h k) (kq_b (hp_lt XT0) (hp_lt XS0)) (Below.refl _ _) (fun _ => rfl)
    (fun (pre : List { p : ByteArray // AnyP p }) W => (∃ v, Boxed W wb 145 v ∧ W.ownsRow W0.heap.size 9 1 v pre.length (pre.map (fun x => Value.string x.1)) ∧ True) ∧ (Below nb w W ∧ (W.heap[nb]? = some (.cells #[.int .i64 tv, .int .i64 sz, .int .i64 lc, .int .u64 vl] 123 (0, 0)) ∧ (W.heap[rb]? = some (.cells #[.int .u8 0, .int .i64 0, .int .u64 0] 64 (0, 0)) ∧ W0.heap.size ≤ W.heap.size))))
    (fun _ _ _ => False)
    (OwnFrom.and (Own.from (holdsRow_own W0.heap.size wb 145 9 1 (fun (pre : List { p : ByteArray // AnyP p }) => pre.length) (fun pre => pre.map (fun x => Value.string x.1)) (fun _ _ => True)) _) (OwnFrom.and (ownFrom_below (by have := HZ.out; omega) (by have := HZ.out; omega)) (OwnFrom.and (ownFrom_heap _ _ _ _) (OwnFrom.and (ownFrom_heap _ _ _ _) (ownFrom_size _ _)))))
    (fun _ _ _ _ _ hs _ _ => hs)
    ⟨⟨_, XW0, World.ownsRow_nil _ _ _ _, trivial⟩, BX0, XN0, XR0, Nat.le_refl _⟩
    ?a1 ?assign ?body ?done ?stop
  case assign =>
    intro l x W K hK
    gi_wp2
    exact hK
  case body =>
    rintro l pre x W ⟨⟨v, hv, hrow, _⟩, hB, hn, hr, hwz⟩ hlt
    rw [hp] at hlt
    simp only [List.length_cons, List.length_nil] at hlt
    have hc := hv.cell
    have hlv := hv.lt
    gi_wp2_with (gi_at_builtin; refine wpListIn_append_own _ rfl _ _ 145 rfl W0.heap.size 9 i0 (.string ByteArray.empty) 1 16 Try.underlying145 hi hz0 hz1 hz2 rfl (by decide) _ _ _ rfl (hrow.alloc _) ⟨W.heap.size, 0, none⟩ 1 1 [.string x.1] rfl rfl (cell_one_new _ _ _) (by simp [Value.oneCell']) (by unfold maxLen; omega) (by have hzz := HZ.out; omega) (by have hzz := HZ.out; simp; omega) ?_; intro v' w1 hown' hgrow _; obtain ⟨g', cap', rfl⟩ := ownsRow_succ hown'; obtain ⟨hv1, hv2, hr2, hk2, hb2, hh2⟩ := boxed_app hv (by decide) hrow hown' hgrow; have hc1 := hv1.cell; have hf1 := hv1.frozen)
    exact ⟨hk2.from _, ⟨hh2 tb (by have hzz := HZ.out; omega) (by have hzz := HZ.out; omega) (by have hzz := HZ.out; omega), hh2 sb (by have hzz := HZ.out; omega) (by have hzz := HZ.out; omega) (by have hzz := HZ.out; omega), hk2.walks⟩, ⟨_, hv2, by simpa using hr2, trivial⟩, hB.trans (hb2 nb (by have hzz := HZ.out; omega) (by have hzz := HZ.out; omega) (by have hzz := HZ.out; omega)), (hh2 nb (by have hzz := HZ.out; omega) (by have hzz := HZ.out; omega) (by have hzz := HZ.out; omega)).trans hn, (hh2 rb (by have hzz := HZ.out; omega) (by have hzz := HZ.out; omega) (by have hzz := HZ.out; omega)).trans hr, Nat.le_trans hwz hk2.size⟩
  case stop =>
    rintro D c pre W _ _ h _
    exact h.elim
  case done =>
    rintro D ys W hD hS ⟨⟨v, hv, hrow, _⟩, hB, hn, hr, hwz⟩ hK
    rw [hp] at hS
    obtain ⟨y1, rfl, hS1⟩ := one_of hS
    obtain ⟨g, cap, rfl⟩ := ownsRow_succ (k := 0) hrow
    obtain ⟨cur, hgb, htk, hgn⟩ : ∃ cur : Array Value, W.heap[g]? = some (.cells cur 9 (0, 0)) ∧ cur.toList.take (1 * 1) = [Value.string y1.1] ∧ W0.heap.size ≤ g := by
      rcases hrow.2 with ⟨hv, h0⟩ | ⟨g', cap', cur, hv, hb, hg, hcap, hm, hs, ht⟩
      · simp at hv
      · simp only [Value.slice.injEq, Option.some.injEq, Addr.mk.injEq] at hv
        obtain ⟨⟨rfl, _⟩, _⟩ := hv
        exact ⟨cur, hg, ht, hb⟩
    have GC0 := Lib.hid (show cur[0]? = some (.string W1) by rw [← Array.getElem?_toList]; have := congrArg (fun l => l[0]?) htk; simp only [List.getElem?_take] at this; simpa [hS1] using this)
  
    have NA := Lib.hid hn
    have RA := Lib.hid hr
    have WBA := Lib.hid (show W.heap[wb]? = some (.cells #[.slice (some ⟨g, 0, none⟩) 1 cap] 145 (0, 0)) from hv)
    have GBA := Lib.hid hgb
    have KA := Lib.hid hK
    have BA := Lib.hid hB
    have DN := Lib.hid (show D ≠ rb ∧ W0.heap.size ≤ D from ⟨by have := HZ.out; omega, hD⟩)
    clear hn hr hv hgb hK hB hwz htk hrow hD XS0 XT0 XW0 XR0 XN0 BX0
    have n0 : W.cell? ⟨nb, 0, none⟩ = some (.int .i64 tv) := hp_cell (NA.out) 0; have n1 : W.cell? ⟨nb, 1, none⟩ = some (.int .i64 sz) := hp_cell (NA.out) 1; have n2 : W.cell? ⟨nb, 2, none⟩ = some (.int .i64 lc) := hp_cell (NA.out) 2; have n3 : W.cell? ⟨nb, 3, none⟩ = some (.int .u64 vl) := hp_cell (NA.out) 3; have nl := hp_lt (NA.out); have r0 : W.cell? ⟨rb, 0, none⟩ = some (.int .u8 0) := hp_cell (RA.out) 0; have rz0 := hp_frozen (RA.out) 0; have r1 : W.cell? ⟨rb, 1, none⟩ = some (.int .i64 0) := hp_cell (RA.out) 1; have rz1 := hp_frozen (RA.out) 1; have r2 : W.cell? ⟨rb, 2, none⟩ = some (.int .u64 0) := hp_cell (RA.out) 2; have rz2 := hp_frozen (RA.out) 2; have rl := hp_lt (RA.out); have wc : W.cell? ⟨wb, 0, none⟩ = some (.slice (some ⟨g, 0, none⟩) 1 cap) := hp_cell WBA.out 0; have wl := hp_lt WBA.out; have gl := hp_lt GBA.out; have gc0 : W.cell? ⟨g, 0, none⟩ = some (.string W1) := (hp_cell GBA.out 0).trans GC0.out
    go_wp2_with (go_at_call 112; refine (hrw _).mono ?_; rintro e w2 ⟨⟨bq, rfl⟩, hb⟩; have B2 := Lib.hid hb; have NB := Lib.hid (hp_below NA.out hb); have RB := Lib.hid (hp_below RA.out hb); have WBB := Lib.hid (hp_below WBA.out hb); have GBB := Lib.hid (hp_below GBA.out hb); have KB := Lib.hid (hp_below KA.out hb); clear hb n0 n1 n2 n3 nl r0 rz0 r1 rz1 r2 rz2 rl wc wl gl gc0; have n0 : w2.cell? ⟨nb, 0, none⟩ = some (.int .i64 tv) := hp_cell (NB.out) 0; have n1 : w2.cell? ⟨nb, 1, none⟩ = some (.int .i64 sz) := hp_cell (NB.out) 1; have n2 : w2.cell? ⟨nb, 2, none⟩ = some (.int .i64 lc) := hp_cell (NB.out) 2; have n3 : w2.cell? ⟨nb, 3, none⟩ = some (.int .u64 vl) := hp_cell (NB.out) 3; have nl := hp_lt (NB.out); have r0 : w2.cell? ⟨rb, 0, none⟩ = some (.int .u8 0) := hp_cell (RB.out) 0; have rz0 := hp_frozen (RB.out) 0; have r1 : w2.cell? ⟨rb, 1, none⟩ = some (.int .i64 0) := hp_cell (RB.out) 1; have rz1 := hp_frozen (RB.out) 1; have r2 : w2.cell? ⟨rb, 2, none⟩ = some (.int .u64 0) := hp_cell (RB.out) 2; have rz2 := hp_frozen (RB.out) 2; have rl := hp_lt (RB.out); have wc : w2.cell? ⟨wb, 0, none⟩ = some (.slice (some ⟨g, 0, none⟩) 1 cap) := hp_cell WBB.out 0; have wl := hp_lt WBB.out; have gl := hp_lt GBB.out; have gc0 : w2.cell? ⟨g, 0, none⟩ = some (.string W1) := (hp_cell GBB.out 0).trans GC0.out)
    have zz := HZ.out
    have a0 := hp_put (cs' := #[.int .u8 op, .int .i64 0, .int .u64 0]) RB.out 0 (.int .u8 op) (by simp)
    have a1 := hp_put (cs' := #[.int .u8 op, .int .i64 0, .int .u64 0]) a0 1 (.int .i64 0) (by simp)
    have a2 := hp_put (cs' := #[.int .u8 op, .int .i64 0, .int .u64 0]) a1 2 (.int .u64 0) (by simp)
    refine ins_ret rfl (hp_alloc a2 _) (hp_alloc (hp_far (hp_far (hp_far KB.out DN.out.1 _) DN.out.1 _) DN.out.1 _) _) DN.out.1 ?_ (by have := DN.out.2; omega)
    have hb := BA.out.trans (B2.out.mono (by have := BA.out.size; omega))
    rw [zz.2.2.2.2.2]
    exact (((hb.setCell (p := ⟨rb, 0, none⟩) (by show nb ≤ rb; omega) _).setCell (p := ⟨rb, 1, none⟩) (by show nb ≤ rb; omega) _).setCell (p := ⟨rb, 2, none⟩) (by show nb ≤ rb; omega) _).alloc (by have := hb.size; simp [World.setCell]; omega) _
set_option maxRecDepth 100000 in
set_option maxHeartbeats 4000000 in
theorem ins_arg (tv sz lc vl at' : Int) (s : ByteArray) (hs : s.size ≤ 1000) (hasc : ∀ x ∈ s.data.toList, x.toNat < 128) (W1 W2 : ByteArray) (hp : pcs s 32 = [W1, W2]) (op x : Int) (h1 : (op == 1) = false) (h21 : (op == 21) = false) (h19 : (op == 19) = false) (h20 : (op == 20) = false) (hrw : ∀ w : World, Calls Try.prog 112 #[.string W1] w fun e w' => (∃ b, e = .returned (.tuple #[.int .u8 op, .bool b])) ∧ Below w.heap.size w w') (hnum : ∀ w : World, Calls Try.prog 113 #[.agg #[.int .i64 tv, .int .i64 sz, .int .i64 lc, .int .u64 vl], .string W2] w fun e w' => e = .returned (.int .i64 x) ∧ Below w.heap.size w w') (w : World) :
    Calls Try.prog 106 #[.agg #[.int .i64 tv, .int .i64 sz, .int .i64 lc, .int .u64 vl], .int .i64 at', .string s] w fun e w' => e = .returned (.agg #[.int .u8 op, .int .i64 x, .int .u64 0]) ∧ Below w.heap.size w w' := by
  refine (callsIn_wide (n := 6)).1 ?_
  refine callsIn_of_wp_marks Try.func106 rfl trivial ?_ rfl
  simp only [Try.ntmps106, List.size_toArray, List.length_cons, List.length_nil, Nat.reduceAdd, Nat.reduceSub, Array.replicate_succ, Array.replicate_zero, List.push_toArray, List.append_toArray, List.nil_append, List.cons_append]
  refine wpIn_wide.2 ?_
  refine wp_retOnly ?_
  go_wp2_with (go_at_call 105; refine (pieces_any s 32 _).mono ?_; rintro e w' ⟨rfl, rfl⟩)
  have BX0 : Below w.heap.size w (((((w.alloc (.cells #[.int .i64 tv, .int .i64 sz, .int .i64 lc, .int .u64 vl] 123)).alloc (.cells #[.int .u8 0, .int .i64 0, .int .u64 0] 64)).alloc (.cells #[.slice none 0 0] 145)).alloc (.cells #[.string s] 9)).alloc (.cells #[.int .i32 32] 21)) := ((((((Below.refl _ w).alloc (Nat.le_refl _) _).alloc (by simp) _).alloc (by simp; omega) _).alloc (by simp; omega) _).alloc (by simp; omega) _)
  have hz0 : ((((((w.alloc (.cells #[.int .i64 tv, .int .i64 sz, .int .i64 lc, .int .u64 vl] 123)).alloc (.cells #[.int .u8 0, .int .i64 0, .int .u64 0] 64)).alloc (.cells #[.slice none 0 0] 145)).alloc (.cells #[.string s] 9)).alloc (.cells #[.int .i32 32] 21))).heap.size = w.heap.size + 1 + 1 + 1 + 1 + 1 := by simp
  have XN0 : ((((((w.alloc (.cells #[.int .i64 tv, .int .i64 sz, .int .i64 lc, .int .u64 vl] 123)).alloc (.cells #[.int .u8 0, .int .i64 0, .int .u64 0] 64)).alloc (.cells #[.slice none 0 0] 145)).alloc (.cells #[.string s] 9)).alloc (.cells #[.int .i32 32] 21))).heap[w.heap.size]? = some (.cells #[.int .i64 tv, .int .i64 sz, .int .i64 lc, .int .u64 vl] 123 (0, 0)) := hp_alloc (hp_alloc (hp_alloc (hp_alloc (heap_alloc_new w _) _) _) _) _
  have XR0 : ((((((w.alloc (.cells #[.int .i64 tv, .int .i64 sz, .int .i64 lc, .int .u64 vl] 123)).alloc (.cells #[.int .u8 0, .int .i64 0, .int .u64 0] 64)).alloc (.cells #[.slice none 0 0] 145)).alloc (.cells #[.string s] 9)).alloc (.cells #[.int .i32 32] 21))).heap[w.heap.size + 1]? = some (.cells #[.int .u8 0, .int .i64 0, .int .u64 0] 64 (0, 0)) := hp_alloc (hp_alloc (hp_alloc ((congrArg _ (by simp)).trans (heap_alloc_new (w.alloc (.cells #[.int .i64 tv, .int .i64 sz, .int .i64 lc, .int .u64 vl] 123)) _)) _) _) _
  have XW0 : ((((((w.alloc (.cells #[.int .i64 tv, .int .i64 sz, .int .i64 lc, .int .u64 vl] 123)).alloc (.cells #[.int .u8 0, .int .i64 0, .int .u64 0] 64)).alloc (.cells #[.slice none 0 0] 145)).alloc (.cells #[.string s] 9)).alloc (.cells #[.int .i32 32] 21))).heap[w.heap.size + 1 + 1]? = some (.cells #[.slice none 0 0] 145 (0, 0)) := hp_alloc (hp_alloc ((congrArg _ (by simp)).trans (heap_alloc_new ((w.alloc (.cells #[.int .i64 tv, .int .i64 sz, .int .i64 lc, .int .u64 vl] 123)).alloc (.cells #[.int .u8 0, .int .i64 0, .int .u64 0] 64)) _)) _) _
  have XT0 : ((((((w.alloc (.cells #[.int .i64 tv, .int .i64 sz, .int .i64 lc, .int .u64 vl] 123)).alloc (.cells #[.int .u8 0, .int .i64 0, .int .u64 0] 64)).alloc (.cells #[.slice none 0 0] 145)).alloc (.cells #[.string s] 9)).alloc (.cells #[.int .i32 32] 21))).heap[w.heap.size + 1 + 1 + 1]? = some (.cells #[.string s] 9 (0, 0)) := hp_alloc ((congrArg _ (by simp)).trans (heap_alloc_new (((w.alloc (.cells #[.int .i64 tv, .int .i64 sz, .int .i64 lc, .int .u64 vl] 123)).alloc (.cells #[.int .u8 0, .int .i64 0, .int .u64 0] 64)).alloc (.cells #[.slice none 0 0] 145)) _)) _
  have XS0 : ((((((w.alloc (.cells #[.int .i64 tv, .int .i64 sz, .int .i64 lc, .int .u64 vl] 123)).alloc (.cells #[.int .u8 0, .int .i64 0, .int .u64 0] 64)).alloc (.cells #[.slice none 0 0] 145)).alloc (.cells #[.string s] 9)).alloc (.cells #[.int .i32 32] 21))).heap[w.heap.size + 1 + 1 + 1 + 1]? = some (.cells #[.int .i32 32] 21 (0, 0)) := (congrArg _ (by simp)).trans (heap_alloc_new ((((w.alloc (.cells #[.int .i64 tv, .int .i64 sz, .int .i64 lc, .int .u64 vl] 123)).alloc (.cells #[.int .u8 0, .int .i64 0, .int .u64 0] 64)).alloc (.cells #[.slice none 0 0] 145)).alloc (.cells #[.string s] 9)) _)
  generalize (((((w.alloc (.cells #[.int .i64 tv, .int .i64 sz, .int .i64 lc, .int .u64 vl] 123)).alloc (.cells #[.int .u8 0, .int .i64 0, .int .u64 0] 64)).alloc (.cells #[.slice none 0 0] 145)).alloc (.cells #[.string s] 9)).alloc (.cells #[.int .i32 32] 21)) = W0 at BX0 hz0 XN0 XR0 XW0 XT0 XS0 ⊢
  obtain ⟨sb, hsb⟩ : ∃ b, w.heap.size + 1 + 1 + 1 + 1 = b := ⟨_, rfl⟩
  obtain ⟨tb, htb⟩ : ∃ b, w.heap.size + 1 + 1 + 1 = b := ⟨_, rfl⟩
  obtain ⟨wb, hwb⟩ : ∃ b, w.heap.size + 1 + 1 = b := ⟨_, rfl⟩
  obtain ⟨rb, hrb⟩ : ∃ b, w.heap.size + 1 = b := ⟨_, rfl⟩
  obtain ⟨nb, hnb⟩ : ∃ b, w.heap.size = b := ⟨_, rfl⟩
  have HZ := Lib.hid (show rb = nb + 1 ∧ wb = nb + 2 ∧ tb = nb + 3 ∧ sb = nb + 4 ∧ W0.heap.size = nb + 5 ∧ w.heap.size = nb by omega)
  rw [hsb] at XS0
  rw [htb] at XT0
  rw [hwb] at XW0
  rw [hrb] at XR0
  rw [hnb] at XN0 BX0
  rw [hsb, htb, hwb, hrb, hnb]
  clear hz0 hsb htb hwb hrb hnb
  obtain ⟨i0, hi, hz0, hz1, hz2⟩ := info_parts String_info
  refine (wpIn_wide (n := 5)).1 ?_
  refine wpIn_rangeFunc_ownG rfl (by omega) (gf := 111) (lb := #[.pointer (some ⟨tb, 0, none⟩), .pointer (some ⟨sb, 0, none⟩)]) rfl trivial (enters_of Try.func111 (by kernel_rfl) rfl)
    (pieces_stops (5 - 1) (by omega) tb sb s 32 (by omega) hasc AnyP (fun _ _ => trivial) W0 (hp_cell XT0 0) (hp_cell XS0 0)) (fun h k => kq_t h k) (kq_b (hp_lt XT0) (hp_lt XS0)) (Below.refl _ _) (fun _ => rfl)
    (fun (pre : List { p : ByteArray // AnyP p }) W => (∃ v, Boxed W wb 145 v ∧ W.ownsRow W0.heap.size 9 1 v pre.length (pre.map (fun x => Value.string x.1)) ∧ True) ∧ (Below nb w W ∧ (W.heap[nb]? = some (.cells #[.int .i64 tv, .int .i64 sz, .int .i64 lc, .int .u64 vl] 123 (0, 0)) ∧ (W.heap[rb]? = some (.cells #[.int .u8 0, .int .i64 0, .int .u64 0] 64 (0, 0)) ∧ W0.heap.size ≤ W.heap.size))))
    (fun _ _ _ => False)
    (OwnFrom.and (Own.from (holdsRow_own W0.heap.size wb 145 9 1 (fun (pre : List { p : ByteArray // AnyP p }) => pre.length) (fun pre => pre.map (fun x => Value.string x.1)) (fun _ _ => True)) _) (OwnFrom.and (ownFrom_below (by have := HZ.out; omega) (by have := HZ.out; omega)) (OwnFrom.and (ownFrom_heap _ _ _ _) (OwnFrom.and (ownFrom_heap _ _ _ _) (ownFrom_size _ _)))))
    (fun _ _ _ _ _ hs _ _ => hs)
    ⟨⟨_, XW0, World.ownsRow_nil _ _ _ _, trivial⟩, BX0, XN0, XR0, Nat.le_refl _⟩
    ?a1 ?assign ?body ?done ?stop
  case assign =>
    intro l x W K hK
    gi_wp2
    exact hK
  case body =>
    rintro l pre x W ⟨⟨v, hv, hrow, _⟩, hB, hn, hr, hwz⟩ hlt
    rw [hp] at hlt
    simp only [List.length_cons, List.length_nil] at hlt
    have hc := hv.cell
    have hlv := hv.lt
    gi_wp2_with (gi_at_builtin; refine wpListIn_append_own _ rfl _ _ 145 rfl W0.heap.size 9 i0 (.string ByteArray.empty) 1 16 Try.underlying145 hi hz0 hz1 hz2 rfl (by decide) _ _ _ rfl (hrow.alloc _) ⟨W.heap.size, 0, none⟩ 1 1 [.string x.1] rfl rfl (cell_one_new _ _ _) (by simp [Value.oneCell']) (by unfold maxLen; omega) (by have hzz := HZ.out; omega) (by have hzz := HZ.out; simp; omega) ?_; intro v' w1 hown' hgrow _; obtain ⟨g', cap', rfl⟩ := ownsRow_succ hown'; obtain ⟨hv1, hv2, hr2, hk2, hb2, hh2⟩ := boxed_app hv (by decide) hrow hown' hgrow; have hc1 := hv1.cell; have hf1 := hv1.frozen)
    exact ⟨hk2.from _, ⟨hh2 tb (by have hzz := HZ.out; omega) (by have hzz := HZ.out; omega) (by have hzz := HZ.out; omega), hh2 sb (by have hzz := HZ.out; omega) (by have hzz := HZ.out; omega) (by have hzz := HZ.out; omega), hk2.walks⟩, ⟨_, hv2, by simpa using hr2, trivial⟩, hB.trans (hb2 nb (by have hzz := HZ.out; omega) (by have hzz := HZ.out; omega) (by have hzz := HZ.out; omega)), (hh2 nb (by have hzz := HZ.out; omega) (by have hzz := HZ.out; omega) (by have hzz := HZ.out; omega)).trans hn, (hh2 rb (by have hzz := HZ.out; omega) (by have hzz := HZ.out; omega) (by have hzz := HZ.out; omega)).trans hr, Nat.le_trans hwz hk2.size⟩
  case stop =>
    rintro D c pre W _ _ h _
    exact h.elim
  case done =>
    rintro D ys W hD hS ⟨⟨v, hv, hrow, _⟩, hB, hn, hr, hwz⟩ hK
    rw [hp] at hS
    obtain ⟨y1, y2, rfl, hS1, hS2⟩ := two_of hS
    obtain ⟨g, cap, rfl⟩ := ownsRow_succ (k := 1) hrow
    obtain ⟨cur, hgb, htk, hgn⟩ : ∃ cur : Array Value, W.heap[g]? = some (.cells cur 9 (0, 0)) ∧ cur.toList.take (2 * 1) = [Value.string y1.1, Value.string y2.1] ∧ W0.heap.size ≤ g := by
      rcases hrow.2 with ⟨hv, h0⟩ | ⟨g', cap', cur, hv, hb, hg, hcap, hm, hs, ht⟩
      · simp at hv
      · simp only [Value.slice.injEq, Option.some.injEq, Addr.mk.injEq] at hv
        obtain ⟨⟨rfl, _⟩, _⟩ := hv
        exact ⟨cur, hg, ht, hb⟩
    have GC0 := Lib.hid (show cur[0]? = some (.string W1) by rw [← Array.getElem?_toList]; have := congrArg (fun l => l[0]?) htk; simp only [List.getElem?_take] at this; simpa [hS1] using this)
    have GC1 := Lib.hid (show cur[1]? = some (.string W2) by rw [← Array.getElem?_toList]; have := congrArg (fun l => l[1]?) htk; simp only [List.getElem?_take] at this; simpa [hS2] using this)
  
    have NA := Lib.hid hn
    have RA := Lib.hid hr
    have WBA := Lib.hid (show W.heap[wb]? = some (.cells #[.slice (some ⟨g, 0, none⟩) 2 cap] 145 (0, 0)) from hv)
    have GBA := Lib.hid hgb
    have KA := Lib.hid hK
    have BA := Lib.hid hB
    have DN := Lib.hid (show D ≠ rb ∧ W0.heap.size ≤ D from ⟨by have := HZ.out; omega, hD⟩)
    clear hn hr hv hgb hK hB hwz htk hrow hD XS0 XT0 XW0 XR0 XN0 BX0
    have n0 : W.cell? ⟨nb, 0, none⟩ = some (.int .i64 tv) := hp_cell (NA.out) 0; have n1 : W.cell? ⟨nb, 1, none⟩ = some (.int .i64 sz) := hp_cell (NA.out) 1; have n2 : W.cell? ⟨nb, 2, none⟩ = some (.int .i64 lc) := hp_cell (NA.out) 2; have n3 : W.cell? ⟨nb, 3, none⟩ = some (.int .u64 vl) := hp_cell (NA.out) 3; have nl := hp_lt (NA.out); have r0 : W.cell? ⟨rb, 0, none⟩ = some (.int .u8 0) := hp_cell (RA.out) 0; have rz0 := hp_frozen (RA.out) 0; have r1 : W.cell? ⟨rb, 1, none⟩ = some (.int .i64 0) := hp_cell (RA.out) 1; have rz1 := hp_frozen (RA.out) 1; have r2 : W.cell? ⟨rb, 2, none⟩ = some (.int .u64 0) := hp_cell (RA.out) 2; have rz2 := hp_frozen (RA.out) 2; have rl := hp_lt (RA.out); have wc : W.cell? ⟨wb, 0, none⟩ = some (.slice (some ⟨g, 0, none⟩) 2 cap) := hp_cell WBA.out 0; have wl := hp_lt WBA.out; have gl := hp_lt GBA.out; have gc0 : W.cell? ⟨g, 0, none⟩ = some (.string W1) := (hp_cell GBA.out 0).trans GC0.out; have gc1 : W.cell? ⟨g, 1, none⟩ = some (.string W2) := (hp_cell GBA.out 1).trans GC1.out
    go_upto_region 10 with (go_at_call 112; refine (hrw _).mono ?_; rintro e w2 ⟨⟨bq, rfl⟩, hb⟩; have B2 := Lib.hid hb; have NB := Lib.hid (hp_below NA.out hb); have RB := Lib.hid (hp_below RA.out hb); have WBB := Lib.hid (hp_below WBA.out hb); have GBB := Lib.hid (hp_below GBA.out hb); have KB := Lib.hid (hp_below KA.out hb); clear hb n0 n1 n2 n3 nl r0 rz0 r1 rz1 r2 rz2 rl wc wl gl gc0 gc1; have n0 : w2.cell? ⟨nb, 0, none⟩ = some (.int .i64 tv) := hp_cell (NB.out) 0; have n1 : w2.cell? ⟨nb, 1, none⟩ = some (.int .i64 sz) := hp_cell (NB.out) 1; have n2 : w2.cell? ⟨nb, 2, none⟩ = some (.int .i64 lc) := hp_cell (NB.out) 2; have n3 : w2.cell? ⟨nb, 3, none⟩ = some (.int .u64 vl) := hp_cell (NB.out) 3; have nl := hp_lt (NB.out); have r0 : w2.cell? ⟨rb, 0, none⟩ = some (.int .u8 0) := hp_cell (RB.out) 0; have rz0 := hp_frozen (RB.out) 0; have r1 : w2.cell? ⟨rb, 1, none⟩ = some (.int .i64 0) := hp_cell (RB.out) 1; have rz1 := hp_frozen (RB.out) 1; have r2 : w2.cell? ⟨rb, 2, none⟩ = some (.int .u64 0) := hp_cell (RB.out) 2; have rz2 := hp_frozen (RB.out) 2; have rl := hp_lt (RB.out); have wc : w2.cell? ⟨wb, 0, none⟩ = some (.slice (some ⟨g, 0, none⟩) 2 cap) := hp_cell WBB.out 0; have wl := hp_lt WBB.out; have gl := hp_lt GBB.out; have gc0 : w2.cell? ⟨g, 0, none⟩ = some (.string W1) := (hp_cell GBB.out 0).trans GC0.out; have gc1 : w2.cell? ⟨g, 1, none⟩ = some (.string W2) := (hp_cell GBB.out 1).trans GC1.out)
    have zz := Lib.hid (show Below nb w w2 from BA.out.trans (B2.out.mono (by have := HZ.out; have := BA.out.size; omega)))
    have zl := (Below.refl w2.heap.size w2).alloc (Nat.le_refl _) (.cells #[.int .u8 op, .int .i64 0, .int .u64 0] 64)
    have XC := Lib.hid (heap_alloc_new w2 (.cells #[.int .u8 op, .int .i64 0, .int .u64 0] 64))
    have NC := Lib.hid (hp_below NB.out zl)
    have RC := Lib.hid (hp_below RB.out zl)
    have WBC := Lib.hid (hp_below WBB.out zl)
    have GBC := Lib.hid (hp_below GBB.out zl)
    have KC := Lib.hid (hp_below KB.out zl)
    have BC := Lib.hid (zz.out.trans (zl.mono (by have := zz.out.size; have := HZ.out; omega)))
    have XNE := Lib.hid (show w2.heap.size ≠ rb ∧ w2.heap.size ≠ D ∧ nb ≤ w2.heap.size from ⟨by have := hp_lt RB.out; omega, by have := hp_lt KB.out; omega, by have := zz.out.size; have := HZ.out; omega⟩)
    clear zl zz NB RB WBB GBB KB n0 n1 n2 n3 nl r0 rz0 r1 rz1 r2 rz2 rl wc wl gl gc0 gc1
    generalize w2.alloc _ = w3 at XC NC RC WBC GBC KC BC ⊢
    obtain ⟨xb, hxb⟩ : ∃ b, w2.heap.size = b := ⟨_, rfl⟩
    rw [hxb] at XC XNE ⊢
    clear hxb
    have n0 : w3.cell? ⟨nb, 0, none⟩ = some (.int .i64 tv) := hp_cell (NC.out) 0; have n1 : w3.cell? ⟨nb, 1, none⟩ = some (.int .i64 sz) := hp_cell (NC.out) 1; have n2 : w3.cell? ⟨nb, 2, none⟩ = some (.int .i64 lc) := hp_cell (NC.out) 2; have n3 : w3.cell? ⟨nb, 3, none⟩ = some (.int .u64 vl) := hp_cell (NC.out) 3; have nl := hp_lt (NC.out); have r0 : w3.cell? ⟨rb, 0, none⟩ = some (.int .u8 0) := hp_cell (RC.out) 0; have rz0 := hp_frozen (RC.out) 0; have r1 : w3.cell? ⟨rb, 1, none⟩ = some (.int .i64 0) := hp_cell (RC.out) 1; have rz1 := hp_frozen (RC.out) 1; have r2 : w3.cell? ⟨rb, 2, none⟩ = some (.int .u64 0) := hp_cell (RC.out) 2; have rz2 := hp_frozen (RC.out) 2; have rl := hp_lt (RC.out); have wc : w3.cell? ⟨wb, 0, none⟩ = some (.slice (some ⟨g, 0, none⟩) 2 cap) := hp_cell WBC.out 0; have wl := hp_lt WBC.out; have gl := hp_lt GBC.out; have gc0 : w3.cell? ⟨g, 0, none⟩ = some (.string W1) := (hp_cell GBC.out 0).trans GC0.out; have gc1 : w3.cell? ⟨g, 1, none⟩ = some (.string W2) := (hp_cell GBC.out 1).trans GC1.out
    have x0 : w3.cell? ⟨xb, 0, none⟩ = some (.int .u8 op) := hp_cell (XC.out) 0; have xz0 := hp_frozen (XC.out) 0; have x1 : w3.cell? ⟨xb, 1, none⟩ = some (.int .i64 0) := hp_cell (XC.out) 1; have xz1 := hp_frozen (XC.out) 1; have x2 : w3.cell? ⟨xb, 2, none⟩ = some (.int .u64 0) := hp_cell (XC.out) 2; have xz2 := hp_frozen (XC.out) 2; have xl := hp_lt (XC.out)
    have ne1 := XNE.out.1
    have ne2 : rb ≠ xb := fun e => ne1 e.symm
    refine quiet_tail2 4 (by kernel_rfl) (by kernel_rfl) ?_
    simp only [List.take_succ_cons, List.take_zero, List.drop_succ_cons, List.drop_zero]
    repeat (go_big_quiet_step (fail))
    refine wpQuiet_nil ?_
    go_wp2_with (go_simp; go_at_call 113; refine (hnum _).mono ?_; rintro e w4 ⟨rfl, hb⟩; have XD := Lib.hid (hp_below (hp_dw XC.out) hb); have ND := Lib.hid (hp_below (hp_dw NC.out) hb); have RD := Lib.hid (hp_below (hp_dw RC.out) hb); have WBD := Lib.hid (hp_below (hp_dw WBC.out) hb); have GBD := Lib.hid (hp_below (hp_dw GBC.out) hb); have KD := Lib.hid (hp_below (hp_dw KC.out) hb); have BD := Lib.hid (BC.out.drew.trans (hb.mono (by have h1 := BC.out.size; have h2 := HZ.out; show nb ≤ w3.heap.size; omega))); clear hb n0 n1 n2 n3 nl r0 rz0 r1 rz1 r2 rz2 rl wc wl gl gc0 gc1 x0 x1 x2 xz0 xz1 xz2 xl; have n0 : w4.cell? ⟨nb, 0, none⟩ = some (.int .i64 tv) := hp_cell (ND.out) 0; have n1 : w4.cell? ⟨nb, 1, none⟩ = some (.int .i64 sz) := hp_cell (ND.out) 1; have n2 : w4.cell? ⟨nb, 2, none⟩ = some (.int .i64 lc) := hp_cell (ND.out) 2; have n3 : w4.cell? ⟨nb, 3, none⟩ = some (.int .u64 vl) := hp_cell (ND.out) 3; have nl := hp_lt (ND.out); have r0 : w4.cell? ⟨rb, 0, none⟩ = some (.int .u8 0) := hp_cell (RD.out) 0; have rz0 := hp_frozen (RD.out) 0; have r1 : w4.cell? ⟨rb, 1, none⟩ = some (.int .i64 0) := hp_cell (RD.out) 1; have rz1 := hp_frozen (RD.out) 1; have r2 : w4.cell? ⟨rb, 2, none⟩ = some (.int .u64 0) := hp_cell (RD.out) 2; have rz2 := hp_frozen (RD.out) 2; have rl := hp_lt (RD.out); have wc : w4.cell? ⟨wb, 0, none⟩ = some (.slice (some ⟨g, 0, none⟩) 2 cap) := hp_cell WBD.out 0; have wl := hp_lt WBD.out; have gl := hp_lt GBD.out; have gc0 : w4.cell? ⟨g, 0, none⟩ = some (.string W1) := (hp_cell GBD.out 0).trans GC0.out; have gc1 : w4.cell? ⟨g, 1, none⟩ = some (.string W2) := (hp_cell GBD.out 1).trans GC1.out; have x0 : w4.cell? ⟨xb, 0, none⟩ = some (.int .u8 op) := hp_cell (XD.out) 0; have xz0 := hp_frozen (XD.out) 0; have x1 : w4.cell? ⟨xb, 1, none⟩ = some (.int .i64 0) := hp_cell (XD.out) 1; have xz1 := hp_frozen (XD.out) 1; have x2 : w4.cell? ⟨xb, 2, none⟩ = some (.int .u64 0) := hp_cell (XD.out) 2; have xz2 := hp_frozen (XD.out) 2; have xl := hp_lt (XD.out))
    have zz := HZ.out
    have hb0 := BD.out
    have r0 := hp_far (p := ⟨xb, 1, none⟩) RD.out (fun e => XNE.out.1 e.symm) (.int .i64 x)
    have k0 := hp_far (p := ⟨xb, 1, none⟩) KD.out (fun e => XNE.out.2.1 e.symm) (.int .i64 x)
    have hb1 := hb0.setCell (p := ⟨xb, 1, none⟩) (by show nb ≤ xb; have := XNE.out; omega) (.int .i64 x)
    have s0 := hp_put (cs' := #[.int .u8 op, .int .i64 0, .int .u64 0]) r0 0 (.int .u8 op) (by simp)
    have t0 := hp_far (p := ⟨rb, 0, none⟩) k0 DN.out.1 (.int .u8 op)
    have hb2 := hb1.setCell (p := ⟨rb, 0, none⟩) (by show nb ≤ rb; omega) (.int .u8 op)
    have s1 := hp_put (cs' := #[.int .u8 op, .int .i64 x, .int .u64 0]) s0 1 (.int .i64 x) (by simp)
    have t1 := hp_far (p := ⟨rb, 1, none⟩) t0 DN.out.1 (.int .i64 x)
    have hb3 := hb2.setCell (p := ⟨rb, 1, none⟩) (by show nb ≤ rb; omega) (.int .i64 x)
    have s2 := hp_put (cs' := #[.int .u8 op, .int .i64 x, .int .u64 0]) s1 2 (.int .u64 0) (by simp)
    have t2 := hp_far (p := ⟨rb, 2, none⟩) t1 DN.out.1 (.int .u64 0)
    have hb4 := hb3.setCell (p := ⟨rb, 2, none⟩) (by show nb ≤ rb; omega) (.int .u64 0)
    refine ins_ret rfl s2 t2 DN.out.1 ?_ (by have := DN.out.2; omega)
    rw [zz.2.2.2.2.2]
    exact hb4
end Go.Proofs.Ytmmfadakhnagpaa
