
/-
  A thread's memory; tell, ask, New.
-/
import Derived.Test.YtdkcmnnhjnapiaaSp8
import Derived.Test.YtdkcmnnhjnapiaaSp7
import Derived.Test.YtdkcmnnhjnapiaaTh0
import Derived.Handy
import Derived.Lib.QuietBelow
namespace Go.Proofs.Ytdkcmnnhjnapiaa
open Go.RowKit Go.ChangeShapes Go.WideShapes
set_option linter.unusedSimpArgs false
set_option linter.unusedVariables false

theorem inss_cells {w : World} {g o : Nat} {l : List Ins3} (h : InssAt w (some ⟨g, o, none⟩) l) : ∀ (j : Nat) (u : Value), (insC l)[j]? = some u → w.cell? (Addr.add ⟨g, o, none⟩ j) = some u := by
  intro j u hu
  have hj : j < (insC l).length := (List.getElem?_eq_some_iff.mp hu).1
  rw [insC_len] at hj
  have hq : j / 3 < l.length := by omega
  have hs := xn_some h hq
  obtain ⟨_, h0, h1, h2⟩ := hs
  have hat := insC_at l (j / 3) _ (xn_get hq)
  rw [add_at] at h0 h1 h2 ⊢
  dsimp only at h1 h2
  have hr : j % 3 = 0 ∨ j % 3 = 1 ∨ j % 3 = 2 := by omega
  rcases hr with hr | hr | hr
  · have := hat 0 _ rfl
    rw [show j / 3 * 3 + 0 = j by omega, hu] at this
    obtain rfl := Option.some.inj this
    rw [show o + j / 3 * 3 = o + j by omega] at h0
    exact h0
  · have := hat 1 _ rfl
    rw [show j / 3 * 3 + 1 = j by omega, hu] at this
    obtain rfl := Option.some.inj this
    rw [show o + j / 3 * 3 + 1 = o + j by omega] at h1
    exact h1
  · have := hat 2 _ rfl
    rw [show j / 3 * 3 + 2 = j by omega, hu] at this
    obtain rfl := Option.some.inj this
    rw [show o + j / 3 * 3 + 2 = o + j by omega] at h2
    exact h2
theorem nrow_of {w : World} {base : Nat} {v : Value} {l : List Ins3} (h : w.ownsRow base 53 3 v l.length (insC l)) (hok : ∀ s ∈ l, s.ok) : ∃ A c, v = .slice A l.length c ∧ NRow w base A c l := by
  rcases h.2 with ⟨hv, hn⟩ | ⟨g, cap, cur, hv, _⟩
  · have e : l = [] := List.eq_nil_of_length_eq_zero hn
    subst e
    subst hv
    exact ⟨none, 0, rfl, h, hok⟩
  · subst hv
    exact ⟨_, _, rfl, h, hok⟩
theorem append_inss {ops : Array Oper} {rest : List Oper} {o : Oper} {a : Act} {Q : Exit → Act → World → Prop} {w : World} (hgd : o.guard = none) (s x : Operand)
    (ho : o.op = .call { callee := .builtin .append, args := #[s, x], argTypes := #[24, 24] })
    (base : Nat) (v0 : Value) (l : List Ins3) (hs : a.eval s = v0) (hr : w.ownsRow base 53 3 v0 l.length (insC l)) (hok : ∀ x ∈ l, x.ok) (b : Addr) (n c : Nat) (src : List Ins3) (hn : n = src.length) (hx : a.eval x = .slice (some b) n c)
    (hv : ∀ (j : Nat) (u : Value), (insC src)[j]? = some u → w.cell? (b.add j) = some u) (hoks : ∀ x ∈ src, x.ok) (hlen : l.length + src.length ≤ 1000) (hbase : base ≤ w.heap.size) (l' : List Ins3) (hl : l ++ src = l')
    (h : ∀ A' c' w', NRow w' base A' c' l' → w.grownBy w' v0.ownBlock → wpList Try.prog ops Q rest (a.put o.dst (.slice A' l'.length c')) w') : wpList Try.prog ops Q (o :: rest) a w := by
  subst hl
  subst hn
  obtain ⟨i0, hi, hz0, hz1, hz2⟩ := info_parts Ins_info
  refine wpList_append_own_at w hgd s x 24 ho base 53 i0 _ 3 24 Try.underlying24 hi hz0 hz1 hz2 rfl (by decide) v0 l.length (insC l) hs hr b src.length c (insC src) hx (insC_len src) hv (insC_one src) (by unfold maxLen; omega) (by omega) hbase ?_
  intro v' w' h1 h2 _ _
  rw [← insC_append, ← List.length_append] at h1
  obtain ⟨A', c', rfl, hrow⟩ := nrow_of h1 (fun t ht => by
    rcases List.mem_append.mp ht with ht | ht
    · exact hok t ht
    · exact hoks t ht)
  exact h A' c' w' hrow h2
set_option maxHeartbeats 4000000 in
theorem clone_inss (b : Addr) (c : Nat) (l : List Ins3) (h : l.length ≤ c) (h4 : l.length ≤ 900) (hok : ∀ x ∈ l, x.ok) (w : World) (hv : ∀ (j : Nat) (u : Value), (insC l)[j]? = some u → w.cell? (b.add j) = some u) : Calls Try.prog 30 #[.slice (some b) l.length c] w fun e w' => ∃ A' c', e = .returned (.slice A' l.length c') ∧ NRow w' w.heap.size A' c' l ∧ Below w.heap.size w w' := by
  have qT : ∀ (w : World) (a : Option Addr) (n c n' c' : Nat), (binOp .eql 24 (.slice a n c) (.slice none n' c')).run Try.prog w = .ok (.bool a.isNone) w := fun w a n c n' c' => Lib.run_eql_slice_nil w _ _ a n c n' c' Try.underlying24
  have HV := Lib.hid hv
  have HO := Lib.hid hok
  clear hv hok
  go_enter Try.func30, Try.ntmps30
  go_wp2_with (at_builtin; refine append_inss rfl (.tmp 5) (.tmp 6) rfl w.heap.size (.slice (some ⟨w.heap.size, 0, none⟩) 0 0) [] rfl (World.ownsRow_made w #[] 0 (Nat.le_refl _) (Nat.zero_le _) rfl) (fun x hx => (List.not_mem_nil hx).elim) b l.length c l rfl rfl (fun j u hu => by have hc := HV.out j u hu; exact (((Below.refl w.heap.size w).alloc (Nat.le_refl _) _).cell (World.block_lt_of_cell? w _ hc)).trans hc) HO.out (by simp; omega) (by simp) l rfl ?_; intro A' c' w' hr hg; have R := Lib.hid hr; have G := Lib.hid hg; clear hr hg)
  go_ret
  exact ⟨A', c', rfl, R.out, ((Below.refl _ _).alloc (Nat.le_refl _) _).grown G.out (by simp) (fun k hk => by simp [Value.ownBlock] at hk; omega)⟩

/-- A thread's cells. -/
def thC (f p n c : Nat) (iv : Value) (k ak tv v e : Int) : Array Value := #[.pointer (some ⟨f, 0, none⟩), .slice (some ⟨p, 0, none⟩) n c, iv, .int .u8 k, .int .u8 ak, .int .i64 tv, .int .u64 v, .int .i64 e, .slice none 0 0]
/-- A program's instructions stand in a block of their own. -/
def PrX (w : World) (p : Nat) (l : List Ins3) : Prop := ∃ cs, w.heap[p]? = some (.cells cs 53 (0, 0)) ∧ ∀ (j : Nat) (u : Value), (insC l)[j]? = some u → cs[j]? = some u
/-- What stands beside a thread's own block. -/
structure RsX (W w : World) (t f p : Nat) (l : List Ins3) (s : St) (A1 : Option Addr) (c1 : Nat) : Prop where
  hf : w.heap[f]? = some (.cells (stC s A1 c1 none 0) 58 (0, 0))
  hp : PrX w p l
  row : RowAt w 0 A1 c1 s.stk
  bl : Below W.heap.size W w
  bt : W.heap.size ≤ t
  bf : W.heap.size ≤ f
section
variable {W w w1 : World} {t f p : Nat} {l : List Ins3} {s : St} {A1 : Option Addr} {c1 : Nat}
theorem RsX.below (h : RsX W w t f p l s A1 c1) (hb : Below w.heap.size w w1) : RsX W w1 t f p l s A1 c1 := by
  obtain ⟨cs, h1, h2⟩ := h.hp
  exact ⟨hp_below h.hf hb, ⟨cs, hp_below h1 hb, h2⟩, row_below h.row hb, h.bl.trans (hb.mono h.bl.size), h.bt, h.bf⟩
theorem RsX.alloc (h : RsX W w t f p l s A1 c1) (o : Obj) : RsX W (w.alloc o) t f p l s A1 c1 := h.below ((Below.refl _ _).alloc (Nat.le_refl _) o)
/-- A store to a block of another kind. -/
theorem RsX.set {g : Nat} {T : TypeId} {cs : Array Value} (h : RsX W w t f p l s A1 c1) (hg : w.heap[g]? = some (.cells cs T (0, 0))) (h1 : T ≠ 58) (h2 : T ≠ 53) (h3 : T ≠ 23) (hb : W.heap.size ≤ g) (j : Nat) (u : Value) : RsX W (w.setCell ⟨g, j, none⟩ u) t f p l s A1 c1 := by
  obtain ⟨ps, q1, q2⟩ := h.hp
  exact ⟨hp_far h.hf (hp_ne h.hf hg h1.symm) u, ⟨ps, hp_far q1 (hp_ne q1 hg h2.symm) u, q2⟩, row_far h.row hg h3 j u, bl_new h.bl hb u, h.bt, h.bf⟩
end
/-- What a thread's call leaves as it was. -/
def TFr (t f : Nat) (w w1 : World) : Prop := Fr (fun k => k ≠ t ∧ k ≠ f ∧ k < w.heap.size) w w1
theorem TFr.hp {t f k : Nat} {w w1 : World} {o : Obj} (h : TFr t f w w1) (hk : w.heap[k]? = some o) (h1 : k ≠ t) (h2 : k ≠ f) : w1.heap[k]? = some o := Fr.hp h hk ⟨h1, h2, hp_lt hk⟩
theorem TFr.of {t f : Nat} {w w1 : World} (h : Below w.heap.size w w1) : TFr t f w w1 := ⟨h.os, h.tape, h.output, h.size, fun k hk => h.block k hk.2.2⟩
theorem TFr.trans {t f : Nat} {w w1 w2 : World} (h : TFr t f w w1) (h2 : TFr t f w1 w2) : TFr t f w w2 :=
  Fr.trans h (Fr.mono h2 (fun k hk => ⟨hk.1, hk.2.1, Nat.lt_of_lt_of_le hk.2.2 h.size⟩))
theorem TFr.setT {t f : Nat} (w : World) (j : Nat) (u : Value) : TFr t f w (w.setCell ⟨t, j, none⟩ u) := Fr.mono (Fr.set (F := fun k => k ≠ t) w (fun e => e rfl) j u) (fun k hk => hk.1)
theorem TFr.setF {t f : Nat} (w : World) (j : Nat) (u : Value) : TFr t f w (w.setCell ⟨f, j, none⟩ u) := Fr.mono (Fr.set (F := fun k => k ≠ f) w (fun e => e rfl) j u) (fun k hk => hk.2.1)
theorem TFr.new {t f r : Nat} {w0 w : World} (h : TFr t f w0 w) (hr : w0.heap.size ≤ r) (j : Nat) (u : Value) : TFr t f w0 (w.setCell ⟨r, j, none⟩ u) :=
  Fr.trans h (Fr.mono (Fr.set (F := fun k => k ≠ r) w (fun e => e rfl) j u) (fun k hk => by have := hk.2.2; omega))
def TellPost (W w : World) (t f p n c : Nat) (iv : Value) (l : List Ins3) (s : St) (A1 : Option Addr) (c1 : Nat) (k ak tv v e : Int) (x : Ending) (w' : World) : Prop := x = .returned (.agg #[.int .u8 k, .int .u8 ak, .int .i64 tv, .int .u64 v, .int .i64 e]) ∧ w'.heap[t]? = some (.cells (thC f p n c iv k ak tv v e) 56 (0, 0)) ∧ RsX W w' t f p l s A1 c1 ∧ TFr t f w w'
set_option maxRecDepth 20000 in
set_option maxHeartbeats 8000000 in
theorem tell_any (W : World) (t f p n c : Nat) (iv : Value) (l : List Ins3) (s : St) (A1 : Option Addr) (c1 : Nat) (k0 ak0 tv0 v0 e0 k ak tv v e : Int) (w : World) (ht : w.heap[t]? = some (.cells (thC f p n c iv k0 ak0 tv0 v0 e0) 56 (0, 0))) (hr : RsX W w t f p l s A1 c1) :
    Calls Try.prog 34 #[.pointer (some ⟨t, 0, none⟩), .agg #[.int .u8 k, .int .u8 ak, .int .i64 tv, .int .u64 v, .int .i64 e]] w (TellPost W w t f p n c iv l s A1 c1 k ak tv v e) := by
  have z1 := (Below.refl w.heap.size w).alloc (Nat.le_refl _) (.cells #[.int .u8 k, .int .u8 ak, .int .i64 tv, .int .u64 v, .int .i64 e] 33)
  have z2 := z1.alloc z1.size (.cells #[.int .u8 0, .int .u8 0, .int .i64 0, .int .u64 0, .int .i64 0] 33)
  have X2 := Lib.hid (hp_alloc (heap_alloc_new w (.cells #[.int .u8 k, .int .u8 ak, .int .i64 tv, .int .u64 v, .int .i64 e] 33)) (.cells #[.int .u8 0, .int .u8 0, .int .i64 0, .int .u64 0, .int .i64 0] 33))
  have Y2 := Lib.hid (show ((w.alloc (.cells #[.int .u8 k, .int .u8 ak, .int .i64 tv, .int .u64 v, .int .i64 e] 33)).alloc (.cells #[.int .u8 0, .int .u8 0, .int .i64 0, .int .u64 0, .int .i64 0] 33)).heap[w.heap.size + 1]? = some (.cells #[.int .u8 0, .int .u8 0, .int .i64 0, .int .u64 0, .int .i64 0] 33 (0, 0)) from (congrArg _ (by simp)).trans (heap_alloc_new (w.alloc (.cells #[.int .u8 k, .int .u8 ak, .int .i64 tv, .int .u64 v, .int .i64 e] 33)) (.cells #[.int .u8 0, .int .u8 0, .int .i64 0, .int .u64 0, .int .i64 0] 33)))
  have T2 := Lib.hid (hp_below ht z2)
  have R2 := Lib.hid (hr.below z2)
  have GB := Lib.hid (And.intro hr.bl.size (hp_lt ht))
  have F2 := Lib.hid (TFr.of (t := t) (f := f) z2)
  clear ht hr z1 z2
  unfold thC at T2
  go_enter Try.func34, Try.ntmps34
  go_upto_region 1 with fail
  generalize World.alloc _ _ = w2 at X2 Y2 T2 R2 F2 ⊢
  obtain ⟨g, hg⟩ : ∃ g, w.heap.size = g := ⟨_, rfl⟩
  obtain ⟨r, hr⟩ : ∃ r, w.heap.size + 1 = r := ⟨_, rfl⟩
  rw [hg] at X2 GB
  rw [hr] at Y2
  rw [hr, hg]
  have ne1 : g ≠ r := by omega
  have ne2 : r ≠ g := by omega
  have ne3 : t ≠ g := by have := GB.out.2; omega
  have ne4 : t ≠ r := by have := GB.out.2; omega
  have ne5 : g ≠ t := fun e => ne3 e.symm
  have ne6 : r ≠ t := fun e => ne4 e.symm
  have GR := Lib.hid (show W.heap.size ≤ r ∧ w.heap.size ≤ r by have := GB.out.1; omega)
  clear hg hr
  have x0 : w2.cell? ⟨g, 0, none⟩ = some (.int .u8 k) := hp_cell (X2.out) 0; have x1 : w2.cell? ⟨g, 1, none⟩ = some (.int .u8 ak) := hp_cell (X2.out) 1; have x2 : w2.cell? ⟨g, 2, none⟩ = some (.int .i64 tv) := hp_cell (X2.out) 2; have x3 : w2.cell? ⟨g, 3, none⟩ = some (.int .u64 v) := hp_cell (X2.out) 3; have x4 : w2.cell? ⟨g, 4, none⟩ = some (.int .i64 e) := hp_cell (X2.out) 4; have xl := hp_lt (X2.out)
  have y0 : w2.cell? ⟨t, 0, none⟩ = some (.pointer (some ⟨f, 0, none⟩)) := hp_cell (T2.out) 0; have yz0 := hp_frozen (T2.out) 0; have y1 : w2.cell? ⟨t, 1, none⟩ = some (.slice (some ⟨p, 0, none⟩) n c) := hp_cell (T2.out) 1; have yz1 := hp_frozen (T2.out) 1; have y2 : w2.cell? ⟨t, 2, none⟩ = some (iv) := hp_cell (T2.out) 2; have yz2 := hp_frozen (T2.out) 2; have y3 : w2.cell? ⟨t, 3, none⟩ = some (.int .u8 k0) := hp_cell (T2.out) 3; have yz3 := hp_frozen (T2.out) 3; have y4 : w2.cell? ⟨t, 4, none⟩ = some (.int .u8 ak0) := hp_cell (T2.out) 4; have yz4 := hp_frozen (T2.out) 4; have y5 : w2.cell? ⟨t, 5, none⟩ = some (.int .i64 tv0) := hp_cell (T2.out) 5; have yz5 := hp_frozen (T2.out) 5; have y6 : w2.cell? ⟨t, 6, none⟩ = some (.int .u64 v0) := hp_cell (T2.out) 6; have yz6 := hp_frozen (T2.out) 6; have y7 : w2.cell? ⟨t, 7, none⟩ = some (.int .i64 e0) := hp_cell (T2.out) 7; have yz7 := hp_frozen (T2.out) 7; have y8 : w2.cell? ⟨t, 8, none⟩ = some (.slice none 0 0) := hp_cell (T2.out) 8; have yz8 := hp_frozen (T2.out) 8; have yl := hp_lt (T2.out)
  go_upto_region 2 with fail
  have a0 := hp_put (cs' := #[.pointer (some ⟨f, 0, none⟩), .slice (some ⟨p, 0, none⟩) n c, iv, .int .u8 k, .int .u8 ak0, .int .i64 tv0, .int .u64 v0, .int .i64 e0, .slice none 0 0]) T2.out 3 (.int .u8 k) (by simp)
  have b0 := R2.out.set T2.out (by decide) (by decide) (by decide) R2.out.bt 3 (.int .u8 k)
  have a1 := hp_put (cs' := #[.pointer (some ⟨f, 0, none⟩), .slice (some ⟨p, 0, none⟩) n c, iv, .int .u8 k, .int .u8 ak, .int .i64 tv0, .int .u64 v0, .int .i64 e0, .slice none 0 0]) a0 4 (.int .u8 ak) (by simp)
  have b1 := b0.set a0 (by decide) (by decide) (by decide) b0.bt 4 (.int .u8 ak)
  have a2 := hp_put (cs' := #[.pointer (some ⟨f, 0, none⟩), .slice (some ⟨p, 0, none⟩) n c, iv, .int .u8 k, .int .u8 ak, .int .i64 tv, .int .u64 v0, .int .i64 e0, .slice none 0 0]) a1 5 (.int .i64 tv) (by simp)
  have b2 := b1.set a1 (by decide) (by decide) (by decide) b1.bt 5 (.int .i64 tv)
  have a3 := hp_put (cs' := #[.pointer (some ⟨f, 0, none⟩), .slice (some ⟨p, 0, none⟩) n c, iv, .int .u8 k, .int .u8 ak, .int .i64 tv, .int .u64 v, .int .i64 e0, .slice none 0 0]) a2 6 (.int .u64 v) (by simp)
  have b3 := b2.set a2 (by decide) (by decide) (by decide) b2.bt 6 (.int .u64 v)
  have a4 := hp_put (cs' := #[.pointer (some ⟨f, 0, none⟩), .slice (some ⟨p, 0, none⟩) n c, iv, .int .u8 k, .int .u8 ak, .int .i64 tv, .int .u64 v, .int .i64 e, .slice none 0 0]) a3 7 (.int .i64 e) (by simp)
  have b4 := b3.set a3 (by decide) (by decide) (by decide) b3.bt 7 (.int .i64 e)
  have hF : Fr (fun k => k ≠ t) w2 ((((((w2).setCell ⟨t, 3, none⟩ (.int .u8 k)).setCell ⟨t, 4, none⟩ (.int .u8 ak)).setCell ⟨t, 5, none⟩ (.int .i64 tv)).setCell ⟨t, 6, none⟩ (.int .u64 v)).setCell ⟨t, 7, none⟩ (.int .i64 e)) := (((((Fr.refl (fun k => k ≠ t) w2).trans (Fr.set _ (fun e => e rfl) _ _)).trans (Fr.set _ (fun e => e rfl) _ _)).trans (Fr.set _ (fun e => e rfl) _ _)).trans (Fr.set _ (fun e => e rfl) _ _)).trans (Fr.set _ (fun e => e rfl) _ _)
  have X3 := Lib.hid (hF.hp X2.out ne5)
  have Y3 := Lib.hid (hF.hp Y2.out ne6)
  have T3 := Lib.hid a4
  have R3 := Lib.hid b4
  have F3 := Lib.hid ((((((F2.out.trans (TFr.setT _ 3 (.int .u8 k))).trans (TFr.setT _ 4 (.int .u8 ak))).trans (TFr.setT _ 5 (.int .i64 tv))).trans (TFr.setT _ 6 (.int .u64 v))).trans (TFr.setT _ 7 (.int .i64 e))))
  clear a0 a1 a2 a3 a4 b0 b1 b2 b3 b4 hF X2 Y2 T2 R2 F2 x0 x1 x2 x3 x4 xl y0 yz0 y1 yz1 y2 yz2 y3 yz3 y4 yz4 y5 yz5 y6 yz6 y7 yz7 y8 yz8 yl
  generalize (((((w2).setCell ⟨t, 3, none⟩ (.int .u8 k)).setCell ⟨t, 4, none⟩ (.int .u8 ak)).setCell ⟨t, 5, none⟩ (.int .i64 tv)).setCell ⟨t, 6, none⟩ (.int .u64 v)).setCell ⟨t, 7, none⟩ (.int .i64 e) = w3 at X3 Y3 T3 R3 F3 ⊢
  have x0 : w3.cell? ⟨g, 0, none⟩ = some (.int .u8 k) := hp_cell (X3.out) 0; have x1 : w3.cell? ⟨g, 1, none⟩ = some (.int .u8 ak) := hp_cell (X3.out) 1; have x2 : w3.cell? ⟨g, 2, none⟩ = some (.int .i64 tv) := hp_cell (X3.out) 2; have x3 : w3.cell? ⟨g, 3, none⟩ = some (.int .u64 v) := hp_cell (X3.out) 3; have x4 : w3.cell? ⟨g, 4, none⟩ = some (.int .i64 e) := hp_cell (X3.out) 4; have xl := hp_lt (X3.out)
  have y0 : w3.cell? ⟨r, 0, none⟩ = some (.int .u8 0) := hp_cell (Y3.out) 0; have yz0 := hp_frozen (Y3.out) 0; have y1 : w3.cell? ⟨r, 1, none⟩ = some (.int .u8 0) := hp_cell (Y3.out) 1; have yz1 := hp_frozen (Y3.out) 1; have y2 : w3.cell? ⟨r, 2, none⟩ = some (.int .i64 0) := hp_cell (Y3.out) 2; have yz2 := hp_frozen (Y3.out) 2; have y3 : w3.cell? ⟨r, 3, none⟩ = some (.int .u64 0) := hp_cell (Y3.out) 3; have yz3 := hp_frozen (Y3.out) 3; have y4 : w3.cell? ⟨r, 4, none⟩ = some (.int .i64 0) := hp_cell (Y3.out) 4; have yz4 := hp_frozen (Y3.out) 4; have yl := hp_lt (Y3.out)
  go_wp2_with fail
  refine bodyPost_ret (by simp [results, Try.results34, go_sem, y0, y1, y2, y3, y4, ne1, ne2]; try rfl) rfl ?_
  have c0 := hp_put (cs' := #[.int .u8 k, .int .u8 0, .int .i64 0, .int .u64 0, .int .i64 0]) Y3.out 0 (.int .u8 k) (by simp)
  have d0 := hp_far (p := ⟨r, 0, none⟩) T3.out ne4 (.int .u8 k)
  have e0 := R3.out.set Y3.out (by decide) (by decide) (by decide) GR.out.1 0 (.int .u8 k)
  have c1 := hp_put (cs' := #[.int .u8 k, .int .u8 ak, .int .i64 0, .int .u64 0, .int .i64 0]) c0 1 (.int .u8 ak) (by simp)
  have d1 := hp_far (p := ⟨r, 1, none⟩) d0 ne4 (.int .u8 ak)
  have e1 := e0.set c0 (by decide) (by decide) (by decide) GR.out.1 1 (.int .u8 ak)
  have c2 := hp_put (cs' := #[.int .u8 k, .int .u8 ak, .int .i64 tv, .int .u64 0, .int .i64 0]) c1 2 (.int .i64 tv) (by simp)
  have d2 := hp_far (p := ⟨r, 2, none⟩) d1 ne4 (.int .i64 tv)
  have e2 := e1.set c1 (by decide) (by decide) (by decide) GR.out.1 2 (.int .i64 tv)
  have c3 := hp_put (cs' := #[.int .u8 k, .int .u8 ak, .int .i64 tv, .int .u64 v, .int .i64 0]) c2 3 (.int .u64 v) (by simp)
  have d3 := hp_far (p := ⟨r, 3, none⟩) d2 ne4 (.int .u64 v)
  have e3 := e2.set c2 (by decide) (by decide) (by decide) GR.out.1 3 (.int .u64 v)
  have c4 := hp_put (cs' := #[.int .u8 k, .int .u8 ak, .int .i64 tv, .int .u64 v, .int .i64 e]) c3 4 (.int .i64 e) (by simp)
  have d4 := hp_far (p := ⟨r, 4, none⟩) d3 ne4 (.int .i64 e)
  have e4 := e3.set c3 (by decide) (by decide) (by decide) GR.out.1 4 (.int .i64 e)
  exact ⟨rfl, d4, e4, (((((F3.out.new GR.out.2 _ _).new GR.out.2 _ _).new GR.out.2 _ _).new GR.out.2 _ _).new GR.out.2 _ _)⟩
set_option maxRecDepth 20000 in
set_option maxHeartbeats 8000000 in
theorem ask_any (W : World) (t f p n c : Nat) (iv : Value) (l : List Ins3) (s : St) (A1 : Option Addr) (c1 : Nat) (k0 ak0 tv0 v0 e0 ak tv v : Int) (w : World) (ht : w.heap[t]? = some (.cells (thC f p n c iv k0 ak0 tv0 v0 e0) 56 (0, 0))) (hr : RsX W w t f p l s A1 c1) :
    Calls Try.prog 36 #[.pointer (some ⟨t, 0, none⟩), .agg #[.int .u8 ak, .int .i64 tv, .int .u64 v]] w (TellPost W w t f p n c iv l s A1 c1 2 ak tv v 0) := by
  have z1 := (Below.refl w.heap.size w).alloc (Nat.le_refl _) (.cells #[.int .u8 ak, .int .i64 tv, .int .u64 v] 30)
  have z2 := z1.alloc z1.size (.cells #[.int .u8 0, .int .u8 0, .int .i64 0, .int .u64 0, .int .i64 0] 33)
  have X2 := Lib.hid (hp_alloc (heap_alloc_new w (.cells #[.int .u8 ak, .int .i64 tv, .int .u64 v] 30)) (.cells #[.int .u8 0, .int .u8 0, .int .i64 0, .int .u64 0, .int .i64 0] 33))
  have Y2 := Lib.hid (show ((w.alloc (.cells #[.int .u8 ak, .int .i64 tv, .int .u64 v] 30)).alloc (.cells #[.int .u8 0, .int .u8 0, .int .i64 0, .int .u64 0, .int .i64 0] 33)).heap[w.heap.size + 1]? = some (.cells #[.int .u8 0, .int .u8 0, .int .i64 0, .int .u64 0, .int .i64 0] 33 (0, 0)) from (congrArg _ (by simp)).trans (heap_alloc_new (w.alloc (.cells #[.int .u8 ak, .int .i64 tv, .int .u64 v] 30)) (.cells #[.int .u8 0, .int .u8 0, .int .i64 0, .int .u64 0, .int .i64 0] 33)))
  have T2 := Lib.hid (hp_below ht z2)
  have R2 := Lib.hid (hr.below z2)
  have GB := Lib.hid (And.intro hr.bl.size (And.intro (hp_lt ht) (hp_lt hr.hf)))
  have F2 := Lib.hid (TFr.of (t := t) (f := f) z2)
  clear ht hr z1 z2
  go_enter Try.func36, Try.ntmps36
  go_upto_region 1 with fail
  generalize World.alloc _ _ = w2 at X2 Y2 T2 R2 F2 ⊢
  obtain ⟨g, hg⟩ : ∃ g, w.heap.size = g := ⟨_, rfl⟩
  obtain ⟨r, hr⟩ : ∃ r, w.heap.size + 1 = r := ⟨_, rfl⟩
  have GR := Lib.hid (show W.heap.size ≤ r ∧ w.heap.size ≤ r ∧ w.heap.size ≤ g ∧ W.heap.size ≤ g by have := GB.out.1; omega)
  rw [hg] at X2 GB
  rw [hr] at Y2
  rw [hr, hg]
  have ne1 : g ≠ r := by omega
  have ne2 : r ≠ g := by omega
  have ne3 : t ≠ g := by have := GB.out.2.1; omega
  have ne4 : t ≠ r := by have := GB.out.2.1; omega
  have ne5 : g ≠ t := fun e => ne3 e.symm
  have ne6 : r ≠ t := fun e => ne4 e.symm
  have ne7 : g ≠ f := by have := GB.out.2.2; omega
  have ne8 : r ≠ f := by have := GB.out.2.2; omega
  clear hg hr
  have x0 : w2.cell? ⟨g, 0, none⟩ = some (.int .u8 ak) := hp_cell (X2.out) 0; have x1 : w2.cell? ⟨g, 1, none⟩ = some (.int .i64 tv) := hp_cell (X2.out) 1; have x2 : w2.cell? ⟨g, 2, none⟩ = some (.int .u64 v) := hp_cell (X2.out) 2; have xl := hp_lt (X2.out)
  go_wp2_with (go_at_call 34; refine (tell_any W t f p n c iv l s A1 c1 k0 ak0 tv0 v0 e0 2 ak tv v 0 w2 T2.out R2.out).mono ?_; rintro x w3 ⟨rfl, ht3, hr3, hf3⟩; have T3 := Lib.hid ht3; have R3 := Lib.hid hr3; have F3 := Lib.hid (F2.out.trans hf3); have Y3 := Lib.hid (hf3.hp Y2.out ne6 ne8); have y0 : w3.cell? ⟨r, 0, none⟩ = some (.int .u8 0) := hp_cell (Y3.out) 0; have yz0 := hp_frozen (Y3.out) 0; have y1 : w3.cell? ⟨r, 1, none⟩ = some (.int .u8 0) := hp_cell (Y3.out) 1; have yz1 := hp_frozen (Y3.out) 1; have y2 : w3.cell? ⟨r, 2, none⟩ = some (.int .i64 0) := hp_cell (Y3.out) 2; have yz2 := hp_frozen (Y3.out) 2; have y3 : w3.cell? ⟨r, 3, none⟩ = some (.int .u64 0) := hp_cell (Y3.out) 3; have yz3 := hp_frozen (Y3.out) 3; have y4 : w3.cell? ⟨r, 4, none⟩ = some (.int .i64 0) := hp_cell (Y3.out) 4; have yz4 := hp_frozen (Y3.out) 4; have yl := hp_lt (Y3.out); clear ht3 hr3 hf3)
  refine bodyPost_ret (by simp [results, Try.results36, go_sem, y0, y1, y2, y3, y4, ne1, ne2]; try rfl) rfl ?_
  have c0 := hp_put (cs' := #[.int .u8 2, .int .u8 0, .int .i64 0, .int .u64 0, .int .i64 0]) Y3.out 0 (.int .u8 2) (by simp)
  have d0 := hp_far (p := ⟨r, 0, none⟩) T3.out ne4 (.int .u8 2)
  have e0 := R3.out.set Y3.out (by decide) (by decide) (by decide) GR.out.1 0 (.int .u8 2)
  have c1 := hp_put (cs' := #[.int .u8 2, .int .u8 ak, .int .i64 0, .int .u64 0, .int .i64 0]) c0 1 (.int .u8 ak) (by simp)
  have d1 := hp_far (p := ⟨r, 1, none⟩) d0 ne4 (.int .u8 ak)
  have e1 := e0.set c0 (by decide) (by decide) (by decide) GR.out.1 1 (.int .u8 ak)
  have c2 := hp_put (cs' := #[.int .u8 2, .int .u8 ak, .int .i64 tv, .int .u64 0, .int .i64 0]) c1 2 (.int .i64 tv) (by simp)
  have d2 := hp_far (p := ⟨r, 2, none⟩) d1 ne4 (.int .i64 tv)
  have e2 := e1.set c1 (by decide) (by decide) (by decide) GR.out.1 2 (.int .i64 tv)
  have c3 := hp_put (cs' := #[.int .u8 2, .int .u8 ak, .int .i64 tv, .int .u64 v, .int .i64 0]) c2 3 (.int .u64 v) (by simp)
  have d3 := hp_far (p := ⟨r, 3, none⟩) d2 ne4 (.int .u64 v)
  have e3 := e2.set c2 (by decide) (by decide) (by decide) GR.out.1 3 (.int .u64 v)
  have c4 := hp_put (cs' := #[.int .u8 2, .int .u8 ak, .int .i64 tv, .int .u64 v, .int .i64 0]) c3 4 (.int .i64 0) (by simp)
  have d4 := hp_far (p := ⟨r, 4, none⟩) d3 ne4 (.int .i64 0)
  have e4 := e3.set c3 (by decide) (by decide) (by decide) GR.out.1 4 (.int .i64 0)
  exact ⟨rfl, d4, e4, (((((F3.out.new GR.out.2.1 _ _).new GR.out.2.1 _ _).new GR.out.2.1 _ _).new GR.out.2.1 _ _).new GR.out.2.1 _ _)⟩
end Go.Proofs.Ytdkcmnnhjnapiaa
