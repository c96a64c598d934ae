
/-
  TopFirst: its lists, plainly; a row of instructions is appended, cloned; thread.New.
-/
import Derived.Test.YtlgpjcdlomhlcaaSp22
import Derived.Handy
namespace Go.Proofs.Ytlgpjcdlomhlcaa
open Go.RowKit Go.ChangeShapes Go.WideShapes
set_option linter.unusedSimpArgs false
set_option linter.unusedVariables false

theorem inss_cells {w : World} {g o : Nat} {l : List Ins3} (h : InssAt w (some ⟨g, o, none⟩) l) : ∀ (j : Nat) (u : Value), (insC l)[j]? = some u → w.cell? (Addr.add ⟨g, o, none⟩ j) = some u := by
  intro j u hu
  have hj : j < (insC l).length := (List.getElem?_eq_some_iff.mp hu).1
  rw [insC_len] at hj
  have hq : j / 3 < l.length := by omega
  have hs := xn_some h hq
  obtain ⟨_, h0, h1, h2⟩ := hs
  have hat := insC_at l (j / 3) _ (xn_get hq)
  rw [add_at] at h0 h1 h2 ⊢
  dsimp only at h1 h2
  have hr : j % 3 = 0 ∨ j % 3 = 1 ∨ j % 3 = 2 := by omega
  rcases hr with hr | hr | hr
  · have := hat 0 _ rfl
    rw [show j / 3 * 3 + 0 = j by omega, hu] at this
    obtain rfl := Option.some.inj this
    rw [show o + j / 3 * 3 = o + j by omega] at h0
    exact h0
  · have := hat 1 _ rfl
    rw [show j / 3 * 3 + 1 = j by omega, hu] at this
    obtain rfl := Option.some.inj this
    rw [show o + j / 3 * 3 + 1 = o + j by omega] at h1
    exact h1
  · have := hat 2 _ rfl
    rw [show j / 3 * 3 + 2 = j by omega, hu] at this
    obtain rfl := Option.some.inj this
    rw [show o + j / 3 * 3 + 2 = o + j by omega] at h2
    exact h2
theorem nrow_of {w : World} {base : Nat} {v : Value} {l : List Ins3} (h : w.ownsRow base 42 3 v l.length (insC l)) (hok : ∀ s ∈ l, s.ok) : ∃ A c, v = .slice A l.length c ∧ NRow w base A c l := by
  rcases h.2 with ⟨hv, hn⟩ | ⟨g, cap, cur, hv, _⟩
  · have e : l = [] := List.eq_nil_of_length_eq_zero hn
    subst e
    subst hv
    exact ⟨none, 0, rfl, h, hok⟩
  · subst hv
    exact ⟨_, _, rfl, h, hok⟩
theorem append_inss {ops : Array Oper} {rest : List Oper} {o : Oper} {a : Act} {Q : Exit → Act → World → Prop} {w : World} (hgd : o.guard = none) (s x : Operand)
    (ho : o.op = .call { callee := .builtin .append, args := #[s, x], argTypes := #[22, 22] })
    (base : Nat) (v0 : Value) (l : List Ins3) (hs : a.eval s = v0) (hr : w.ownsRow base 42 3 v0 l.length (insC l)) (hok : ∀ x ∈ l, x.ok) (b : Addr) (n c : Nat) (src : List Ins3) (hn : n = src.length) (hx : a.eval x = .slice (some b) n c)
    (hv : ∀ (j : Nat) (u : Value), (insC src)[j]? = some u → w.cell? (b.add j) = some u) (hoks : ∀ x ∈ src, x.ok) (hlen : l.length + src.length ≤ 1000) (hbase : base ≤ w.heap.size) (l' : List Ins3) (hl : l ++ src = l')
    (h : ∀ A' c' w', NRow w' base A' c' l' → w.grownBy w' v0.ownBlock → wpList Try.prog ops Q rest (a.put o.dst (.slice A' l'.length c')) w') : wpList Try.prog ops Q (o :: rest) a w := by
  subst hl
  subst hn
  obtain ⟨i0, hi, hz0, hz1, hz2⟩ := info_parts Ins_info
  refine wpList_append_own_at w hgd s x 22 ho base 42 i0 _ 3 24 Try.underlying22 hi hz0 hz1 hz2 rfl (by decide) v0 l.length (insC l) hs hr b src.length c (insC src) hx (insC_len src) hv (insC_one src) (by unfold maxLen; omega) (by omega) hbase ?_
  intro v' w' h1 h2 _ _
  rw [← insC_append, ← List.length_append] at h1
  obtain ⟨A', c', rfl, hrow⟩ := nrow_of h1 (fun t ht => by
    rcases List.mem_append.mp ht with ht | ht
    · exact hok t ht
    · exact hoks t ht)
  exact h A' c' w' hrow h2
set_option maxHeartbeats 4000000 in
theorem clone_inss (b : Addr) (c : Nat) (l : List Ins3) (h : l.length ≤ c) (h4 : l.length ≤ 900) (hok : ∀ x ∈ l, x.ok) (w : World) (hv : ∀ (j : Nat) (u : Value), (insC l)[j]? = some u → w.cell? (b.add j) = some u) : Calls Try.prog 53 #[.slice (some b) l.length c] w fun e w' => ∃ A' c', e = .returned (.slice A' l.length c') ∧ NRow w' w.heap.size A' c' l ∧ Below w.heap.size w w' := by
  have qT : ∀ (w : World) (a : Option Addr) (n c n' c' : Nat), (binOp .eql 22 (.slice a n c) (.slice none n' c')).run Try.prog w = .ok (.bool a.isNone) w := fun w a n c n' c' => Lib.run_eql_slice_nil w _ _ a n c n' c' Try.underlying22
  have HV := Lib.hid hv
  have HO := Lib.hid hok
  clear hv hok
  go_enter Try.func53, Try.ntmps53
  go_wp2_with (at_builtin; refine append_inss rfl (.tmp 5) (.tmp 6) rfl w.heap.size (.slice (some ⟨w.heap.size, 0, none⟩) 0 0) [] rfl (World.ownsRow_made w #[] 0 (Nat.le_refl _) (Nat.zero_le _) rfl) (fun x hx => (List.not_mem_nil hx).elim) b l.length c l rfl rfl (fun j u hu => by have hc := HV.out j u hu; exact (((Below.refl w.heap.size w).alloc (Nat.le_refl _) _).cell (World.block_lt_of_cell? w _ hc)).trans hc) HO.out (by simp; omega) (by simp) l rfl ?_; intro A' c' w' hr hg; have R := Lib.hid hr; have G := Lib.hid hg; clear hr hg)
  go_ret
  exact ⟨A', c', rfl, R.out, ((Below.refl _ _).alloc (Nat.le_refl _) _).grown G.out (by simp) (fun k hk => by simp [Value.ownBlock] at hk; omega)⟩
set_option maxHeartbeats 4000000 in
theorem newThread (g c : Nat) (l : List Ins3) (h : l.length ≤ c) (h1 : 1 ≤ l.length) (h4 : l.length ≤ 64) (w : World) (hi : InssAt w (some ⟨g, 0, none⟩) l) : Calls Try.prog 27 #[.slice (some ⟨g, 0, none⟩) l.length c] w fun e w' => (∃ a, e = .returned (.pointer (some a))) ∧ Below w.heap.size w w' := by
  have HI := Lib.hid hi
  have t1 : decide ((l.length : Int) < 1) = false := decide_eq_false (by omega)
  have t2 : decide ((l.length : Int) > 64) = false := decide_eq_false (by omega)
  have t3 : decide ((64 : Int) < (l.length : Int)) = false := t2
  clear hi
  go_enter Try.func27, Try.ntmps27
  go_wp2_with (go_at_call 53; refine (clone_inss ⟨g, 0, none⟩ c l h (by omega) (fun x hx => by obtain ⟨j, hj, rfl⟩ := List.getElem_of_mem hx; obtain ⟨_, _, hh⟩ := HI.out.2 j _ (List.getElem?_eq_getElem hj); exact hh.1) _ (fun j u hu => by have hc := inss_cells HI.out j u hu; exact (((Below.refl w.heap.size w).alloc (Nat.le_refl _) _).cell (World.block_lt_of_cell? w _ hc)).trans hc)).mono ?_; rintro e w3 ⟨A', c', rfl, hr, hb⟩; have B3 := Lib.hid (((Below.refl w.heap.size w).alloc (Nat.le_refl _) _).trans (hb.mono (by simp))); clear hr hb)
  go_ret
  exact ⟨⟨_, rfl⟩, B3.out.alloc B3.out.size _⟩
def armL (t at_ : Int) : List Ins3 := [⟨4, t, 0⟩, ⟨16, 0, 0⟩, ⟨20, at_ + 7, 0⟩, ⟨1, 0, 4607182418800017408⟩, ⟨9, 0, 0⟩, ⟨5, t, 0⟩, ⟨19, at_ + 8, 0⟩, ⟨26, 0, 0⟩]
theorem arm_any (t at_ : Int) (h7 : wrap64 (at_ + 7) = at_ + 7) (h8 : wrap64 (at_ + 8) = at_ + 8) (w : World) : Calls Try.prog 25 #[.int .i64 t, .int .i64 at_] w fun e w' => e = .returned (.slice (some ⟨w.heap.size, 0, none⟩) 8 8) ∧ w.alloc (.cells (insC (armL t at_)).toArray 42) = w' := by
  go_enter Try.func25, Try.ntmps25
  go_wp2_with fail
  go_ret
  exact ⟨rfl, rfl⟩
def firstL : List Ins3 := [⟨21, 20, 0⟩, ⟨23, 10, 0⟩] ++ armL 0 2 ++ [⟨24, 19, 0⟩] ++ armL 1 11 ++ [⟨25, 0, 0⟩, ⟨22, 0, 0⟩, ⟨28, 0, 0⟩]
def ONE : Int := 4607182418800017408
def TWO : Int := 4611686018427387904
theorem int_vals : intV 0 = 0 ∧ intV 1 = ONE ∧ intV 2 = TWO := by refine ⟨?_, ?_, ?_⟩ <;> kernel_rfl
theorem first_a (x y : Int) (hx : x = ONE ∨ x = TWO) (hy : y = 0 ∨ y = ONE ∨ y = TWO) : ocF St.zero [x, y] (blockF firstL St.zero [x, y] (fuelF 60).toNat) = ⟨1, ⟨21, [], 0, 0, 0, 0, []⟩, [fop .sub x ONE, y], [true], 0⟩ := by
  rcases hx with rfl | rfl <;> rcases hy with rfl | rfl | rfl <;> kernel_rfl
theorem first_b (y : Int) (hy : y = ONE ∨ y = TWO) : ocF St.zero [0, y] (blockF firstL St.zero [0, y] (fuelF 60).toNat) = ⟨1, ⟨21, [], 0, 0, 0, 0, []⟩, [0, fop .sub y ONE], [false], 0⟩ := by
  rcases hy with rfl | rfl <;> kernel_rfl
theorem first_c : ocF St.zero [0, 0] (blockF firstL St.zero [0, 0] (fuelF 60).toNat) = ⟨2, St.zero, [0, 0], [], 0⟩ := by kernel_rfl
end Go.Proofs.Ytlgpjcdlomhlcaa
