
/-
  spec: block: a step.
-/
import Derived.Test.YtlgpjcdlomhlcaaSp11
import Derived.Test.YtlgpjcdlomhlcaaSp12
namespace Go.Proofs.Ytlgpjcdlomhlcaa
open Go.RowKit Go.ChangeShapes Go.WideShapes
set_option linter.unusedSimpArgs false
set_option linter.unusedVariables false

def bX (Ab : Option Addr) (nm cb : Nat) (Aa : Option Addr) (na ca : Nat) (kind : Int) : List Value := [.slice Ab nm cb, .slice Aa na ca, .int .u8 kind]
def Mk.plain (m : Mk) : Mp := ⟨m.s0, m.hp0, m.x.arg⟩
def BF (B : Nat → Prop) (ms : List Mk) (Ab Aa : Option Addr) (k : Nat) : Prop := B k ∨ (∃ m ∈ ms, MB m k) ∨ blk Ab = some k ∨ blk Aa = some k
structure BK (B : Nat → Prop) (w : World) (g : Nat) (I : Value) (b : Bs) (p : Pl) (ms : List Mk) (Ab : Option Addr) (cb : Nat) (Aa : Option Addr) (ca : Nat) : Prop where
  wk : WK (BF B ms Ab Aa) w g 91 (bX Ab ms.length cb Aa b.arms.length ca b.kind) I b.s b.hp p
  mo : ∀ m ∈ ms, MkOk w g m
  ma : b.ms = ms.map Mk.plain
  mx : ∀ m ∈ ms, 0 ≤ m.x.arg ∧ m.x.arg < 64
  rb : GRow 1 w Ab cb (ms.map Mk.clo)
  ra : GRow 4 w Aa ca (b.arms.map Value.bool)
  pw : ms.Pairwise (fun m m' => ∀ k, MB m k → ¬ MB m' k)
  mb : ∀ m ∈ ms, ∀ k, MB m k → ¬ B k
  bB : ∀ k, blk Ab = some k → ¬ B k
  bA : ∀ k, blk Aa = some k → ¬ B k
def BRes (B : Nat → Prop) (w : World) (g : Nat) (I : Value) (r : Except Int Bs) (e : Ending) (w' : World) : Prop := Fr B w w' ∧ match r with
  | .ok b => e = .returned (.tuple #[]) ∧ ∃ p ms Ab cb Aa ca, BK B w' g I b p ms Ab cb Aa ca
  | .error n => e = .panicked (stopP n)
section
variable {B : Nat → Prop} {w w1 : World} {g : Nat} {I : Value} {b : Bs} {p : Pl} {ms : List Mk} {Ab Aa : Option Addr} {cb ca : Nat}
theorem BK.walk (h : BK B w g I b p ms Ab cb Aa ca) (hf : Fr (BF B ms Ab Aa) w w1) {s' : St} {hp' : List Int} {p' : Pl} (hw : WK (BF B ms Ab Aa) w1 g 91 (bX Ab ms.length cb Aa b.arms.length ca b.kind) I s' hp' p') : BK B w1 g I { b with s := s', hp := hp' } p' ms Ab cb Aa ca :=
  ⟨hw, fun m hm => mk_fr (h.mo m hm) hf (fun k hk => .inr (.inl ⟨m, hm, hk⟩)), h.ma, h.mx, grow_fr h.rb hf (fun k hk => .inr (.inr (.inl hk))), grow_fr h.ra hf (fun k hk => .inr (.inr (.inr hk))), h.pw, h.mb, h.bB, h.bA⟩
theorem BK.below (h : BK B w g I b p ms Ab cb Aa ca) (hb : Below w.heap.size w w1) : BK B w1 g I b p ms Ab cb Aa ca := h.walk (h.wk.fr hb) (h.wk.below hb)
theorem BK.alloc (h : BK B w g I b p ms Ab cb Aa ca) (o : Obj) : BK B (w.alloc o) g I b p ms Ab cb Aa ca := h.below ((Below.refl _ _).alloc (Nat.le_refl _) o)
theorem BK.frA (h : BK B w g I b p ms Ab cb Aa ca) (o : Obj) : Fr B w (w.alloc o) := Fr.below ((Below.refl _ _).alloc (Nat.le_refl _) o) (fun k hk => h.wk.fl k (.inl hk))
theorem BK.b9 (h : BK B w g I b p ms Ab cb Aa ca) : w.cell? ⟨g, 9, none⟩ = some (.slice Ab ms.length cb) ∧ w.cell? ⟨g, 10, none⟩ = some (.slice Aa b.arms.length ca) ∧ w.cell? ⟨g, 11, none⟩ = some (.int .u8 b.kind) :=
  ⟨(hp_cell h.wk.cells 9).trans (by simp [wkL, bX]), (hp_cell h.wk.cells 10).trans (by simp [wkL, bX]), (hp_cell h.wk.cells 11).trans (by simp [wkL, bX])⟩
/-- A cell of the block's own is written, and it means this now. -/
theorem BK.set (h : BK B w g I b p ms Ab cb Aa ca) (j : Nat) (u : Value) (b' : Bs) (hs : b'.s = b.s) (hh : b'.hp = b.hp) (hm : b'.ms = b.ms) (ha : b'.arms = b.arms) (e : (wkL I b.s b.hp.length p (bX Ab ms.length cb Aa b.arms.length ca b.kind)).setIfInBounds j u = wkL I b.s b.hp.length p (bX Ab ms.length cb Aa b.arms.length ca b'.kind)) : BK B (w.setCell ⟨g, j, none⟩ u) g I b' p ms Ab cb Aa ca := by
  have hf : Fr (BF B ms Ab Aa) w (w.setCell ⟨g, j, none⟩ u) := Fr.set w h.wk.fg j u
  refine ⟨?_, fun m hm' => mk_fr (h.mo m hm') hf (fun k hk => .inr (.inl ⟨m, hm', hk⟩)), by rw [hm]; exact h.ma, h.mx, grow_fr h.rb hf (fun k hk => .inr (.inr (.inl hk))), by rw [ha]; exact grow_fr h.ra hf (fun k hk => .inr (.inr (.inr hk))), h.pw, h.mb, h.bB, h.bA⟩
  rw [hs, hh, ha]
  exact h.wk.setX j u _ e
theorem BK.fB (h : BK B w g I b p ms Ab cb Aa ca) (j : Nat) (u : Value) : Fr B w (w.setCell ⟨g, j, none⟩ u) := Fr.set (F := B) w (fun e => h.wk.fg (.inl e)) j u
theorem BK.frB (h : BK B w g I b p ms Ab cb Aa ca) (hb : Below w.heap.size w w1) : Fr B w w1 := Fr.below hb (fun k hk => h.wk.fl k (.inl hk))
theorem eql_nil (w : World) : (binOp .eql 1 .nilFunc .nilFunc).run Try.prog w = .ok (.bool true) w := by kernel_rfl
theorem neq_nil (w : World) : (binOp .neq 1 .nilFunc .nilFunc).run Try.prog w = .ok (.bool false) w := by kernel_rfl
theorem eql_fun (f : Fn) (a c : Array Value) (w : World) : (binOp .eql 1 (.func f a c) .nilFunc).run Try.prog w = .ok (.bool false) w := by kernel_rfl
theorem neq_fun (f : Fn) (a c : Array Value) (w : World) : (binOp .neq 1 (.func f a c) .nilFunc).run Try.prog w = .ok (.bool true) w := by kernel_rfl
theorem append_bool {ops : Array Oper} {rest : List Oper} {o : Oper} {a : Act} {Q : Exit → Act → World → Prop} {w : World} (hgd : o.guard = none) (s x : Operand)
    (ho : o.op = .call { callee := .builtin .append, args := #[s, x], argTypes := #[44, 44] })
    (A0 : Option Addr) (c0 : Nat) (vs : List Value) (hs : a.eval s = .slice A0 vs.length c0) (hr : GRow 4 w A0 c0 vs) (b : Addr) (v : Value) (hx : a.eval x = .slice (some b) 1 1)
    (hv : w.cell? b = some v) (hv1 : v.oneCell' = true) (hlen : vs.length ≤ 1000) (l' : List Value) (hl : vs ++ [v] = l')
    (h : ∀ A' c' w', GRow 4 w' A' c' l' → w.grownBy w' (blk A0) → (blk A' = blk A0 ∨ blk A' = some w.heap.size) → wpList Try.prog ops Q rest (a.put o.dst (.slice A' l'.length c')) w') : wpList Try.prog ops Q (o :: rest) a w := by
  subst hl
  obtain ⟨i0, hi, hz0, hz1, hz2⟩ := info_parts Bool_info
  refine wpList_append_own_at w hgd s x 44 ho 0 4 i0 (.bool false) 1 1 Try.underlying44 hi hz0 hz1 hz2 rfl (by decide) _ vs.length vs hs hr.1 b 1 1 [v] hx rfl (fun j u hu => by
    cases j with
    | zero => (simp at hu; subst hu; rw [show b.add 0 = b from by unfold Addr.add; split <;> simp_all]; exact hv)
    | succ j => simp at hu) (fun u hu => by rw [List.mem_singleton.mp hu]; exact hv1) (by unfold maxLen; omega) (by omega) (Nat.zero_le _) ?_
  intro v' w' h1 h2 _ h3
  obtain ⟨A', c', rfl, hrow⟩ := grow_of (vs := vs ++ [v]) (by rw [List.length_append]; exact h1) (fun u hu => by
    rcases List.mem_append.mp hu with hu | hu
    · exact hr.2 u hu
    · rw [List.mem_singleton.mp hu]; exact hv1)
  rw [blk_own] at h2 h3
  rw [blk_own] at h3
  exact h A' c' w' hrow h2 h3
theorem WK.newF {F F' : Nat → Prop} {w : World} {g : Nat} {T : TypeId} {X : List Value} {I : Value} {s : St} {hp : List Int} {p : Pl} (h : WK F w g T X I s hp p) (hF : ∀ k, F' k → F k ∨ ∃ cs t, w.heap[k]? = some (.cells cs t (0, 0)) ∧ t ≠ 25 ∧ t ≠ T) : WK F' w g T X I s hp p := by
  have key : ∀ {A c l}, RowAt w 0 A c l → (∀ k, blk A = some k → ¬ F k) → ∀ k, blk A = some k → ¬ F' k := fun hr hn k hk e => by
    rcases hF k e with e | ⟨cs, t, hc, t1, t2⟩
    · exact hn k hk e
    · obtain ⟨cs', hc'⟩ := row_typed hr k hk
      exact hp_ne hc hc' t1 rfl
  refine ⟨h.cells, h.stk, h.out, h.hep, h.d12, h.d13, h.d23, fun e => ?_, key h.stk h.f1, key h.out h.f2, key h.hep h.f3, fun k e => ?_, h.ok, h.ty⟩
  · rcases hF g e with e | ⟨cs, t, hc, t1, t2⟩
    · exact h.fg e
    · exact hp_ne hc h.cells t2 rfl
  · rcases hF k e with e | ⟨cs, t, hc, t1, t2⟩
    · exact h.fl k e
    · exact hp_lt hc
/-- Behind an append to the arms, and its store. -/
theorem BK.arms (h : BK B w g I b p ms Ab cb Aa ca) {w2 : World} {A' : Option Addr} {c' : Nat} (v : Bool) (l' : List Value) (hl : b.arms.map Value.bool ++ [Value.bool v] = l') (hr : GRow 4 w2 A' c' l') (hg : w.grownBy w2 (blk Aa)) (hat : ∀ k, blk A' = some k → ¬ B k) :
    BK B (w2.setCell ⟨g, 10, none⟩ (.slice A' l'.length c')) g I { b with arms := b.arms ++ [v] } p ms Ab cb A' c' ∧ Fr B w (w2.setCell ⟨g, 10, none⟩ (.slice A' l'.length c')) ∧ WK (BF B ms Ab Aa) w2 g 91 (bX Ab ms.length cb Aa b.arms.length ca b.kind) I b.s b.hp p := by
  have hl' : l' = (b.arms ++ [v]).map Value.bool := by rw [← hl]; simp
  subst hl'
  have K2 := h.wk.grown h.ra hg (by decide) (by decide)
  have hfr : Fr (fun k => k < w.heap.size ∧ some k ≠ blk Aa ∧ k ≠ g) w (w2.setCell ⟨g, 10, none⟩ (.slice A' ((b.arms ++ [v]).map Value.bool).length c')) := (Fr.grown (F := fun k => k < w.heap.size ∧ some k ≠ blk Aa ∧ k ≠ g) hg (fun k e => e.1) (fun k e => e.2.1)).trans (Fr.set w2 (fun e => e.2.2 rfl) 10 _)
  have K3 : WK (BF B ms Ab A') w2 g 91 (bX Ab ms.length cb Aa b.arms.length ca b.kind) I b.s b.hp p := K2.newF (fun k e => by
    rcases e with e | e | e | e
    · exact .inl (.inl e)
    · exact .inl (.inr (.inl e))
    · exact .inl (.inr (.inr (.inl e)))
    · obtain ⟨cs, hc⟩ := grow_typed hr k e
      exact .inr ⟨cs, _, hc, by decide, by decide⟩)
  have hne : ∀ {k cs t}, w.heap[k]? = some (.cells cs t (0, 0)) → t ≠ 4 → t ≠ 91 → k < w.heap.size ∧ some k ≠ blk Aa ∧ k ≠ g := fun hc t1 t2 => ⟨hp_lt hc, fun e => by
    obtain ⟨cs', hc'⟩ := grow_typed h.ra _ e.symm
    exact hp_ne hc hc' t1 rfl, hp_ne hc h.wk.cells t2⟩
  refine ⟨⟨?_, fun m hm => mk_fr (h.mo m hm) hfr (fun k hk => by
      obtain ⟨cs, t, hc, _, t2, t3⟩ := mb_typed (h.mo m hm) hk
      exact hne hc t3 t2), h.ma, h.mx, grow_fr h.rb hfr (fun k hk => by
      obtain ⟨cs, hc⟩ := grow_typed h.rb k hk
      exact hne hc (by decide) (by decide)), grow_fr (F := fun k => k ≠ g) hr (Fr.set w2 (fun e => e rfl) 10 _) (fun k hk => by
      obtain ⟨cs, hc⟩ := grow_typed hr k hk
      exact hp_ne hc K2.cells (by decide)), h.pw, h.mb, h.bB, fun k hk => hat k hk⟩, ?_, K2⟩
  · exact K3.setX 10 _ _ (by simp [wkL, bX])
  · exact (Fr.grown (F := B) hg (fun k e => h.wk.fl k (.inl e)) (fun k e he => by
      exact h.bA k he.symm e)).trans (Fr.set (F := B) w2 (fun e => h.wk.fg (.inl e)) 10 _)
/-- What was kept last goes. -/
theorem BK.popM {ms' : List Mk} {m : Mk} (h : BK B w g I b p (ms' ++ [m]) Ab cb Aa ca) : BK B (w.setCell ⟨g, 9, none⟩ (.slice Ab ms'.length cb)) g I { b with ms := b.ms.dropLast } p ms' Ab cb Aa ca ∧ MkOk (w.setCell ⟨g, 9, none⟩ (.slice Ab ms'.length cb)) g m := by
  have hf : Fr (BF B (ms' ++ [m]) Ab Aa) w (w.setCell ⟨g, 9, none⟩ (.slice Ab ms'.length cb)) := Fr.set w h.wk.fg 9 _
  have hsub : ∀ k, BF B ms' Ab Aa k → BF B (ms' ++ [m]) Ab Aa k := fun k e => by
    rcases e with e | ⟨m', hm', e⟩ | e | e
    · exact .inl e
    · exact .inr (.inl ⟨m', List.mem_append.mpr (.inl hm'), e⟩)
    · exact .inr (.inr (.inl e))
    · exact .inr (.inr (.inr e))
  have hin : ∀ m' ∈ ms', m' ∈ ms' ++ [m] := fun m' hm' => List.mem_append.mpr (.inl hm')
  have hrb := h.rb
  rw [List.map_append] at hrb
  refine ⟨⟨(h.wk.less hsub).setX 9 _ _ (by simp [wkL, bX]), fun m' hm' => mk_fr (h.mo m' (hin m' hm')) hf (fun k hk => .inr (.inl ⟨m', hin m' hm', hk⟩)), ?_, fun m' hm' => h.mx m' (hin m' hm'), grow_fr (grow_pop hrb) hf (fun k hk => .inr (.inr (.inl hk))), grow_fr h.ra hf (fun k hk => .inr (.inr (.inr hk))), (List.pairwise_append.mp h.pw).1, fun m' hm' => h.mb m' (hin m' hm'), h.bB, h.bA⟩, ?_⟩
  · show b.ms.dropLast = _
    rw [h.ma, List.map_append]
    simp
  · exact mk_fr (h.mo m (by simp)) hf (fun k hk => .inr (.inl ⟨m, by simp, hk⟩))
theorem BK.notF {ms' : List Mk} {m : Mk} (h : BK B w g I b p (ms' ++ [m]) Ab cb Aa ca) : ∀ k, MB m k → ¬ BF B ms' Ab Aa k := by
  intro k hk e
  rcases e with e | ⟨m', hm', e⟩ | e | e
  · exact h.mb m (by simp) k hk e
  · exact (List.pairwise_append.mp h.pw).2.2 m' hm' m (by simp) k e hk
  · obtain ⟨cs, t, hc, t1, _⟩ := mb_typed (h.mo m (by simp)) hk
    obtain ⟨cs', hc'⟩ := grow_typed h.rb k e
    exact hp_ne hc hc' t1 rfl
  · obtain ⟨cs, t, hc, _, _, t1⟩ := mb_typed (h.mo m (by simp)) hk
    obtain ⟨cs', hc'⟩ := grow_typed h.ra k e
    exact hp_ne hc hc' t1 rfl
theorem BK.last {ms' : List Mk} {m : Mk} (h : BK B w g I b p (ms' ++ [m]) Ab cb Aa ca) (hl : ms'.length ≤ 900) : Calls Try.prog 77 #[.pointer (some ⟨g, 0, none⟩)] w fun e w' => e = .returned m.clo ∧ BK B w' g I { b with ms := b.ms.dropLast } p ms' Ab cb Aa ca ∧ MkOk w' g m ∧ Fr B w w' ∧ ∃ u, w' = w.setCell ⟨g, 9, none⟩ u := by
  have hrb := h.rb
  rw [List.map_append] at hrb
  obtain ⟨bb, rfl, hc, hcap⟩ := grow_at hrb
  rw [List.length_map] at hc hcap
  have h9 := h.b9.1
  rw [List.length_append] at h9
  refine (last_some g ms'.length cb ⟨bb, 0, none⟩ m.clo w h9 (h.wk.fz 9) (by rw [add_at, Nat.zero_add]; exact hc) hcap (by omega)).mono ?_
  rintro e w' ⟨rfl, rfl⟩
  exact ⟨rfl, h.popM.1, h.popM.2, h.fB 9 _, _, rfl⟩
theorem BK.back {ms' : List Mk} {m : Mk} (h : BK B w g I b p ms' Ab cb Aa ca) (hm : MkOk w g m) (hn : ∀ k, MB m k → ¬ BF B ms' Ab Aa k) (hx : 0 ≤ m.x.arg ∧ m.x.arg < 64) (hf : Fr (fun k => k ≠ g) w w1) (hc : w1.heap[g]? = some (.cells (wkL I { m.s0 with pc := m.x.arg + 1 } m.hp0.length m.p0 (bX Ab ms'.length cb Aa b.arms.length ca b.kind)) 91 (0, 0))) :
    BK B w1 g I { b with s := { m.s0 with pc := m.x.arg + 1 }, hp := m.hp0 } m.p0 ms' Ab cb Aa ca := by
  have hne : ∀ k, MB m k → k ≠ g := fun k hk => by
    obtain ⟨cs, t, hc', _, t2, _⟩ := mb_typed hm hk
    exact hp_ne hc' h.wk.cells t2
  have hF : Fr (BF B ms' Ab Aa) w w1 := hf.mono (fun k hk e => h.wk.fg (e ▸ hk))
  refine h.walk hF (s' := { m.s0 with pc := m.x.arg + 1 }) (hp' := m.hp0) (p' := m.p0) ⟨hc, row_fr hm.r1 hf (fun k hk => hne k (by unfold MB; simp [hk])), row_fr hm.r2 hf (fun k hk => hne k (by unfold MB; simp [hk])), row_fr hm.r3 hf (fun k hk => hne k (by unfold MB; simp [hk])), hm.d12, hm.d13, hm.d23, h.wk.fg, fun k hk => hn k (by unfold MB; simp [hk]), fun k hk => hn k (by unfold MB; simp [hk]), fun k hk => hn k (by unfold MB; simp [hk]), fun k hk => Nat.lt_of_lt_of_le (h.wk.fl k hk) hf.size, ⟨⟨by show _ ≤ m.x.arg + 1; omega, by show m.x.arg + 1 ≤ _; omega⟩, hm.ok.2⟩, h.wk.ty⟩
theorem enter_back (args : Array Value) (w : World) : (callFunc 102 args).run Try.prog w = .ok (.enter 102 args) w := by kernel_rfl
set_option maxRecDepth 20000 in
set_option maxHeartbeats 8000000 in
theorem blk_end (ag v : Int) (hpc : 0 ≤ b.s.pc ∧ b.s.pc < 1000) (h : BK B w g I b p ms Ab cb Aa ca) :
    Calls Try.prog 49 #[.pointer (some ⟨g, 0, none⟩), .agg #[.int .u8 22, .int .i64 ag, .int .u64 v]] w (BRes B w g I (.ok { b with s := { b.s with pc := b.s.pc + 1 }, kind := 1 })) := by
  have hb0 : Below w.heap.size w (w.alloc (.cells #[.int .u8 22, .int .i64 ag, .int .u64 v] 42)) := (Below.refl _ _).alloc (Nat.le_refl _) _
  have KW := Lib.hid h
  have K0 := Lib.hid (h.below hb0)
  have F0 := Lib.hid (h.frB hb0)
  have B0 := Lib.hid hb0
  have kw : wrap64 (b.s.pc + 1) = b.s.pc + 1 := by unfold wrap64; omega
  have HPC := Lib.hid (show I64 (b.s.pc + 1) from ⟨by omega, by omega⟩)
  have lg : g < w.heap.size := h.wk.lt
  have ne1 : g ≠ w.heap.size := by omega
  have ne2 : w.heap.size ≠ g := by omega
  obtain ⟨y9, y10, y11⟩ := h.b9
  have y1 := h.wk.at.2.1
  have z1 := h.wk.fz 1
  have z9 := h.wk.fz 9
  have z10 := h.wk.fz 10
  have z11 := h.wk.fz 11
  have q1 := eql_nil
  have q2 := neq_nil
  have q3 := eql_fun
  have q4 := neq_fun
  clear hb0 h hpc
  go_enter Try.func49, Try.ntmps49
  go_wp2
  go_end0
  have K1 := (KW.out.walk (Fr.set _ KW.out.wk.fg 1 (.int .i64 (b.s.pc + 1))) (KW.out.wk.setPc (b.s.pc + 1) HPC.out))
  have K2 := K1.set 11 (.int .u8 1) { b with s := { b.s with pc := b.s.pc + 1 }, kind := 1 } rfl rfl rfl rfl (by simp [wkL, bX])
  exact ⟨((KW.out.fB 1 _).trans (K1.fB 11 _)).trans (K2.frA _), rfl, _, _, _, _, _, _, K2.alloc _⟩
set_option maxRecDepth 20000 in
set_option maxHeartbeats 8000000 in
theorem blk_retry0 (ag v : Int) (hm : ms = []) (hpc : 0 ≤ b.s.pc ∧ b.s.pc < 1000) (h : BK B w g I b p ms Ab cb Aa ca) :
    Calls Try.prog 49 #[.pointer (some ⟨g, 0, none⟩), .agg #[.int .u8 26, .int .i64 ag, .int .u64 v]] w (BRes B w g I (.ok { b with kind := 2 })) := by
  have hb0 : Below w.heap.size w (w.alloc (.cells #[.int .u8 26, .int .i64 ag, .int .u64 v] 42)) := (Below.refl _ _).alloc (Nat.le_refl _) _
  have KW := Lib.hid h
  have K0 := Lib.hid (h.below hb0)
  have F0 := Lib.hid (h.frB hb0)
  have B0 := Lib.hid hb0
  have kw : wrap64 (b.s.pc + 1) = b.s.pc + 1 := by unfold wrap64; omega
  have HPC := Lib.hid (show I64 (b.s.pc + 1) from ⟨by omega, by omega⟩)
  have lg : g < w.heap.size := h.wk.lt
  have ne1 : g ≠ w.heap.size := by omega
  have ne2 : w.heap.size ≠ g := by omega
  obtain ⟨y9, y10, y11⟩ := h.b9
  have y1 := h.wk.at.2.1
  have z1 := h.wk.fz 1
  have z9 := h.wk.fz 9
  have z10 := h.wk.fz 10
  have z11 := h.wk.fz 11
  have q1 := eql_nil
  have q2 := neq_nil
  have q3 := eql_fun
  have q4 := neq_fun
  subst hm
  clear hb0 h hpc
  go_enter Try.func49, Try.ntmps49
  go_wp2_with (go_at_call 77; refine (last_nil g cb Ab _ (by exact K0.out.b9.1)).mono ?_; rintro e w1 ⟨rfl, hw1⟩; have K1 := Lib.hid (show BK B w1 g I b p [] Ab cb Aa ca from hw1 ▸ K0.out); have F1 := Lib.hid (show Fr B w w1 from hw1 ▸ F0.out); have v11 := K1.out.b9.2.2; have u11 := K1.out.wk.fz 11; have lg1 := K1.out.wk.lt; clear hw1)
  go_end0
  have K2 := K1.out.set 11 (.int .u8 2) { b with kind := 2 } rfl rfl rfl rfl (by simp [wkL, bX])
  exact ⟨F1.out.trans (K1.out.fB 11 _), rfl, _, _, _, _, _, _, K2⟩
set_option maxRecDepth 20000 in
set_option maxHeartbeats 8000000 in
theorem blk_retry1 (ag v : Int) (m : Mk) (ms' : List Mk) (hm : ms = ms' ++ [m]) (hml : ms'.length ≤ 900) (hpc : 0 ≤ b.s.pc ∧ b.s.pc < 1000) (h : BK B w g I b p ms Ab cb Aa ca) :
    Calls Try.prog 49 #[.pointer (some ⟨g, 0, none⟩), .agg #[.int .u8 26, .int .i64 ag, .int .u64 v]] w (BRes B w g I (.ok { b with s := { m.s0 with pc := m.x.arg + 1 }, hp := m.hp0, ms := b.ms.dropLast })) := by
  have hb0 : Below w.heap.size w (w.alloc (.cells #[.int .u8 26, .int .i64 ag, .int .u64 v] 42)) := (Below.refl _ _).alloc (Nat.le_refl _) _
  have KW := Lib.hid h
  have K0 := Lib.hid (h.below hb0)
  have F0 := Lib.hid (h.frB hb0)
  have B0 := Lib.hid hb0
  have kw : wrap64 (b.s.pc + 1) = b.s.pc + 1 := by unfold wrap64; omega
  have HPC := Lib.hid (show I64 (b.s.pc + 1) from ⟨by omega, by omega⟩)
  have lg : g < w.heap.size := h.wk.lt
  have ne1 : g ≠ w.heap.size := by omega
  have ne2 : w.heap.size ≠ g := by omega
  obtain ⟨y9, y10, y11⟩ := h.b9
  have y1 := h.wk.at.2.1
  have z1 := h.wk.fz 1
  have z9 := h.wk.fz 9
  have z10 := h.wk.fz 10
  have z11 := h.wk.fz 11
  have q1 := eql_nil
  have q2 := neq_nil
  have q3 := eql_fun
  have q4 := neq_fun
  subst hm
  have HNF := Lib.hid h.notF
  have HMX := Lib.hid (h.mx m (by simp))
  clear hb0 h hpc
  go_enter Try.func49, Try.ntmps49
  have qe := enter_back
  go_wp2_with (first | (go_at_call 77; refine (K0.out.last hml).mono ?_; rintro e w1 ⟨rfl, hk1, hm1, hf1, _⟩; unfold Mk.clo; have K1 := Lib.hid hk1; have M1 := Lib.hid hm1; have F1 := Lib.hid hf1; clear hk1 hm1 hf1) | (go_at_call 102; refine (put_back m.si m.hi m.bi m.xi m.s0 m.hp0.length m.p0 m.x HMX.out K1.out.wk M1.out.c rfl).mono ?_; rintro e w2 ⟨rfl, hf2, hc2⟩; have K2 := Lib.hid (K1.out.back M1.out HNF.out HMX.out hf2 hc2); have F2 := Lib.hid (show Fr B w1 w2 from hf2.mono (fun k hk e => K1.out.wk.fg (e ▸ .inl hk))); clear hf2 hc2))
  go_end0
  exact ⟨(F0.out.trans F1.out).trans F2.out, rfl, _, _, _, _, _, _, K2.out⟩
set_option maxRecDepth 20000 in
set_option maxHeartbeats 8000000 in
theorem blk_bad27 (ag v : Int) (hpc : 0 ≤ b.s.pc ∧ b.s.pc < 1000) (h : BK B w g I b p ms Ab cb Aa ca) :
    Calls Try.prog 49 #[.pointer (some ⟨g, 0, none⟩), .agg #[.int .u8 27, .int .i64 ag, .int .u64 v]] w (BRes B w g I (.error 3)) := by
  have hb0 : Below w.heap.size w (w.alloc (.cells #[.int .u8 27, .int .i64 ag, .int .u64 v] 42)) := (Below.refl _ _).alloc (Nat.le_refl _) _
  have KW := Lib.hid h
  have K0 := Lib.hid (h.below hb0)
  have F0 := Lib.hid (h.frB hb0)
  have B0 := Lib.hid hb0
  have kw : wrap64 (b.s.pc + 1) = b.s.pc + 1 := by unfold wrap64; omega
  have HPC := Lib.hid (show I64 (b.s.pc + 1) from ⟨by omega, by omega⟩)
  have lg : g < w.heap.size := h.wk.lt
  have ne1 : g ≠ w.heap.size := by omega
  have ne2 : w.heap.size ≠ g := by omega
  obtain ⟨y9, y10, y11⟩ := h.b9
  have y1 := h.wk.at.2.1
  have z1 := h.wk.fz 1
  have z9 := h.wk.fz 9
  have z10 := h.wk.fz 10
  have z11 := h.wk.fz 11
  have q1 := eql_nil
  have q2 := neq_nil
  have q3 := eql_fun
  have q4 := neq_fun
  clear hb0 h hpc
  go_enter Try.func49, Try.ntmps49
  go_wp2_with (go_at_call 48; refine (need_no _ _).mono ?_; rintro e w' ⟨rfl, rfl⟩)
  exact ⟨rfl, F0.out, rfl⟩
set_option maxRecDepth 20000 in
set_option maxHeartbeats 8000000 in
theorem blk_bad28 (ag v : Int) (hpc : 0 ≤ b.s.pc ∧ b.s.pc < 1000) (h : BK B w g I b p ms Ab cb Aa ca) :
    Calls Try.prog 49 #[.pointer (some ⟨g, 0, none⟩), .agg #[.int .u8 28, .int .i64 ag, .int .u64 v]] w (BRes B w g I (.error 3)) := by
  have hb0 : Below w.heap.size w (w.alloc (.cells #[.int .u8 28, .int .i64 ag, .int .u64 v] 42)) := (Below.refl _ _).alloc (Nat.le_refl _) _
  have KW := Lib.hid h
  have K0 := Lib.hid (h.below hb0)
  have F0 := Lib.hid (h.frB hb0)
  have B0 := Lib.hid hb0
  have kw : wrap64 (b.s.pc + 1) = b.s.pc + 1 := by unfold wrap64; omega
  have HPC := Lib.hid (show I64 (b.s.pc + 1) from ⟨by omega, by omega⟩)
  have lg : g < w.heap.size := h.wk.lt
  have ne1 : g ≠ w.heap.size := by omega
  have ne2 : w.heap.size ≠ g := by omega
  obtain ⟨y9, y10, y11⟩ := h.b9
  have y1 := h.wk.at.2.1
  have z1 := h.wk.fz 1
  have z9 := h.wk.fz 9
  have z10 := h.wk.fz 10
  have z11 := h.wk.fz 11
  have q1 := eql_nil
  have q2 := neq_nil
  have q3 := eql_fun
  have q4 := neq_fun
  clear hb0 h hpc
  go_enter Try.func49, Try.ntmps49
  go_wp2_with (go_at_call 48; refine (need_no _ _).mono ?_; rintro e w' ⟨rfl, rfl⟩)
  exact ⟨rfl, F0.out, rfl⟩
set_option maxRecDepth 20000 in
set_option maxHeartbeats 8000000 in
theorem blk_bad21 (ag v : Int) (hpc : 0 ≤ b.s.pc ∧ b.s.pc < 1000) (h : BK B w g I b p ms Ab cb Aa ca) :
    Calls Try.prog 49 #[.pointer (some ⟨g, 0, none⟩), .agg #[.int .u8 21, .int .i64 ag, .int .u64 v]] w (BRes B w g I (.error 3)) := by
  have hb0 : Below w.heap.size w (w.alloc (.cells #[.int .u8 21, .int .i64 ag, .int .u64 v] 42)) := (Below.refl _ _).alloc (Nat.le_refl _) _
  have KW := Lib.hid h
  have K0 := Lib.hid (h.below hb0)
  have F0 := Lib.hid (h.frB hb0)
  have B0 := Lib.hid hb0
  have kw : wrap64 (b.s.pc + 1) = b.s.pc + 1 := by unfold wrap64; omega
  have HPC := Lib.hid (show I64 (b.s.pc + 1) from ⟨by omega, by omega⟩)
  have lg : g < w.heap.size := h.wk.lt
  have ne1 : g ≠ w.heap.size := by omega
  have ne2 : w.heap.size ≠ g := by omega
  obtain ⟨y9, y10, y11⟩ := h.b9
  have y1 := h.wk.at.2.1
  have z1 := h.wk.fz 1
  have z9 := h.wk.fz 9
  have z10 := h.wk.fz 10
  have z11 := h.wk.fz 11
  have q1 := eql_nil
  have q2 := neq_nil
  have q3 := eql_fun
  have q4 := neq_fun
  clear hb0 h hpc
  go_enter Try.func49, Try.ntmps49
  go_wp2_with (go_at_call 48; refine (need_no _ _).mono ?_; rintro e w' ⟨rfl, rfl⟩)
  exact ⟨rfl, F0.out, rfl⟩
set_option maxRecDepth 20000 in
set_option maxHeartbeats 8000000 in
theorem blk_else0 (ag v : Int) (hm : ms = []) (hpc : 0 ≤ b.s.pc ∧ b.s.pc < 1000) (h : BK B w g I b p ms Ab cb Aa ca) :
    Calls Try.prog 49 #[.pointer (some ⟨g, 0, none⟩), .agg #[.int .u8 24, .int .i64 ag, .int .u64 v]] w (BRes B w g I (.error 3)) := by
  have hb0 : Below w.heap.size w (w.alloc (.cells #[.int .u8 24, .int .i64 ag, .int .u64 v] 42)) := (Below.refl _ _).alloc (Nat.le_refl _) _
  have KW := Lib.hid h
  have K0 := Lib.hid (h.below hb0)
  have F0 := Lib.hid (h.frB hb0)
  have B0 := Lib.hid hb0
  have kw : wrap64 (b.s.pc + 1) = b.s.pc + 1 := by unfold wrap64; omega
  have HPC := Lib.hid (show I64 (b.s.pc + 1) from ⟨by omega, by omega⟩)
  have lg : g < w.heap.size := h.wk.lt
  have ne1 : g ≠ w.heap.size := by omega
  have ne2 : w.heap.size ≠ g := by omega
  obtain ⟨y9, y10, y11⟩ := h.b9
  have y1 := h.wk.at.2.1
  have z1 := h.wk.fz 1
  have z9 := h.wk.fz 9
  have z10 := h.wk.fz 10
  have z11 := h.wk.fz 11
  have q1 := eql_nil
  have q2 := neq_nil
  have q3 := eql_fun
  have q4 := neq_fun
  subst hm
  clear hb0 h hpc
  go_enter Try.func49, Try.ntmps49
  go_wp2_with (first | (go_at_call 77; refine (last_nil g cb Ab _ (by exact K0.out.b9.1)).mono ?_; rintro e w' ⟨rfl, rfl⟩) | (go_at_call 48; (with_reducible refine (need_no _ _).mono ?_); rintro e w' ⟨rfl, rfl⟩))
  exact ⟨rfl, F0.out, rfl⟩
set_option maxRecDepth 20000 in
set_option maxHeartbeats 8000000 in
theorem blk_endor (ag v : Int) (hal : b.arms.length ≤ 900) (hpc : 0 ≤ b.s.pc ∧ b.s.pc < 1000) (h : BK B w g I b p ms Ab cb Aa ca) :
    Calls Try.prog 49 #[.pointer (some ⟨g, 0, none⟩), .agg #[.int .u8 25, .int .i64 ag, .int .u64 v]] w (BRes B w g I (.ok { b with s := { b.s with pc := b.s.pc + 1 }, arms := b.arms ++ [false] })) := by
  have hb0 : Below w.heap.size w (w.alloc (.cells #[.int .u8 25, .int .i64 ag, .int .u64 v] 42)) := (Below.refl _ _).alloc (Nat.le_refl _) _
  have KW := Lib.hid h
  have K0 := Lib.hid (h.below hb0)
  have F0 := Lib.hid (h.frB hb0)
  have B0 := Lib.hid hb0
  have kw : wrap64 (b.s.pc + 1) = b.s.pc + 1 := by unfold wrap64; omega
  have HPC := Lib.hid (show I64 (b.s.pc + 1) from ⟨by omega, by omega⟩)
  have lg : g < w.heap.size := h.wk.lt
  have ne1 : g ≠ w.heap.size := by omega
  have ne2 : w.heap.size ≠ g := by omega
  obtain ⟨y9, y10, y11⟩ := h.b9
  have y1 := h.wk.at.2.1
  have z1 := h.wk.fz 1
  have z9 := h.wk.fz 9
  have z10 := h.wk.fz 10
  have z11 := h.wk.fz 11
  have q1 := eql_nil
  have q2 := neq_nil
  have q3 := eql_fun
  have q4 := neq_fun
  obtain ⟨l2, hl2⟩ : ∃ l2, b.arms.map Value.bool ++ [Value.bool false] = l2 := ⟨_, rfl⟩
  have HL2 := Lib.hid hl2
  have HBl := Lib.hid (show ∀ k, B k → k < w.heap.size from fun k hk => h.wk.fl k (.inl hk))
  clear hl2
  clear hb0 h hpc
  go_enter Try.func49, Try.ntmps49
  go_wp2_with (at_builtin; refine append_bool rfl (.tmp 73) (.tmp 74) rfl Aa ca (b.arms.map Value.bool) (by rw [List.length_map]; rfl) (K0.out.alloc _).ra ⟨w.heap.size + 1, 0, none⟩ (.bool false) rfl (show ((w.alloc (.cells #[.int .u8 25, .int .i64 ag, .int .u64 v] 42)).alloc (.cells #[.bool false] 4)).cell? ⟨w.heap.size + 1, 0, none⟩ = some (.bool false) from hp_cell ((congrArg _ (by simp)).trans (heap_alloc_new (w.alloc (.cells #[.int .u8 25, .int .i64 ag, .int .u64 v] 42)) _)) 0) rfl (by rw [List.length_map]; omega) l2 HL2.out ?_; intro A' c' w2 hr2 hg2 hat2; have P := Lib.hid ((K0.out.alloc (.cells #[.bool false] 4)).arms false l2 HL2.out hr2 hg2 (fun k hk => by (rcases hat2 with e | e); (exact K0.out.bA k (by rw [← e]; exact hk)); (rw [e] at hk; simp at hk; (intro hB; have := HBl.out k hB; omega)))); have y10' : w2.cell? ⟨g, 10, none⟩ = some (.slice Aa b.arms.length ca) := (hp_cell P.out.2.2.cells 10).trans (by simp [wkL, bX]); have z10' := P.out.2.2.fz 10; have y1' := P.out.2.2.at.2.1; have z1' := P.out.2.2.fz 1; have lg2 := P.out.2.2.lt; clear hr2 hg2 hat2)
  go_end0
  have K1 := P.out.1
  have K2 := K1.walk (Fr.set _ K1.wk.fg 1 (.int .i64 (b.s.pc + 1))) (K1.wk.setPc (b.s.pc + 1) HPC.out)
  exact ⟨(F0.out.trans ((K0.out.frA _).trans P.out.2.1)).trans (K1.fB 1 _), rfl, _, _, _, _, _, _, K2⟩
end
end Go.Proofs.Ytlgpjcdlomhlcaa
