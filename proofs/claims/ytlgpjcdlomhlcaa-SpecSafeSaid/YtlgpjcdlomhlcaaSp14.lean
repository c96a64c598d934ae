
/-
  spec: block: steps that keep, leave, touch, or go on plainly.
-/
import Derived.Test.YtlgpjcdlomhlcaaSp13
import Derived.Test.YtlgpjcdlomhlcaaSp5b
namespace Go.Proofs.Ytlgpjcdlomhlcaa
open Go.RowKit Go.ChangeShapes Go.WideShapes
set_option linter.unusedSimpArgs false
set_option linter.unusedVariables false
section
variable {B : Nat → Prop} {w w1 : World} {g : Nat} {I : Value} {b : Bs} {p : Pl} {ms : List Mk} {Ab Aa : Option Addr} {cb ca : Nat}
theorem BK.keep (h : BK B w g I b p ms Ab cb Aa ca) {F0 : Nat → Prop} (hF0 : ∀ k, F0 k ↔ (B k ∨ (∃ m ∈ ms, MB m k) ∨ blk Aa = some k)) (hf : Fr F0 w w1) {m : Mk} {Ab' : Option Addr} {cb' : Nat} (hm : MkOk w1 g m) (hM : ∀ k, MB m k → w.heap.size ≤ k ∧ k < w1.heap.size ∧ blk Ab' ≠ some k) (hA : blk Ab' = blk Ab ∨ ∀ k, blk Ab' = some k → w.heap.size ≤ k)
    (hx : 0 ≤ m.x.arg ∧ m.x.arg < 64) {s' : St} (hs : s'.stk = b.s.stk ∧ s'.out = b.s.out) (hk : WK F0 w1 g 91 [.slice Ab' (ms.map Mk.clo ++ [m.clo]).length cb', .slice Aa b.arms.length ca, .int .u8 b.kind] I s' b.hp p) (hr : GRow 1 w1 Ab' cb' (ms.map Mk.clo ++ [m.clo])) :
    BK B w1 g I { b with s := s', ms := b.ms ++ [m.plain] } p (ms ++ [m]) Ab' cb' Aa ca := by
  have hlen : (ms.map Mk.clo ++ [m.clo]).length = (ms ++ [m]).length := by simp
  have rows : ∀ {A d l d' l'}, RowAt w 0 A d l → (∀ k, blk A = some k → ¬ F0 k) → RowAt w1 0 A d' l' → ∀ k, blk A = some k → ¬ BF B (ms ++ [m]) Ab' Aa k := fun hr0 hn hr1 k hk' e => by
    have hlt := (row_lt hr0 k hk').2
    rcases e with e | ⟨m', hm', e⟩ | e | e
    · exact hn k hk' ((hF0 k).2 (.inl e))
    · rcases List.mem_append.mp hm' with hm' | hm'
      · exact hn k hk' ((hF0 k).2 (.inr (.inl ⟨m', hm', e⟩)))
      · rw [List.mem_singleton.mp hm'] at e
        have := (hM k e).1
        omega
    · obtain ⟨cs, hc⟩ := grow_typed hr k e
      obtain ⟨cs', hc'⟩ := row_typed hr1 k hk'
      exact hp_ne hc hc' (by decide) rfl
    · exact hn k hk' ((hF0 k).2 (.inr (.inr e)))
  refine ⟨⟨?_, hk.stk, hk.out, hk.hep, hk.d12, hk.d13, hk.d23, fun e => ?_, rows h.wk.stk hk.f1 hk.stk, rows h.wk.out hk.f2 hk.out, rows h.wk.hep hk.f3 hk.hep, fun k e => ?_, hk.ok, hk.ty⟩, fun m' hm' => ?_, ?_, fun m' hm' => ?_, by rw [List.map_append]; exact hr, grow_fr h.ra hf (fun k hk' => (hF0 k).2 (.inr (.inr hk'))), ?_, fun m' hm' k hk' => ?_, fun k hk' => ?_, h.bA⟩
  · have := hk.cells
    rw [hlen] at this
    exact this
  · rcases e with e | ⟨m', hm', e⟩ | e | e
    · exact hk.fg ((hF0 g).2 (.inl e))
    · rcases List.mem_append.mp hm' with hm' | hm'
      · exact hk.fg ((hF0 g).2 (.inr (.inl ⟨m', hm', e⟩)))
      · rw [List.mem_singleton.mp hm'] at e
        have := (hM g e).1
        have := h.wk.lt
        omega
    · obtain ⟨cs, hc⟩ := grow_typed hr g e
      exact hp_ne hc hk.cells (by decide) rfl
    · exact hk.fg ((hF0 g).2 (.inr (.inr e)))
  · rcases e with e | ⟨m', hm', e⟩ | e | e
    · exact hk.fl k ((hF0 k).2 (.inl e))
    · rcases List.mem_append.mp hm' with hm' | hm'
      · exact hk.fl k ((hF0 k).2 (.inr (.inl ⟨m', hm', e⟩)))
      · rw [List.mem_singleton.mp hm'] at e
        exact (hM k e).2.1
    · exact grow_lt hr k e
    · exact hk.fl k ((hF0 k).2 (.inr (.inr e)))
  · rcases List.mem_append.mp hm' with hm' | hm'
    · exact mk_fr (h.mo m' hm') hf (fun k hk' => (hF0 k).2 (.inr (.inl ⟨m', hm', hk'⟩)))
    · rw [List.mem_singleton.mp hm']; exact hm
  · show b.ms ++ [m.plain] = _
    rw [h.ma, List.map_append]
    rfl
  · rcases List.mem_append.mp hm' with hm' | hm'
    · exact h.mx m' hm'
    · rw [List.mem_singleton.mp hm']; exact hx
  · refine List.pairwise_append.mpr ⟨h.pw, List.pairwise_singleton _ _, fun m' hm' m'' hm'' k hk' e => ?_⟩
    rw [List.mem_singleton.mp hm''] at e
    obtain ⟨cs, t, hc, _⟩ := mb_typed (h.mo m' hm') hk'
    have := hp_lt hc
    have := (hM k e).1
    omega
  · rcases List.mem_append.mp hm' with hm' | hm'
    · exact h.mb m' hm' k hk'
    · rw [List.mem_singleton.mp hm'] at hk'
      intro hB
      have a1 := h.wk.fl k (.inl hB)
      have a2 := (hM k hk').1
      omega
  · rcases hA with e | e
    · exact h.bB k (by rw [← e]; exact hk')
    · intro hB
      have a1 := h.wk.fl k (.inl hB)
      have a2 := e k hk'
      omega
set_option maxRecDepth 20000 in
set_option maxHeartbeats 8000000 in
theorem blk_orelse (ag v : Int) (hx : 0 ≤ ag ∧ ag < 64) (hn : b.s.stk.length ≤ 800) (hro : b.s.out.length ≤ 800) (hhp : b.hp.length ≤ 1000) (hml : ms.length ≤ 900) (hpc : 0 ≤ b.s.pc ∧ b.s.pc < 1000) (h : BK B w g I b p ms Ab cb Aa ca) :
    Calls Try.prog 49 #[.pointer (some ⟨g, 0, none⟩), .agg #[.int .u8 23, .int .i64 ag, .int .u64 v]] w (BRes B w g I (.ok { b with s := { b.s with pc := b.s.pc + 1 }, ms := b.ms ++ [⟨b.s, b.hp, ag⟩] })) := by
  have hb0 : Below w.heap.size w (w.alloc (.cells #[.int .u8 23, .int .i64 ag, .int .u64 v] 42)) := (Below.refl _ _).alloc (Nat.le_refl _) _
  have KW := Lib.hid h
  have K0 := Lib.hid (h.below hb0)
  have F0 := Lib.hid (h.frB hb0)
  have B0 := Lib.hid hb0
  have kw : wrap64 (b.s.pc + 1) = b.s.pc + 1 := by unfold wrap64; omega
  have HPC := Lib.hid (show I64 (b.s.pc + 1) from ⟨by omega, by omega⟩)
  have lg : g < w.heap.size := h.wk.lt
  have ne1 : g ≠ w.heap.size := by omega
  have ne2 : w.heap.size ≠ g := by omega
  obtain ⟨y9, y10, y11⟩ := h.b9
  have y1 := h.wk.at.2.1
  have z1 := h.wk.fz 1
  have z9 := h.wk.fz 9
  have z10 := h.wk.fz 10
  have z11 := h.wk.fz 11
  have q1 := eql_nil
  have q2 := neq_nil
  have q3 := eql_fun
  have q4 := neq_fun
  have hF0 : ∀ k, (fun k => B k ∨ (∃ m ∈ ms, MB m k) ∨ blk Aa = some k) k ↔ (B k ∨ (∃ m ∈ ms, MB m k) ∨ blk Aa = some k) := fun k => Iff.rfl
  have hsub : ∀ k, (fun k => B k ∨ (∃ m ∈ ms, MB m k) ∨ blk Aa = some k) k → BF B ms Ab Aa k := fun k e => by
    rcases e with e | e | e
    · exact .inl e
    · exact .inr (.inl e)
    · exact .inr (.inr (.inr e))
  have hkeep := keep_sp (F := fun k => B k ∨ (∃ m ∈ ms, MB m k) ∨ blk Aa = some k) Ab cb (ms.map Mk.clo) (.slice Aa b.arms.length ca) (.int .u8 b.kind) ⟨23, ag, v⟩ hx hpc hn hro hhp (by rw [List.length_map]; exact hml) (by have := K0.out.wk.less hsub; rw [List.length_map]; exact this) K0.out.rb (fun k hk e => by
    rcases e with e | ⟨m, hm, e⟩ | e
    · exact K0.out.bB k hk e
    · obtain ⟨cs, t, hc, t1, _⟩ := mb_typed (K0.out.mo m hm) e
      obtain ⟨cs', hc'⟩ := grow_typed K0.out.rb k hk
      exact hp_ne hc hc' t1 rfl
    · obtain ⟨cs, hc⟩ := grow_typed K0.out.ra k e
      obtain ⟨cs', hc'⟩ := grow_typed K0.out.rb k hk
      exact hp_ne hc hc' (by decide) rfl)
  have HK := Lib.hid hkeep
  have HX := Lib.hid hx
  clear hkeep hsub hF0 hx
  have x0 : (w.alloc (.cells #[.int .u8 23, .int .i64 ag, .int .u64 v] 42)).heap[w.heap.size]? = _ := heap_alloc_new w _
  clear hb0 h hpc
  go_enter Try.func49, Try.ntmps49
  go_wp2_with (go_at_call 78; refine (HK.out).mono ?_; rintro e w1 ⟨rfl, hf1, m, Ab', cb', hs0, hp0, hx0, hmk, hM, hA, hwk, hrow⟩; have F1 := Lib.hid hf1; have KK := Lib.hid (show BK B w1 g I { b with s := { b.s with pc := b.s.pc + 1 }, ms := b.ms ++ [m.plain] } p (ms ++ [m]) Ab' cb' Aa ca from K0.out.keep (fun k => Iff.rfl) hf1 hmk hM hA (by rw [hx0]; exact HX.out) ⟨rfl, rfl⟩ hwk hrow); have MP := Lib.hid (show m.plain = ⟨b.s, b.hp, ag⟩ from by unfold Mk.plain; rw [hs0, hp0, hx0]); clear hf1 hs0 hp0 hx0 hmk hM hA hwk hrow)
  go_end0
  have K2 := KK.out
  rw [MP.out] at K2
  exact ⟨F0.out.trans (F1.out.mono (fun k hk => .inl hk)), rfl, _, _, _, _, _, _, K2⟩
set_option maxRecDepth 20000 in
set_option maxHeartbeats 8000000 in
theorem blk_else1 (ag v : Int) (hx : 0 ≤ ag ∧ ag < 64) (hal : b.arms.length ≤ 900) (m : Mk) (ms' : List Mk) (hm : ms = ms' ++ [m]) (hml : ms'.length ≤ 900) (hpc : 0 ≤ b.s.pc ∧ b.s.pc < 1000) (h : BK B w g I b p ms Ab cb Aa ca) :
    Calls Try.prog 49 #[.pointer (some ⟨g, 0, none⟩), .agg #[.int .u8 24, .int .i64 ag, .int .u64 v]] w (BRes B w g I (.ok { b with s := { b.s with pc := ag + 1 }, ms := b.ms.dropLast, arms := b.arms ++ [true] })) := by
  have hb0 : Below w.heap.size w (w.alloc (.cells #[.int .u8 24, .int .i64 ag, .int .u64 v] 42)) := (Below.refl _ _).alloc (Nat.le_refl _) _
  have KW := Lib.hid h
  have K0 := Lib.hid (h.below hb0)
  have F0 := Lib.hid (h.frB hb0)
  have B0 := Lib.hid hb0
  have kw : wrap64 (b.s.pc + 1) = b.s.pc + 1 := by unfold wrap64; omega
  have HPC := Lib.hid (show I64 (b.s.pc + 1) from ⟨by omega, by omega⟩)
  have lg : g < w.heap.size := h.wk.lt
  have ne1 : g ≠ w.heap.size := by omega
  have ne2 : w.heap.size ≠ g := by omega
  obtain ⟨y9, y10, y11⟩ := h.b9
  have y1 := h.wk.at.2.1
  have z1 := h.wk.fz 1
  have z9 := h.wk.fz 9
  have z10 := h.wk.fz 10
  have z11 := h.wk.fz 11
  have q1 := eql_nil
  have q2 := neq_nil
  have q3 := eql_fun
  have q4 := neq_fun
  subst hm
  obtain ⟨l2, hl2⟩ : ∃ l2, b.arms.map Value.bool ++ [Value.bool true] = l2 := ⟨_, rfl⟩
  have HL2 := Lib.hid hl2
  have HPC2 := Lib.hid (show I64 (ag + 1) from ⟨by omega, by omega⟩)
  have kw2 : wrap64 (ag + 1) = ag + 1 := by unfold wrap64; omega
  have X0 := Lib.hid (show (w.alloc (.cells #[.int .u8 24, .int .i64 ag, .int .u64 v] 42)).heap[w.heap.size]? = some (.cells #[.int .u8 24, .int .i64 ag, .int .u64 v] 42 (0, 0)) from heap_alloc_new w _)
  clear hl2 hx
  clear hb0 h hpc
  go_enter Try.func49, Try.ntmps49
  go_wp2_with (first | (go_at_call 77; refine (K0.out.last hml).mono ?_; rintro e w1 ⟨rfl, hk1, hm1, hf1, u, hu⟩; unfold Mk.clo; have K1 := Lib.hid hk1; have F1 := Lib.hid hf1; have X1 := Lib.hid (show w1.heap[w.heap.size]? = some (.cells #[.int .u8 24, .int .i64 ag, .int .u64 v] 42 (0, 0)) from by rw [hu]; exact hp_far X0.out ne2 u); have y10a := K1.out.b9.2.1; have z10a := K1.out.wk.fz 10; have lg1 := K1.out.wk.lt; have lx1 := hp_lt X1.out; clear hk1 hm1 hf1 hu) | (go_at_call 48; (with_reducible refine (need_yes _ _).mono ?_); rintro e w' ⟨rfl, rfl⟩) | (at_builtin; refine append_bool rfl (.tmp 54) (.tmp 55) rfl Aa ca (b.arms.map Value.bool) (by rw [List.length_map]; rfl) (K1.out.alloc _).ra ⟨_, 0, none⟩ (.bool true) rfl (hp_cell (heap_alloc_new _ _) 0) rfl (by rw [List.length_map]; omega) l2 HL2.out ?_; intro A' c' w2 hr2 hg2 hat2; have P := Lib.hid ((K1.out.alloc (.cells #[.bool true] 4)).arms true l2 HL2.out hr2 hg2 (fun k hk => by (rcases hat2 with e | e); (exact K1.out.bA k (by rw [← e]; exact hk)); (rw [e] at hk; simp at hk; intro hB; have := K1.out.wk.fl k (.inl hB); omega))); have y10' : w2.cell? ⟨g, 10, none⟩ = some (.slice Aa b.arms.length ca) := (hp_cell P.out.2.2.cells 10).trans (by simp [wkL, bX]); have z10' := P.out.2.2.fz 10; have z1' := P.out.2.2.fz 1; have y1' := P.out.2.2.at.2.1; have lg2 := P.out.2.2.lt; have X2 := Lib.hid (hp_grown (hp_alloc X1.out (.cells #[.bool true] 4)) hg2 (fun e => by (obtain ⟨cs, hc⟩ := grow_typed K1.out.ra _ e.symm); exact hp_ne X1.out hc (by decide) rfl)); have x1' : w2.cell? ⟨w.heap.size, 1, none⟩ = some (.int .i64 ag) := hp_cell X2.out 1; have lx2 := hp_lt X2.out; clear hr2 hg2 hat2))
  go_end0
  have K2 := P.out.1
  have K3 := K2.walk (Fr.set _ K2.wk.fg 1 (.int .i64 (ag + 1))) (K2.wk.setPc (ag + 1) HPC2.out)
  exact ⟨((F0.out.trans F1.out).trans ((K1.out.frA _).trans P.out.2.1)).trans (K2.fB 1 _), rfl, _, _, _, _, _, _, K3⟩
set_option maxRecDepth 20000 in
set_option maxHeartbeats 4000000 in
theorem touch_no {F : Nat → Prop} {T : TypeId} {X : List Value} {s : St} {hp : List Int} (o ag v : Int) (hx : Ins3.ok ⟨o, ag, v⟩) (hfi : fitI o s.stk.length = false) (hn : s.stk.length ≤ 800) (w : World) (h : WK F w g T X I s hp p) :
    Calls Try.prog 79 #[.pointer (some ⟨g, 0, none⟩), .agg #[.int .u8 o, .int .i64 ag, .int .u64 v]] w fun e w' => e = .panicked (stopP 12) ∧ Fr F w w' := by
  have HO := Lib.hid hx
  have HFI := Lib.hid hfi
  have KB := Lib.hid (h.alloc (.cells #[.int .u8 o, .int .i64 ag, .int .u64 v] 42))
  have FB := Lib.hid (h.fr ((Below.refl _ _).alloc (Nat.le_refl _) (.cells #[.int .u8 o, .int .i64 ag, .int .u64 v] 42)))
  clear h hfi hx
  go_enter Try.func79, Try.ntmps79
  go_wp2_with (go_at_call 56; refine (fits_sp ⟨o, ag, v⟩ HO.out (by exact Nat.le_trans hn (by decide)) _ KB.out).mono ?_; rintro e w1 ⟨he, hb, hk⟩; rw [if_neg (by rw [HFI.out]; decide)] at he; obtain rfl := he; have F1 := Lib.hid (KB.out.fr hb); clear hb hk)
  exact ⟨rfl, rfl, FB.out.trans F1.out⟩
theorem touch_sp {F : Nat → Prop} {T : TypeId} {X : List Value} {s : St} {hp : List Int} (o ag v : Int) (ho : o = 4 ∨ o = 5 ∨ o = 6 ∨ o = 7) (hx : Ins3.ok ⟨o, ag, v⟩) (hag : 0 ≤ ag ∧ ag < 64) (hpc : 0 ≤ s.pc ∧ s.pc < 1000) (hn : s.stk.length ≤ 800) (hhp : hp.length ≤ 1000) (w : World) (h : WK F w g T X I s hp p) :
    Calls Try.prog 79 #[.pointer (some ⟨g, 0, none⟩), .agg #[.int .u8 o, .int .i64 ag, .int .u64 v]] w (WRes F w g T X I (touchF ⟨o, ag, v⟩ s hp)) := by
  unfold touchF
  dsimp only
  cases hfi : fitI o s.stk.length
  · refine (touch_no o ag v hx hfi hn w h).mono ?_
    rintro e w' ⟨rfl, hf⟩
    exact ⟨hf, rfl⟩
  · rw [if_pos rfl]
    rcases ho with rfl | rfl | rfl | rfl
    · exact touch_4 ag v hx hfi hag hpc hn hhp w h
    · exact touch_5 ag v hx hfi hag hpc hn hhp w h
    · exact touch_6 ag v hx hfi hag hpc hn hhp w h
    · exact touch_7 ag v hx hfi hag hpc hn hhp w h
set_option maxRecDepth 20000 in
set_option maxHeartbeats 8000000 in
theorem blk_touch4 (ag v : Int) (hx : Ins3.ok ⟨4, ag, v⟩) (hag : 0 ≤ ag ∧ ag < 64) (hn : b.s.stk.length ≤ 800) (hhp : b.hp.length ≤ 1000) (hpc : 0 ≤ b.s.pc ∧ b.s.pc < 1000) (h : BK B w g I b p ms Ab cb Aa ca) :
    Calls Try.prog 49 #[.pointer (some ⟨g, 0, none⟩), .agg #[.int .u8 4, .int .i64 ag, .int .u64 v]] w (BRes B w g I ((touchF ⟨4, ag, v⟩ b.s b.hp).map fun q => { b with s := q.1, hp := q.2 })) := by
  have hb0 : Below w.heap.size w (w.alloc (.cells #[.int .u8 4, .int .i64 ag, .int .u64 v] 42)) := (Below.refl _ _).alloc (Nat.le_refl _) _
  have KW := Lib.hid h
  have K0 := Lib.hid (h.below hb0)
  have F0 := Lib.hid (h.frB hb0)
  have B0 := Lib.hid hb0
  have kw : wrap64 (b.s.pc + 1) = b.s.pc + 1 := by unfold wrap64; omega
  have HPC := Lib.hid (show I64 (b.s.pc + 1) from ⟨by omega, by omega⟩)
  have lg : g < w.heap.size := h.wk.lt
  have ne1 : g ≠ w.heap.size := by omega
  have ne2 : w.heap.size ≠ g := by omega
  obtain ⟨y9, y10, y11⟩ := h.b9
  have y1 := h.wk.at.2.1
  have z1 := h.wk.fz 1
  have z9 := h.wk.fz 9
  have z10 := h.wk.fz 10
  have z11 := h.wk.fz 11
  have q1 := eql_nil
  have q2 := neq_nil
  have q3 := eql_fun
  have q4 := neq_fun
  have X0 := Lib.hid (show (w.alloc (.cells #[.int .u8 4, .int .i64 ag, .int .u64 v] 42)).heap[w.heap.size]? = some (.cells #[.int .u8 4, .int .i64 ag, .int .u64 v] 42 (0, 0)) from heap_alloc_new w _)
  have HC := Lib.hid (fun w1 (h1 : WK (BF B ms Ab Aa) w1 g 91 (bX Ab ms.length cb Aa b.arms.length ca b.kind) I b.s b.hp p) => touch_sp 4 ag v (by simp) hx hag hpc hn hhp w1 h1)
  clear hx hag
  clear hb0 h hpc
  go_enter Try.func49, Try.ntmps49
  go_wp2_with fail
  have KA := Lib.hid K0.out
  generalize (w.alloc (.cells #[.int .u8 4, .int .i64 ag, .int .u64 v] 42)) = w1 at KA F0 X0 ⊢
  have xb0 : w1.cell? ⟨w.heap.size, 0, none⟩ = some (.int .u8 4) := hp_cell X0.out 0
  have xb1 : w1.cell? ⟨w.heap.size, 1, none⟩ = some (.int .i64 ag) := hp_cell X0.out 1
  have xb2 : w1.cell? ⟨w.heap.size, 2, none⟩ = some (.int .u64 v) := hp_cell X0.out 2
  refine quiet_tail 4 (by kernel_rfl) (by kernel_rfl) ?_
  simp only [List.take_succ_cons, List.take_zero, List.drop_succ_cons, List.drop_zero]
  repeat (go_big_quiet_step (fail))
  refine wpQuiet_nil ?_
  have KD := Lib.hid (KA.out.below ((Below.refl _ _).drew))
  have FD := Lib.hid (F0.out.trans (Fr.drew1 _ w1))
  cases hr : touchF ⟨4, ag, v⟩ b.s b.hp with
  | error n =>
    have HC' := Lib.hid (HC.out _ KD.out.wk)
    rw [hr] at HC'
    have HR := Lib.hid hr
    clear hr
    go_wp2_with (go_at_call 79; refine (HC'.out).mono ?_; rintro e w2 ⟨hf2, he⟩; (obtain rfl : e = .panicked (stopP n) := he); have F2 := Lib.hid hf2; clear hf2)
    refine ⟨rfl, FD.out.trans (F2.out.mono (fun k hk => .inl hk)), ?_⟩
    rw [HR.out]
    rfl
  | ok q =>
    have HC' := Lib.hid (HC.out _ KD.out.wk)
    rw [hr] at HC'
    have HR := Lib.hid hr
    clear hr
    go_wp2_with (go_at_call 79; refine (HC'.out).mono ?_; rintro e w2 ⟨hf2, he, p2, hk2⟩; (obtain rfl := he); have F2 := Lib.hid hf2; have K2 := Lib.hid (KD.out.walk hf2 hk2); clear hf2 hk2)
    go_end0
    refine ⟨FD.out.trans (F2.out.mono (fun k hk => .inl hk)), ?_⟩
    rw [HR.out]
    exact ⟨rfl, _, _, _, _, _, _, K2.out⟩
set_option maxRecDepth 20000 in
set_option maxHeartbeats 8000000 in
theorem blk_touch5 (ag v : Int) (hx : Ins3.ok ⟨5, ag, v⟩) (hag : 0 ≤ ag ∧ ag < 64) (hn : b.s.stk.length ≤ 800) (hhp : b.hp.length ≤ 1000) (hpc : 0 ≤ b.s.pc ∧ b.s.pc < 1000) (h : BK B w g I b p ms Ab cb Aa ca) :
    Calls Try.prog 49 #[.pointer (some ⟨g, 0, none⟩), .agg #[.int .u8 5, .int .i64 ag, .int .u64 v]] w (BRes B w g I ((touchF ⟨5, ag, v⟩ b.s b.hp).map fun q => { b with s := q.1, hp := q.2 })) := by
  have hb0 : Below w.heap.size w (w.alloc (.cells #[.int .u8 5, .int .i64 ag, .int .u64 v] 42)) := (Below.refl _ _).alloc (Nat.le_refl _) _
  have KW := Lib.hid h
  have K0 := Lib.hid (h.below hb0)
  have F0 := Lib.hid (h.frB hb0)
  have B0 := Lib.hid hb0
  have kw : wrap64 (b.s.pc + 1) = b.s.pc + 1 := by unfold wrap64; omega
  have HPC := Lib.hid (show I64 (b.s.pc + 1) from ⟨by omega, by omega⟩)
  have lg : g < w.heap.size := h.wk.lt
  have ne1 : g ≠ w.heap.size := by omega
  have ne2 : w.heap.size ≠ g := by omega
  obtain ⟨y9, y10, y11⟩ := h.b9
  have y1 := h.wk.at.2.1
  have z1 := h.wk.fz 1
  have z9 := h.wk.fz 9
  have z10 := h.wk.fz 10
  have z11 := h.wk.fz 11
  have q1 := eql_nil
  have q2 := neq_nil
  have q3 := eql_fun
  have q4 := neq_fun
  have X0 := Lib.hid (show (w.alloc (.cells #[.int .u8 5, .int .i64 ag, .int .u64 v] 42)).heap[w.heap.size]? = some (.cells #[.int .u8 5, .int .i64 ag, .int .u64 v] 42 (0, 0)) from heap_alloc_new w _)
  have HC := Lib.hid (fun w1 (h1 : WK (BF B ms Ab Aa) w1 g 91 (bX Ab ms.length cb Aa b.arms.length ca b.kind) I b.s b.hp p) => touch_sp 5 ag v (by simp) hx hag hpc hn hhp w1 h1)
  clear hx hag
  clear hb0 h hpc
  go_enter Try.func49, Try.ntmps49
  go_wp2_with fail
  have KA := Lib.hid K0.out
  generalize (w.alloc (.cells #[.int .u8 5, .int .i64 ag, .int .u64 v] 42)) = w1 at KA F0 X0 ⊢
  have xb0 : w1.cell? ⟨w.heap.size, 0, none⟩ = some (.int .u8 5) := hp_cell X0.out 0
  have xb1 : w1.cell? ⟨w.heap.size, 1, none⟩ = some (.int .i64 ag) := hp_cell X0.out 1
  have xb2 : w1.cell? ⟨w.heap.size, 2, none⟩ = some (.int .u64 v) := hp_cell X0.out 2
  refine quiet_tail 4 (by kernel_rfl) (by kernel_rfl) ?_
  simp only [List.take_succ_cons, List.take_zero, List.drop_succ_cons, List.drop_zero]
  repeat (go_big_quiet_step (fail))
  refine wpQuiet_nil ?_
  have KD := Lib.hid (KA.out.below ((Below.refl _ _).drew))
  have FD := Lib.hid (F0.out.trans (Fr.drew1 _ w1))
  cases hr : touchF ⟨5, ag, v⟩ b.s b.hp with
  | error n =>
    have HC' := Lib.hid (HC.out _ KD.out.wk)
    rw [hr] at HC'
    have HR := Lib.hid hr
    clear hr
    go_wp2_with (go_at_call 79; refine (HC'.out).mono ?_; rintro e w2 ⟨hf2, he⟩; (obtain rfl : e = .panicked (stopP n) := he); have F2 := Lib.hid hf2; clear hf2)
    refine ⟨rfl, FD.out.trans (F2.out.mono (fun k hk => .inl hk)), ?_⟩
    rw [HR.out]
    rfl
  | ok q =>
    have HC' := Lib.hid (HC.out _ KD.out.wk)
    rw [hr] at HC'
    have HR := Lib.hid hr
    clear hr
    go_wp2_with (go_at_call 79; refine (HC'.out).mono ?_; rintro e w2 ⟨hf2, he, p2, hk2⟩; (obtain rfl := he); have F2 := Lib.hid hf2; have K2 := Lib.hid (KD.out.walk hf2 hk2); clear hf2 hk2)
    go_end0
    refine ⟨FD.out.trans (F2.out.mono (fun k hk => .inl hk)), ?_⟩
    rw [HR.out]
    exact ⟨rfl, _, _, _, _, _, _, K2.out⟩
set_option maxRecDepth 20000 in
set_option maxHeartbeats 8000000 in
theorem blk_touch6 (ag v : Int) (hx : Ins3.ok ⟨6, ag, v⟩) (hag : 0 ≤ ag ∧ ag < 64) (hn : b.s.stk.length ≤ 800) (hhp : b.hp.length ≤ 1000) (hpc : 0 ≤ b.s.pc ∧ b.s.pc < 1000) (h : BK B w g I b p ms Ab cb Aa ca) :
    Calls Try.prog 49 #[.pointer (some ⟨g, 0, none⟩), .agg #[.int .u8 6, .int .i64 ag, .int .u64 v]] w (BRes B w g I ((touchF ⟨6, ag, v⟩ b.s b.hp).map fun q => { b with s := q.1, hp := q.2 })) := by
  have hb0 : Below w.heap.size w (w.alloc (.cells #[.int .u8 6, .int .i64 ag, .int .u64 v] 42)) := (Below.refl _ _).alloc (Nat.le_refl _) _
  have KW := Lib.hid h
  have K0 := Lib.hid (h.below hb0)
  have F0 := Lib.hid (h.frB hb0)
  have B0 := Lib.hid hb0
  have kw : wrap64 (b.s.pc + 1) = b.s.pc + 1 := by unfold wrap64; omega
  have HPC := Lib.hid (show I64 (b.s.pc + 1) from ⟨by omega, by omega⟩)
  have lg : g < w.heap.size := h.wk.lt
  have ne1 : g ≠ w.heap.size := by omega
  have ne2 : w.heap.size ≠ g := by omega
  obtain ⟨y9, y10, y11⟩ := h.b9
  have y1 := h.wk.at.2.1
  have z1 := h.wk.fz 1
  have z9 := h.wk.fz 9
  have z10 := h.wk.fz 10
  have z11 := h.wk.fz 11
  have q1 := eql_nil
  have q2 := neq_nil
  have q3 := eql_fun
  have q4 := neq_fun
  have X0 := Lib.hid (show (w.alloc (.cells #[.int .u8 6, .int .i64 ag, .int .u64 v] 42)).heap[w.heap.size]? = some (.cells #[.int .u8 6, .int .i64 ag, .int .u64 v] 42 (0, 0)) from heap_alloc_new w _)
  have HC := Lib.hid (fun w1 (h1 : WK (BF B ms Ab Aa) w1 g 91 (bX Ab ms.length cb Aa b.arms.length ca b.kind) I b.s b.hp p) => touch_sp 6 ag v (by simp) hx hag hpc hn hhp w1 h1)
  clear hx hag
  clear hb0 h hpc
  go_enter Try.func49, Try.ntmps49
  go_wp2_with fail
  have KA := Lib.hid K0.out
  generalize (w.alloc (.cells #[.int .u8 6, .int .i64 ag, .int .u64 v] 42)) = w1 at KA F0 X0 ⊢
  have xb0 : w1.cell? ⟨w.heap.size, 0, none⟩ = some (.int .u8 6) := hp_cell X0.out 0
  have xb1 : w1.cell? ⟨w.heap.size, 1, none⟩ = some (.int .i64 ag) := hp_cell X0.out 1
  have xb2 : w1.cell? ⟨w.heap.size, 2, none⟩ = some (.int .u64 v) := hp_cell X0.out 2
  refine quiet_tail 4 (by kernel_rfl) (by kernel_rfl) ?_
  simp only [List.take_succ_cons, List.take_zero, List.drop_succ_cons, List.drop_zero]
  repeat (go_big_quiet_step (fail))
  refine wpQuiet_nil ?_
  have KD := Lib.hid (KA.out.below ((Below.refl _ _).drew))
  have FD := Lib.hid (F0.out.trans (Fr.drew1 _ w1))
  cases hr : touchF ⟨6, ag, v⟩ b.s b.hp with
  | error n =>
    have HC' := Lib.hid (HC.out _ KD.out.wk)
    rw [hr] at HC'
    have HR := Lib.hid hr
    clear hr
    go_wp2_with (go_at_call 79; refine (HC'.out).mono ?_; rintro e w2 ⟨hf2, he⟩; (obtain rfl : e = .panicked (stopP n) := he); have F2 := Lib.hid hf2; clear hf2)
    refine ⟨rfl, FD.out.trans (F2.out.mono (fun k hk => .inl hk)), ?_⟩
    rw [HR.out]
    rfl
  | ok q =>
    have HC' := Lib.hid (HC.out _ KD.out.wk)
    rw [hr] at HC'
    have HR := Lib.hid hr
    clear hr
    go_wp2_with (go_at_call 79; refine (HC'.out).mono ?_; rintro e w2 ⟨hf2, he, p2, hk2⟩; (obtain rfl := he); have F2 := Lib.hid hf2; have K2 := Lib.hid (KD.out.walk hf2 hk2); clear hf2 hk2)
    go_end0
    refine ⟨FD.out.trans (F2.out.mono (fun k hk => .inl hk)), ?_⟩
    rw [HR.out]
    exact ⟨rfl, _, _, _, _, _, _, K2.out⟩
set_option maxRecDepth 20000 in
set_option maxHeartbeats 8000000 in
theorem blk_touch7 (ag v : Int) (hx : Ins3.ok ⟨7, ag, v⟩) (hag : 0 ≤ ag ∧ ag < 64) (hn : b.s.stk.length ≤ 800) (hhp : b.hp.length ≤ 1000) (hpc : 0 ≤ b.s.pc ∧ b.s.pc < 1000) (h : BK B w g I b p ms Ab cb Aa ca) :
    Calls Try.prog 49 #[.pointer (some ⟨g, 0, none⟩), .agg #[.int .u8 7, .int .i64 ag, .int .u64 v]] w (BRes B w g I ((touchF ⟨7, ag, v⟩ b.s b.hp).map fun q => { b with s := q.1, hp := q.2 })) := by
  have hb0 : Below w.heap.size w (w.alloc (.cells #[.int .u8 7, .int .i64 ag, .int .u64 v] 42)) := (Below.refl _ _).alloc (Nat.le_refl _) _
  have KW := Lib.hid h
  have K0 := Lib.hid (h.below hb0)
  have F0 := Lib.hid (h.frB hb0)
  have B0 := Lib.hid hb0
  have kw : wrap64 (b.s.pc + 1) = b.s.pc + 1 := by unfold wrap64; omega
  have HPC := Lib.hid (show I64 (b.s.pc + 1) from ⟨by omega, by omega⟩)
  have lg : g < w.heap.size := h.wk.lt
  have ne1 : g ≠ w.heap.size := by omega
  have ne2 : w.heap.size ≠ g := by omega
  obtain ⟨y9, y10, y11⟩ := h.b9
  have y1 := h.wk.at.2.1
  have z1 := h.wk.fz 1
  have z9 := h.wk.fz 9
  have z10 := h.wk.fz 10
  have z11 := h.wk.fz 11
  have q1 := eql_nil
  have q2 := neq_nil
  have q3 := eql_fun
  have q4 := neq_fun
  have X0 := Lib.hid (show (w.alloc (.cells #[.int .u8 7, .int .i64 ag, .int .u64 v] 42)).heap[w.heap.size]? = some (.cells #[.int .u8 7, .int .i64 ag, .int .u64 v] 42 (0, 0)) from heap_alloc_new w _)
  have HC := Lib.hid (fun w1 (h1 : WK (BF B ms Ab Aa) w1 g 91 (bX Ab ms.length cb Aa b.arms.length ca b.kind) I b.s b.hp p) => touch_sp 7 ag v (by simp) hx hag hpc hn hhp w1 h1)
  clear hx hag
  clear hb0 h hpc
  go_enter Try.func49, Try.ntmps49
  go_wp2_with fail
  have KA := Lib.hid K0.out
  generalize (w.alloc (.cells #[.int .u8 7, .int .i64 ag, .int .u64 v] 42)) = w1 at KA F0 X0 ⊢
  have xb0 : w1.cell? ⟨w.heap.size, 0, none⟩ = some (.int .u8 7) := hp_cell X0.out 0
  have xb1 : w1.cell? ⟨w.heap.size, 1, none⟩ = some (.int .i64 ag) := hp_cell X0.out 1
  have xb2 : w1.cell? ⟨w.heap.size, 2, none⟩ = some (.int .u64 v) := hp_cell X0.out 2
  refine quiet_tail 4 (by kernel_rfl) (by kernel_rfl) ?_
  simp only [List.take_succ_cons, List.take_zero, List.drop_succ_cons, List.drop_zero]
  repeat (go_big_quiet_step (fail))
  refine wpQuiet_nil ?_
  have KD := Lib.hid (KA.out.below ((Below.refl _ _).drew))
  have FD := Lib.hid (F0.out.trans (Fr.drew1 _ w1))
  cases hr : touchF ⟨7, ag, v⟩ b.s b.hp with
  | error n =>
    have HC' := Lib.hid (HC.out _ KD.out.wk)
    rw [hr] at HC'
    have HR := Lib.hid hr
    clear hr
    go_wp2_with (go_at_call 79; refine (HC'.out).mono ?_; rintro e w2 ⟨hf2, he⟩; (obtain rfl : e = .panicked (stopP n) := he); have F2 := Lib.hid hf2; clear hf2)
    refine ⟨rfl, FD.out.trans (F2.out.mono (fun k hk => .inl hk)), ?_⟩
    rw [HR.out]
    rfl
  | ok q =>
    have HC' := Lib.hid (HC.out _ KD.out.wk)
    rw [hr] at HC'
    have HR := Lib.hid hr
    clear hr
    go_wp2_with (go_at_call 79; refine (HC'.out).mono ?_; rintro e w2 ⟨hf2, he, p2, hk2⟩; (obtain rfl := he); have F2 := Lib.hid hf2; have K2 := Lib.hid (KD.out.walk hf2 hk2); clear hf2 hk2)
    go_end0
    refine ⟨FD.out.trans (F2.out.mono (fun k hk => .inl hk)), ?_⟩
    rw [HR.out]
    exact ⟨rfl, _, _, _, _, _, _, K2.out⟩
set_option maxRecDepth 20000 in
set_option maxHeartbeats 8000000 in
theorem blk_plain (n c : Nat) (A : Option Addr) (hI : I = .slice A n c) (o : Int) (ag v : Int) (ho : o ≠ 22 ∧ o ≠ 26 ∧ o ≠ 23 ∧ o ≠ 24 ∧ o ≠ 25 ∧ o ≠ 4 ∧ o ≠ 5 ∧ o ≠ 6 ∧ o ≠ 7 ∧ o ≠ 27 ∧ o ≠ 28 ∧ o ≠ 21) (hx : Ins3.ok ⟨o, ag, v⟩) (hrt : rightI ⟨o, ag, v⟩ = true) (hn : b.s.stk.length ≤ 800) (hro : b.s.out.length ≤ 800) (hpc : 0 ≤ b.s.pc ∧ b.s.pc < 1000) (h : BK B w g I b p ms Ab cb Aa ca) :
    Calls Try.prog 49 #[.pointer (some ⟨g, 0, none⟩), .agg #[.int .u8 o, .int .i64 ag, .int .u64 v]] w (BRes B w g I ((plainF n ⟨o, ag, v⟩ b.s).map fun t => { b with s := t })) := by
  have hb0 : Below w.heap.size w (w.alloc (.cells #[.int .u8 o, .int .i64 ag, .int .u64 v] 42)) := (Below.refl _ _).alloc (Nat.le_refl _) _
  have KW := Lib.hid h
  have K0 := Lib.hid (h.below hb0)
  have F0 := Lib.hid (h.frB hb0)
  have B0 := Lib.hid hb0
  have kw : wrap64 (b.s.pc + 1) = b.s.pc + 1 := by unfold wrap64; omega
  have HPC := Lib.hid (show I64 (b.s.pc + 1) from ⟨by omega, by omega⟩)
  have lg : g < w.heap.size := h.wk.lt
  have ne1 : g ≠ w.heap.size := by omega
  have ne2 : w.heap.size ≠ g := by omega
  obtain ⟨y9, y10, y11⟩ := h.b9
  have y1 := h.wk.at.2.1
  have z1 := h.wk.fz 1
  have z9 := h.wk.fz 9
  have z10 := h.wk.fz 10
  have z11 := h.wk.fz 11
  have q1 := eql_nil
  have q2 := neq_nil
  have q3 := eql_fun
  have q4 := neq_fun
  have X0 := Lib.hid (show (w.alloc (.cells #[.int .u8 o, .int .i64 ag, .int .u64 v] 42)).heap[w.heap.size]? = some (.cells #[.int .u8 o, .int .i64 ag, .int .u64 v] 42 (0, 0)) from heap_alloc_new w _)
  subst hI
  have HC := Lib.hid (fun w1 (h1 : WK (BF B ms Ab Aa) w1 g 91 (bX Ab ms.length cb Aa b.arms.length ca b.kind) (.slice A n c) b.s b.hp p) => plain_sp n c A ⟨o, ag, v⟩ hx hrt hpc hn hro w1 h1)
  obtain ⟨o22, o26, o23, o24, o25, o4, o5, o6, o7, o27, o28, o21⟩ := ho
  have t22 : (o == 22) = false := beq_eq_false_iff_ne.2 o22
  have t26 : (o == 26) = false := beq_eq_false_iff_ne.2 o26
  have t23 : (o == 23) = false := beq_eq_false_iff_ne.2 o23
  have t24 : (o == 24) = false := beq_eq_false_iff_ne.2 o24
  have t25 : (o == 25) = false := beq_eq_false_iff_ne.2 o25
  have t4 : (o == 4) = false := beq_eq_false_iff_ne.2 o4
  have t5 : (o == 5) = false := beq_eq_false_iff_ne.2 o5
  have t6 : (o == 6) = false := beq_eq_false_iff_ne.2 o6
  have t7 : (o == 7) = false := beq_eq_false_iff_ne.2 o7
  have t27 : (o == 27) = false := beq_eq_false_iff_ne.2 o27
  have t28 : (o == 28) = false := beq_eq_false_iff_ne.2 o28
  have t21 : (o == 21) = false := beq_eq_false_iff_ne.2 o21
  clear hx hrt o22 o26 o23 o24 o25 o4 o5 o6 o7 o27 o28 o21
  clear hb0 h hpc
  go_enter Try.func49, Try.ntmps49
  go_wp2_with fail
  have KA := Lib.hid K0.out
  generalize (w.alloc (.cells #[.int .u8 o, .int .i64 ag, .int .u64 v] 42)) = w1 at KA F0 X0 ⊢
  have xb0 : w1.cell? ⟨w.heap.size, 0, none⟩ = some (.int .u8 o) := hp_cell X0.out 0
  have xb1 : w1.cell? ⟨w.heap.size, 1, none⟩ = some (.int .i64 ag) := hp_cell X0.out 1
  have xb2 : w1.cell? ⟨w.heap.size, 2, none⟩ = some (.int .u64 v) := hp_cell X0.out 2
  refine quiet_tail 4 (by kernel_rfl) (by kernel_rfl) ?_
  simp only [List.take_succ_cons, List.take_zero, List.drop_succ_cons, List.drop_zero]
  repeat (go_big_quiet_step (fail))
  refine wpQuiet_nil ?_
  have KD := Lib.hid (KA.out.below ((Below.refl _ _).drew))
  have FD := Lib.hid (F0.out.trans (Fr.drew1 _ w1))
  cases hr : plainF n ⟨o, ag, v⟩ b.s with
  | error e0 =>
    have HC' := Lib.hid (HC.out _ KD.out.wk)
    rw [hr] at HC'
    have HR := Lib.hid hr
    clear hr
    go_wp2_with (go_at_call 31; refine (HC'.out).mono ?_; rintro e w2 ⟨hf2, he⟩; (obtain rfl : e = .panicked (stopP e0) := he); have F2 := Lib.hid hf2; clear hf2)
    refine ⟨rfl, FD.out.trans (F2.out.mono (fun k hk => .inl hk)), ?_⟩
    rw [HR.out]
    rfl
  | ok q =>
    have HC' := Lib.hid (HC.out _ KD.out.wk)
    rw [hr] at HC'
    have HR := Lib.hid hr
    clear hr
    go_wp2_with (go_at_call 31; refine (HC'.out).mono ?_; rintro e w2 ⟨hf2, he, p2, hk2⟩; (obtain rfl := he); have F2 := Lib.hid hf2; have K2 := Lib.hid (KD.out.walk hf2 hk2); clear hf2 hk2)
    go_end0
    refine ⟨FD.out.trans (F2.out.mono (fun k hk => .inl hk)), ?_⟩
    rw [HR.out]
    exact ⟨rfl, _, _, _, _, _, _, K2.out⟩
/-- A step of a block. -/
theorem blk_sp (n c : Nat) (A : Option Addr) (hI : I = .slice A n c) (x : Ins3) (hx : x.ok) (hr : rightI x = true) (hpc : 0 ≤ b.s.pc ∧ b.s.pc < 1000) (hn : b.s.stk.length ≤ 800) (hro : b.s.out.length ≤ 800) (hhp : b.hp.length ≤ 1000) (hml : b.ms.length ≤ 900) (hal : b.arms.length ≤ 900) (h : BK B w g I b p ms Ab cb Aa ca) :
    Calls Try.prog 49 #[.pointer (some ⟨g, 0, none⟩), inV x] w (BRes B w g I (stepB n x b)) := by
  obtain ⟨r1, r2, r3⟩ := right_parts hr
  obtain ⟨o, ag, v⟩ := x
  dsimp only at r1 r2 r3
  have hag : 0 ≤ ag ∧ ag < 64 := by
    refine ⟨r2, Int.lt_of_lt_of_le r3 ?_⟩
    unfold limI
    cases (o == 2) <;> cases (o == 3) <;> cases (o == 4) <;> cases (o == 5) <;> cases (o == 6) <;> cases (o == 7) <;> decide
  have hlm : b.ms.length = ms.length := by rw [h.ma, List.length_map]
  have hlast : ∀ {ms' m}, ms = ms' ++ [m] → b.ms.getLast? = some m.plain := fun e => by rw [h.ma, e, List.map_append]; simp
  have hnone : ms = [] → b.ms.getLast? = none := fun e => by rw [h.ma, e]; rfl
  unfold stepB inV
  dsimp only
  by_cases e22 : o = 22
  · subst e22; exact blk_end ag v hpc h
  rw [if_neg e22]
  by_cases e26 : o = 26
  · subst e26
    rw [if_pos rfl]
    rcases List.eq_nil_or_concat ms with hm | ⟨ms', m, hm⟩
    · rw [hnone hm]; exact blk_retry0 ag v hm hpc h
    · rw [List.concat_eq_append] at hm
      rw [hlast hm]; exact blk_retry1 ag v m ms' hm (by rw [hlm, hm] at hml; simp at hml; omega) hpc h
  rw [if_neg e26]
  by_cases e23 : o = 23
  · subst e23; exact blk_orelse ag v hag hn hro hhp (by omega) hpc h
  rw [if_neg e23]
  by_cases e24 : o = 24
  · subst e24
    rw [if_pos rfl]
    rcases List.eq_nil_or_concat ms with hm | ⟨ms', m, hm⟩
    · rw [hnone hm]; exact blk_else0 ag v hm hpc h
    · rw [List.concat_eq_append] at hm
      rw [hlast hm]; exact blk_else1 ag v hag hal m ms' hm (by rw [hlm, hm] at hml; simp at hml; omega) hpc h
  rw [if_neg e24]
  by_cases e25 : o = 25
  · subst e25; exact blk_endor ag v hal hpc h
  rw [if_neg e25]
  by_cases e4 : o = 4 ∨ o = 5 ∨ o = 6 ∨ o = 7
  · rw [if_pos e4]
    rcases e4 with rfl | rfl | rfl | rfl
    · exact blk_touch4 ag v hx hag hn hhp hpc h
    · exact blk_touch5 ag v hx hag hn hhp hpc h
    · exact blk_touch6 ag v hx hag hn hhp hpc h
    · exact blk_touch7 ag v hx hag hn hhp hpc h
  rw [if_neg e4]
  by_cases e27 : o = 27 ∨ o = 28 ∨ o = 21
  · rw [if_pos e27]
    rcases e27 with rfl | rfl | rfl
    · exact blk_bad27 ag v hpc h
    · exact blk_bad28 ag v hpc h
    · exact blk_bad21 ag v hpc h
  rw [if_neg e27]
  exact blk_plain n c A hI o ag v (by omega) hx hr hn hro hpc h
end
end Go.Proofs.Ytlgpjcdlomhlcaa
