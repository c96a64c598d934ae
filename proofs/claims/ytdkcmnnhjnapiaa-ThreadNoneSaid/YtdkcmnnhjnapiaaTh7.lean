
/-
  A thread: Give.
-/
import Derived.Test.YtdkcmnnhjnapiaaTh6
import Derived.Deep.RegionLawGrows
namespace Go.Proofs.Ytdkcmnnhjnapiaa
open Go.RowKit Go.ChangeShapes Go.WideShapes
set_option linter.unusedSimpArgs false
set_option linter.unusedVariables false

theorem newAt1 {W : World} {n : Nat} {x : Value} {t : TypeId} (h : W.heap[n]? = some (.cells #[x] t (0, 0))) : ∀ (j : Nat) (u : Value), [x][j]? = some u → W.cell? ((⟨n, 0, none⟩ : Addr).add j) = some u := by
  intro j u hj
  cases j with
  | zero => (simp at hj; subst hj; rw [add_at, hp_cell h]; rfl)
  | succ j => simp at hj
theorem TFr.grown {t f : Nat} {w w1 : World} (h : w.grownBy w1 none) : TFr t f w w1 := ⟨h.os, h.tape, h.output, h.size, fun k hk => h.block k hk.2.2 (by simp)⟩
theorem bl_grown {w w1 : World} (h : w.grownBy w1 none) : Below w.heap.size w w1 := ⟨h.os, h.tape, h.output, h.size, fun k hk => h.block k hk (by simp)⟩
theorem give_after {W w w2 Wc w1 : World} {t f p n c : Nat} {iv v' : Value} {l : List Ins3} {s : St} {A1 : Option Addr} {c1 : Nat} {x : Int} (T : w2.heap[t]? = some (.cells (thC f p n c iv 0 0 0 0 0) 56 (0, 0))) (R : RsX W w2 t f p l s A1 c1) (F : TFr t f w w2) (hb : Below w2.heap.size w2 Wc) (hx : W64 x)
    (hown : w1.ownsRow Wc.heap.size 23 1 v' 1 [.int .u64 x]) (hgrow : Wc.grownBy w1 none) :
    ∃ A' c', v' = .slice A' 1 c' ∧ Hid (RowAt w1 0 A' c' [x]) ∧ Hid (w1.heap[t]? = some (.cells (thC f p n c iv 0 0 0 0 0) 56 (0, 0))) ∧ Hid (RsX W w1 t f p l s A1 c1) ∧ Hid (TFr t f w w1) ∧ w1.cell? ⟨f, 1, none⟩ = some (.slice A1 s.stk.length c1) ∧ w1.frozen? ⟨f, 1, none⟩ = false ∧ f < w1.heap.size ∧ w1.cell? ⟨t, 0, none⟩ = some (.pointer (some ⟨f, 0, none⟩)) ∧ t < w1.heap.size := by
  have hb1 : Below w2.heap.size w2 w1 := hb.trans ((bl_grown hgrow).mono hb.size)
  obtain ⟨A', c', rfl, hr⟩ := row_of (l := [x]) hown (fun y hy => by rw [List.mem_singleton.mp hy]; exact hx)
  have T1 := hp_below T hb1
  have R1 := R.below hb1
  exact ⟨A', c', rfl, row_base hr (Nat.zero_le _), T1, R1, F.trans (TFr.of hb1), hp_cell R1.hf 1, hp_frozen R1.hf 1, hp_lt R1.hf, hp_cell T1 0, hp_lt T1⟩
set_option maxRecDepth 20000 in
set_option maxHeartbeats 8000000 in
theorem block_some (t f p n c b : Nat) (k ak tv v e : Int) (w : World) (ht : w.heap[t]? = some (.cells (thC f p n c (.iface 61 (.pointer (some ⟨b, 0, none⟩))) k ak tv v e) 56 (0, 0))) :
    Calls Try.prog 24 #[.pointer (some ⟨t, 0, none⟩)] w fun e w' => e = .returned (.pointer (some ⟨b, 0, none⟩)) ∧ w = w' := by
  have hta : ∀ w : World, (Instr.typeAssert (.iface 61 (.pointer (some ⟨b, 0, none⟩))) 20 61 true).run Try.prog w = .ok (.tuple #[.pointer (some ⟨b, 0, none⟩), .bool true]) w := by intro w; kernel_rfl
  have u2 : w.cell? ⟨t, 2, none⟩ = some (.iface 61 (.pointer (some ⟨b, 0, none⟩))) := hp_cell ht 2
  have ul := hp_lt ht
  clear ht
  go_enter Try.func24, Try.ntmps24
  go_wp2_with fail
  go_ret
  exact ⟨rfl, rfl⟩
def GivePost (W w : World) (t f p n c : Nat) (iv : Value) (l : List Ins3) (s : St) (x : Ending) (w' : World) : Prop := x = .returned (.int .i64 0) ∧ ∃ A2 c2, w'.heap[t]? = some (.cells (thC f p n c iv 0 0 0 0 0) 56 (0, 0)) ∧ RsX W w' t f p l s A2 c2 ∧ TFr t f w w'
set_option maxRecDepth 20000 in
set_option maxHeartbeats 8000000 in
theorem give_read (W : World) (t f p n c b : Nat) (l : List Ins3) (s : St) (A1 : Option Addr) (c1 : Nat) (j : Nat) (hj : s.pc = (j : Int)) (hj64 : j ≤ 64) (tv v e x : Int) (hsk : s.stk = []) (hx : W64 x) (w : World) (ht : w.heap[t]? = some (.cells (thC f p n c (.iface 61 (.pointer (some ⟨b, 0, none⟩))) 2 1 tv v e) 56 (0, 0))) (hr : RsX W w t f p l s A1 c1) :
    Calls Try.prog 7 #[.pointer (some ⟨t, 0, none⟩), .int .u64 x] w (GivePost W w t f p n c (.iface 61 (.pointer (some ⟨b, 0, none⟩))) l { s with pc := (j : Int) + 1, stk := [canon x] }) := by
  have T1 := Lib.hid ht
  have R1 := Lib.hid hr
  have y0 : w.cell? ⟨t, 0, none⟩ = some (.pointer (some ⟨f, 0, none⟩)) := hp_cell (ht) 0; have yz0 := hp_frozen (ht) 0; have y1 : w.cell? ⟨t, 1, none⟩ = some (.slice (some ⟨p, 0, none⟩) n c) := hp_cell (ht) 1; have yz1 := hp_frozen (ht) 1; have y2 : w.cell? ⟨t, 2, none⟩ = some (.iface 61 (.pointer (some ⟨b, 0, none⟩))) := hp_cell (ht) 2; have yz2 := hp_frozen (ht) 2; have y3 : w.cell? ⟨t, 3, none⟩ = some (.int .u8 2) := hp_cell (ht) 3; have yz3 := hp_frozen (ht) 3; have y4 : w.cell? ⟨t, 4, none⟩ = some (.int .u8 1) := hp_cell (ht) 4; have yz4 := hp_frozen (ht) 4; have y5 : w.cell? ⟨t, 5, none⟩ = some (.int .i64 tv) := hp_cell (ht) 5; have yz5 := hp_frozen (ht) 5; have y6 : w.cell? ⟨t, 6, none⟩ = some (.int .u64 v) := hp_cell (ht) 6; have yz6 := hp_frozen (ht) 6; have y7 : w.cell? ⟨t, 7, none⟩ = some (.int .i64 e) := hp_cell (ht) 7; have yz7 := hp_frozen (ht) 7; have y8 : w.cell? ⟨t, 8, none⟩ = some (.slice none 0 0) := hp_cell (ht) 8; have yz8 := hp_frozen (ht) 8; have yl := hp_lt (ht)
  have HJ := Lib.hid hj
  clear ht hr hj
  have d1 : wrap64 ((j : Int) + 1) = (j : Int) + 1 := by unfold wrap64; omega
  go_enter Try.func7, Try.ntmps7
  go_upto_region 7 with fail
  have a0 := hp_put (cs' := #[.pointer (some ⟨f, 0, none⟩), .slice (some ⟨p, 0, none⟩) n c, .iface 61 (.pointer (some ⟨b, 0, none⟩)), .int .u8 0, .int .u8 1, .int .i64 tv, .int .u64 v, .int .i64 e, .slice none 0 0]) T1.out 3 (.int .u8 0) (by simp [thC])
  have b0 := R1.out.set T1.out (by decide) (by decide) (by decide) R1.out.bt 3 (.int .u8 0)
  have e0 := TFr.trans (TFr.of (t := t) (f := f) (Below.refl w.heap.size w)) (TFr.setT (w) 3 (.int .u8 0))
  have a1 := hp_put (cs' := #[.pointer (some ⟨f, 0, none⟩), .slice (some ⟨p, 0, none⟩) n c, .iface 61 (.pointer (some ⟨b, 0, none⟩)), .int .u8 0, .int .u8 0, .int .i64 tv, .int .u64 v, .int .i64 e, .slice none 0 0]) a0 4 (.int .u8 0) (by simp [thC])
  have b1 := b0.set a0 (by decide) (by decide) (by decide) b0.bt 4 (.int .u8 0)
  have e1 := TFr.trans e0 (TFr.setT ((w).setCell ⟨t, 3, none⟩ (.int .u8 0)) 4 (.int .u8 0))
  have a2 := hp_put (cs' := #[.pointer (some ⟨f, 0, none⟩), .slice (some ⟨p, 0, none⟩) n c, .iface 61 (.pointer (some ⟨b, 0, none⟩)), .int .u8 0, .int .u8 0, .int .i64 0, .int .u64 v, .int .i64 e, .slice none 0 0]) a1 5 (.int .i64 0) (by simp [thC])
  have b2 := b1.set a1 (by decide) (by decide) (by decide) b1.bt 5 (.int .i64 0)
  have e2 := TFr.trans e1 (TFr.setT (((w).setCell ⟨t, 3, none⟩ (.int .u8 0)).setCell ⟨t, 4, none⟩ (.int .u8 0)) 5 (.int .i64 0))
  have a3 := hp_put (cs' := #[.pointer (some ⟨f, 0, none⟩), .slice (some ⟨p, 0, none⟩) n c, .iface 61 (.pointer (some ⟨b, 0, none⟩)), .int .u8 0, .int .u8 0, .int .i64 0, .int .u64 0, .int .i64 e, .slice none 0 0]) a2 6 (.int .u64 0) (by simp [thC])
  have b3 := b2.set a2 (by decide) (by decide) (by decide) b2.bt 6 (.int .u64 0)
  have e3 := TFr.trans e2 (TFr.setT ((((w).setCell ⟨t, 3, none⟩ (.int .u8 0)).setCell ⟨t, 4, none⟩ (.int .u8 0)).setCell ⟨t, 5, none⟩ (.int .i64 0)) 6 (.int .u64 0))
  have a4 := hp_put (cs' := #[.pointer (some ⟨f, 0, none⟩), .slice (some ⟨p, 0, none⟩) n c, .iface 61 (.pointer (some ⟨b, 0, none⟩)), .int .u8 0, .int .u8 0, .int .i64 0, .int .u64 0, .int .i64 0, .slice none 0 0]) a3 7 (.int .i64 0) (by simp [thC])
  have b4 := b3.set a3 (by decide) (by decide) (by decide) b3.bt 7 (.int .i64 0)
  have e4 := TFr.trans e3 (TFr.setT (((((w).setCell ⟨t, 3, none⟩ (.int .u8 0)).setCell ⟨t, 4, none⟩ (.int .u8 0)).setCell ⟨t, 5, none⟩ (.int .i64 0)).setCell ⟨t, 6, none⟩ (.int .u64 0)) 7 (.int .i64 0))
  have T2 := Lib.hid a4
  have R2 := Lib.hid b4
  have F2 := Lib.hid e4
  clear a0 a1 a2 a3 a4 b0 b1 b2 b3 b4 e0 e1 e2 e3 e4 T1 R1 y0 yz0 y1 yz1 y2 yz2 y3 yz3 y4 yz4 y5 yz5 y6 yz6 y7 yz7 y8 yz8 yl
  generalize (((((w).setCell ⟨t, 3, none⟩ (.int .u8 0)).setCell ⟨t, 4, none⟩ (.int .u8 0)).setCell ⟨t, 5, none⟩ (.int .i64 0)).setCell ⟨t, 6, none⟩ (.int .u64 0)).setCell ⟨t, 7, none⟩ (.int .i64 0) = w2 at T2 R2 F2 ⊢
  have u0 : w2.cell? ⟨t, 0, none⟩ = some (.pointer (some ⟨f, 0, none⟩)) := hp_cell T2.out 0
  have ul := hp_lt T2.out
  have x0 : w2.cell? ⟨f, 0, none⟩ = some (.int .i64 (j : Int)) := by rw [← HJ.out]; exact hp_cell R2.out.hf 0
  have xz0 := hp_frozen R2.out.hf 0
  have xl := hp_lt R2.out.hf
  have x1 : w2.cell? ⟨f, 1, none⟩ = some (.slice A1 0 c1) := by have := hp_cell R2.out.hf 1; rw [this]; simp [stC, hsk]
  have HA := Lib.hid (show A1 = none → c1 = 0 from (row_cap R2.out.row).2)
  have HW := Lib.hid (canon_w64 hx)
  have HX := Lib.hid hx
  clear hsk hx
  obtain ⟨i0, hi, hz0, hz1, hz2⟩ := info_parts Val_info
  have HI := Lib.hid hi
  have HZ0 := Lib.hid hz0
  have HZ1 := Lib.hid hz1
  have HZ2 := Lib.hid hz2
  clear hi hz0 hz1 hz2
  go_upto_region 11 with (go_at_call 24; refine (block_some t f p n c b 0 0 0 0 0 w2 T2.out).mono ?_; rintro q w3 ⟨rfl, rfl⟩)
  have NE := Lib.hid (show t ≠ f from hp_ne T2.out R2.out.hf (by decide))
  go_region_law (first | (refine step_append_grows rfl (.tmp 55) (.tmp 58) 38 rfl 23 i0 (.int .u64 0) 1 8 Try.underlying38 HI.out HZ0.out HZ1.out HZ2.out rfl (by decide) A1 0 0 [] (by rfl) (fun _ => ⟨rfl, rfl⟩) rfl (fun _ _ j u hj => by simp at hj) _ 1 1 [.int .u64 (canon x)] (by rfl) (by rfl) (newAt1 (by first | exact heap_alloc_new _ _ | exact hp_drt (heap_alloc_new _ _) | exact (congrArg _ (by simp)).trans (heap_alloc_new _ _))) (by simp [Value.oneCell']) (by omega) (by unfold maxLen; omega) (by omega) ?_; intro v' w1 hown hgrow; obtain ⟨A', c', rfl, q1, q2, q3, q4, r1, r2, r3, r4, r5⟩ := give_after T2.out R2.out F2.out (by (repeat (with_reducible first | exact Below.refl _ _ | apply bl_drewN | apply Below.drew | (refine bl_alloc ?_ (by first | omega | (simp; done) | (simp; omega)) _)))) HW.out hown hgrow; clear hown hgrow) | (go_simp; go_at_call 25; refine (clip_any A1 0 c1 (Nat.zero_le _) HA.out _).mono ?_; rintro q w3 ⟨rfl, rfl⟩) | (go_simp; go_at_call 26; refine (canon_any x HX.out _).mono ?_; rintro q w3 ⟨rfl, rfl⟩))
  all_goals
    clear u0 ul x0 xz0 xl x1 T2 R2 F2
    have ne1 := NE.out
    have ne2 : f ≠ t := fun e => ne1 e.symm
    have x0 := hp_cell q3.out.hf 0
    have xz0 := hp_frozen q3.out.hf 0
    go_wp2_with fail
    go_ret
    exact ⟨rfl, A', c', hp_far (hp_far q2.out ne1 _) ne1 _, (q3.out.stk q1.out).pc _, (q4.out.trans (TFr.setF _ _ _)).trans (TFr.setF _ _ _)⟩
set_option maxRecDepth 20000 in
set_option maxHeartbeats 8000000 in
theorem give_commit (W : World) (t f p n c b : Nat) (l : List Ins3) (s : St) (A1 : Option Addr) (c1 : Nat) (j : Nat) (hj : s.pc = (j : Int)) (hj64 : j ≤ 64) (tv v e x : Int) (w : World) (ht : w.heap[t]? = some (.cells (thC f p n c (.iface 61 (.pointer (some ⟨b, 0, none⟩))) 2 6 tv v e) 56 (0, 0))) (hr : RsX W w t f p l s A1 c1) :
    Calls Try.prog 7 #[.pointer (some ⟨t, 0, none⟩), .int .u64 x] w (GivePost W w t f p n c .nilIface l { s with pc := (j : Int) + 1 }) := by
  have T1 := Lib.hid ht
  have R1 := Lib.hid hr
  have y0 : w.cell? ⟨t, 0, none⟩ = some (.pointer (some ⟨f, 0, none⟩)) := hp_cell (ht) 0; have yz0 := hp_frozen (ht) 0; have y1 : w.cell? ⟨t, 1, none⟩ = some (.slice (some ⟨p, 0, none⟩) n c) := hp_cell (ht) 1; have yz1 := hp_frozen (ht) 1; have y2 : w.cell? ⟨t, 2, none⟩ = some (.iface 61 (.pointer (some ⟨b, 0, none⟩))) := hp_cell (ht) 2; have yz2 := hp_frozen (ht) 2; have y3 : w.cell? ⟨t, 3, none⟩ = some (.int .u8 2) := hp_cell (ht) 3; have yz3 := hp_frozen (ht) 3; have y4 : w.cell? ⟨t, 4, none⟩ = some (.int .u8 6) := hp_cell (ht) 4; have yz4 := hp_frozen (ht) 4; have y5 : w.cell? ⟨t, 5, none⟩ = some (.int .i64 tv) := hp_cell (ht) 5; have yz5 := hp_frozen (ht) 5; have y6 : w.cell? ⟨t, 6, none⟩ = some (.int .u64 v) := hp_cell (ht) 6; have yz6 := hp_frozen (ht) 6; have y7 : w.cell? ⟨t, 7, none⟩ = some (.int .i64 e) := hp_cell (ht) 7; have yz7 := hp_frozen (ht) 7; have y8 : w.cell? ⟨t, 8, none⟩ = some (.slice none 0 0) := hp_cell (ht) 8; have yz8 := hp_frozen (ht) 8; have yl := hp_lt (ht)
  have HJ := Lib.hid hj
  clear ht hr hj
  have d1 : wrap64 ((j : Int) + 1) = (j : Int) + 1 := by unfold wrap64; omega
  go_enter Try.func7, Try.ntmps7
  go_upto_region 7 with fail
  have a0 := hp_put (cs' := #[.pointer (some ⟨f, 0, none⟩), .slice (some ⟨p, 0, none⟩) n c, .iface 61 (.pointer (some ⟨b, 0, none⟩)), .int .u8 0, .int .u8 6, .int .i64 tv, .int .u64 v, .int .i64 e, .slice none 0 0]) T1.out 3 (.int .u8 0) (by simp [thC])
  have b0 := R1.out.set T1.out (by decide) (by decide) (by decide) R1.out.bt 3 (.int .u8 0)
  have e0 := TFr.trans (TFr.of (t := t) (f := f) (Below.refl w.heap.size w)) (TFr.setT (w) 3 (.int .u8 0))
  have a1 := hp_put (cs' := #[.pointer (some ⟨f, 0, none⟩), .slice (some ⟨p, 0, none⟩) n c, .iface 61 (.pointer (some ⟨b, 0, none⟩)), .int .u8 0, .int .u8 0, .int .i64 tv, .int .u64 v, .int .i64 e, .slice none 0 0]) a0 4 (.int .u8 0) (by simp [thC])
  have b1 := b0.set a0 (by decide) (by decide) (by decide) b0.bt 4 (.int .u8 0)
  have e1 := TFr.trans e0 (TFr.setT ((w).setCell ⟨t, 3, none⟩ (.int .u8 0)) 4 (.int .u8 0))
  have a2 := hp_put (cs' := #[.pointer (some ⟨f, 0, none⟩), .slice (some ⟨p, 0, none⟩) n c, .iface 61 (.pointer (some ⟨b, 0, none⟩)), .int .u8 0, .int .u8 0, .int .i64 0, .int .u64 v, .int .i64 e, .slice none 0 0]) a1 5 (.int .i64 0) (by simp [thC])
  have b2 := b1.set a1 (by decide) (by decide) (by decide) b1.bt 5 (.int .i64 0)
  have e2 := TFr.trans e1 (TFr.setT (((w).setCell ⟨t, 3, none⟩ (.int .u8 0)).setCell ⟨t, 4, none⟩ (.int .u8 0)) 5 (.int .i64 0))
  have a3 := hp_put (cs' := #[.pointer (some ⟨f, 0, none⟩), .slice (some ⟨p, 0, none⟩) n c, .iface 61 (.pointer (some ⟨b, 0, none⟩)), .int .u8 0, .int .u8 0, .int .i64 0, .int .u64 0, .int .i64 e, .slice none 0 0]) a2 6 (.int .u64 0) (by simp [thC])
  have b3 := b2.set a2 (by decide) (by decide) (by decide) b2.bt 6 (.int .u64 0)
  have e3 := TFr.trans e2 (TFr.setT ((((w).setCell ⟨t, 3, none⟩ (.int .u8 0)).setCell ⟨t, 4, none⟩ (.int .u8 0)).setCell ⟨t, 5, none⟩ (.int .i64 0)) 6 (.int .u64 0))
  have a4 := hp_put (cs' := #[.pointer (some ⟨f, 0, none⟩), .slice (some ⟨p, 0, none⟩) n c, .iface 61 (.pointer (some ⟨b, 0, none⟩)), .int .u8 0, .int .u8 0, .int .i64 0, .int .u64 0, .int .i64 0, .slice none 0 0]) a3 7 (.int .i64 0) (by simp [thC])
  have b4 := b3.set a3 (by decide) (by decide) (by decide) b3.bt 7 (.int .i64 0)
  have e4 := TFr.trans e3 (TFr.setT (((((w).setCell ⟨t, 3, none⟩ (.int .u8 0)).setCell ⟨t, 4, none⟩ (.int .u8 0)).setCell ⟨t, 5, none⟩ (.int .i64 0)).setCell ⟨t, 6, none⟩ (.int .u64 0)) 7 (.int .i64 0))
  have T2 := Lib.hid a4
  have R2 := Lib.hid b4
  have F2 := Lib.hid e4
  clear a0 a1 a2 a3 a4 b0 b1 b2 b3 b4 e0 e1 e2 e3 e4 T1 R1 y0 yz0 y1 yz1 y2 yz2 y3 yz3 y4 yz4 y5 yz5 y6 yz6 y7 yz7 y8 yz8 yl
  generalize (((((w).setCell ⟨t, 3, none⟩ (.int .u8 0)).setCell ⟨t, 4, none⟩ (.int .u8 0)).setCell ⟨t, 5, none⟩ (.int .i64 0)).setCell ⟨t, 6, none⟩ (.int .u64 0)).setCell ⟨t, 7, none⟩ (.int .i64 0) = w2 at T2 R2 F2 ⊢
  have u0 : w2.cell? ⟨t, 0, none⟩ = some (.pointer (some ⟨f, 0, none⟩)) := hp_cell T2.out 0
  have ul := hp_lt T2.out
  have x0 : w2.cell? ⟨f, 0, none⟩ = some (.int .i64 (j : Int)) := by rw [← HJ.out]; exact hp_cell R2.out.hf 0
  have xz0 := hp_frozen R2.out.hf 0
  have xl := hp_lt R2.out.hf
  have y0 : w2.cell? ⟨t, 0, none⟩ = some (.pointer (some ⟨f, 0, none⟩)) := hp_cell (T2.out) 0; have yz0 := hp_frozen (T2.out) 0; have y1 : w2.cell? ⟨t, 1, none⟩ = some (.slice (some ⟨p, 0, none⟩) n c) := hp_cell (T2.out) 1; have yz1 := hp_frozen (T2.out) 1; have y2 : w2.cell? ⟨t, 2, none⟩ = some (.iface 61 (.pointer (some ⟨b, 0, none⟩))) := hp_cell (T2.out) 2; have yz2 := hp_frozen (T2.out) 2; have yl := hp_lt (T2.out)
  have NE := hp_ne T2.out R2.out.hf (by decide)
  have ne2 : f ≠ t := fun e => NE e.symm
  go_wp2_with (go_at_call 24; refine (block_some t f p n c b 0 0 0 0 0 w2 T2.out).mono ?_; rintro q w3 ⟨rfl, rfl⟩)
  go_ret
  have r1 := hp_put (cs' := thC f p n c .nilIface 0 0 0 0 0) T2.out 2 .nilIface (by simp [thC])
  have r2 := R2.out.set T2.out (by decide) (by decide) (by decide) R2.out.bt 2 .nilIface
  exact ⟨rfl, A1, c1, hp_far r1 NE _, r2.pc _, (F2.out.trans (TFr.setT _ _ _)).trans (TFr.setF _ _ _)⟩
end Go.Proofs.Ytdkcmnnhjnapiaa
