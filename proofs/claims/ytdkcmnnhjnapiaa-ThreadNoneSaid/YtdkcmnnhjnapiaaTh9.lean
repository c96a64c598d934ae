
/-
  rowlocklaw18.live.
-/
import Derived.Test.YtdkcmnnhjnapiaaTh5
import Derived.Test.YtdkcmnnhjnapiaaTh8
namespace Go.Proofs.Ytdkcmnnhjnapiaa
open Go.RowKit Go.ChangeShapes Go.WideShapes
set_option linter.unusedSimpArgs false
set_option linter.unusedVariables false

theorem inss_mk18 {w : World} {b : Nat} {l : List Ins3} {t : TypeId} (hb : w.heap[b]? = some (.cells (insC l).toArray t (0, 0))) (hok : ∀ x ∈ l, x.ok) (hl : l.length ≤ 1000) : InssAt w (some ⟨b, 0, none⟩) l := by
  refine ⟨by unfold maxLen; omega, fun j s hs => ⟨_, rfl, hok s (List.mem_of_getElem? hs), ?_⟩⟩
  have key : ∀ i u, (inC s)[i]? = some u → w.cell? ⟨b, j * 3 + i, none⟩ = some u := fun i u hu => by
    rw [hp_cell hb]
    have := insC_at l j s hs i u hu
    simpa using this
  have e : (Addr.add ⟨b, 0, none⟩ (j * 3)) = ⟨b, j * 3, none⟩ := by rw [add_at, Nat.zero_add]
  rw [e]
  exact ⟨key 0 _ rfl, key 1 _ rfl, key 2 _ rfl⟩
instance dI64 (n : Int) : Decidable (I64 n) := by unfold I64; infer_instance
instance dW64 (n : Int) : Decidable (W64 n) := by unfold W64; infer_instance
instance dIns (x : Ins3) : Decidable x.ok := by unfold Ins3.ok; infer_instance
def liveL18 : List Ins3 := [⟨21, 2, 0⟩, ⟨4, 0, 0⟩, ⟨22, 0, 0⟩, ⟨28, 0, 0⟩]
theorem liveL18_ok : ∀ x ∈ liveL18, x.ok := by unfold liveL18; decide
def sA : St := ⟨1, [], 0, 0, 0, 0, []⟩
def sB (x : Int) : St := ⟨2, [x], 0, 0, 0, 0, []⟩
def sC (x : Int) : St := ⟨3, [x], 0, 0, 0, 0, []⟩
set_option maxRecDepth 20000 in
set_option maxHeartbeats 16000000 in
theorem live18 (w : World) : Calls Try.prog 4 #[] w fun e w' => e = .returned (.bool true) ∧ Below w.heap.size w w' := by
  have HN := Lib.hid (show Calls Try.prog 16 #[.slice (some ⟨w.heap.size, 0, none⟩) 4 4] (w.alloc (.cells #[.int .u8 21, .int .i64 2, .int .u64 0, .int .u8 4, .int .i64 0, .int .u64 0, .int .u8 22, .int .i64 0, .int .u64 0, .int .u8 28, .int .i64 0, .int .u64 0] 53)) (fun e w' => ∃ t f p c', e = .returned (.pointer (some ⟨t, 0, none⟩)) ∧ w'.heap[t]? = some (.cells (thC f p liveL18.length c' .nilIface 0 0 0 0 0) 56 (0, 0)) ∧ RsX w w' t f p liveL18 sZ none 0) from
    (new_th w.heap.size 4 liveL18 (by decide) (by decide) (by decide) _ w (inss_mk18 (heap_alloc_new w (.cells (insC liveL18).toArray 53)) (by decide) (by decide)) ((Below.refl w.heap.size w).alloc (Nat.le_refl _) (.cells (insC liveL18).toArray 53))).mono (fun e w' h => h.1))
  have HO := Lib.hid (show canon 4607182418800017408 = 4607182418800017408 from by decide)
  go_enter Try.func4, Try.ntmps4
  go_upto_region 2 with (go_at_call 16; refine HN.out.mono ?_; rintro x w1 ⟨t, f, p, c, rfl, ht, hr⟩; have T1 := Lib.hid ht; have R1 := Lib.hid hr; clear ht hr)
  go_upto_region 3 with (go_at_call 5; refine (step_21 w t f p c liveL18 sZ none 0 0 rfl (by decide) (by decide) 2 0 rfl liveL18_ok (by decide) w1 T1.out R1.out).mono ?_; rintro x w2 ⟨rfl, ht3, hr3, hf3⟩; have T0 := Lib.hid ht3; have R0 := Lib.hid hr3; clear ht3 hr3 hf3 T1 R1 )
  have ne1 : w2.heap.size ≠ t := fun e => by have := hp_lt T0.out; omega
  have ne2 : w2.heap.size ≠ f := fun e => by have := hp_lt R0.out.hf; omega
  have zb := (Below.refl w2.heap.size w2).alloc (Nat.le_refl _) (.cells #[.int .u8 1, .int .u8 0, .int .i64 0, .int .u64 0, .int .i64 0] 33)
  have Xga := Lib.hid (heap_alloc_new w2 (.cells #[.int .u8 1, .int .u8 0, .int .i64 0, .int .u64 0, .int .i64 0] 33))
  have T1 := Lib.hid (hp_below T0.out zb)
  have R1 := Lib.hid (R0.out.below zb)
  clear zb T0 R0 
  generalize w2.alloc _ = w3 at Xga T1 R1  ⊢
  obtain ⟨ga, hga⟩ : ∃ x, w2.heap.size = x := ⟨_, rfl⟩
  rw [hga] at Xga ne1 ne2 ⊢
  have Nga := Lib.hid (And.intro ne1 ne2)
  clear ne1 ne2 hga w2
  go_upto_region 4 with (go_at_call 6; refine (began_any w t f p 4 c .nilIface liveL18 sZ none 0 0 rfl (by decide) rfl (by decide) w3 T1.out R1.out).mono ?_; rintro x w4 ⟨rfl, b, q0, q1, q2, q3, q4, q5, q6, ht3, hz3, hr3, hf3⟩; have T2 := Lib.hid ht3; have R2 := Lib.hid (show RsX w w4 t f p liveL18 sA none 0 from hr3); have Z2 := Lib.hid hz3; have Xga' := Lib.hid (hf3.hp Xga.out Nga.out.1 Nga.out.2); clear ht3 hr3 hf3 hz3 T1 R1 Xga)
  have NBT := Lib.hid (And.intro (hp_ne Z2.out T2.out (by decide)) (hp_ne Z2.out R2.out.hf (by decide)))
  have Xga := Lib.hid Xga'.out
  clear Xga' w3
  go_upto_region 5 with (go_at_call 5; refine (step_4 w t f p c liveL18 sA none 0 1 rfl (by decide) (by decide) 0 0 rfl liveL18_ok (by decide) b q0 q1 q2 q3 q4 q5 q6 (by decide) w4 T2.out R2.out Z2.out).mono ?_; rintro x w5 ⟨A2, c2, rfl, ht3, hr3, hf3⟩; have T0 := Lib.hid ht3; have R0 := Lib.hid hr3; have Z0 := Lib.hid (hf3.hp Z2.out NBT.out.1 NBT.out.2); have Xga' := Lib.hid (hf3.hp Xga.out Nga.out.1 Nga.out.2); clear ht3 hr3 hf3 T2 R2 Z2 Xga)
  have ne1 : w5.heap.size ≠ t := fun e => by have := hp_lt T0.out; omega
  have ne2 : w5.heap.size ≠ f := fun e => by have := hp_lt R0.out.hf; omega
  have zb := (Below.refl w5.heap.size w5).alloc (Nat.le_refl _) (.cells #[.int .u8 2, .int .u8 1, .int .i64 0, .int .u64 0, .int .i64 0] 33)
  have Xgb := Lib.hid (heap_alloc_new w5 (.cells #[.int .u8 2, .int .u8 1, .int .i64 0, .int .u64 0, .int .i64 0] 33))
  have T1 := Lib.hid (hp_below T0.out zb)
  have R1 := Lib.hid (R0.out.below zb)
  have Z1 := Lib.hid (hp_below Z0.out zb)
  have Xga := Lib.hid (hp_below Xga'.out zb)
  clear zb T0 R0 Z0 Xga'
  generalize w5.alloc _ = w6 at Xgb T1 R1 Z1 Xga ⊢
  obtain ⟨gb, hgb⟩ : ∃ x, w5.heap.size = x := ⟨_, rfl⟩
  rw [hgb] at Xgb ne1 ne2 ⊢
  have Ngb := Lib.hid (And.intro ne1 ne2)
  clear ne1 ne2 hgb w5
  go_upto_region 6 with (go_at_call 7; refine (give_read w t f p 4 c b liveL18 sA A2 c2 1 rfl (by decide) 0 0 0 4607182418800017408 rfl (by unfold W64; omega) w6 T1.out R1.out).mono ?_; rintro x w7 ⟨rfl, A3, c3, ht3, hr3, hf3⟩; have T2 := Lib.hid ht3; have R2 := Lib.hid (show RsX w w7 t f p liveL18 (sB (canon 4607182418800017408)) A3 c3 from hr3); have Z2 := Lib.hid (hf3.hp Z1.out NBT.out.1 NBT.out.2); have Xga' := Lib.hid (hf3.hp Xga.out Nga.out.1 Nga.out.2); have Xgb' := Lib.hid (hf3.hp Xgb.out Ngb.out.1 Ngb.out.2); clear ht3 hr3 hf3 T1 R1 Z1 Xga Xgb)
  have Xga := Lib.hid Xga'.out
  have Xgb := Lib.hid Xgb'.out
  clear Xga' Xgb' w6
  go_upto_region 7 with (go_at_call 5; refine (step_22 w t f p c liveL18 (sB (canon 4607182418800017408)) A3 c3 2 rfl (by decide) (by decide) 0 0 rfl liveL18_ok (by decide) b q0 q1 q2 q3 q4 q5 q6 w7 T2.out R2.out Z2.out).mono ?_; rintro x w8 ⟨rfl, ht3, hr3, hf3⟩; have T0 := Lib.hid ht3; have R0 := Lib.hid hr3; have Z0 := Lib.hid (hf3.hp Z2.out NBT.out.1 NBT.out.2); have Xga' := Lib.hid (hf3.hp Xga.out Nga.out.1 Nga.out.2); have Xgb' := Lib.hid (hf3.hp Xgb.out Ngb.out.1 Ngb.out.2); clear ht3 hr3 hf3 T2 R2 Z2 Xga Xgb)
  have ne1 : w8.heap.size ≠ t := fun e => by have := hp_lt T0.out; omega
  have ne2 : w8.heap.size ≠ f := fun e => by have := hp_lt R0.out.hf; omega
  have zb := (Below.refl w8.heap.size w8).alloc (Nat.le_refl _) (.cells #[.int .u8 2, .int .u8 6, .int .i64 0, .int .u64 0, .int .i64 0] 33)
  have Xgc := Lib.hid (heap_alloc_new w8 (.cells #[.int .u8 2, .int .u8 6, .int .i64 0, .int .u64 0, .int .i64 0] 33))
  have T1 := Lib.hid (hp_below T0.out zb)
  have R1 := Lib.hid (R0.out.below zb)
  have Z1 := Lib.hid (hp_below Z0.out zb)
  have Xga := Lib.hid (hp_below Xga'.out zb)
  have Xgb := Lib.hid (hp_below Xgb'.out zb)
  clear zb T0 R0 Z0 Xga' Xgb'
  generalize w8.alloc _ = w9 at Xgc T1 R1 Z1 Xga Xgb ⊢
  obtain ⟨gc, hgc⟩ : ∃ x, w8.heap.size = x := ⟨_, rfl⟩
  rw [hgc] at Xgc ne1 ne2 ⊢
  have Ngc := Lib.hid (And.intro ne1 ne2)
  clear ne1 ne2 hgc w8
  go_upto_region 8 with (go_at_call 7; refine (give_commit w t f p 4 c b liveL18 (sB (canon 4607182418800017408)) A3 c3 2 rfl (by decide) 0 0 0 0 w9 T1.out R1.out).mono ?_; rintro x w10 ⟨rfl, A4, c4, ht3, hr3, hf3⟩; have T2 := Lib.hid ht3; have R2 := Lib.hid (show RsX w w10 t f p liveL18 (sC (canon 4607182418800017408)) A4 c4 from hr3); have Xga' := Lib.hid (hf3.hp Xga.out Nga.out.1 Nga.out.2); have Xgb' := Lib.hid (hf3.hp Xgb.out Ngb.out.1 Ngb.out.2); have Xgc' := Lib.hid (hf3.hp Xgc.out Ngc.out.1 Ngc.out.2); clear ht3 hr3 hf3 T1 R1 Z1 Xga Xgb Xgc)
  have Xga := Lib.hid Xga'.out
  have Xgb := Lib.hid Xgb'.out
  have Xgc := Lib.hid Xgc'.out
  clear Xga' Xgb' Xgc' w9
  go_upto_region 9 with (go_at_call 5; refine (step_28 w t f p c liveL18 (sC (canon 4607182418800017408)) A4 c4 3 rfl (by decide) (by decide) 0 0 rfl liveL18_ok (by decide) w10 T2.out R2.out).mono ?_; rintro x w11 ⟨rfl, ht3, hr3, hf3⟩; have T0 := Lib.hid ht3; have R0 := Lib.hid hr3; have Xga' := Lib.hid (hf3.hp Xga.out Nga.out.1 Nga.out.2); have Xgb' := Lib.hid (hf3.hp Xgb.out Ngb.out.1 Ngb.out.2); have Xgc' := Lib.hid (hf3.hp Xgc.out Ngc.out.1 Ngc.out.2); clear ht3 hr3 hf3 T2 R2 Xga Xgb Xgc)
  have ne1 : w11.heap.size ≠ t := fun e => by have := hp_lt T0.out; omega
  have ne2 : w11.heap.size ≠ f := fun e => by have := hp_lt R0.out.hf; omega
  have zb := (Below.refl w11.heap.size w11).alloc (Nat.le_refl _) (.cells #[.int .u8 4, .int .u8 0, .int .i64 0, .int .u64 0, .int .i64 0] 33)
  have Xgd := Lib.hid (heap_alloc_new w11 (.cells #[.int .u8 4, .int .u8 0, .int .i64 0, .int .u64 0, .int .i64 0] 33))
  have T1 := Lib.hid (hp_below T0.out zb)
  have R1 := Lib.hid (R0.out.below zb)
  have Xga := Lib.hid (hp_below Xga'.out zb)
  have Xgb := Lib.hid (hp_below Xgb'.out zb)
  have Xgc := Lib.hid (hp_below Xgc'.out zb)
  clear zb T0 R0 Xga' Xgb' Xgc'
  generalize w11.alloc _ = w12 at Xgd T1 R1 Xga Xgb Xgc ⊢
  obtain ⟨gd, hgd⟩ : ∃ x, w11.heap.size = x := ⟨_, rfl⟩
  rw [hgd] at Xgd ne1 ne2 ⊢
  have Ngd := Lib.hid (And.intro ne1 ne2)
  clear ne1 ne2 hgd w11
  have xa0 : w12.cell? ⟨ga, 0, none⟩ = some (.int .u8 1) := hp_cell (Xga.out) 0; have xa1 : w12.cell? ⟨ga, 1, none⟩ = some (.int .u8 0) := hp_cell (Xga.out) 1; have xa2 : w12.cell? ⟨ga, 2, none⟩ = some (.int .i64 0) := hp_cell (Xga.out) 2; have xa3 : w12.cell? ⟨ga, 3, none⟩ = some (.int .u64 0) := hp_cell (Xga.out) 3; have xa4 : w12.cell? ⟨ga, 4, none⟩ = some (.int .i64 0) := hp_cell (Xga.out) 4; have xal := hp_lt (Xga.out)
  have xb0 : w12.cell? ⟨gb, 0, none⟩ = some (.int .u8 2) := hp_cell (Xgb.out) 0; have xb1 : w12.cell? ⟨gb, 1, none⟩ = some (.int .u8 1) := hp_cell (Xgb.out) 1; have xb2 : w12.cell? ⟨gb, 2, none⟩ = some (.int .i64 0) := hp_cell (Xgb.out) 2; have xb3 : w12.cell? ⟨gb, 3, none⟩ = some (.int .u64 0) := hp_cell (Xgb.out) 3; have xb4 : w12.cell? ⟨gb, 4, none⟩ = some (.int .i64 0) := hp_cell (Xgb.out) 4; have xbl := hp_lt (Xgb.out)
  have xc0 : w12.cell? ⟨gc, 0, none⟩ = some (.int .u8 2) := hp_cell (Xgc.out) 0; have xc1 : w12.cell? ⟨gc, 1, none⟩ = some (.int .u8 6) := hp_cell (Xgc.out) 1; have xc2 : w12.cell? ⟨gc, 2, none⟩ = some (.int .i64 0) := hp_cell (Xgc.out) 2; have xc3 : w12.cell? ⟨gc, 3, none⟩ = some (.int .u64 0) := hp_cell (Xgc.out) 3; have xc4 : w12.cell? ⟨gc, 4, none⟩ = some (.int .i64 0) := hp_cell (Xgc.out) 4; have xcl := hp_lt (Xgc.out)
  have xd0 : w12.cell? ⟨gd, 0, none⟩ = some (.int .u8 4) := hp_cell (Xgd.out) 0; have xd1 : w12.cell? ⟨gd, 1, none⟩ = some (.int .u8 0) := hp_cell (Xgd.out) 1; have xd2 : w12.cell? ⟨gd, 2, none⟩ = some (.int .i64 0) := hp_cell (Xgd.out) 2; have xd3 : w12.cell? ⟨gd, 3, none⟩ = some (.int .u64 0) := hp_cell (Xgd.out) 3; have xd4 : w12.cell? ⟨gd, 4, none⟩ = some (.int .i64 0) := hp_cell (Xgd.out) 4; have xdl := hp_lt (Xgd.out)
  have hfl : ∀ (pc la lb lc ld : Int) (D1 D2 : Option Addr) (g1 g2 : Nat) (w : World), (Instr.field 41 (.agg #[.int .i64 pc, .slice D1 1 g1, .int .u64 la, .int .u64 lb, .int .u64 lc, .int .u64 ld, .slice D2 0 g2]) 1).run Try.prog w = .ok (.slice D1 1 g1) w := by intros; kernel_rfl
  go_wp2_with (go_at_call 10; refine (show Calls Try.prog 10 #[.pointer (some ⟨t, 0, none⟩)] w12 (fun e w' => (∃ pc D1 g1 la lb lc ld D2 g2, e = .returned (.agg #[.int .i64 pc, .slice D1 1 g1, .int .u64 la, .int .u64 lb, .int .u64 lc, .int .u64 ld, .slice D2 0 g2])) ∧ Below w12.heap.size w12 w') from state_any w t f p 4 c .nilIface liveL18 (sC (canon 4607182418800017408)) A4 c4 4 0 0 0 0 rfl (by decide) w12 T1.out R1.out).mono ?_; rintro x w13 ⟨⟨pc, D1, g1, la, lb, lc, ld, D2, g2, rfl⟩, hb⟩; have B := Lib.hid (R1.out.bl.trans (hb.mono R1.out.bl.size)); clear hb)
  go_ret
  exact ⟨rfl, B.out⟩
end Go.Proofs.Ytdkcmnnhjnapiaa
