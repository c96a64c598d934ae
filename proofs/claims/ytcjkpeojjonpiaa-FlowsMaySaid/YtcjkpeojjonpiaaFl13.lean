
/-
  FlowsMay: the walk.
-/
import Derived.Test.YtcjkpeojjonpiaaFl11
import Derived.Test.YtcjkpeojjonpiaaFl12
import Derived.Test.YtcjkpeojjonpiaaCk8
import Derived.OpenShut
import Derived.Deep.CutBlock
namespace Go.Proofs.Ytcjkpeojjonpiaa
open Go.RowKit Go.ChangeShapes Go.WideShapes
set_option linter.unusedSimpArgs false
set_option linter.unusedVariables false

/-- What the walk keeps of one block. -/
structure FK (W w : World) (A : Option Addr) (l : List Ins3) : Prop where
  ins : InssAt w A l
  bl : Below W.heap.size W w
theorem FK.of {W w w1 : World} {A : Option Addr} {c : Nat} {l : List Ins3} (hB : Below W.heap.size W w) (hn : NRow w1 w.heap.size A c l) (hb : Below w.heap.size w w1) (hl : l.length ≤ 100) : FK W w1 A l := ⟨(nrow_inss hn (by omega)).1, hB.trans (hb.mono hB.size)⟩
theorem FK.below {W w w1 : World} {A : Option Addr} {l : List Ins3} (h : FK W w A l) (hb : Below w.heap.size w w1) : FK W w1 A l := ⟨inss_below h.ins hb, h.bl.trans (hb.mono h.bl.size)⟩
theorem may_all (r n v : Int) (h4 : r = 0 ∨ r = 1 ∨ r = 2 ∨ r = 3) (hn : n = 1 ∨ n = 2 ∨ n = 3 ∨ n = 4) (hv : rightB v = true) : (ck15 (oneL r n v ++ hl) (n + 2)).2 = 0 := by
  rcases h4 with rfl | rfl | rfl | rfl <;> rcases hn with rfl | rfl | rfl | rfl
  · exact may_enter1 v hv
  · exact may_enter2 v hv
  · exact may_enter3 v hv
  · exact may_enter4 v hv
  · exact may_take1
  · exact may_take2
  · exact may_take3
  · exact may_take4
  · exact may_arrive1
  · exact may_arrive2
  · exact may_arrive3
  · exact may_arrive4
  · exact may_leave1
  · exact may_leave2
  · exact may_leave3
  · exact may_leave4
theorem oneL_len (r n v : Int) (h4 : r = 0 ∨ r = 1 ∨ r = 2 ∨ r = 3) : 1 ≤ (oneL r n v).length ∧ (oneL r n v).length ≤ 24 := by
  rcases h4 with rfl | rfl | rfl | rfl <;> (constructor <;> (show _ ≤ _; simp [oneL, enterL, takeL, arriveL, leaveL]))
set_option maxRecDepth 100000 in
set_option maxHeartbeats 16000000 in
theorem flowsMay_walk (k : Int) (hk : (Lit.int .u8 k).wf = true) (z : Int) (hz : (Lit.int .u8 z).wf = true) (v : Int) (hv0 : (Lit.int .u64 v).wf = true) (W : World) :
    Calls Try.prog 7 #[.int .u8 k, .int .u8 z, .int .u64 v] W fun e w' => e = .returned (.bool true) ∧ Below W.heap.size W w' := by
  have hk' := bounds_u8 hk
  have hz' := bounds_u8 hz
  have hv : W64 v := by have := bounds_u64 hv0; exact ⟨by omega, by omega⟩
  obtain ⟨n, hn⟩ : ∃ n, z.tmod 4 + 1 = n := ⟨_, rfl⟩
  have hn4 : 1 ≤ n ∧ n ≤ 4 := by rw [← hn, Int.tmod_eq_emod_of_nonneg (by omega)]; omega
  have e0 : wrap64 z = z := by unfold wrap64; omega
  have e1 : wrap64 (z.tmod 4 + 1) = n := by rw [hn]; unfold wrap64; omega
  obtain ⟨n2, hn2⟩ : ∃ m, n + 2 = m := ⟨_, rfl⟩
  have e2 : wrap64 (n + 2) = n2 := by rw [hn2]; unfold wrap64; omega
  obtain ⟨r, hr⟩ : ∃ r, k.tmod 4 = r := ⟨_, rfl⟩
  have h4 : r = 0 ∨ r = 1 ∨ r = 2 ∨ r = 3 := by rw [Int.tmod_eq_emod_of_nonneg (by omega)] at hr; omega
  have hcr : rightB (canon v) = true := canon_right
  have hcw : W64 (canon v) := canon_w64 hv
  have HC := Lib.hid (refCanon_any v hv)
  obtain ⟨cv, hcv⟩ : ∃ c, canon v = c := ⟨_, rfl⟩
  rw [hcv] at hcr hcw HC
  have hm := may_all r n cv h4 (by omega) hcr
  have hl1 := oneL_len r n cv h4
  have HO := Lib.hid (fone_any k n cv hn4 hcw hcr r hr h4)
  unfold OnePost at HO
  rw [hn2] at hm
  obtain ⟨l, el⟩ : ∃ l, oneL r n cv = l := ⟨_, rfl⟩
  obtain ⟨ok, eok⟩ : ∃ l, oneK r = l := ⟨_, rfl⟩
  obtain ⟨ov, eov⟩ : ∃ l, oneV r cv = l := ⟨_, rfl⟩
  rw [el] at hm hl1 HO
  rw [eok, eov] at HO
  obtain ⟨lh, hlh⟩ : ∃ x, l ++ hl = x := ⟨_, rfl⟩
  rw [hlh] at hm
  have LH := Lib.hid hlh
  have LL := Lib.hid hl1
  have HK := Lib.hid (check15 lh (by rw [← hlh, List.length_append]; have : hl.length = 1 := rfl; omega) n2)
  obtain ⟨⟨p1, p2⟩, hp⟩ : ∃ p, ck15 lh n2 = p := ⟨_, rfl⟩
  rw [hp] at hm HK
  dsimp only at hm
  subst hm
  have LG := Lib.hid (show lh.length ≤ 1000 by rw [← hlh, List.length_append]; have : hl.length = 1 := rfl; omega)
  clear hk hz hv0 hk' hz' hv hn hn4 hn2 hr h4 hcr hcw hcv el eok eov hl1 hp hlh
  go_enter Try.func7, Try.ntmps7
  go_upto_region 3 with (first | (go_at_call 28; refine (HC.out _).mono ?_; rintro e w' ⟨rfl, rfl⟩) | (go_at_call 27; refine (HO.out _).mono ?_; rintro e w1 ⟨A, c, rfl, hn1, hb1⟩; have N1 := Lib.hid hn1; have B1 := Lib.hid hb1; clear hn1 hb1))
  obtain ⟨g, rfl⟩ := nrow_g N1.out (by have := LL.out; omega)
  have X := Lib.hid (FK.of (Below.refl W.heap.size W) N1.out B1.out (by have := LL.out; omega))
  have X3 := Lib.hid (X.out.below ((Below.refl w1.heap.size w1).alloc (Nat.le_refl _) (.cells #[.int .u8 ok, .int .i64 0, .int .u64 ov] 27)))
  have OKL := Lib.hid N1.out.2
  clear X N1 B1
  generalize World.alloc _ _ = w3 at X3 ⊢
  have R3 : Hid (RI W (w3.alloc (.cells #[] 35)) (some ⟨w3.heap.size, 0, none⟩) 0 []) := Lib.hid ⟨⟨World.ownsRow_made w3 #[] 0 X3.out.bl.size (Nat.zero_le _) rfl, fun x hx => (List.not_mem_nil hx).elim⟩, X3.out.bl.alloc X3.out.bl.size _⟩
  have V3 := Lib.hid (inss_cells (inss_below X3.out.ins ((Below.refl w3.heap.size w3).alloc (Nat.le_refl _) (.cells #[] 35))))
  go_upto_region 4 with (first | (at_builtin; refine append_inss rfl (.tmp 27) (.tmp 28) rfl W.heap.size (.slice (some ⟨w3.heap.size, 0, none⟩) 0 0) [] rfl R3.out.row.1 R3.out.row.2 ⟨g, 0, none⟩ l.length c l rfl rfl V3.out OKL.out (by have := LL.out; simp; omega) R3.out.bl.size l rfl ?_; intro A4 c4 w4 hr hg; have R4 := Lib.hid (R3.out.more hr hg); clear hr hg) | (at_builtin; refine append_inss rfl (.tmp 29) (.tmp 31) rfl W.heap.size (.slice A4 l.length c4) l rfl (R4.out.alloc (.cells (insC hl).toArray 35)).row.1 R4.out.row.2 ⟨w4.heap.size, 0, none⟩ 1 1 hl rfl rfl (made_cells w4 hl) (by decide) (by have := LL.out; have : hl.length = 1 := rfl; omega) (R4.out.alloc _).bl.size lh LH.out ?_; intro A5 c5 w5 hr hg; have R5 := Lib.hid ((R4.out.alloc (.cells (insC hl).toArray 35)).more hr hg); clear hr hg) | (go_at_call 10; refine (HK.out A5 c5 w5 (nrow_inss R5.out.row LG.out).1).mono ?_; rintro e w6 ⟨rfl, hb⟩; have B6 := Lib.hid (R5.out.bl.trans (hb.mono R5.out.bl.size)); clear hb))
  go_wp2_with (go_at_call 21; refine (live23 _).mono ?_; rintro e w7 ⟨rfl, hb⟩; have B7 := Lib.hid (B6.out.trans (hb.mono B6.out.size)); clear hb)
  go_ret
  exact ⟨rfl, B7.out⟩
end Go.Proofs.Ytcjkpeojjonpiaa
