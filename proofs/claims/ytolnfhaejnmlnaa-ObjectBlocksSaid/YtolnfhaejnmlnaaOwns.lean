
/-
  rowlocklaw20.ObjectOwns: for every slice of calls and every size it returns true.
-/
import Derived.Test.YtolnfhaejnmlnaaObj6
import Derived.Test.YtolnfhaejnmlnaaCalls
import Derived.LoopTactic
namespace Go.Proofs.Ytolnfhaejnmlnaa
open Go.RowKit
set_option linter.unusedSimpArgs false
set_option linter.unusedVariables false

theorem muDo_as {p a : Nat} {s k who v : Int} {av : Int} {ab : Bool} {ae s' : Int} (hv : W64 v) (hr : muDo k who v s = ((av, ab, ae), s')) (w : World) (H : muAt w p a s) :
    Calls Try.prog 11 #[.pointer (some ⟨p, 0, none⟩), .agg #[.int .u8 k, .int .i64 who, .int .u64 v]] w fun e w' => e = .returned (.agg #[.int .u64 av, .bool ab, .int .i64 ae]) ∧ muAt w' p a s' ∧ w.grownBy w' (some a) := by
  have h := muDo_any p a s k who v hv w H
  rw [hr] at h
  exact h
theorem seDo_as {p a : Nat} {s k who v : Int} {av : Int} {ab : Bool} {ae s' : Int} (hv : W64 v) (hr : seDo k who v s = ((av, ab, ae), s')) (w : World) (H : seAt w p a s) :
    Calls Try.prog 11 #[.pointer (some ⟨p, 0, none⟩), .agg #[.int .u8 k, .int .i64 who, .int .u64 v]] w fun e w' => e = .returned (.agg #[.int .u64 av, .bool ab, .int .i64 ae]) ∧ seAt w' p a s' ∧ w.grownBy w' (some a) := by
  have h := seDo_any p a s k who v hv w H
  rw [hr] at h
  exact h

/-- What becomes of the owner, by kind of call and answer. -/
theorem muDo_ways (k who v s av : Int) (ab : Bool) (ae s' : Int) (hr : muDo k who v s = ((av, ab, ae), s')) :
    (k = 1 ∧ av = 4607182418800017408 ∧ decide (0 ≤ s) = false ∧ s' = who) ∨ (k = 2 ∧ av = 4607182418800017408 ∧ s = who ∧ s' = -1) ∨
    ((av == 4607182418800017408) = false ∧ s' = s) := by
  unfold muDo muStep badB muTk aOne aErr aBlocks at hr
  cases h1 : (k == 1) <;> cases h2 : (k == 2) <;> cases h3 : decide (who < 0) <;> cases h4 : decide (4 ≤ who) <;> cases h5 : fitsB k v <;> cases h6 : (s == who) <;> cases h7 : decide (0 ≤ s) <;>
    simp [h1, h2, h3, h4, h5, h6, h7] at hr <;> obtain ⟨⟨rfl, rfl, rfl⟩, rfl⟩ := hr <;> simp_all
theorem seDo_ways (k who v s av : Int) (ab : Bool) (ae s' : Int) (h0 : 0 ≤ s) (h9 : s ≤ 99) (hr : seDo k who v s = ((av, ab, ae), s')) :
    (k = 4 ∧ av = 4607182418800017408 ∧ s < 99 ∧ s' = s + 1) ∨ (k = 3 ∧ av = 4607182418800017408 ∧ 0 < s ∧ s' = s - 1) ∨
    ((av == 4607182418800017408) = false ∧ s' = s) := by
  unfold seDo seStep badB seTk aOne aErr aBlocks at hr
  cases h1 : (k == 3) <;> cases h2 : (k == 4) <;> cases h3 : decide (who < 0) <;> cases h4 : decide (4 ≤ who) <;> cases h5 : fitsB k v <;> cases h6 : (s == 0) <;> cases h7 : decide (99 ≤ s) <;>
    simp [h1, h2, h3, h4, h5, h6, h7] at hr <;> obtain ⟨⟨rfl, rfl, rfl⟩, rfl⟩ := hr <;> simp_all <;> omega

theorem own_ways (k who v o n av bv : Int) (ab bb : Bool) (ae be o' n' : Int) (h0 : 0 ≤ n) (h9 : n ≤ 99) (hm : muDo k who v o = ((av, ab, ae), o')) (hs : seDo k who v n = ((bv, bb, be), n')) :
    (k = 1 ∧ av = 4607182418800017408 ∧ decide (0 ≤ o) = false ∧ who = o' ∧ n = n') ∨ (k = 1 ∧ (av == 4607182418800017408) = false ∧ o = o' ∧ n = n') ∨
    (k = 2 ∧ av = 4607182418800017408 ∧ who = o ∧ o' = -1 ∧ n = n') ∨ (k = 2 ∧ (av == 4607182418800017408) = false ∧ o = o' ∧ n = n') ∨
    (k = 3 ∧ bv = 4607182418800017408 ∧ o = o' ∧ n' = n - 1) ∨ (k = 3 ∧ (bv == 4607182418800017408) = false ∧ o = o' ∧ n = n') ∨
    (k = 4 ∧ bv = 4607182418800017408 ∧ o = o' ∧ n' = n + 1) ∨ (k = 4 ∧ (bv == 4607182418800017408) = false ∧ o = o' ∧ n = n') ∨
    ((k == 1) = false ∧ (k == 2) = false ∧ (k == 3) = false ∧ (k == 4) = false ∧ o = o' ∧ n = n') := by
  have M := muDo_ways k who v o av ab ae o' hm
  have S := seDo_ways k who v n bv bb be n' h0 h9 hs
  rcases M with ⟨m1, m2, m3, m4⟩ | ⟨m1, m2, m3, m4⟩ | ⟨m2, m4⟩ <;> rcases S with ⟨s1, s2, s3, s4⟩ | ⟨s1, s2, s3, s4⟩ | ⟨s2, s4⟩
  · omega
  · omega
  · exact .inl ⟨m1, m2, m3, m4.symm, s4.symm⟩
  · omega
  · omega
  · exact .inr (.inr (.inl ⟨m1, m2, m3.symm, m4, s4.symm⟩))
  · exact .inr (.inr (.inr (.inr (.inr (.inr (.inl ⟨s1, s2, m4.symm, s4⟩))))))
  · exact .inr (.inr (.inr (.inr (.inl ⟨s1, s2, m4.symm, s4⟩))))
  · by_cases k1 : k = 1
    · exact .inr (.inl ⟨k1, m2, m4.symm, s4.symm⟩)
    by_cases k2 : k = 2
    · exact .inr (.inr (.inr (.inl ⟨k2, m2, m4.symm, s4.symm⟩)))
    by_cases k3 : k = 3
    · exact .inr (.inr (.inr (.inr (.inr (.inl ⟨k3, s2, m4.symm, s4.symm⟩)))))
    by_cases k4 : k = 4
    · exact .inr (.inr (.inr (.inr (.inr (.inr (.inr (.inl ⟨k4, s2, m4.symm, s4.symm⟩)))))))
    exact .inr (.inr (.inr (.inr (.inr (.inr (.inr (.inr ⟨by simpa using k1, by simpa using k2, by simpa using k3, by simpa using k4, m4.symm, s4.symm⟩)))))))

theorem add_block_ad (a : Addr) (i : Nat) : (a.add i).block = a.block := by unfold Addr.add; split <;> rfl
def OwnRel (W : World) (p1 a1 p2 a2 : Nat) (o n : Int) (wr : World) : Prop := muAt wr p1 a1 o ∧ seAt wr p2 a2 n ∧ Below W.heap.size W wr

set_option maxHeartbeats 8000000 in
set_option maxRecDepth 100000 in
theorem objectOwns_walk0 (A : Option Addr) (len cap : Nat) (W : World) (hC : CallsAt W A len) (x : Int) (x0 : 0 ≤ x) (x1 : x ≤ 255) :
    Calls Try.prog 4 #[.slice A len cap, .int .u8 x] W fun e w' => e = .returned (.bool true) ∧ Below W.heap.size W w' := by
  have HC := Lib.hid hC
  have hlm : len ≤ 9223372036854775807 := by have := hC.1; unfold maxLen at this; omega
  clear hC
  go_enter Try.func4, Try.ntmps4
  go_wp2_with (go_at_call 9; ((with_reducible refine (newMu _).mono ?_); rintro e w1 ⟨p1, a1, rfl, H1, hb1, hp1, ha1⟩))
  have M1 := Lib.hid H1
  have B1 := Lib.hid hb1
  clear H1 hb1
  refine (newSe (x % 10) (by omega) (by omega) _).mono ?_
  rintro e w2 ⟨p2, a2, rfl, H2, hb2, hp2, ha2⟩
  have S2 := Lib.hid H2
  have M2 := Lib.hid (muAt_below M1.out hb2)
  have hp2' := Nat.le_trans B1.out.size hp2
  have ha2' := Nat.le_trans B1.out.size ha2
  have B2 := Lib.hid (B1.out.trans (hb2.mono B1.out.size))
  clear H2 hb2 hp2 ha2 M1 B1
  go_wp2_with (go_at_call 10; ((with_reducible refine (live_any _).mono ?_); rintro e w3 ⟨rfl, hb3⟩); have R3 := Lib.hid (show OwnRel W p1 a1 p2 a2 (-1) (x % 10) w3 from ⟨muAt_below M2.out hb3, seAt_below S2.out hb3, B2.out.trans (hb3.mono B2.out.size)⟩); clear hb3 M2 S2 B2)
  go_loopw [7, 8, 9] (fun ow cn i wr => ∃ (j : Nat) (o n : Int), j ≤ 60 ∧ i = .int .i64 j ∧ ow = .int .i64 o ∧ cn = .int .i64 n ∧ Hid (OwnRel W p1 a1 p2 a2 o n wr)) (fun _ _ i _ => 60 - (intOf i).toNat)
  case atStart => exact ⟨0, -1, x % 10, by omega, rfl, rfl, rfl, R3⟩
  case round =>
    clear R3 x0 x1
    obtain ⟨j, o, n, hj, rfl, rfl, rfl, HR⟩ := hrel
    by_cases hlt : j < len ∧ j < 60
    · obtain ⟨ad, k, who, v, rfl, hca⟩ := HC.out.2 j hlt.1
      have CA := Lib.hid hca
      have hv : W64 v := hca.2.2.1
      clear hca
      obtain ⟨hl, h60⟩ := hlt
      have t1 : decide (j < len) = true := decide_eq_true hl
      have t1' : decide ((j : Int) < (len : Int)) = true := decide_eq_true (by omega)
      have t2 : decide ((j : Int) < 60) = true := decide_eq_true (by omega)
      obtain ⟨⟨⟨av, ab, ae⟩, o'⟩, hm⟩ : ∃ r, muDo k who v o = r := ⟨_, rfl⟩
      obtain ⟨⟨⟨bv, bb, be⟩, n'⟩, hs⟩ : ∃ r, seDo k who v n = r := ⟨_, rfl⟩
      have WW := own_ways k who v o n av bv ab bb ae be o' n' HR.out.2.1.2.2.1 HR.out.2.1.2.2.2 hm hs
      have hM := Lib.hid hm
      have hS := Lib.hid hs
      have hn := HR.out.2.1.2.2
      clear hm hs
      rcases WW with ⟨rfl, rfl, e1, rfl, rfl⟩ | ⟨rfl, e1, rfl, rfl⟩ | ⟨rfl, rfl, rfl, rfl, rfl⟩ | ⟨rfl, e1, rfl, rfl⟩ | ⟨rfl, rfl, rfl, rfl⟩ | ⟨rfl, e1, rfl, rfl⟩ | ⟨rfl, rfl, rfl, rfl⟩ | ⟨rfl, e1, rfl, rfl⟩ | ⟨e1, e2, e3, e4, rfl, rfl⟩
      all_goals
        have c0 := (callAt_below CA.out HR.out.2.2).2.2.2.1
        have c1 := (callAt_below CA.out HR.out.2.2).2.2.2.2.1
        have c2 := (callAt_below CA.out HR.out.2.2).2.2.2.2.2
        go_wp2_with fail
        refine (muDo_as hv hM.out wr HR.out.1).mono ?_
        rintro e v1 ⟨rfl, h1, g1⟩
        have R1 := Lib.hid (show OwnRel W p1 a1 p2 a2 _ _ v1 from ⟨h1, seAt_other HR.out.2.1 HR.out.1.2 g1 (by decide) (hp_ne HR.out.1.2 HR.out.2.1.2.1 (by decide)) (by decide), gb_to_below HR.out.2.2 HR.out.2.2.size g1 ha1⟩)
        clear h1 g1 c0 c1 c2 HR
        have c0 := (callAt_below CA.out R1.out.2.2).2.2.2.1
        have c1 := (callAt_below CA.out R1.out.2.2).2.2.2.2.1
        have c2 := (callAt_below CA.out R1.out.2.2).2.2.2.2.2
        have l1 := callAt_lt (callAt_below CA.out R1.out.2.2)
        have l1' : ad.block < v1.heap.size := by rwa [add_block_ad] at l1
        go_wp2_with fail
        refine (seDo_as hv hS.out _ (seAt_alloc R1.out.2.1 _)).mono ?_
        rintro e v2 ⟨rfl, h2, g2⟩
        have R2 := Lib.hid (show OwnRel W p1 a1 p2 a2 _ _ v2 from ⟨muAt_other (muAt_alloc R1.out.1 _) (seAt_alloc R1.out.2.1 _).2.1 g2 (by decide) (hp_ne R1.out.2.1.2.1 R1.out.1.2 (by decide)) (by decide), h2, gb_to_below (R1.out.2.2.alloc R1.out.2.2.size _) (R1.out.2.2.alloc R1.out.2.2.size _).size g2 ha2'⟩)
        have hn' := h2.2.2
        clear h2 g2 c0 c1 c2 l1 l1' R1 hM hS hn
        have c0 := (callAt_below CA.out R2.out.2.2).2.2.2.1
        have c1 := (callAt_below CA.out R2.out.2.2).2.2.2.2.1
        have c2 := (callAt_below CA.out R2.out.2.2).2.2.2.2.2
        have l1 := callAt_lt (callAt_below CA.out R2.out.2.2)
        have l1' : ad.block < v2.heap.size := by rwa [add_block_ad] at l1
        have d1 := decide_eq_false (Int.not_lt.mpr hn'.1)
        have d2 := decide_eq_false (Int.not_lt.mpr hn'.2)
        go_wp2_with fail
        refine (muShape p1 a1 _ _ (muAt_alloc R2.out.1 _)).mono ?_
        rintro e v3 ⟨rfl, hb⟩
        have R3 := Lib.hid (show OwnRel W p1 a1 p2 a2 _ _ v3 from ⟨muAt_below (muAt_alloc R2.out.1 _) hb, seAt_below (seAt_alloc R2.out.2.1 _) hb, (R2.out.2.2.alloc R2.out.2.2.size _).trans (hb.mono (R2.out.2.2.alloc R2.out.2.2.size _).size)⟩)
        clear hb R2 c0 c1 c2 l1 l1'
        have f0 := fun o w => shape_f0 o 0 0 none 0 0 w
        have f1 := fun n w => shape_f1 (-1) n 0 none 0 0 w
        go_wp2_with (go_at_call 12; refine (seShape p2 a2 _ _ R3.out.2.1).mono ?_; rintro e v4 ⟨rfl, hb⟩; have R4 := Lib.hid (show OwnRel W p1 a1 p2 a2 _ _ v4 from ⟨muAt_below R3.out.1 hb, seAt_below R3.out.2.1 hb, R3.out.2.2.trans (hb.mono R3.out.2.2.size)⟩); clear hb R3)
        go_roundw
        case rel => exact ⟨j + 1, _, _, by omega, by go_num, rfl, rfl, R4⟩
        case measure => simp [intOf]; omega
    · have t : decide (j < len) = false ∨ decide (j < len) = true ∧ decide ((j : Int) < 60) = false := by
        by_cases h : j < len
        · exact .inr ⟨decide_eq_true h, decide_eq_false (by omega)⟩
        · exact .inl (decide_eq_false h)
      rcases t with t1 | ⟨t1, t2⟩
      all_goals
        go_wp2_with fail
        go_ret
        exact ⟨rfl, HR.out.2.2⟩
theorem objectOwns_walk (W : World) (A : Option Addr) (len cap : Nat) (hC : CallsAt W A len) (x : Int) (hx : (Lit.int .u8 x).wf = true) :
    Calls Try.prog 4 #[.slice A len cap, .int .u8 x] W fun e w' => e = .returned (.bool true) ∧ Below W.heap.size W w' :=
  objectOwns_walk0 A len cap W hC x (bounds_u8 hx).1 (bounds_u8 hx).2
end Go.Proofs.Ytolnfhaejnmlnaa
