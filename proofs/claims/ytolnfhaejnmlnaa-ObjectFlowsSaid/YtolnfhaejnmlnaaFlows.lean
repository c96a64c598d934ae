
/-
  rowlocklaw20.ObjectFlows: for every size and slice of calls it returns true.
-/
import Derived.Test.YtolnfhaejnmlnaaFlow1
import Derived.Test.YtolnfhaejnmlnaaCalls
import Derived.Test.YtolnfhaejnmlnaaOwns
import Derived.LoopTactic
namespace Go.Proofs.Ytolnfhaejnmlnaa
open Go.RowKit
set_option linter.unusedSimpArgs false
set_option linter.unusedVariables false

set_option maxHeartbeats 8000000 in
set_option maxRecDepth 100000 in
theorem objectFlows_walk0 (W : World) (x n : Int) (hn : x % 4 + 1 = n) (h1 : 1 ≤ n) (h4 : n ≤ 4) (x0 : 0 ≤ x) (x1 : x ≤ 255) (A : Option Addr) (len cap : Nat) (hC : CallsAt W A len) :
    Calls Try.prog 3 #[.int .u8 x, .slice A len cap] W fun e w' => e = .returned (.bool true) ∧ Below W.heap.size W w' := by
  have HC := Lib.hid hC
  have hlm : len ≤ 9223372036854775807 := by have := hC.1; unfold maxLen at this; omega
  clear hC
  go_enter Try.func3, Try.ntmps3
  go_wp2_with (first | (go_at_call 9; ((with_reducible refine (newQu (fun k => some k ≠ blk none ∧ some k ≠ blk none) (fun k => ⟨by simp [blk], by simp [blk]⟩) n h1 h4 _).mono ?_); rintro e w1 ⟨p, a, rfl, H1, hb1, hp1, ha1⟩); have R1 := Lib.hid (show FlowMem W n p a [] [] [] none 0 none 0 w1 from ⟨H1, row_nil _ _, row_nil _ _, (fun k hk => by cases hk), hb1, hp1, ha1⟩); clear H1 hb1 hp1 ha1) | (go_at_call 10; ((with_reducible refine (live_any _).mono ?_); rintro e w3 ⟨rfl, hb3⟩); have R3 := Lib.hid (R1.out.below hb3); clear hb3 R1))
  go_loopw [7, 8, 9] (fun sin sout i wr => ∃ (j : Nat) (inl outl vals : List Int) (Ai : Option Addr) (ci : Nat) (Ao : Option Addr) (co : Nat), j ≤ 60 ∧ inl.length ≤ j ∧ outl.length ≤ j ∧ i = .int .i64 j ∧ sin = .slice Ai inl.length ci ∧ sout = .slice Ao outl.length co ∧ Hid (inl = outl ++ vals) ∧ Hid (FlowMem W n p a inl outl vals Ai ci Ao co wr)) (fun _ _ i _ => 60 - (intOf i).toNat)
  case atStart => exact ⟨0, [], [], [], none, 0, none, 0, by omega, by simp, by simp, rfl, rfl, rfl, rfl, R3⟩
  case round =>
    clear R3 hn x0 x1
    obtain ⟨j, inl, outl, vals, Ai, ci, Ao, co, hj, hli, hlo, rfl, rfl, rfl, HEQ, HR⟩ := hrel
    by_cases hlt : j < len ∧ j < 60
    · obtain ⟨ad, k, who, v, rfl, hca⟩ := HC.out.2 j hlt.1
      have CA := Lib.hid hca
      have hv : W64 v := hca.2.2.1
      clear hca
      obtain ⟨hl, h60⟩ := hlt
      have t1 : decide (j < len) = true := decide_eq_true hl
      have t1' : decide ((j : Int) < (len : Int)) = true := decide_eq_true (by omega)
      have t2 : decide ((j : Int) < 60) = true := decide_eq_true (by omega)
      obtain ⟨⟨⟨av, ab, ae⟩, s'⟩, hm⟩ : ∃ r, quDo k who v (n, vals) = r := ⟨_, rfl⟩
      have WW := quDo_ways k who v n av ae ab vals s' (fun x hx => HR.out.i.2 x (by rw [HEQ.out]; exact List.mem_append_right _ hx)) hm
      have hM := Lib.hid hm
      clear hm
      rcases WW with ⟨rfl, rfl⟩ | ⟨rfl, rfl, rfl⟩ | ⟨rfl, rfl, rfl, rfl, hs, _⟩ | ⟨rfl, rfl, rfl, vals', hs, rfl, hav⟩
      · have c0 := (callAt_below CA.out HR.out.b).2.2.2.1
        have c1 := (callAt_below CA.out HR.out.b).2.2.2.2.1
        have c2 := (callAt_below CA.out HR.out.b).2.2.2.2.2
        go_wp2_with fail
        refine (quDo_as hv hM.out wr HR.out.q).mono ?_
        rintro e v1 ⟨rfl, h1_, g1⟩
        have R1 := Lib.hid (HR.out.done h1_ g1)
        clear h1_ g1 c0 c1 c2 HR
        have c0 := (callAt_below CA.out R1.out.b).2.2.2.1
        have c1 := (callAt_below CA.out R1.out.b).2.2.2.2.1
        have c2 := (callAt_below CA.out R1.out.b).2.2.2.2.2
        have l1 := callAt_lt (callAt_below CA.out R1.out.b)
        have l1' : ad.block < v1.heap.size := by rwa [add_block_ad] at l1
        have hb1 := R1.out.q.2.2.1.2.2
        dsimp only at hb1
        go_wp2_with fail
        go_roundw
        case rel => exact ⟨j + 1, inl, outl, vals, Ai, ci, Ao, co, by omega, by omega, by omega, by go_num, rfl, rfl, HEQ, R1.out.alloc _⟩
        case measure => simp [intOf]; omega
      · have c0 := (callAt_below CA.out HR.out.b).2.2.2.1
        have c1 := (callAt_below CA.out HR.out.b).2.2.2.2.1
        have c2 := (callAt_below CA.out HR.out.b).2.2.2.2.2
        go_wp2_with fail
        refine (quDo_as hv hM.out wr HR.out.q).mono ?_
        rintro e v1 ⟨rfl, h1_, g1⟩
        have R1 := Lib.hid (HR.out.done h1_ g1)
        clear h1_ g1 c0 c1 c2 HR
        have c0 := (callAt_below CA.out R1.out.b).2.2.2.1
        have c1 := (callAt_below CA.out R1.out.b).2.2.2.2.1
        have c2 := (callAt_below CA.out R1.out.b).2.2.2.2.2
        have l1 := callAt_lt (callAt_below CA.out R1.out.b)
        have l1' : ad.block < v1.heap.size := by rwa [add_block_ad] at l1
        have hb1 := R1.out.q.2.2.1.2.2
        dsimp only at hb1
        go_wp2_with fail
        go_roundw
        case rel => exact ⟨j + 1, inl, outl, vals, Ai, ci, Ao, co, by omega, by omega, by omega, by go_num, rfl, rfl, HEQ, R1.out.alloc _⟩
        case measure => simp [intOf]; omega
      · obtain ⟨inl', hi'⟩ : ∃ l, inl ++ [v] = l := ⟨_, rfl⟩
        obtain ⟨vals', hv'⟩ : ∃ l, vals ++ [v] = l := ⟨_, rfl⟩
        rw [hv'] at hs
        subst hs
        have HALL : Hid _ := Lib.hid (show outl ++ vals' = inl' by rw [← hi', ← hv', HEQ.out, List.append_assoc])
        have li' : inl'.length ≤ j + 1 := by rw [← hi', List.length_append]; simp; omega
        have HI := Lib.hid hi'
        clear hi' hv' HEQ
        have c0 := (callAt_below CA.out HR.out.b).2.2.2.1
        have c1 := (callAt_below CA.out HR.out.b).2.2.2.2.1
        have c2 := (callAt_below CA.out HR.out.b).2.2.2.2.2
        go_wp2_with fail
        refine (quDo_as hv hM.out wr HR.out.q).mono ?_
        rintro e v1 ⟨rfl, h1_, g1⟩
        have R1 := Lib.hid (HR.out.done h1_ g1)
        clear h1_ g1 c0 c1 c2 HR
        have c0 := (callAt_below CA.out R1.out.b).2.2.2.1
        have c1 := (callAt_below CA.out R1.out.b).2.2.2.2.1
        have c2 := (callAt_below CA.out R1.out.b).2.2.2.2.2
        have l1 := callAt_lt (callAt_below CA.out R1.out.b)
        have l1' : ad.block < v1.heap.size := by rwa [add_block_ad] at l1
        have hb1 := R1.out.q.2.2.1.2.2
        dsimp only at hb1
        have d1 : decide (n < (vals'.length : Int)) = false := decide_eq_false (by omega)
        have f3 := fun l A c w => shape_f3 (-1) 0 0 A l c w
        go_wp2_with (first | (at_builtin; refine append_vals' rfl (.tmp 53) (.tmp 59) rfl W.heap.size Ai ci inl rfl ((R1.out.alloc _).alloc _).i (some ⟨v1.heap.size + 1, 0, none⟩) 1 [v] rfl (fun h => by cases h) (vals_lit' _ v hv _ (by simp)) (by simp; omega) ((R1.out.alloc _).alloc _).b.size inl' HI.out ?_; intro Ai' ci' w2 hr2 hg2 hat2; have M2 := Lib.hid (((R1.out.alloc _).alloc _).push hr2 hg2 hat2); clear hr2 hg2 hat2) | (at_builtin; refine append_vals' rfl (.tmp 66) (.tmp 67) rfl w2.heap.size (some ⟨w2.heap.size, 0, none⟩) 0 [] rfl (row_empty w2) Ao co outl rfl (row_vals M2.out.o).2 (row_vals (M2.out.alloc _).o).1 (by simp; omega) (by simp) outl (List.nil_append _) ?_; intro A3 c3 w3 hr3 hg3 hat3; have hb3 : Below w2.heap.size w2 w3 := ((Below.refl _ _).alloc (Nat.le_refl _) _).grown hg3 (by simp) (fun k hk => by simp [blk] at hk; omega); have M3 := Lib.hid (M2.out.below hb3); have ROW3 := Lib.hid hr3; have B3 := Lib.hid hb3; clear hr3 hg3 hat3 hb3) | (go_at_call 12; ((with_reducible refine (quShape p a (n, vals') w3 M3.out.q).mono ?_); rintro e w4 ⟨⟨A4, c4, rfl, k1, k2, k3⟩, hb4⟩); have M4 := Lib.hid (M3.out.below hb4); have ROW4 := Lib.hid (row_below ROW3.out hb4); have B4 := Lib.hid (B3.out.trans (hb4.mono B3.out.size)); have K2 := Lib.hid k2; have K3 := Lib.hid k3; clear k1 k2 k3 hb4) | (at_builtin; refine append_vals' rfl (.tmp 68) (.tmp 71) rfl w2.heap.size A3 c3 outl rfl ROW4.out A4 c4 vals' rfl K2.out K3.out (by omega) B4.out.size inl' HALL.out ?_; intro A5 c5 w5 hr5 hg5 hat5; have hb5 : Below w2.heap.size w2 w5 := B4.out.grown hg5 B4.out.size (fun k hk => (row_lt ROW4.out k hk).1); have M5 := Lib.hid (M2.out.below hb5); have ROW5 := Lib.hid hr5; clear hr5 hg5 hat5 hb5) | (go_at_call 13; ((with_reducible refine (sameVals_any A5 Ai' c5 ci' inl' inl' w5 (row_vals ROW5.out).1 (row_vals M5.out.i).1 (by omega) (by omega)).mono ?_); rintro e w6 ⟨he, hd⟩); rw [decide_eq_true rfl] at he; subst he; have M6 := Lib.hid (M5.out.below hd.below); clear hd) | (go_at_call 12; ((with_reducible refine (quShape p a (n, vals') w6 M6.out.q).mono ?_); rintro e w7 ⟨⟨A7, c7, rfl, k1, k2, k3⟩, hb7⟩); have M7 := Lib.hid (M6.out.below hb7); clear k1 k2 k3 hb7))
        go_roundw
        case rel => exact ⟨j + 1, inl', outl, vals', Ai', ci', Ao, co, by omega, by omega, by omega, by go_num, rfl, rfl, HALL.out.symm, M7⟩
        case measure => simp [intOf]; omega
      · obtain ⟨outl', hi'⟩ : ∃ l, outl ++ [av] = l := ⟨_, rfl⟩
        have HALL : Hid _ := Lib.hid (show outl' ++ vals' = inl by rw [← hi', HEQ.out, hs, List.append_assoc]; rfl)
        have li' : outl'.length ≤ j + 1 := by rw [← hi', List.length_append]; simp; omega
        have HI := Lib.hid hi'
        have HS := Lib.hid hs
        clear hi' hs HEQ
        have c0 := (callAt_below CA.out HR.out.b).2.2.2.1
        have c1 := (callAt_below CA.out HR.out.b).2.2.2.2.1
        have c2 := (callAt_below CA.out HR.out.b).2.2.2.2.2
        go_wp2_with fail
        refine (quDo_as hv hM.out wr HR.out.q).mono ?_
        rintro e v1 ⟨rfl, h1_, g1⟩
        have R1 := Lib.hid (HR.out.done h1_ g1)
        clear h1_ g1 c0 c1 c2 HR
        have c0 := (callAt_below CA.out R1.out.b).2.2.2.1
        have c1 := (callAt_below CA.out R1.out.b).2.2.2.2.1
        have c2 := (callAt_below CA.out R1.out.b).2.2.2.2.2
        have l1 := callAt_lt (callAt_below CA.out R1.out.b)
        have l1' : ad.block < v1.heap.size := by rwa [add_block_ad] at l1
        have hb1 := R1.out.q.2.2.1.2.2
        dsimp only at hb1
        have d1 : decide (n < (vals'.length : Int)) = false := decide_eq_false (by omega)
        have f3 := fun l A c w => shape_f3 (-1) 0 0 A l c w
        go_wp2_with (first | (at_builtin; refine append_vals' rfl (.tmp 61) (.tmp 64) rfl W.heap.size Ao co outl rfl ((R1.out.alloc _).alloc _).o (some ⟨v1.heap.size + 1, 0, none⟩) 1 [av] rfl (fun h => by cases h) (vals_lit' _ av hav _ (by simp)) (by simp; omega) ((R1.out.alloc _).alloc _).b.size outl' HI.out ?_; intro Ao' co' w2 hr2 hg2 hat2; have M2 := Lib.hid ((((R1.out.alloc _).alloc _).swap.push hr2 hg2 hat2).swap); clear hr2 hg2 hat2) | (at_builtin; refine append_vals' rfl (.tmp 66) (.tmp 67) rfl w2.heap.size (some ⟨w2.heap.size, 0, none⟩) 0 [] rfl (row_empty w2) Ao' co' outl' rfl (row_vals M2.out.o).2 (row_vals (M2.out.alloc _).o).1 (by simp; omega) (by simp) outl' (List.nil_append _) ?_; intro A3 c3 w3 hr3 hg3 hat3; have hb3 : Below w2.heap.size w2 w3 := ((Below.refl _ _).alloc (Nat.le_refl _) _).grown hg3 (by simp) (fun k hk => by simp [blk] at hk; omega); have M3 := Lib.hid (M2.out.below hb3); have ROW3 := Lib.hid hr3; have B3 := Lib.hid hb3; clear hr3 hg3 hat3 hb3) | (go_at_call 12; ((with_reducible refine (quShape p a (n, vals') w3 M3.out.q).mono ?_); rintro e w4 ⟨⟨A4, c4, rfl, k1, k2, k3⟩, hb4⟩); have M4 := Lib.hid (M3.out.below hb4); have ROW4 := Lib.hid (row_below ROW3.out hb4); have B4 := Lib.hid (B3.out.trans (hb4.mono B3.out.size)); have K2 := Lib.hid k2; have K3 := Lib.hid k3; clear k1 k2 k3 hb4) | (at_builtin; refine append_vals' rfl (.tmp 68) (.tmp 71) rfl w2.heap.size A3 c3 outl' rfl ROW4.out A4 c4 vals' rfl K2.out K3.out (by omega) B4.out.size inl HALL.out ?_; intro A5 c5 w5 hr5 hg5 hat5; have hb5 : Below w2.heap.size w2 w5 := B4.out.grown hg5 B4.out.size (fun k hk => (row_lt ROW4.out k hk).1); have M5 := Lib.hid (M2.out.below hb5); have ROW5 := Lib.hid hr5; clear hr5 hg5 hat5 hb5) | (go_at_call 13; ((with_reducible refine (sameVals_any A5 Ai c5 ci inl inl w5 (row_vals ROW5.out).1 (row_vals M5.out.i).1 (by omega) (by omega)).mono ?_); rintro e w6 ⟨he, hd⟩); rw [decide_eq_true rfl] at he; subst he; have M6 := Lib.hid (M5.out.below hd.below); clear hd) | (go_at_call 12; ((with_reducible refine (quShape p a (n, vals') w6 M6.out.q).mono ?_); rintro e w7 ⟨⟨A7, c7, rfl, k1, k2, k3⟩, hb7⟩); have M7 := Lib.hid (M6.out.below hb7); clear k1 k2 k3 hb7))
        go_roundw
        case rel => exact ⟨j + 1, inl, outl', vals', Ai, ci, Ao', co', by omega, by omega, by omega, by go_num, rfl, rfl, HALL.out.symm, M7⟩
        case measure => simp [intOf]; omega
    · have t : decide (j < len) = false ∨ decide (j < len) = true ∧ decide ((j : Int) < 60) = false := by
        by_cases h : j < len
        · exact .inr ⟨decide_eq_true h, decide_eq_false (by omega)⟩
        · exact .inl (decide_eq_false h)
      rcases t with t1 | ⟨t1, t2⟩
      all_goals
        go_wp2_with fail
        go_ret
        exact ⟨rfl, HR.out.b⟩
theorem objectFlows_walk (W : World) (x : Int) (hx : (Lit.int .u8 x).wf = true) (A : Option Addr) (len cap : Nat) (hC : CallsAt W A len) :
    Calls Try.prog 3 #[.int .u8 x, .slice A len cap] W fun e w' => e = .returned (.bool true) ∧ Below W.heap.size W w' := by
  have h1 := bounds_u8 hx
  exact objectFlows_walk0 W x _ rfl (by omega) (by omega) h1.1 h1.2 A len cap hC
end Go.Proofs.Ytolnfhaejnmlnaa
