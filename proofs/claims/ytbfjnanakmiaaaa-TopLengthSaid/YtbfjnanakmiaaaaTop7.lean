
/-
  rowlocktop.TopLength.
-/
import Derived.Test.YtbfjnanakmiaaaaDec
namespace Go.Proofs.Ytbfjnanakmiaaaa
open Go.RowKit Go.ChangeShapes Go.WideShapes
set_option linter.unusedSimpArgs false
set_option linter.unusedVariables false

def rights (l : List Ins3) (j : Nat) : List Ins3 := (l.take j).filter rightI
theorem rights_yes {l : List Ins3} {j : Nat} (h : j < l.length) (hr : rightI (xn l j) = true) : rights l (j + 1) = rights l j ++ [xn l j] := by
  unfold rights
  rw [List.take_add_one, xn_get h, List.filter_append]
  simp [hr]
theorem rights_no {l : List Ins3} {j : Nat} (h : j < l.length) (hr : rightI (xn l j) = false) : rights l (j + 1) = rights l j := by
  unfold rights
  rw [List.take_add_one, xn_get h, List.filter_append]
  simp [hr]
theorem rights_len (l : List Ins3) (j : Nat) : (rights l j).length ≤ l.length := by
  unfold rights
  refine Nat.le_trans (List.length_filter_le _ _) ?_
  rw [List.length_take]
  omega
theorem rights_right (l : List Ins3) (j : Nat) : ∀ s ∈ rights l j, rightI s = true := fun s h => (List.mem_filter.mp h).2
def Top7St (w wr : World) (A : Option Addr) (c : Nat) (o : List Ins3) : Prop := NRow wr w.heap.size A c o ∧ Below w.heap.size w wr
theorem Top7St.below {w wr w1 : World} {A : Option Addr} {c : Nat} {o : List Ins3} (h : Top7St w wr A c o) (hb : Below wr.heap.size wr w1) : Top7St w w1 A c o := ⟨nrow_below h.1 hb, h.2.trans (hb.mono h.2.size)⟩
theorem Top7St.alloc {w wr : World} {A : Option Addr} {c : Nat} {o : List Ins3} (h : Top7St w wr A c o) (x : Obj) : Top7St w (wr.alloc x) A c o := h.below ((Below.refl _ _).alloc (Nat.le_refl _) x)
theorem Top7St.push {w wr w1 : World} {A A2 : Option Addr} {c c2 : Nat} {o o2 : List Ins3} (h : Top7St w wr A c o) (hr : NRow w1 w.heap.size A2 c2 o2) (hg : wr.grownBy w1 (iblk A)) : Top7St w w1 A2 c2 o2 := ⟨hr, h.2.grown hg h.2.size (fun k hk => (nrow_lt h.1 k hk).1)⟩
theorem encB_one (o : List Ins3) (x : Ins3) : (encB (o ++ [x])).length = (encB o).length + 1 + (bif argB x.op then 1 else 0) + (bif valB x.op then 8 else 0) := by
  unfold encB
  rw [List.flatMap_append, List.length_append]
  simp only [List.flatMap_cons, List.flatMap_nil, List.append_nil]
  unfold enc1
  cases argB x.op <;> cases valB x.op <;> simp [eight_len]
theorem bs_row {w : World} {base c : Nat} {A : Option Addr} {b : List Int} (h : BRowAt w base A c b) : BS w A b.length c b := by
  obtain ⟨A', c', hv, h2, _, h3, h4, _⟩ := bytes_own (ok := okB) h.1 h.2 (fun _ _ => trivial)
  simp only [Value.slice.injEq, true_and] at hv
  obtain ⟨rfl, rfl⟩ := hv
  exact ⟨h3, rfl, h2, h4⟩
theorem rights_ok {w wr : World} {A : Option Addr} {c : Nat} {o : List Ins3} (h : Top7St w wr A c o) : ∀ s ∈ o, s.ok := h.1.2
set_option maxHeartbeats 16000000 in
set_option maxRecDepth 100000 in
theorem top7 (W : World) (l : List Ins3) (A : Option Addr) (c : Nat) (hl : l.length ≤ 60) (HI : InssAt W A l) (len cap : Nat) (hway : (len = l.length ∧ cap = c ∧ decide ((len : Int) > 60) = false ∧ decide ((60 : Int) < (len : Int)) = false ∧ len ≤ 60) ∨ (l.length = 60 ∧ c = cap ∧ decide ((len : Int) > 60) = true ∧ decide ((60 : Int) < (len : Int)) = true ∧ 60 ≤ cap ∧ 60 < len ∧ ∃ a, A = some a)) :
    Calls Try.prog 4 #[.slice A len cap] W fun e w' => e = .returned (.bool true) ∧ Below W.heap.size W w' := by
  have HS := Lib.hid HI
  clear HI
  rcases hway with ⟨rfl, rfl, t0, t0', hlen⟩ | ⟨hl60, rfl, t0, t0', hcap, hlen, ad0, rfl⟩
  · go_enter Try.func4, Try.ntmps4
    go_wp2_with fail
    go_loopw [3, 4, 5] (fun n r i wr => ∃ (j : Nat) (A' : Option Addr) (c' : Nat) (o : List Ins3) (m : Nat), j ≤ l.length ∧ i = .int .i64 j ∧ r = .slice A' o.length c' ∧ n = .int .i64 (m : Int) ∧ Hid (o = rights l j) ∧ Hid (m = (encB o).length) ∧ Hid (Top7St W wr A' c' o)) (fun _ _ i _ => 60 - (intOf i).toNat)
    case atStart => exact ⟨0, none, 0, [], 0, by omega, rfl, rfl, rfl, Lib.hid (by simp [rights]), Lib.hid rfl, Lib.hid ⟨nrow_nil _ _, Below.refl _ _⟩⟩
    case round =>
      obtain ⟨j, A', c', o, m, hj, rfl, rfl, rfl, HO, HM, HT⟩ := hrel
      have hol : o.length ≤ 60 := by rw [HO.out]; have := rights_len l j; omega
      have hml : m ≤ 600 := by rw [HM.out]; have := encB_len o; omega
      by_cases hlt : j < l.length
      · have t1 : decide (j < l.length) = true := decide_eq_true (by omega)
        have t1' : decide ((j : Int) < (l.length : Int)) = true := decide_eq_true (by omega)
        have t3 : (j : Int) < (l.length : Int) := by omega
        have t4 : (0 : Int) ≤ (j : Int) := by omega
        obtain ⟨ad, hAd, hok, a0, a1, a2⟩ := xn_at HS.out hlt
        have HQ := Lib.hid (show ∀ w', Below W.heap.size W w' → w'.cell? (ad.add (j * 3)) = some (.int .u8 (xn l j).op) ∧ w'.cell? ⟨(ad.add (j * 3)).block, (ad.add (j * 3)).off + 1, none⟩ = some (.int .i64 (xn l j).arg) ∧ w'.cell? ⟨(ad.add (j * 3)).block, (ad.add (j * 3)).off + 2, none⟩ = some (.int .u64 (xn l j).val) from fun w' hb => by
          obtain ⟨_, h⟩ := inAt_below (s := xn l j) ⟨hok, a0, a1, a2⟩ (World.block_lt_of_cell? W _ a0) hb
          exact h)
        clear a0 a1 a2
        obtain ⟨a0, a1, a2⟩ := HQ.out wr HT.out.2
        have HY := Lib.hid (fun h => rights_yes hlt h)
        have HN := Lib.hid (fun h => rights_no hlt h)
        subst hAd
        generalize xn l j = x at hok a0 a1 a2 HQ HY HN
        obtain ⟨op, ag, v⟩ := x
        try dsimp only at *
        have HOK := Lib.hid hok
        obtain ⟨⟨h0, h1⟩, hI, hv⟩ := hok
        cases hri : rightI ⟨op, ag, v⟩
        · go_wp2_with (first | (go_at_call 8; refine (codeRight ⟨op, ag, v⟩ HOK.out _).mono ?_; rintro e w1 ⟨rfl, hb1⟩; rw [hri]; have S1 := Lib.hid (HT.out.below hb1); obtain ⟨b0, b1, b2⟩ := HQ.out w1 S1.out.2; clear hb1))
          go_roundw
          case rel => exact ⟨j + 1, A', c', o, m, by omega, by go_num, rfl, rfl, Lib.hid (by rw [HN.out hri]; exact HO.out), HM, S1⟩
          case measure => simp [intOf]; omega
        · obtain ⟨o1, HO1⟩ : ∃ y, Hid (o ++ [⟨op, ag, v⟩] = y) := ⟨_, Lib.hid rfl⟩
          have HE1 := Lib.hid (encB_one o ⟨op, ag, v⟩)
          cases hA : argB op <;> cases hV : valB op
          · go_wp2_with (first | (go_at_call 8; refine (codeRight ⟨op, ag, v⟩ HOK.out _).mono ?_; rintro e w1 ⟨rfl, hb1⟩; rw [hri]; have S1 := Lib.hid (HT.out.below hb1); obtain ⟨b0, b1, b2⟩ := HQ.out w1 S1.out.2; clear hb1) | (at_builtin; refine append_ins rfl (.tmp 29) (.tmp 34) rfl W.heap.size A' c' o rfl (S1.out.alloc _).1 w1.heap.size ⟨op, ag, v⟩ HOK.out rfl (heap_alloc_new _ _) (by omega) (S1.out.alloc _).2.size o1 HO1.out ?_; intro A6 c6 w6 hr6 hg6; have S6 := Lib.hid ((S1.out.alloc _).push hr6 hg6); obtain ⟨d0, d1, d2⟩ := HQ.out w6 S6.out.2; clear hr6 hg6) | (go_at_call 9; refine (uses_any op h0 h1 _).mono ?_; rintro e w7 ⟨rfl, hb7⟩; rw [hA, hV]; have S7 := Lib.hid (S6.out.below hb7); clear hb7))
            go_roundw
            case rel => exact ⟨j + 1, A6, c6, o1, m + 1, by omega, by go_num, rfl, by go_num, Lib.hid (by rw [HY.out hri, ← HO1.out, HO.out]), Lib.hid (by have h := HE1.out; rw [HO1.out, hA, hV, ← HM.out] at h; exact h.symm), S7⟩
            case measure => simp [intOf]; omega
          · go_wp2_with (first | (go_at_call 8; refine (codeRight ⟨op, ag, v⟩ HOK.out _).mono ?_; rintro e w1 ⟨rfl, hb1⟩; rw [hri]; have S1 := Lib.hid (HT.out.below hb1); obtain ⟨b0, b1, b2⟩ := HQ.out w1 S1.out.2; clear hb1) | (at_builtin; refine append_ins rfl (.tmp 29) (.tmp 34) rfl W.heap.size A' c' o rfl (S1.out.alloc _).1 w1.heap.size ⟨op, ag, v⟩ HOK.out rfl (heap_alloc_new _ _) (by omega) (S1.out.alloc _).2.size o1 HO1.out ?_; intro A6 c6 w6 hr6 hg6; have S6 := Lib.hid ((S1.out.alloc _).push hr6 hg6); obtain ⟨d0, d1, d2⟩ := HQ.out w6 S6.out.2; clear hr6 hg6) | (go_at_call 9; refine (uses_any op h0 h1 _).mono ?_; rintro e w7 ⟨rfl, hb7⟩; rw [hA, hV]; have S7 := Lib.hid (S6.out.below hb7); clear hb7))
            go_roundw
            case rel => exact ⟨j + 1, A6, c6, o1, m + 9, by omega, by go_num, rfl, by go_num, Lib.hid (by rw [HY.out hri, ← HO1.out, HO.out]), Lib.hid (by have h := HE1.out; rw [HO1.out, hA, hV, ← HM.out] at h; exact h.symm), S7⟩
            case measure => simp [intOf]; omega
          · go_wp2_with (first | (go_at_call 8; refine (codeRight ⟨op, ag, v⟩ HOK.out _).mono ?_; rintro e w1 ⟨rfl, hb1⟩; rw [hri]; have S1 := Lib.hid (HT.out.below hb1); obtain ⟨b0, b1, b2⟩ := HQ.out w1 S1.out.2; clear hb1) | (at_builtin; refine append_ins rfl (.tmp 29) (.tmp 34) rfl W.heap.size A' c' o rfl (S1.out.alloc _).1 w1.heap.size ⟨op, ag, v⟩ HOK.out rfl (heap_alloc_new _ _) (by omega) (S1.out.alloc _).2.size o1 HO1.out ?_; intro A6 c6 w6 hr6 hg6; have S6 := Lib.hid ((S1.out.alloc _).push hr6 hg6); obtain ⟨d0, d1, d2⟩ := HQ.out w6 S6.out.2; clear hr6 hg6) | (go_at_call 9; refine (uses_any op h0 h1 _).mono ?_; rintro e w7 ⟨rfl, hb7⟩; rw [hA, hV]; have S7 := Lib.hid (S6.out.below hb7); clear hb7))
            go_roundw
            case rel => exact ⟨j + 1, A6, c6, o1, m + 2, by omega, by go_num, rfl, by go_num, Lib.hid (by rw [HY.out hri, ← HO1.out, HO.out]), Lib.hid (by have h := HE1.out; rw [HO1.out, hA, hV, ← HM.out] at h; exact h.symm), S7⟩
            case measure => simp [intOf]; omega
          · go_wp2_with (first | (go_at_call 8; refine (codeRight ⟨op, ag, v⟩ HOK.out _).mono ?_; rintro e w1 ⟨rfl, hb1⟩; rw [hri]; have S1 := Lib.hid (HT.out.below hb1); obtain ⟨b0, b1, b2⟩ := HQ.out w1 S1.out.2; clear hb1) | (at_builtin; refine append_ins rfl (.tmp 29) (.tmp 34) rfl W.heap.size A' c' o rfl (S1.out.alloc _).1 w1.heap.size ⟨op, ag, v⟩ HOK.out rfl (heap_alloc_new _ _) (by omega) (S1.out.alloc _).2.size o1 HO1.out ?_; intro A6 c6 w6 hr6 hg6; have S6 := Lib.hid ((S1.out.alloc _).push hr6 hg6); obtain ⟨d0, d1, d2⟩ := HQ.out w6 S6.out.2; clear hr6 hg6) | (go_at_call 9; refine (uses_any op h0 h1 _).mono ?_; rintro e w7 ⟨rfl, hb7⟩; rw [hA, hV]; have S7 := Lib.hid (S6.out.below hb7); clear hb7))
            go_roundw
            case rel => exact ⟨j + 1, A6, c6, o1, m + 10, by omega, by go_num, rfl, by go_num, Lib.hid (by rw [HY.out hri, ← HO1.out, HO.out]), Lib.hid (by have h := HE1.out; rw [HO1.out, hA, hV, ← HM.out] at h; exact h.symm), S7⟩
            case measure => simp [intOf]; omega
      · have t1 : decide (j < l.length) = false := decide_eq_false (by omega)
        have t1' : decide ((j : Int) < (l.length : Int)) = false := decide_eq_false (by omega)
        have hj' : j = l.length := by omega
        have HRR := Lib.hid (show ∀ s ∈ o, rightI s = true by rw [HO.out]; exact rights_right l j)
        have HOO := Lib.hid (rights_ok HT.out)
        have HII := Lib.hid (nrow_inss HT.out.1 (by omega))
        have hm := HM.out
        subst hm
        clear HM HO
        go_wp2_with (first | (go_at_call 10; refine (encode_any o A' c' hol HRR.out _ HII.out.1).mono ?_; rintro e w1 ⟨A1, c1, rfl, hr1, hb1⟩; have B1 := Lib.hid (HT.out.2.trans (hb1.mono HT.out.2.size)); have BS1 := Lib.hid (bs_row hr1); clear hr1 hb1) | (go_at_call 11; refine (decode_any o hol HOO.out HRR.out A1 _ c1 _ BS1.out).mono ?_; rintro e w2 ⟨A2, c2, rfl, hb2⟩; have B2 := Lib.hid (B1.out.trans (hb2.mono B1.out.size)); clear hb2) | (go_at_call 12; refine (word_halt _).mono ?_; rintro e w3 ⟨rfl, hb3⟩; have B3 := Lib.hid (B2.out.trans (hb3.mono B2.out.size)); clear hb3))
        go_ret
        exact ⟨rfl, B3.out⟩
  · go_enter Try.func4, Try.ntmps4
    go_wp2_with fail
    go_loopw [3, 4, 5] (fun n r i wr => ∃ (j : Nat) (A' : Option Addr) (c' : Nat) (o : List Ins3) (m : Nat), j ≤ l.length ∧ i = .int .i64 j ∧ r = .slice A' o.length c' ∧ n = .int .i64 (m : Int) ∧ Hid (o = rights l j) ∧ Hid (m = (encB o).length) ∧ Hid (Top7St W wr A' c' o)) (fun _ _ i _ => 60 - (intOf i).toNat)
    case atStart => exact ⟨0, none, 0, [], 0, by omega, rfl, rfl, rfl, Lib.hid (by simp [rights]), Lib.hid rfl, Lib.hid ⟨nrow_nil _ _, Below.refl _ _⟩⟩
    case round =>
      obtain ⟨j, A', c', o, m, hj, rfl, rfl, rfl, HO, HM, HT⟩ := hrel
      have hol : o.length ≤ 60 := by rw [HO.out]; have := rights_len l j; omega
      have hml : m ≤ 600 := by rw [HM.out]; have := encB_len o; omega
      by_cases hlt : j < l.length
      · have t1 : decide (j < 60) = true := decide_eq_true (by omega)
        have t1' : decide ((j : Int) < (60 : Int)) = true := decide_eq_true (by omega)
        have t3 : (j : Int) < (60 : Int) := by omega
        have t4 : (0 : Int) ≤ (j : Int) := by omega
        obtain ⟨ad, hAd, hok, a0, a1, a2⟩ := xn_at HS.out hlt
        have HQ := Lib.hid (show ∀ w', Below W.heap.size W w' → w'.cell? (ad.add (j * 3)) = some (.int .u8 (xn l j).op) ∧ w'.cell? ⟨(ad.add (j * 3)).block, (ad.add (j * 3)).off + 1, none⟩ = some (.int .i64 (xn l j).arg) ∧ w'.cell? ⟨(ad.add (j * 3)).block, (ad.add (j * 3)).off + 2, none⟩ = some (.int .u64 (xn l j).val) from fun w' hb => by
          obtain ⟨_, h⟩ := inAt_below (s := xn l j) ⟨hok, a0, a1, a2⟩ (World.block_lt_of_cell? W _ a0) hb
          exact h)
        clear a0 a1 a2
        obtain ⟨a0, a1, a2⟩ := HQ.out wr HT.out.2
        have HY := Lib.hid (fun h => rights_yes hlt h)
        have HN := Lib.hid (fun h => rights_no hlt h)
        obtain rfl := Option.some.inj hAd
        generalize xn l j = x at hok a0 a1 a2 HQ HY HN
        obtain ⟨op, ag, v⟩ := x
        try dsimp only at *
        have HOK := Lib.hid hok
        obtain ⟨⟨h0, h1⟩, hI, hv⟩ := hok
        cases hri : rightI ⟨op, ag, v⟩
        · go_wp2_with (first | (go_at_call 8; refine (codeRight ⟨op, ag, v⟩ HOK.out _).mono ?_; rintro e w1 ⟨rfl, hb1⟩; rw [hri]; have S1 := Lib.hid (HT.out.below hb1); obtain ⟨b0, b1, b2⟩ := HQ.out w1 S1.out.2; clear hb1))
          go_roundw
          case rel => exact ⟨j + 1, A', c', o, m, by omega, by go_num, rfl, rfl, Lib.hid (by rw [HN.out hri]; exact HO.out), HM, S1⟩
          case measure => simp [intOf]; omega
        · obtain ⟨o1, HO1⟩ : ∃ y, Hid (o ++ [⟨op, ag, v⟩] = y) := ⟨_, Lib.hid rfl⟩
          have HE1 := Lib.hid (encB_one o ⟨op, ag, v⟩)
          cases hA : argB op <;> cases hV : valB op
          · go_wp2_with (first | (go_at_call 8; refine (codeRight ⟨op, ag, v⟩ HOK.out _).mono ?_; rintro e w1 ⟨rfl, hb1⟩; rw [hri]; have S1 := Lib.hid (HT.out.below hb1); obtain ⟨b0, b1, b2⟩ := HQ.out w1 S1.out.2; clear hb1) | (at_builtin; refine append_ins rfl (.tmp 29) (.tmp 34) rfl W.heap.size A' c' o rfl (S1.out.alloc _).1 w1.heap.size ⟨op, ag, v⟩ HOK.out rfl (heap_alloc_new _ _) (by omega) (S1.out.alloc _).2.size o1 HO1.out ?_; intro A6 c6 w6 hr6 hg6; have S6 := Lib.hid ((S1.out.alloc _).push hr6 hg6); obtain ⟨d0, d1, d2⟩ := HQ.out w6 S6.out.2; clear hr6 hg6) | (go_at_call 9; refine (uses_any op h0 h1 _).mono ?_; rintro e w7 ⟨rfl, hb7⟩; rw [hA, hV]; have S7 := Lib.hid (S6.out.below hb7); clear hb7))
            go_roundw
            case rel => exact ⟨j + 1, A6, c6, o1, m + 1, by omega, by go_num, rfl, by go_num, Lib.hid (by rw [HY.out hri, ← HO1.out, HO.out]), Lib.hid (by have h := HE1.out; rw [HO1.out, hA, hV, ← HM.out] at h; exact h.symm), S7⟩
            case measure => simp [intOf]; omega
          · go_wp2_with (first | (go_at_call 8; refine (codeRight ⟨op, ag, v⟩ HOK.out _).mono ?_; rintro e w1 ⟨rfl, hb1⟩; rw [hri]; have S1 := Lib.hid (HT.out.below hb1); obtain ⟨b0, b1, b2⟩ := HQ.out w1 S1.out.2; clear hb1) | (at_builtin; refine append_ins rfl (.tmp 29) (.tmp 34) rfl W.heap.size A' c' o rfl (S1.out.alloc _).1 w1.heap.size ⟨op, ag, v⟩ HOK.out rfl (heap_alloc_new _ _) (by omega) (S1.out.alloc _).2.size o1 HO1.out ?_; intro A6 c6 w6 hr6 hg6; have S6 := Lib.hid ((S1.out.alloc _).push hr6 hg6); obtain ⟨d0, d1, d2⟩ := HQ.out w6 S6.out.2; clear hr6 hg6) | (go_at_call 9; refine (uses_any op h0 h1 _).mono ?_; rintro e w7 ⟨rfl, hb7⟩; rw [hA, hV]; have S7 := Lib.hid (S6.out.below hb7); clear hb7))
            go_roundw
            case rel => exact ⟨j + 1, A6, c6, o1, m + 9, by omega, by go_num, rfl, by go_num, Lib.hid (by rw [HY.out hri, ← HO1.out, HO.out]), Lib.hid (by have h := HE1.out; rw [HO1.out, hA, hV, ← HM.out] at h; exact h.symm), S7⟩
            case measure => simp [intOf]; omega
          · go_wp2_with (first | (go_at_call 8; refine (codeRight ⟨op, ag, v⟩ HOK.out _).mono ?_; rintro e w1 ⟨rfl, hb1⟩; rw [hri]; have S1 := Lib.hid (HT.out.below hb1); obtain ⟨b0, b1, b2⟩ := HQ.out w1 S1.out.2; clear hb1) | (at_builtin; refine append_ins rfl (.tmp 29) (.tmp 34) rfl W.heap.size A' c' o rfl (S1.out.alloc _).1 w1.heap.size ⟨op, ag, v⟩ HOK.out rfl (heap_alloc_new _ _) (by omega) (S1.out.alloc _).2.size o1 HO1.out ?_; intro A6 c6 w6 hr6 hg6; have S6 := Lib.hid ((S1.out.alloc _).push hr6 hg6); obtain ⟨d0, d1, d2⟩ := HQ.out w6 S6.out.2; clear hr6 hg6) | (go_at_call 9; refine (uses_any op h0 h1 _).mono ?_; rintro e w7 ⟨rfl, hb7⟩; rw [hA, hV]; have S7 := Lib.hid (S6.out.below hb7); clear hb7))
            go_roundw
            case rel => exact ⟨j + 1, A6, c6, o1, m + 2, by omega, by go_num, rfl, by go_num, Lib.hid (by rw [HY.out hri, ← HO1.out, HO.out]), Lib.hid (by have h := HE1.out; rw [HO1.out, hA, hV, ← HM.out] at h; exact h.symm), S7⟩
            case measure => simp [intOf]; omega
          · go_wp2_with (first | (go_at_call 8; refine (codeRight ⟨op, ag, v⟩ HOK.out _).mono ?_; rintro e w1 ⟨rfl, hb1⟩; rw [hri]; have S1 := Lib.hid (HT.out.below hb1); obtain ⟨b0, b1, b2⟩ := HQ.out w1 S1.out.2; clear hb1) | (at_builtin; refine append_ins rfl (.tmp 29) (.tmp 34) rfl W.heap.size A' c' o rfl (S1.out.alloc _).1 w1.heap.size ⟨op, ag, v⟩ HOK.out rfl (heap_alloc_new _ _) (by omega) (S1.out.alloc _).2.size o1 HO1.out ?_; intro A6 c6 w6 hr6 hg6; have S6 := Lib.hid ((S1.out.alloc _).push hr6 hg6); obtain ⟨d0, d1, d2⟩ := HQ.out w6 S6.out.2; clear hr6 hg6) | (go_at_call 9; refine (uses_any op h0 h1 _).mono ?_; rintro e w7 ⟨rfl, hb7⟩; rw [hA, hV]; have S7 := Lib.hid (S6.out.below hb7); clear hb7))
            go_roundw
            case rel => exact ⟨j + 1, A6, c6, o1, m + 10, by omega, by go_num, rfl, by go_num, Lib.hid (by rw [HY.out hri, ← HO1.out, HO.out]), Lib.hid (by have h := HE1.out; rw [HO1.out, hA, hV, ← HM.out] at h; exact h.symm), S7⟩
            case measure => simp [intOf]; omega
      · have t1 : decide (j < 60) = false := decide_eq_false (by omega)
        have t1' : decide ((j : Int) < (60 : Int)) = false := decide_eq_false (by omega)
        have hj' : j = 60 := by omega
        have HRR := Lib.hid (show ∀ s ∈ o, rightI s = true by rw [HO.out]; exact rights_right l j)
        have HOO := Lib.hid (rights_ok HT.out)
        have HII := Lib.hid (nrow_inss HT.out.1 (by omega))
        have hm := HM.out
        subst hm
        clear HM HO
        go_wp2_with (first | (go_at_call 10; refine (encode_any o A' c' hol HRR.out _ HII.out.1).mono ?_; rintro e w1 ⟨A1, c1, rfl, hr1, hb1⟩; have B1 := Lib.hid (HT.out.2.trans (hb1.mono HT.out.2.size)); have BS1 := Lib.hid (bs_row hr1); clear hr1 hb1) | (go_at_call 11; refine (decode_any o hol HOO.out HRR.out A1 _ c1 _ BS1.out).mono ?_; rintro e w2 ⟨A2, c2, rfl, hb2⟩; have B2 := Lib.hid (B1.out.trans (hb2.mono B1.out.size)); clear hb2) | (go_at_call 12; refine (word_halt _).mono ?_; rintro e w3 ⟨rfl, hb3⟩; have B3 := Lib.hid (B2.out.trans (hb3.mono B2.out.size)); clear hb3))
        go_ret
        exact ⟨rfl, B3.out⟩
theorem topLength_walk (W : World) (A : Option Addr) (len cap : Nat) (h : InsIn W A len cap) :
    Calls Try.prog 4 #[.slice A len cap] W fun e w' => e = .returned (.bool true) ∧ Below W.heap.size W w' := by
  obtain ⟨l, rfl, hI, hc, hn⟩ := h
  by_cases hl : l.length ≤ 60
  · exact top7 W l A cap hl hI l.length cap (.inl ⟨rfl, rfl, decide_eq_false (by omega), decide_eq_false (by omega), hl⟩)
  · refine top7 W (l.take 60) A cap (by rw [List.length_take]; omega) (inss_take hI 60) l.length cap (.inr ⟨by rw [List.length_take]; omega, rfl, decide_eq_true (by omega), decide_eq_true (by omega), by omega, by omega, ?_⟩)
    cases A with
    | none => have := hn rfl; omega
    | some a => exact ⟨a, rfl⟩
end Go.Proofs.Ytbfjnanakmiaaaa
