
/-
  rowlockref21.after, rowlockref21.Found.
-/
import Derived.Test.YtbanfaboimachaaLinR4
namespace Go.Proofs.Ytbanfaboimachaa
open Go.RowKit
set_option linter.unusedSimpArgs false
set_option linter.unusedVariables false

theorem first_some {o : List Int} {i k j : Nat} (h : firstFrom o i k = some j) : i ≤ j ∧ j < i + k ∧ hasB o (j : Int) = false := by
  induction k generalizing i with
  | zero => cases h
  | succ k ih =>
    have h' : (bif hasB o (i : Int) then firstFrom o (i + 1) k else some i) = some j := h
    cases hb : hasB o (i : Int)
    · rw [hb] at h'
      obtain rfl := Option.some.inj h'
      exact ⟨Nat.le_refl _, by omega, hb⟩
    · rw [hb] at h'
      obtain ⟨h1, h2, h3⟩ := ih h'
      exact ⟨by omega, by omega, h3⟩
theorem first_skip {o : List Int} {i k : Nat} (h : hasB o (i : Int) = true) : firstFrom o i (k + 1) = firstFrom o (i + 1) k := by
  show (bif hasB o (i : Int) then firstFrom o (i + 1) k else some i) = _
  rw [h]; rfl
theorem first_hit {o : List Int} {i k : Nat} (h : hasB o (i : Int) = false) : firstFrom o i (k + 1) = some i := by
  show (bif hasB o (i : Int) then firstFrom o (i + 1) k else some i) = _
  rw [h]; rfl
theorem row_take {n : Nat} {o : List Int} (h : GoodRow n o) (k : Nat) : GoodRow n (o.take k) := by
  intro i hi
  have hi' : i < o.length ∧ i < k := by simp at hi; omega
  obtain ⟨m, h1, h2, h3⟩ := h i hi'.1
  exact ⟨m, by rw [List.getElem?_take, if_pos hi'.2]; exact h1, h2, by rw [List.take_take, Nat.min_eq_left (by omega)]; exact h3⟩
theorem row_snoc {n : Nat} {o : List Int} {i : Nat} (h : GoodRow n o) (hi : i < n) (hb : hasB o (i : Int) = false) : GoodRow n (o ++ [(i : Int)]) := by
  intro j hj
  by_cases e : j < o.length
  · obtain ⟨m, h1, h2, h3⟩ := h j e
    exact ⟨m, by rw [List.getElem?_append_left e]; exact h1, h2, by rw [List.take_append_of_le_length (by omega)]; exact h3⟩
  · have e2 : j = o.length := by simp at hj; omega
    subst e2
    exact ⟨i, by simp, hi, by simpa using hb⟩
theorem climb_good {n : Nat} (k : Nat) : ∀ {o : List Int}, GoodRow n o → GoodRow n (climbF n k o) := by
  induction k with
  | zero => intro o _ i hi; exact absurd hi (Nat.not_lt_zero _)
  | succ k ih =>
    intro o h
    show GoodRow n (match firstFrom (o.take k) ((nthI o k).toNat + 1) (n - ((nthI o k).toNat + 1)) with
      | some i => o.take k ++ [(i : Int)]
      | none => climbF n k (o.take k))
    cases hf : firstFrom (o.take k) ((nthI o k).toNat + 1) (n - ((nthI o k).toNat + 1)) with
    | none => exact ih (row_take h k)
    | some i =>
      obtain ⟨h1, h2, h3⟩ := first_some hf
      exact row_snoc (row_take h k) (by omega) h3
theorem after_good {n : Nat} {o : List Int} (h : GoodRow n o) : GoodRow n (afterF n o) := by
  unfold afterF nextKid
  cases hf : firstFrom o 0 (n - 0) with
  | none => exact climb_good _ h
  | some i =>
    obtain ⟨h1, h2, h3⟩ := first_some hf
    exact row_snoc h (by omega) h3
theorem row_i64 {n : Nat} {o : List Int} (h : GoodRow n o) (hn : n ≤ 1000) : ∀ x ∈ o, I64 x := by
  intro x hx
  obtain ⟨i, hi⟩ := List.mem_iff_getElem?.mp hx
  obtain ⟨m, h1, h2, _⟩ := h i (List.getElem?_eq_some_iff.mp hi).1
  rw [h1] at hi
  obtain rfl := Option.some.inj hi
  exact ⟨by omega, by omega⟩
def lenOf : Value → Nat
  | .slice _ n _ => n
  | _ => 0
def AfterPost (r : List Int) (w : World) (e : Ending) (w' : World) : Prop := ∃ A' c', e = .returned (.slice A' r.length c') ∧ (IntsAt okAll w' A' r ∧ r.length ≤ c' ∧ (A' = none → c' = 0)) ∧ Below w.heap.size w w'
theorem islice_to' (A : Option Addr) (n c k : Nat) (hk : k + 1 ≤ c) (hA : A = none → c = 0) (w : World) : (Instr.slice 26 (.slice A n c) none (some (.int .i64 (k : Int))) none).run Try.prog w = .ok (.slice A k c) w := islice_to A n c k (by omega) hA w
set_option maxHeartbeats 16000000 in
set_option maxRecDepth 100000 in
theorem after_any (n : Nat) (hn : n ≤ 24) (A : Option Addr) (c : Nat) (o : List Int) (ho : o.length ≤ n) (hG : GoodRow n o) (hc : o.length ≤ c) (hA : A = none → c = 0) (w : World) (HI : IntsAt okAll w A o) :
    Calls Try.prog 26 #[.slice A o.length c, .int .i64 n] w (AfterPost (afterF n o) w) := by
  have HGO := Lib.hid hG
  have HI0 := Lib.hid HI
  have HA0 := Lib.hid hA
  clear hG HI hA
  go_enter Try.func26, Try.ntmps26
  go_wp2_with fail
  go_loop [5] (fun i => ∃ j : Nat, j ≤ n ∧ i = .int .i64 j ∧ Hid (firstFrom o 0 n = firstFrom o j (n - j))) (fun i => n - (intOf i).toNat)
  case atStart => exact ⟨0, by omega, rfl, Lib.hid rfl⟩
  case round =>
    obtain ⟨j, hj, rfl, HN⟩ := hrel
    by_cases hlt : j < n
    · have t1' : decide ((j : Int) < (n : Int)) = true := decide_eq_true (by omega)
      have t1 : decide (j < n) = true := decide_eq_true hlt
      cases hb : hasB o (j : Int)
      · have HF : Hid (firstFrom o 0 n = some j) := Lib.hid (by rw [HN.out, show n - j = (n - (j + 1)) + 1 by omega, first_hit hb])
        have HAF : Hid (afterF n o = o ++ [(j : Int)]) := Lib.hid (by unfold afterF nextKid; rw [Nat.sub_zero, HF.out])
        obtain ⟨oj, hoj⟩ : ∃ y, y = o ++ [(j : Int)] := ⟨_, rfl⟩
        have HOJ := Lib.hid hoj.symm
        rw [← hoj] at HAF
        clear hoj
        go_wp2_with (first | (go_at_call 35; refine (in_any A c o (j : Int) (by omega) _ HI0.out).mono ?_; rintro e w' ⟨rfl, rfl⟩) | (at_builtin; refine append_ints' rfl (.tmp 17) (.tmp 18) rfl w.heap.size (some ⟨w.heap.size, 0, none⟩) 0 [] rfl (irow_empty w) A c o rfl HA0.out (ints_below HI0.out ((Below.refl _ _).alloc (Nat.le_refl _) _)) (by simp; omega) (by simp) o (List.nil_append _) ?_; intro A5 c5 w5 hr5 hg5 hat5; have B5 := Lib.hid (show Below w.heap.size w w5 from Below.grown ((Below.refl _ _).alloc (Nat.le_refl _) _) hg5 (by simp) (fun k hk => by simp [iblk] at hk; omega)); have R5 := Lib.hid hr5; clear hr5 hg5 hat5) | (at_builtin; refine append_ints' rfl (.tmp 19) (.tmp 21) rfl w.heap.size A5 c5 o rfl (irow_below R5.out ((Below.refl _ _).alloc (Nat.le_refl _) _)) (some ⟨_, 0, none⟩) 1 [(j : Int)] rfl (fun h => by cases h) (ints_lit' _ (j : Int) ⟨by omega, by omega⟩ _ rfl) (by simp; omega) (by have := B5.out.size; simp; omega) oj HOJ.out ?_; intro A6 c6 w6 hr6 hg6 hat6; have B6 := Lib.hid (show Below w.heap.size w w6 from Below.grown (B5.out.alloc B5.out.size _) hg6 (by have := B5.out.size; simp; omega) (fun k hk => (irow_lt R5.out k hk).1)); have R6 := Lib.hid (irow_ok hr6); clear hr6 hg6 hat6))
        go_ret
        unfold AfterPost
        rw [HAF.out]
        exact ⟨A6, c6, rfl, ⟨R6.out.2.2, R6.out.1, R6.out.2.1⟩, B6.out⟩
      · have HF : Hid (firstFrom o 0 n = firstFrom o (j + 1) (n - (j + 1))) := Lib.hid (by rw [HN.out, show n - j = (n - (j + 1)) + 1 by omega, first_skip hb])
        go_wp2_with (go_at_call 35; refine (in_any A c o (j : Int) (by omega) _ HI0.out).mono ?_; rintro e w' ⟨rfl, rfl⟩)
        go_round
        case rel => exact ⟨j + 1, by omega, by go_num, HF⟩
        case measure => simp [intOf]; omega
    · have t1' : decide ((j : Int) < (n : Int)) = false := decide_eq_false (by omega)
      have t1 : decide (j < n) = false := decide_eq_false hlt
      have HAF : Hid (afterF n o = climbF n o.length o) := Lib.hid (by
        unfold afterF nextKid
        rw [Nat.sub_zero, HN.out, show n - j = 0 by omega]
        rfl)
      clear HN hj hlt
      go_wp2_with fail
      go_loopw [0] (fun s wr => ∃ (k : Nat) (q : List Int) (A' : Option Addr) (c' : Nat), s = .slice A' k c' ∧ Hid (q.length = k) ∧ k ≤ n ∧ Hid (GoodRow n q) ∧ Hid (IntsAt okAll wr A' q ∧ k ≤ c' ∧ (A' = none → c' = 0)) ∧ Hid (afterF n o = climbF n k q) ∧ Hid (Below w.heap.size w wr)) (fun s _ => lenOf s)
      case atStart => exact ⟨o.length, o, A, c, rfl, Lib.hid rfl, ho, HGO, Lib.hid ⟨HI0.out, hc, HA0.out⟩, HAF, Lib.hid (Below.refl _ _)⟩
      case round =>
        obtain ⟨k, q, A', c', rfl, HQL, hkn, HGQ, HIQ, HAQ, HB⟩ := hrel
        cases k with
        | zero =>
          go_wp2_with fail
          go_ret
          unfold AfterPost
          rw [HAQ.out]
          exact ⟨none, 0, rfl, ⟨ints_nil0 _, Nat.le_refl _, fun _ => rfl⟩, HB.out⟩
        | succ m =>
          obtain ⟨v, v1, v2, _⟩ := HGQ.out m (by have := HQL.out; omega)
          obtain ⟨ad, hAe, hcv⟩ := ints_at HIQ.out.1 (show m < q.length by have := HQL.out; omega)
          have hmv : nthI q m = (v : Int) := by unfold nthI; rw [v1]; rfl
          rw [hmv] at hcv
          have HMV := Lib.hid hmv
          have hcm : m + 1 ≤ c' := HIQ.out.2.1
          have s1 : ∀ w, (Instr.slice 26 (.slice A' (m + 1) c') none (some (.int .i64 (m : Int))) none).run Try.prog w = .ok (.slice A' m c') w := fun w => islice_to' A' (m + 1) c' m hcm HIQ.out.2.2 w
          obtain ⟨p, hp⟩ : ∃ p, p = q.take m := ⟨_, rfl⟩
          have HPL : Hid (p.length = m) := Lib.hid (by rw [hp]; have := HQL.out; simp; omega)
          have HGP : Hid (GoodRow n p) := Lib.hid (by rw [hp]; exact row_take HGQ.out m)
          have HIP : Hid (IntsAt okAll wr A' p) := Lib.hid (by rw [hp]; exact ints_take HIQ.out.1 m)
          have HCL : Hid (climbF n (m + 1) q = match firstFrom p (v + 1) (n - (v + 1)) with | some i => p ++ [(i : Int)] | none => climbF n m p) := Lib.hid (by
            show (match firstFrom (q.take m) ((nthI q m).toNat + 1) (n - ((nthI q m).toNat + 1)) with | some i => q.take m ++ [(i : Int)] | none => climbF n m (q.take m)) = _
            rw [HMV.out, Int.toNat_natCast, ← hp])
          subst hAe
          have t5 : (0 : Int) < (m : Int) + 1 := by omega
          have t6 : decide ((0 : Int) < (m : Int) + 1) = true := decide_eq_true (by omega)
          have t7 : (m : Int) < (m : Int) + 1 := by omega
          have t8 : (0 : Int) ≤ (m : Int) := by omega
          have e1 : (m : Int) + 1 - 1 = (m : Int) := by omega
          clear hmv v1 hp
          go_wp2_with (at_builtin; refine append_ints' rfl (.tmp 32) (.tmp 37) rfl wr.heap.size (some ⟨wr.heap.size, 0, none⟩) 0 [] rfl (irow_empty wr) (some ad) c' p (by rw [HPL.out]; rfl) (fun h => by cases h) (ints_below HIP.out ((Below.refl _ _).alloc (Nat.le_refl _) _)) (by have := HPL.out; simp; omega) (by simp) p (List.nil_append _) ?_; intro A5 c5 w5 hr5 hg5 hat5; have B5 := Lib.hid (show Below wr.heap.size wr w5 from Below.grown ((Below.refl _ _).alloc (Nat.le_refl _) _) hg5 (by simp) (fun k hk => by simp [iblk] at hk; omega)); have R5 := Lib.hid hr5; have RI := Lib.hid (irow_ok hr5); clear hr5 hg5 hat5)
          clear s1 hcv e1 t5 t6 t7
          go_loop [7] (fun i => ∃ j : Nat, v + 1 ≤ j ∧ j ≤ n ∧ i = .int .i64 j ∧ Hid (firstFrom p (v + 1) (n - (v + 1)) = firstFrom p j (n - j))) (fun i => n - (intOf i).toNat)
          case atStart => exact ⟨v + 1, by omega, by omega, by go_num, Lib.hid rfl⟩
          case round =>
            obtain ⟨j, hj1, hj2, rfl, HF⟩ := hrel
            by_cases hlt : j < n
            · have t1' : decide ((j : Int) < (n : Int)) = true := decide_eq_true (by omega)
              have t1 : decide (j < n) = true := decide_eq_true hlt
              cases hb : hasB p (j : Int)
              · have HAF2 : Hid (afterF n o = p ++ [(j : Int)]) := Lib.hid (by rw [HAQ.out, HCL.out, HF.out, show n - j = (n - (j + 1)) + 1 by omega, first_hit hb])
                obtain ⟨pj, hpj⟩ : ∃ y, y = p ++ [(j : Int)] := ⟨_, rfl⟩
                have HPJ := Lib.hid hpj.symm
                rw [← hpj] at HAF2
                clear hpj
                go_wp2_with (first | (go_at_call 35; refine (in_any A5 c5 p (j : Int) (by have := HPL.out; omega) _ RI.out.2.2).mono ?_; rintro e w' ⟨rfl, rfl⟩) | (at_builtin; refine append_ints' rfl (.tmp 50) (.tmp 52) rfl wr.heap.size A5 c5 p rfl (irow_below R5.out ((Below.refl _ _).alloc (Nat.le_refl _) _)) (some ⟨_, 0, none⟩) 1 [(j : Int)] rfl (fun h => by cases h) (ints_lit' _ (j : Int) ⟨by omega, by omega⟩ _ rfl) (by have := HPL.out; simp; omega) (by have := B5.out.size; simp; omega) pj HPJ.out ?_; intro A6 c6 w6 hr6 hg6 hat6; have B6 := Lib.hid (show Below wr.heap.size wr w6 from Below.grown (B5.out.alloc B5.out.size _) hg6 (by have := B5.out.size; simp; omega) (fun k hk => (irow_lt R5.out k hk).1)); have R6 := Lib.hid (irow_ok hr6); clear hr6 hg6 hat6))
                go_ret
                unfold AfterPost
                rw [HAF2.out]
                exact ⟨A6, c6, rfl, ⟨R6.out.2.2, R6.out.1, R6.out.2.1⟩, HB.out.trans (B6.out.mono HB.out.size)⟩
              · have HF2 : Hid (firstFrom p (v + 1) (n - (v + 1)) = firstFrom p (j + 1) (n - (j + 1))) := Lib.hid (by rw [HF.out, show n - j = (n - (j + 1)) + 1 by omega, first_skip hb])
                go_wp2_with (go_at_call 35; refine (in_any A5 c5 p (j : Int) (by have := HPL.out; omega) _ RI.out.2.2).mono ?_; rintro e w' ⟨rfl, rfl⟩)
                go_round
                case rel => exact ⟨j + 1, by omega, by omega, by go_num, HF2⟩
                case measure => simp [intOf]; omega
            · have t1' : decide ((j : Int) < (n : Int)) = false := decide_eq_false (by omega)
              have t1 : decide (j < n) = false := decide_eq_false hlt
              have HAF2 : Hid (afterF n o = climbF n p.length p) := Lib.hid (by rw [HAQ.out, HCL.out, HF.out, show n - j = 0 by omega, HPL.out]; rfl)
              go_wp2_with fail
              go_roundw
              case rel => exact ⟨p.length, p, A5, c5, rfl, Lib.hid rfl, by have := HPL.out; omega, HGP, Lib.hid ⟨RI.out.2.2, RI.out.1, RI.out.2.1⟩, HAF2, Lib.hid (HB.out.trans (B5.out.mono HB.out.size))⟩
              case measure => have := HPL.out; simp [lenOf]; omega
end Go.Proofs.Ytbanfaboimachaa
