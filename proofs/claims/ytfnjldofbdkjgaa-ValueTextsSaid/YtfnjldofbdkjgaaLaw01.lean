/-
  The walks of the statements of layer 1 that take words and numbers: each returns true.
-/
import Derived.Test.YtfnjldofbdkjgaaLive
namespace Go.Proofs.Ytfnjldofbdkjgaa
open Go.RowKit
set_option linter.unusedSimpArgs false

theorem w64_of {a : Int} (h : (Lit.int .u64 a).wf = true) : W64 a := by
  simp [Lit.wf, IntKind.min, IntKind.max, IntKind.bits, IntKind.signed] at h
  exact ⟨by omega, by omega⟩
theorem rank_total {a b : Int} (ha : W64 a) (hb : W64 b) : sameB a b = true ↔ rankV a = rankV b := by
  have wa := canon_w64 ha
  have wb := canon_w64 hb
  unfold sameB rankV
  rw [beq_iff_eq]
  obtain ⟨a0, a1⟩ := wa
  obtain ⟨b0, b1⟩ := wb
  split <;> split <;> omega

theorem valueOrder_walk (a0 : Int) (w0 : (Lit.int .u64 a0).wf = true) (a1 : Int) (w1 : (Lit.int .u64 a1).wf = true) (a2 : Int) (w2 : (Lit.int .u64 a2).wf = true) (w : World) :
    Calls Try.prog 5 #[.int .u64 a0, .int .u64 a1, .int .u64 a2] w fun e w' => e = .returned (.bool true) ∧ Below w.heap.size w w' := by
  have h0 := w64_of w0
  have h1 := w64_of w1
  have h2 := w64_of w2
  have t := rank_total h0 h1
  clear w0 w1 w2
  have e1 : lessB a0 a0 = false := by unfold lessB; simp
  have e2 : lessB a0 a1 = true → lessB a1 a0 = false := by unfold lessB; simp only [decide_eq_true_eq, decide_eq_false_iff_not]; omega
  have e3 : sameB a0 a1 = !(lessB a0 a1 || lessB a1 a0) := by
    rw [Bool.eq_iff_iff, t]
    unfold lessB
    simp
    omega
  have e4 : lessB a0 a1 = true → lessB a1 a2 = true → lessB a0 a2 = true := by unfold lessB; simp only [decide_eq_true_eq]; omega
  clear t
  cases c1 : lessB a0 a1
  · rw [c1] at e3
    clear e2 e4
    cases c2 : lessB a1 a0
    all_goals
      rw [c2] at e3
      simp only [Bool.or_false, Bool.or_true, Bool.not_true, Bool.not_false] at e3
      go_enter Try.func5, Try.ntmps5
      go_wp2_with (first | (go_at_call 25; refine (less_any _ _ (by assumption) (by assumption) _).mono ?_; rintro e w' ⟨rfl, rfl⟩) | (go_at_call 26; refine (same_any _ _ (by assumption) (by assumption) _).mono ?_; rintro e w' ⟨rfl, rfl⟩) | (go_at_call 14; refine (live_any _).mono ?_; rintro e w' ⟨rfl, hb⟩))
      go_ret
      exact ⟨rfl, hb⟩
  · have c2 := e2 c1
    have e4' := e4 c1
    rw [c1, c2] at e3
    simp only [Bool.or_false, Bool.not_true] at e3
    clear e2 e4
    cases c3 : lessB a1 a2
    · clear e4'
      go_enter Try.func5, Try.ntmps5
      go_wp2_with (first | (go_at_call 25; refine (less_any _ _ (by assumption) (by assumption) _).mono ?_; rintro e w' ⟨rfl, rfl⟩) | (go_at_call 26; refine (same_any _ _ (by assumption) (by assumption) _).mono ?_; rintro e w' ⟨rfl, rfl⟩) | (go_at_call 14; refine (live_any _).mono ?_; rintro e w' ⟨rfl, hb⟩))
      go_ret
      exact ⟨rfl, hb⟩
    · have c4 := e4' c3
      clear e4'
      go_enter Try.func5, Try.ntmps5
      go_wp2_with (first | (go_at_call 25; refine (less_any _ _ (by assumption) (by assumption) _).mono ?_; rintro e w' ⟨rfl, rfl⟩) | (go_at_call 26; refine (same_any _ _ (by assumption) (by assumption) _).mono ?_; rintro e w' ⟨rfl, rfl⟩) | (go_at_call 14; refine (live_any _).mono ?_; rintro e w' ⟨rfl, hb⟩))
      go_ret
      exact ⟨rfl, hb⟩

/-! ### The others -/
theorem of_word (v : Int) (hv : W64 v) (w : World) : Calls Try.prog 12 #[.float .f64 (canon v).toNat] w fun e w' => e = .returned (.int .u64 (canon v)) ∧ w = w' := by
  have c := canon_w64 hv
  have hn : W64n (canon v).toNat := by obtain ⟨a, b⟩ := c; unfold W64n; omega
  refine (of_any _ hn w).mono ?_
  rintro e w' ⟨rfl, rfl⟩
  exact ⟨by rw [Int.toNat_of_nonneg c.1, canon_canon], rfl⟩
theorem refOf_word (v : Int) (hv : W64 v) (w : World) : Calls Try.prog 15 #[.float .f64 (canon v).toNat] w fun e w' => e = .returned (.int .u64 (canon v)) ∧ w = w' := by
  have c := canon_w64 hv
  have hn : W64n (canon v).toNat := by obtain ⟨a, b⟩ := c; unfold W64n; omega
  refine (refOf_any _ hn w).mono ?_
  rintro e w' ⟨rfl, rfl⟩
  exact ⟨by rw [Int.toNat_of_nonneg c.1, canon_canon], rfl⟩
theorem valueForms_walk (a0 : Int) (w0 : (Lit.int .u64 a0).wf = true) (w : World) :
    Calls Try.prog 4 #[.int .u64 a0] w fun e w' => e = .returned (.bool true) ∧ Below w.heap.size w w' := by
  have h0 := w64_of w0
  clear w0
  go_enter Try.func4, Try.ntmps4
  go_wp2_with (first | (go_at_call 13; refine (float_any _ h0 _).mono ?_; rintro e w' ⟨rfl, rfl⟩) | (go_at_call 17; refine (refFloat_any _ h0 _).mono ?_; rintro e w' ⟨rfl, rfl⟩) | (go_at_call 16; refine (right_any _ h0 _).mono ?_; rintro e w' ⟨rfl, rfl⟩) | (go_at_call 18; refine (refRight_any _ h0 _).mono ?_; rintro e w' ⟨rfl, rfl⟩) | (go_at_call 19; refine (canon_any _ h0 _).mono ?_; rintro e w' ⟨rfl, rfl⟩) | (go_at_call 20; refine (refCanon_any _ h0 _).mono ?_; rintro e w' ⟨rfl, rfl⟩) | (go_at_call 21; refine (classOf_any _ h0 _).mono ?_; rintro e w' ⟨rfl, rfl⟩) | (go_at_call 22; refine (refClass_any _ h0 _).mono ?_; rintro e w' ⟨rfl, rfl⟩) | (go_at_call 23; refine (negative_any _ h0 _).mono ?_; rintro e w' ⟨rfl, rfl⟩) | (go_at_call 24; refine (refNegative_any _ h0 _).mono ?_; rintro e w' ⟨rfl, rfl⟩) | (go_at_call 12; refine (of_word _ h0 _).mono ?_; rintro e w' ⟨rfl, rfl⟩) | (go_at_call 15; refine (refOf_word _ h0 _).mono ?_; rintro e w' ⟨rfl, rfl⟩) | (go_at_call 14; refine (live_any _).mono ?_; rintro e w' ⟨rfl, hb⟩))
  go_ret
  exact ⟨rfl, hb⟩
theorem valueFloats_walk (b : Nat) (w0 : (Lit.float .f64 b).wf = true) (w : World) :
    Calls Try.prog 3 #[.float .f64 b] w fun e w' => e = .returned (.bool true) ∧ Below w.heap.size w w' := by
  have hn := wf_w64n w0
  clear w0
  have hw := hn.w
  have hc := canon_w64 hw
  have hr := Lib.hid (canon_right (v := (b : Int)))
  have hcc := Lib.hid (canon_canon (b : Int))
  by_cases hb : isNum (b : Int)
  · have e1 := canon_of_num hb
    have o := order_self hw
    rw [Int.toNat_natCast, decide_eq_true hb] at o
    have F : ∀ w : World, Calls Try.prog 13 #[.int .u64 (canon (b : Int))] w fun e w' => e = .returned (.float .f64 b) ∧ w = w' := by
      intro w
      refine (float_any _ hc w).mono ?_
      rintro e w' ⟨rfl, rfl⟩
      exact ⟨by rw [hcc.out, e1, Int.toNat_natCast], rfl⟩
    have HF := Lib.hid F
    clear F e1 hb
    go_enter Try.func3, Try.ntmps3
    go_wp2_with (first | (go_at_call 12; refine (of_any _ hn _).mono ?_; rintro e w' ⟨rfl, rfl⟩) | (go_at_call 13; refine (HF.out _).mono ?_; rintro e w' ⟨rfl, rfl⟩) | (go_at_call 14; refine (live_any _).mono ?_; rintro e w' ⟨rfl, hb⟩) | (go_at_call 15; refine (refOf_any _ hn _).mono ?_; rintro e w' ⟨rfl, rfl⟩) | (go_at_call 16; refine (right_any _ hc _).mono ?_; rintro e w' ⟨rfl, rfl⟩; rw [hr.out]))
    go_ret
    exact ⟨rfl, hb⟩
  · have e1 := canon_of_not hb
    have o := order_self hw
    rw [Int.toNat_natCast, decide_eq_false hb] at o
    have o' : (FloatKind.f64.format.order b b != some .eq) = true := by unfold bne; rw [o]; rfl
    have p : (FloatKind.f64.format.order b 9221120237041090560 == some .eq) = false := by
      have := order_left (b := 9221120237041090560) hw hb
      rw [Int.toNat_natCast] at this
      change FloatKind.f64.format.order b 9221120237041090560 = none at this
      rw [this]
      rfl
    have q : (FloatKind.f64.format.order 9221120237041090560 9221120237041090560 != some .eq) = true := by decide +kernel
    have F : ∀ w : World, Calls Try.prog 13 #[.int .u64 (canon (b : Int))] w fun e w' => e = .returned (.float .f64 9221120237041090560) ∧ w = w' := by
      intro w
      refine (float_any _ hc w).mono ?_
      rintro e w' ⟨rfl, rfl⟩
      exact ⟨by rw [hcc.out, e1]; rfl, rfl⟩
    have HF := Lib.hid F
    clear F e1 hb
    go_enter Try.func3, Try.ntmps3
    go_wp2_with (first | (go_at_call 12; refine (of_any _ hn _).mono ?_; rintro e w' ⟨rfl, rfl⟩) | (go_at_call 13; refine (HF.out _).mono ?_; rintro e w' ⟨rfl, rfl⟩) | (go_at_call 14; refine (live_any _).mono ?_; rintro e w' ⟨rfl, hb⟩) | (go_at_call 15; refine (refOf_any _ hn _).mono ?_; rintro e w' ⟨rfl, rfl⟩) | (go_at_call 16; refine (right_any _ hc _).mono ?_; rintro e w' ⟨rfl, rfl⟩; rw [hr.out]))
    go_ret
    exact ⟨rfl, hb⟩
theorem valueAsks_walk (a0 : Int) (w0 : (Lit.int .u64 a0).wf = true) (a1 : Int) (w1 : (Lit.int .u64 a1).wf = true) (w : World) :
    Calls Try.prog 9 #[.int .u64 a0, .int .u64 a1] w fun e w' => e = .returned (.bool true) ∧ Below w.heap.size w w' := by
  have h0 := w64_of w0
  have h1 := w64_of w1
  clear w0 w1
  go_enter Try.func9, Try.ntmps9
  go_wp2_with (first | (go_at_call 25; refine (less_any _ _ h0 h1 _).mono ?_; rintro e w' ⟨rfl, rfl⟩) | (go_at_call 44; refine (refLess_any _ _ h0 h1 _).mono ?_; rintro e w' ⟨rfl, rfl⟩) | (go_at_call 45; refine (equal_any _ _ h0 h1 _).mono ?_; rintro e w' ⟨rfl, rfl⟩) | (go_at_call 46; refine (refEqual_any _ _ h0 h1 _).mono ?_; rintro e w' ⟨rfl, rfl⟩) | (go_at_call 26; refine (same_any _ _ h0 h1 _).mono ?_; rintro e w' ⟨rfl, rfl⟩) | (go_at_call 47; refine (refSame_any _ _ h0 h1 _).mono ?_; rintro e w' ⟨rfl, rfl⟩) | (go_at_call 48; refine (truth_any _ h0 _).mono ?_; rintro e w' ⟨rfl, rfl⟩) | (go_at_call 49; refine (refTruth_any _ h0 _).mono ?_; rintro e w' ⟨rfl, rfl⟩) | (go_at_call 14; refine (live_any _).mono ?_; rintro e w' ⟨rfl, hb⟩))
  go_ret
  exact ⟨rfl, hb⟩
theorem valueSigns_walk (a0 : Int) (w0 : (Lit.int .u64 a0).wf = true) (a1 : Int) (w1 : (Lit.int .u64 a1).wf = true) (w : World) :
    Calls Try.prog 10 #[.int .u64 a0, .int .u64 a1] w fun e w' => e = .returned (.bool true) ∧ Below w.heap.size w w' := by
  have h0 := w64_of w0
  have h1 := w64_of w1
  clear w0 w1
  go_enter Try.func10, Try.ntmps10
  go_wp2_with (first | (go_at_call 29; refine (neg_any _ h0 _).mono ?_; rintro e w' ⟨rfl, rfl⟩) | (go_at_call 50; refine (refNeg_any _ h0 _).mono ?_; rintro e w' ⟨rfl, rfl⟩) | (go_at_call 51; refine (abs_any _ h0 _).mono ?_; rintro e w' ⟨rfl, rfl⟩) | (go_at_call 52; refine (refAbs_any _ h0 _).mono ?_; rintro e w' ⟨rfl, rfl⟩) | (go_at_call 53; refine (min_any _ _ h0 h1 _).mono ?_; rintro e w' ⟨rfl, rfl⟩) | (go_at_call 54; refine (refMin_any _ _ h0 h1 _).mono ?_; rintro e w' ⟨rfl, rfl⟩) | (go_at_call 55; refine (max_any _ _ h0 h1 _).mono ?_; rintro e w' ⟨rfl, rfl⟩) | (go_at_call 56; refine (refMax_any _ _ h0 h1 _).mono ?_; rintro e w' ⟨rfl, rfl⟩) | (go_at_call 14; refine (live_any _).mono ?_; rintro e w' ⟨rfl, hb⟩))
  go_ret
  exact ⟨rfl, hb⟩
theorem valueReckons_walk (a0 : Int) (w0 : (Lit.int .u64 a0).wf = true) (a1 : Int) (w1 : (Lit.int .u64 a1).wf = true) (w : World) :
    Calls Try.prog 7 #[.int .u64 a0, .int .u64 a1] w fun e w' => e = .returned (.bool true) ∧ Below w.heap.size w w' := by
  have h0 := w64_of w0
  have h1 := w64_of w1
  clear w0 w1
  go_enter Try.func7, Try.ntmps7
  go_wp2_with (first | (go_at_call 31; refine (add_any _ _ h0 h1 _).mono ?_; rintro e w2 ⟨rfl, n, rfl⟩) | (go_at_call 32; refine (refAdd_any _ _ h0 h1 _).mono ?_; rintro e w2 ⟨rfl, n, rfl⟩) | (go_at_call 30; refine (sub_any _ _ h0 h1 _).mono ?_; rintro e w2 ⟨rfl, n, rfl⟩) | (go_at_call 33; refine (refSub_any _ _ h0 h1 _).mono ?_; rintro e w2 ⟨rfl, n, rfl⟩) | (go_at_call 34; refine (mul_any _ _ h0 h1 _).mono ?_; rintro e w2 ⟨rfl, n, rfl⟩) | (go_at_call 35; refine (refMul_any _ _ h0 h1 _).mono ?_; rintro e w2 ⟨rfl, n, rfl⟩) | (go_at_call 36; refine (div_any _ _ h0 h1 _).mono ?_; rintro e w2 ⟨rfl, n, rfl⟩) | (go_at_call 37; refine (refDiv_any _ _ h0 h1 _).mono ?_; rintro e w2 ⟨rfl, n, rfl⟩) | (go_at_call 14; refine (live_any _).mono ?_; rintro e w' ⟨rfl, hb⟩))
  go_ret
  exact ⟨rfl, by repeat (first | exact hb | refine below_drewN ?_ _)⟩

end Go.Proofs.Ytfnjldofbdkjgaa
