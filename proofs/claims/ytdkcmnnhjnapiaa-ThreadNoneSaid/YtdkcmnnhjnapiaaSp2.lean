
/-
  spec: fits, two, reckon.
-/
import Derived.Test.YtdkcmnnhjnapiaaSp1
namespace Go.Proofs.Ytdkcmnnhjnapiaa
open Go.RowKit Go.ChangeShapes Go.WideShapes
set_option linter.unusedSimpArgs false
set_option linter.unusedVariables false

theorem effs_small (o : Int) : (0 ≤ popsI o ∧ popsI o ≤ 2) ∧ 0 ≤ pushI o ∧ pushI o ≤ 2 := by
  unfold popsI pushI formAt
  generalize o.toNat = n
  by_cases h : n < 29
  · revert n
    decide
  · rw [List.getD_eq_getElem?_getD, List.getElem?_eq_none (by show 29 ≤ n; omega)]
    decide
def fitI (o : Int) (n : Nat) : Bool := decide ((n : Int) ≥ popsI o) && decide ((n : Int) - popsI o ≤ 12 - pushI o)
def WRes (F : Nat → Prop) (w : World) (g : Nat) (T : TypeId) (X : List Value) (I : Value) (r : Except Int (St × List Int)) (e : Ending) (w' : World) : Prop :=
  Fr F w w' ∧ match r with
    | .ok q => e = .returned (.tuple #[]) ∧ ∃ p', WK F w' g T X I q.1 q.2 p'
    | .error n => e = .panicked (stopP n)
section
variable {F : Nat → Prop} {w : World} {g : Nat} {T : TypeId} {X : List Value} {I : Value} {s : St} {hp : List Int} {p : Pl}
set_option maxHeartbeats 4000000 in
theorem fits_sp (x : Ins3) (hx : x.ok) (hl : s.stk.length ≤ 1000) (w : World) (h : WK F w g T X I s hp p) : Calls Try.prog 53 #[.pointer (some ⟨g, 0, none⟩), inV x] w fun e w' => (if fitI x.op s.stk.length then e = .returned (.tuple #[]) else e = .panicked (stopP 12)) ∧ Below w.heap.size w w' ∧ WK F w' g T X I s hp p := by
  have HX := Lib.hid h
  obtain ⟨y0, y1, y2, _⟩ := h.at
  have lp := h.lt
  obtain ⟨⟨h0, h1⟩, _⟩ := hx
  have HC := Lib.hid (fun w => effect_any x.op h0 h1 w)
  obtain ⟨⟨b1, b2⟩, b3, b4⟩ := effs_small x.op
  obtain ⟨o, ag, v⟩ := x
  unfold fitI inV
  dsimp only at *
  generalize popsI o = a at *
  generalize pushI o = b at *
  have k1 : wrap64 ((s.stk.length : Int) - a) = (s.stk.length : Int) - a := by unfold wrap64; omega
  have k2 : wrap64 (12 - b) = 12 - b := by unfold wrap64; omega
  have HB := Lib.hid (show 0 ≤ a ∧ a ≤ 2 ∧ 0 ≤ b ∧ b ≤ 2 from ⟨b1, b2, b3, b4⟩)
  clear h h0 h1 b1 b2 b3 b4
  have y2' := HX.out.alloc (.cells #[.int .u8 o, .int .i64 ag, .int .u64 v] 53)
  have HB1 := Lib.hid ((Below.refl w.heap.size w).alloc (Nat.le_refl _) (.cells #[.int .u8 o, .int .i64 ag, .int .u64 v] 53))
  clear y2'
  cases d1 : decide ((s.stk.length : Int) ≥ a)
  · have d1' : decide (a ≤ (s.stk.length : Int)) = false := d1
    go_enter Try.func53, Try.ntmps53
    go_wp2_with (first | (go_at_call 39; refine (HC.out _).mono ?_; rintro e w1 ⟨rfl, hb⟩; have B1 := Lib.hid (HB1.out.trans (hb.mono (by simp))); have R1 := Lib.hid (HX.out.below B1.out); have y2' := R1.out.at.2.2.1; have lp' := R1.out.lt; clear hb) | (go_at_call 51; refine (need_no _ _).mono ?_; rintro e w' ⟨rfl, rfl⟩))
    exact ⟨rfl, rfl, B1.out, R1.out⟩
  · have d1' : decide (a ≤ (s.stk.length : Int)) = true := d1
    cases d2 : decide ((s.stk.length : Int) - a ≤ 12 - b)
    · go_enter Try.func53, Try.ntmps53
      go_wp2_with (first | (go_at_call 39; refine (HC.out _).mono ?_; rintro e w1 ⟨rfl, hb⟩; have B1 := Lib.hid (HB1.out.trans (hb.mono (by simp))); have R1 := Lib.hid (HX.out.below B1.out); have y2' := R1.out.at.2.2.1; have lp' := R1.out.lt; clear hb) | (go_at_call 51; refine (need_no _ _).mono ?_; rintro e w' ⟨rfl, rfl⟩))
      exact ⟨rfl, rfl, B1.out, R1.out⟩
    · go_enter Try.func53, Try.ntmps53
      go_wp2_with (first | (go_at_call 39; refine (HC.out _).mono ?_; rintro e w1 ⟨rfl, hb⟩; have B1 := Lib.hid (HB1.out.trans (hb.mono (by simp))); have R1 := Lib.hid (HX.out.below B1.out); have y2' := R1.out.at.2.2.1; have lp' := R1.out.lt; clear hb) | (go_at_call 51; refine (need_yes _ _).mono ?_; rintro e w' ⟨rfl, rfl⟩))
      go_end0
      exact ⟨rfl, B1.out, R1.out⟩
set_option maxHeartbeats 4000000 in
theorem two_sp (k : Nat) (hf : Int → Int → Int) (HF : ∀ (a b : Int) (w : World), W64 a → W64 b → Calls Try.prog k #[.int .u64 a, .int .u64 b] w fun e w' => e = .returned (.int .u64 (hf a b)) ∧ Below w.heap.size w w') (HW : ∀ a b, W64 a → W64 b → W64 (hf a b)) (HK : ∀ (args : Array Value) (w : World), (callFunc k args).run Try.prog w = .ok (.enter k args) w)
    (l : List Int) (a b : Int) (hl : s.stk = l ++ [a] ++ [b]) (hn : l.length ≤ 800) (w : World) (h : WK F w g T X I s hp p) :
    Calls Try.prog 64 #[.pointer (some ⟨g, 0, none⟩), .func (.func k) #[] #[]] w fun e w' => e = .returned (.tuple #[]) ∧ Fr F w w' ∧ ∃ p', WK F w' g T X I { s with stk := l ++ [hf a b] } hp p' := by
  have HX := Lib.hid h
  have ha : W64 a := h.stk.2 a (by rw [hl]; simp)
  have hb : W64 b := h.stk.2 b (by rw [hl]; simp)
  have H1 := Lib.hid (pop_sp (I := I) (X := X) (T := T) (g := g) (F := F) (l ++ [a]) b hl (by simp; omega) w h)
  have H3 := Lib.hid (fun w => HF a b w ha hb)
  have HW' := Lib.hid (HW a b ha hb)
  clear h hl ha hb HF HW
  go_enter Try.func64, Try.ntmps64
  go_wp2_with (first | (go_at_call 55; first | (refine (H1.out).mono ?_; rintro e w1 ⟨rfl, hf1, hk1⟩; have F1 := Lib.hid hf1; have K1 := Lib.hid hk1; clear hf1 hk1) | (refine (pop_sp l a rfl (by omega) _ K1.out).mono ?_; rintro e w2 ⟨rfl, hf2, hk2⟩; have F2 := Lib.hid hf2; have K2 := Lib.hid hk2; clear hf2 hk2)) | (go_at_call 54; refine (push_sp (hf a b) HW'.out (by show l.length ≤ 900; omega) _ rfl _ K3.out).mono ?_; rintro e w4 ⟨rfl, hf4, hk4⟩; have F4 := Lib.hid hf4; have K4 := Lib.hid hk4; clear hf4 hk4) | (refine (H3.out _).mono ?_; rintro e w3 ⟨rfl, hb3⟩; have F3 := Lib.hid (K2.out.fr hb3); have K3 := Lib.hid (K2.out.below hb3); clear hb3))
  go_end0
  exact ⟨rfl, ((F1.out.trans F2.out).trans F3.out).trans F4.out, K4.out⟩
theorem enter_add (args : Array Value) (w : World) : (callFunc 65 args).run Try.prog w = .ok (.enter 65 args) w := by kernel_rfl
theorem enter_sub (args : Array Value) (w : World) : (callFunc 66 args).run Try.prog w = .ok (.enter 66 args) w := by kernel_rfl
theorem enter_mul (args : Array Value) (w : World) : (callFunc 67 args).run Try.prog w = .ok (.enter 67 args) w := by kernel_rfl
theorem enter_div (args : Array Value) (w : World) : (callFunc 68 args).run Try.prog w = .ok (.enter 68 args) w := by kernel_rfl
theorem enter_k1 (args : Array Value) (w : World) : (callFunc 69 args).run Try.prog w = .ok (.enter 69 args) w := by kernel_rfl
theorem enter_k2 (args : Array Value) (w : World) : (callFunc 72 args).run Try.prog w = .ok (.enter 72 args) w := by kernel_rfl
theorem drew_below {w w' : World} (h : DrewN w w') : Below w.heap.size w w' := by
  obtain ⟨n, rfl⟩ := h
  exact bl_drewN (Below.refl _ _) n
def lessV (a b : Int) : Int := yesV (lessB a b)
def sameV (a b : Int) : Int := yesV (sameB a b)
theorem yesV_w64 (b : Bool) : W64 (yesV b) := by cases b <;> exact ⟨by decide, by decide⟩
theorem k1_any (a b : Int) (w : World) (ha : W64 a) (hb : W64 b) : Calls Try.prog 69 #[.int .u64 a, .int .u64 b] w fun e w' => e = .returned (.int .u64 (lessV a b)) ∧ Below w.heap.size w w' := by
  have HC := Lib.hid (fun w => less_any a b ha hb w)
  clear ha hb
  go_enter Try.func69, Try.ntmps69
  go_wp2_with (first | (go_at_call 71; refine (HC.out _).mono ?_; rintro e w' ⟨rfl, rfl⟩) | (go_at_call 70; refine (yes_any _ _).mono ?_; rintro e w' ⟨rfl, rfl⟩))
  go_ret
  exact ⟨rfl, Below.refl _ _⟩
theorem k2_any (a b : Int) (w : World) (ha : W64 a) (hb : W64 b) : Calls Try.prog 72 #[.int .u64 a, .int .u64 b] w fun e w' => e = .returned (.int .u64 (sameV a b)) ∧ Below w.heap.size w w' := by
  have HC := Lib.hid (fun w => same_any a b ha hb w)
  clear ha hb
  go_enter Try.func72, Try.ntmps72
  go_wp2_with (first | (go_at_call 73; refine (HC.out _).mono ?_; rintro e w' ⟨rfl, rfl⟩) | (go_at_call 70; refine (yes_any _ _).mono ?_; rintro e w' ⟨rfl, rfl⟩))
  go_ret
  exact ⟨rfl, Below.refl _ _⟩
set_option maxHeartbeats 4000000 in
theorem reckon_8 (l : List Int) (a b : Int) (hl : s.stk = l ++ [a] ++ [b]) (hn : l.length ≤ 800) (w : World) (h : WK F w g T X I s hp p) :
    Calls Try.prog 58 #[.pointer (some ⟨g, 0, none⟩), .int .u8 8] w fun e w' => e = .returned (.tuple #[]) ∧ Fr F w w' ∧ ∃ p', WK F w' g T X I { s with stk := l ++ [fop .add a b] } hp p' := by
  have H1 := Lib.hid (two_sp 65 (fop .add) (fun a b w ha hb => (add_any a b ha hb w).mono (fun e w' h => ⟨h.1, drew_below h.2⟩)) (fun a b _ _ => fop_w64 _ a b) enter_add l a b hl hn w h)
  clear h hl
  go_enter Try.func58, Try.ntmps58
  go_wp2_with (go_at_call 64; refine (H1.out).mono ?_; rintro e w1 ⟨rfl, hf1, hk1⟩; have F1 := Lib.hid hf1; have K1 := Lib.hid hk1; clear hf1 hk1)
  go_end0
  exact ⟨rfl, F1.out, K1.out⟩
set_option maxHeartbeats 4000000 in
theorem reckon_9 (l : List Int) (a b : Int) (hl : s.stk = l ++ [a] ++ [b]) (hn : l.length ≤ 800) (w : World) (h : WK F w g T X I s hp p) :
    Calls Try.prog 58 #[.pointer (some ⟨g, 0, none⟩), .int .u8 9] w fun e w' => e = .returned (.tuple #[]) ∧ Fr F w w' ∧ ∃ p', WK F w' g T X I { s with stk := l ++ [fop .sub a b] } hp p' := by
  have H1 := Lib.hid (two_sp 66 (fop .sub) (fun a b w ha hb => (sub_any a b ha hb w).mono (fun e w' h => ⟨h.1, drew_below h.2⟩)) (fun a b _ _ => fop_w64 _ a b) enter_sub l a b hl hn w h)
  clear h hl
  go_enter Try.func58, Try.ntmps58
  go_wp2_with (go_at_call 64; refine (H1.out).mono ?_; rintro e w1 ⟨rfl, hf1, hk1⟩; have F1 := Lib.hid hf1; have K1 := Lib.hid hk1; clear hf1 hk1)
  go_end0
  exact ⟨rfl, F1.out, K1.out⟩
set_option maxHeartbeats 4000000 in
theorem reckon_10 (l : List Int) (a b : Int) (hl : s.stk = l ++ [a] ++ [b]) (hn : l.length ≤ 800) (w : World) (h : WK F w g T X I s hp p) :
    Calls Try.prog 58 #[.pointer (some ⟨g, 0, none⟩), .int .u8 10] w fun e w' => e = .returned (.tuple #[]) ∧ Fr F w w' ∧ ∃ p', WK F w' g T X I { s with stk := l ++ [fop .mul a b] } hp p' := by
  have H1 := Lib.hid (two_sp 67 (fop .mul) (fun a b w ha hb => (mul_any a b ha hb w).mono (fun e w' h => ⟨h.1, drew_below h.2⟩)) (fun a b _ _ => fop_w64 _ a b) enter_mul l a b hl hn w h)
  clear h hl
  go_enter Try.func58, Try.ntmps58
  go_wp2_with (go_at_call 64; refine (H1.out).mono ?_; rintro e w1 ⟨rfl, hf1, hk1⟩; have F1 := Lib.hid hf1; have K1 := Lib.hid hk1; clear hf1 hk1)
  go_end0
  exact ⟨rfl, F1.out, K1.out⟩
set_option maxHeartbeats 4000000 in
theorem reckon_11 (l : List Int) (a b : Int) (hl : s.stk = l ++ [a] ++ [b]) (hn : l.length ≤ 800) (w : World) (h : WK F w g T X I s hp p) :
    Calls Try.prog 58 #[.pointer (some ⟨g, 0, none⟩), .int .u8 11] w fun e w' => e = .returned (.tuple #[]) ∧ Fr F w w' ∧ ∃ p', WK F w' g T X I { s with stk := l ++ [fop .quo a b] } hp p' := by
  have H1 := Lib.hid (two_sp 68 (fop .quo) (fun a b w ha hb => (div_any a b ha hb w).mono (fun e w' h => ⟨h.1, drew_below h.2⟩)) (fun a b _ _ => fop_w64 _ a b) enter_div l a b hl hn w h)
  clear h hl
  go_enter Try.func58, Try.ntmps58
  go_wp2_with (go_at_call 64; refine (H1.out).mono ?_; rintro e w1 ⟨rfl, hf1, hk1⟩; have F1 := Lib.hid hf1; have K1 := Lib.hid hk1; clear hf1 hk1)
  go_end0
  exact ⟨rfl, F1.out, K1.out⟩
set_option maxHeartbeats 4000000 in
theorem reckon_13 (l : List Int) (a b : Int) (hl : s.stk = l ++ [a] ++ [b]) (hn : l.length ≤ 800) (w : World) (h : WK F w g T X I s hp p) :
    Calls Try.prog 58 #[.pointer (some ⟨g, 0, none⟩), .int .u8 13] w fun e w' => e = .returned (.tuple #[]) ∧ Fr F w w' ∧ ∃ p', WK F w' g T X I { s with stk := l ++ [lessV a b] } hp p' := by
  have H1 := Lib.hid (two_sp 69 (lessV) k1_any (fun a b _ _ => yesV_w64 _) enter_k1 l a b hl hn w h)
  clear h hl
  go_enter Try.func58, Try.ntmps58
  go_wp2_with (go_at_call 64; refine (H1.out).mono ?_; rintro e w1 ⟨rfl, hf1, hk1⟩; have F1 := Lib.hid hf1; have K1 := Lib.hid hk1; clear hf1 hk1)
  go_end0
  exact ⟨rfl, F1.out, K1.out⟩
set_option maxHeartbeats 4000000 in
theorem reckon_14 (l : List Int) (a b : Int) (hl : s.stk = l ++ [a] ++ [b]) (hn : l.length ≤ 800) (w : World) (h : WK F w g T X I s hp p) :
    Calls Try.prog 58 #[.pointer (some ⟨g, 0, none⟩), .int .u8 14] w fun e w' => e = .returned (.tuple #[]) ∧ Fr F w w' ∧ ∃ p', WK F w' g T X I { s with stk := l ++ [sameV a b] } hp p' := by
  have H1 := Lib.hid (two_sp 72 (sameV) k2_any (fun a b _ _ => yesV_w64 _) enter_k2 l a b hl hn w h)
  clear h hl
  go_enter Try.func58, Try.ntmps58
  go_wp2_with (go_at_call 64; refine (H1.out).mono ?_; rintro e w1 ⟨rfl, hf1, hk1⟩; have F1 := Lib.hid hf1; have K1 := Lib.hid hk1; clear hf1 hk1)
  go_end0
  exact ⟨rfl, F1.out, K1.out⟩
def notV (a : Int) : Int := yesV (!truthB a)
set_option maxHeartbeats 4000000 in
theorem reckon_12 (l : List Int) (a : Int) (hl : s.stk = l ++ [a]) (hn : l.length ≤ 800) (w : World) (h : WK F w g T X I s hp p) :
    Calls Try.prog 58 #[.pointer (some ⟨g, 0, none⟩), .int .u8 12] w fun e w' => e = .returned (.tuple #[]) ∧ Fr F w w' ∧ ∃ p', WK F w' g T X I { s with stk := l ++ [negV a] } hp p' := by
  have ha : W64 a := h.stk.2 a (by rw [hl]; simp)
  have H1 := Lib.hid (pop_sp (I := I) (X := X) (T := T) (g := g) (F := F) l a hl (by omega) w h)
  have H2 := Lib.hid (fun w => neg_any a ha w)
  have HW := Lib.hid (negV_w64 ha)
  clear h hl ha
  go_enter Try.func58, Try.ntmps58
  go_wp2_with (first | (go_at_call 55; refine (H1.out).mono ?_; rintro e w1 ⟨rfl, hf1, hk1⟩; have F1 := Lib.hid hf1; have K1 := Lib.hid hk1; clear hf1 hk1) | (go_at_call 74; refine (H2.out _).mono ?_; rintro e w2 ⟨rfl, rfl⟩) | (go_at_call 54; refine (push_sp (negV a) HW.out (by show l.length ≤ 900; omega) _ rfl _ K1.out).mono ?_; rintro e w4 ⟨rfl, hf4, hk4⟩; have F4 := Lib.hid hf4; have K4 := Lib.hid hk4; clear hf4 hk4))
  go_end0
  exact ⟨rfl, F1.out.trans F4.out, K4.out⟩
set_option maxHeartbeats 4000000 in
theorem reckon_15 (l : List Int) (a : Int) (hl : s.stk = l ++ [a]) (hn : l.length ≤ 800) (w : World) (h : WK F w g T X I s hp p) :
    Calls Try.prog 58 #[.pointer (some ⟨g, 0, none⟩), .int .u8 15] w fun e w' => e = .returned (.tuple #[]) ∧ Fr F w w' ∧ ∃ p', WK F w' g T X I { s with stk := l ++ [notV a] } hp p' := by
  have ha : W64 a := h.stk.2 a (by rw [hl]; simp)
  have H1 := Lib.hid (pop_sp (I := I) (X := X) (T := T) (g := g) (F := F) l a hl (by omega) w h)
  have H2 := Lib.hid (fun w => truth_any a ha w)
  clear h hl ha
  unfold notV
  go_enter Try.func58, Try.ntmps58
  go_wp2_with (first | (go_at_call 55; refine (H1.out).mono ?_; rintro e w1 ⟨rfl, hf1, hk1⟩; have F1 := Lib.hid hf1; have K1 := Lib.hid hk1; clear hf1 hk1) | (go_at_call 57; refine (H2.out _).mono ?_; rintro e w2 ⟨rfl, rfl⟩) | (go_at_call 70; refine (yes_any _ _).mono ?_; rintro e w2 ⟨rfl, rfl⟩) | (go_at_call 54; refine (push_sp (yesV (!truthB a)) (yesV_w64 _) (by show l.length ≤ 900; omega) _ rfl _ K1.out).mono ?_; rintro e w4 ⟨rfl, hf4, hk4⟩; have F4 := Lib.hid hf4; have K4 := Lib.hid hk4; clear hf4 hk4))
  go_end0
  exact ⟨rfl, F1.out.trans F4.out, K4.out⟩
theorem reckon_0 (w : World) : Calls Try.prog 58 #[.pointer (some ⟨g, 0, none⟩), .int .u8 0] w fun e w' => e = .returned (.tuple #[]) ∧ w = w' := by
  go_enter Try.func58, Try.ntmps58
  go_wp2
  go_end0
  exact ⟨rfl, rfl⟩
end
end Go.Proofs.Ytdkcmnnhjnapiaa
