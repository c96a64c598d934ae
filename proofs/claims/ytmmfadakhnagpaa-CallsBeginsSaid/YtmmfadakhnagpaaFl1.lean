
/-
  flows: words, ReadWord, digits, number, pieces.
-/
import Derived.Test.YtmmfadakhnagpaaCode2
import Derived.Test.YtmmfadakhnagpaaVal2
import Derived.Maps.OwnSet
import Derived.Maps.Views
import Derived.Laws.RangeAny
import Derived.LoopTactic
import Derived.Handy
namespace Go.Proofs.Ytmmfadakhnagpaa
open Go.RowKit Go.ChangeShapes Go.WideShapes Go.Maps Go.WideMaps
set_option linter.unusedSimpArgs false
set_option linter.unusedVariables false

theorem word_any (o : Int) (h0 : 0 ≤ o) (h1 : o ≤ 255) (w : World) : Calls Try.prog 118 #[.int .u8 o] w fun e w' => e = .returned (.string ⟨(formAt o.toNat).1.toArray⟩) ∧ Below w.heap.size w w' := by
  obtain ⟨F, hF⟩ : ∃ F, formAt o.toNat = F := ⟨_, rfl⟩
  rw [hF]
  have HC := Lib.hid (code_as o h0 h1 F hF)
  clear hF
  obtain ⟨f1, f2, f3, f4, f5⟩ := F
  have hfl : ∀ (s : ByteArray) (b1 b2 : Bool) (a1 a2 : Int) (w : World), (Instr.field 152 (.agg #[.string s, .bool b1, .bool b2, .int .i64 a1, .int .i64 a2]) 0).run Try.prog w = .ok (.string s) w := by intros; kernel_rfl
  go_enter Try.func118, Try.ntmps118
  go_wp2_with (go_at_call 115; refine (HC.out _).mono ?_; rintro e w1 ⟨rfl, hb⟩; have B := Lib.hid hb; clear hb)
  go_ret
  exact ⟨rfl, B.out⟩
def wkey (k : Nat) : Lit := .string (formAt k).1
def wD : Nat → DataW Unit
  | 0 => .map []
  | k + 1 => (wD k).put (wkey k) (.lit (.int .u8 k))
theorem wlaw : Keyed Try.prog 9 := string_keyed Try.underlying9
theorem wzero (w : World) : (zeroValue 62).run Try.prog w = .ok (.int .u8 0) w := by kernel_rfl
theorem formAt_len (k : Nat) : (formAt k).1.length ≤ 6 := by
  unfold formAt
  by_cases h : k < forms.length
  · rw [List.getD_eq_getElem?_getD, List.getElem?_eq_getElem h]
    have : ∀ x ∈ forms, x.1.length ≤ 6 := by decide
    exact this _ (List.getElem_mem h)
  · rw [List.getD_eq_getElem?_getD, List.getElem?_eq_none (by omega)]
    simp
theorem wkeyOf (k : Nat) : keyOf Try.prog 9 (.string ⟨(formAt k).1.toArray⟩) = some (wkey k) := by
  rw [keyOf_string_mk Try.underlying9 (by show (formAt k).1.toArray.size ≤ maxLen; have := formAt_len k; simp; unfold maxLen; omega)]
  simp [wkey]
set_option maxRecDepth 20000 in
set_option maxHeartbeats 4000000 in
theorem words_any (w : World) : Calls Try.prog 116 #[] w fun e w' => e = .returned (.map (some w.heap.size)) ∧ w'.ownsMap Try.prog 9 (plainElem Try.prog 62) w.heap.size 29 (wD 29) ∧ Below w.heap.size w w' := by
  have hmm := @run_makeMap Try.prog
  go_enter Try.func116, Try.ntmps116
  go_wp2_with fail
  go_loopw [2] (fun i wr => ∃ k : Nat, k ≤ 29 ∧ i = .int .u8 k ∧ Hid (wr.ownsMap Try.prog 9 (plainElem Try.prog 62) w.heap.size k (wD k)) ∧ Hid (Below w.heap.size w wr)) (fun i _ => 29 - (intOf i).toNat)
  case atStart => exact ⟨0, Nat.zero_le _, rfl, Lib.hid (World.ownsMap_made _ _ _ _), Lib.hid ((Below.refl _ _).alloc (Nat.le_refl _) _)⟩
  case round =>
    obtain ⟨k, hk, rfl, HO, HB⟩ := hrel
    by_cases hlt : k < 29
    · have s1 : decide ((k : Int) ≤ 28) = true := decide_eq_true (by omega)
      have s2 : decide (k ≤ 28) = true := decide_eq_true (by omega)
      have s3 : (k : Int) ≤ 28 := by omega
      have s5 : IntKind.u8.wrap ((k : Int) + 1) = (k : Int) + 1 := by show ((k : Int) + 1) % 256 = _; omega
      have HW := Lib.hid (fun w => by have := word_any (k : Int) (by omega) (by omega) w; rw [Int.toNat_natCast] at this; exact this)
      have wfk : (Lit.int .u8 (k : Int)).wf = true := by simp [Lit.wf, IntKind.min, IntKind.max, IntKind.bits, IntKind.signed]; omega
      go_wp2_with (first | (go_at_call 118; refine (HW.out _).mono ?_; rintro e w1 ⟨rfl, hb⟩; have B := Lib.hid hb; have O1 := Lib.hid (HO.out.kept (gb_below (r := none) hb) (by simp)); clear hb) | (at_mapUpdate; refine wpList_mapUpdate_own _ rfl _ _ _ 154 rfl 9 62 wlaw Try.underlying154 _ w.heap.size k _ rfl O1.out (by unfold maxLen; omega) _ _ _ rfl rfl (wkeyOf k) _ [] (plainElem_int Try.underlying62 wfk) ?_; intro w2 hown2 hgrow2; have O2 := Lib.hid hown2; have B2 := Lib.hid ((HB.out.trans (B.out.mono HB.out.size)).grown hgrow2 (Nat.le_trans HB.out.size B.out.size) (fun j hj => by cases hj; exact Nat.le_refl _)); clear hown2 hgrow2))
      go_roundw
      case rel => exact ⟨k + 1, by omega, by simp, O2, B2⟩
      case measure => simp [intOf]; omega
    · have : k = 29 := by omega
      subst this
      go_wp2_with fail
      go_ret
      exact ⟨rfl, HO.out, HB.out⟩
def rwOf (s : List UInt8) : Int := match (wD 29).atKey (.string s) (.lit (.int .u8 0)) with | .lit (.int _ c) => c | _ => 0
set_option maxRecDepth 20000 in
set_option maxHeartbeats 4000000 in
theorem readWord_any (s : ByteArray) (hs : s.size ≤ maxLen) (c : Int) (hc : (wD 29).atKey (.string s.data.toList) (.lit (.int .u8 0)) = .lit (.int .u8 c)) (w : World) : Calls Try.prog 112 #[.string s] w fun e w' => e = .returned (.tuple #[.int .u8 c, .bool (has (wD 29) (Lit.string s.data.toList))]) ∧ Below w.heap.size w w' := by
  have HK := Lib.hid (keyOf_string_mk Try.underlying9 hs)
  have HC := Lib.hid hc
  clear hs hc
  go_enter Try.func112, Try.ntmps112
  go_wp2_with (first | (go_at_call 116; refine (words_any _).mono ?_; rintro e w1 ⟨rfl, ho, hb⟩; have B := Lib.hid hb; have O := Lib.hid ho; clear ho hb) | (at_lookup; refine wpList_lookup_own_ok_int _ rfl _ _ 154 rfl 9 62 .u8 wlaw Try.underlying154 Try.underlying62 (wzero _) w.heap.size 29 _ rfl O.out _ _ rfl HK.out ?_; intro c' hat hwc; rw [HC.out] at hat; injection hat with hat; injection hat with _ hat; subst hat))
  go_returns
  exact ⟨rfl, B.out⟩

/-- The number that digits say. -/
def digN (l : List UInt8) : Int := l.foldl (fun n c => wrap64 (wrap64 (10 * n) + (c.toNat - 48))) 0
def digK (s : ByteArray) (k : Nat) : Int := digN (s.data.toList.take k)
theorem run_next_byte {P : Program} (w : World) (k : Nat) (s : ByteArray) (pos : Nat) (ty : TypeId) (hk : w.heap[k]? = some (.stringIter s pos)) (h : pos < s.size) (ha : (s[pos]'h).toNat < 128) :
    (Instr.next (.pointer (some ⟨k, 0, none⟩)) true ty).run P w = .ok (.tuple #[.bool true, .int .i64 pos, .int .i32 (s[pos]'h).toNat]) { w with heap := w.heap.setIfInBounds k (.stringIter s (pos + 1)) } := by
  simp only [Instr.next, getObj, setObj, Sem.run_bind, Sem.run, hk, Result.andThen, h, if_true, decode_ascii s pos h ha]
  simp [goInt, Sem.run, hk]
theorem run_next_stop {P : Program} (w : World) (k : Nat) (s : ByteArray) (pos : Nat) (ty : TypeId) (hk : w.heap[k]? = some (.stringIter s pos)) (h : ¬ pos < s.size) :
    (Instr.next (.pointer (some ⟨k, 0, none⟩)) true ty).run P w = .ok (.tuple #[.bool false]) w := by
  simp [Instr.next, getObj, Sem.run, hk, h]
theorem digK_step (s : ByteArray) (k : Nat) (h : k < s.size) : digK s (k + 1) = wrap64 (wrap64 (10 * digK s k) + ((s[k]'h).toNat - 48)) := by
  unfold digK digN
  have h' : k < s.data.toList.length := h
  rw [List.take_succ_eq_append_getElem h', List.foldl_append]
  rfl
set_option maxRecDepth 20000 in
set_option maxHeartbeats 4000000 in
theorem digits_any (s : ByteArray) (hd : ∀ x ∈ s.data.toList, 48 ≤ x.toNat ∧ x.toNat ≤ 57) (w : World) : Calls Try.prog 117 #[.string s] w fun e w' => e = .returned (.int .i64 (digN s.data.toList)) ∧ Below w.heap.size w w' := by
  have HD := Lib.hid hd
  clear hd
  go_enter Try.func117, Try.ntmps117
  go_wp2_with fail
  go_loopw [3] (fun n wr => ∃ k : Nat, k ≤ s.size ∧ wr = w.iter s k ∧ n = .int .i64 (digK s k)) (fun _ wr => s.size - wr.iterPos w.heap.size)
  case atStart => exact ⟨0, Nat.zero_le _, rfl, rfl⟩
  case round =>
    obtain ⟨k, hk, rfl, rfl⟩ := hrel
    by_cases hp : k < s.size
    · have hx := HD.out (s[k]'hp) (by show s.data[k] ∈ s.data.toList; exact Array.getElem_mem_toList _)
      have hnx : ∀ ty, (Instr.next (.pointer (some ⟨w.heap.size, 0, none⟩)) true ty).run Try.prog (w.iter s k) = _ := fun ty => run_next_ascii w s k ty hp (by omega)
      obtain ⟨c, hc⟩ : ∃ c : Nat, (s[k]'hp).toNat = c := ⟨_, rfl⟩
      have e1 := digK_step s k hp
      obtain ⟨d, hd⟩ : ∃ d, digK s k = d := ⟨_, rfl⟩
      obtain ⟨d2, hd2⟩ : ∃ d, digK s (k + 1) = d := ⟨_, rfl⟩
      simp only [hc] at hnx
      rw [hc] at e1 hx
      rw [hd, hd2] at e1
      have HE := Lib.hid e1
      have H2 := Lib.hid hd2
      rw [hd]
      clear e1 hd2 hc hd
      go_wp2_with fail
      go_roundw
      case rel => exact ⟨k + 1, hp, rfl, by rw [H2.out, HE.out]⟩
      case measure => simp; omega
    · have e : k = s.size := by omega
      have hnx : ∀ ty, (Instr.next (.pointer (some ⟨w.heap.size, 0, none⟩)) true ty).run Try.prog (w.iter s k) = _ := fun ty => run_next_end w s k ty hp
      have e2 : digK s k = digN s.data.toList := by unfold digK; rw [List.take_of_length_le (by show s.data.toList.length ≤ k; rw [e]; exact Nat.le_refl _)]
      rw [e2]
      clear e e2
      go_wp2_with fail
      go_ret
      exact ⟨rfl, (Below.refl _ _).alloc (Nat.le_refl _) _⟩
def nmV (tv sz lc vl : Int) : Value := .agg #[.int .i64 tv, .int .i64 sz, .int .i64 lc, .int .u64 vl]
theorem pieces_any (s : ByteArray) (sg : Int) (w : World) : Calls Try.prog 105 #[.string s, .int .i32 sg] w fun e w' => e = .returned (.func (.func 111) #[] #[.pointer (some ⟨w.heap.size, 0, none⟩), .pointer (some ⟨w.heap.size + 1, 0, none⟩)]) ∧ w' = (w.alloc (.cells #[.string s] 9)).alloc (.cells #[.int .i32 sg] 21) := by
  go_enter Try.func105, Try.ntmps105
  go_wp2_with fail
  go_ret
  exact ⟨rfl, rfl⟩
theorem number_n (tv sz lc vl : Int) (h0 : 0 ≤ tv) (h1 : tv ≤ 1000) (w : World) : Calls Try.prog 113 #[.agg #[.int .i64 tv, .int .i64 sz, .int .i64 lc, .int .u64 vl], .string ⟨#[110]⟩] w fun e w' => e = .returned (.int .i64 (tv)) ∧ Below w.heap.size w w' := by
  have d1 : wrap64 (tv + 1) = tv + 1 := by unfold wrap64; omega
  have d2 : wrap64 (tv + 2) = tv + 2 := by unfold wrap64; omega
  go_enter Try.func113, Try.ntmps113
  go_wp2_with fail
  go_ret
  exact ⟨rfl, (Below.refl _ _).alloc (Nat.le_refl _) _⟩
theorem number_f (tv sz lc vl : Int) (h0 : 0 ≤ tv) (h1 : tv ≤ 1000) (w : World) : Calls Try.prog 113 #[.agg #[.int .i64 tv, .int .i64 sz, .int .i64 lc, .int .u64 vl], .string ⟨#[102]⟩] w fun e w' => e = .returned (.int .i64 (tv + 1)) ∧ Below w.heap.size w w' := by
  have d1 : wrap64 (tv + 1) = tv + 1 := by unfold wrap64; omega
  have d2 : wrap64 (tv + 2) = tv + 2 := by unfold wrap64; omega
  go_enter Try.func113, Try.ntmps113
  go_wp2_with fail
  go_ret
  exact ⟨rfl, (Below.refl _ _).alloc (Nat.le_refl _) _⟩
theorem number_s (tv sz lc vl : Int) (h0 : 0 ≤ tv) (h1 : tv ≤ 1000) (w : World) : Calls Try.prog 113 #[.agg #[.int .i64 tv, .int .i64 sz, .int .i64 lc, .int .u64 vl], .string ⟨#[115]⟩] w fun e w' => e = .returned (.int .i64 (tv + 2)) ∧ Below w.heap.size w w' := by
  have d1 : wrap64 (tv + 1) = tv + 1 := by unfold wrap64; omega
  have d2 : wrap64 (tv + 2) = tv + 2 := by unfold wrap64; omega
  go_enter Try.func113, Try.ntmps113
  go_wp2_with fail
  go_ret
  exact ⟨rfl, (Below.refl _ _).alloc (Nat.le_refl _) _⟩
theorem number_z (tv sz lc vl : Int) (h0 : 0 ≤ tv) (h1 : tv ≤ 1000) (w : World) : Calls Try.prog 113 #[.agg #[.int .i64 tv, .int .i64 sz, .int .i64 lc, .int .u64 vl], .string ⟨#[122]⟩] w fun e w' => e = .returned (.int .i64 (sz)) ∧ Below w.heap.size w w' := by
  have d1 : wrap64 (tv + 1) = tv + 1 := by unfold wrap64; omega
  have d2 : wrap64 (tv + 2) = tv + 2 := by unfold wrap64; omega
  go_enter Try.func113, Try.ntmps113
  go_wp2_with fail
  go_ret
  exact ⟨rfl, (Below.refl _ _).alloc (Nat.le_refl _) _⟩
theorem number_l (tv sz lc vl : Int) (h0 : 0 ≤ tv) (h1 : tv ≤ 1000) (w : World) : Calls Try.prog 113 #[.agg #[.int .i64 tv, .int .i64 sz, .int .i64 lc, .int .u64 vl], .string ⟨#[108]⟩] w fun e w' => e = .returned (.int .i64 (lc)) ∧ Below w.heap.size w w' := by
  have d1 : wrap64 (tv + 1) = tv + 1 := by unfold wrap64; omega
  have d2 : wrap64 (tv + 2) = tv + 2 := by unfold wrap64; omega
  go_enter Try.func113, Try.ntmps113
  go_wp2_with fail
  go_ret
  exact ⟨rfl, (Below.refl _ _).alloc (Nat.le_refl _) _⟩
theorem number_0 (tv sz lc vl : Int) (w : World) : Calls Try.prog 113 #[.agg #[.int .i64 tv, .int .i64 sz, .int .i64 lc, .int .u64 vl], .string ⟨#[48]⟩] w fun e w' => e = .returned (.int .i64 0) ∧ Below w.heap.size w w' := by
  have HD := Lib.hid (show ∀ w : World, Calls Try.prog 117 #[.string ⟨#[48]⟩] w (fun e w' => e = .returned (.int .i64 0) ∧ Below w.heap.size w w') from fun w => by have := digits_any ⟨#[48]⟩ (by decide) w; rw [show digN (ByteArray.mk #[48]).data.toList = 0 by kernel_rfl] at this; exact this)
  go_enter Try.func113, Try.ntmps113
  go_wp2_with (go_at_call 117; refine (HD.out _).mono ?_; rintro e w1 ⟨rfl, hb⟩; have B := Lib.hid hb; clear hb)
  go_ret
  exact ⟨rfl, ((Below.refl _ _).alloc (Nat.le_refl _) _).trans (B.out.mono (by simp))⟩
theorem number_1 (tv sz lc vl : Int) (w : World) : Calls Try.prog 113 #[.agg #[.int .i64 tv, .int .i64 sz, .int .i64 lc, .int .u64 vl], .string ⟨#[49]⟩] w fun e w' => e = .returned (.int .i64 1) ∧ Below w.heap.size w w' := by
  have HD := Lib.hid (show ∀ w : World, Calls Try.prog 117 #[.string ⟨#[49]⟩] w (fun e w' => e = .returned (.int .i64 1) ∧ Below w.heap.size w w') from fun w => by have := digits_any ⟨#[49]⟩ (by decide) w; rw [show digN (ByteArray.mk #[49]).data.toList = 1 by kernel_rfl] at this; exact this)
  go_enter Try.func113, Try.ntmps113
  go_wp2_with (go_at_call 117; refine (HD.out _).mono ?_; rintro e w1 ⟨rfl, hb⟩; have B := Lib.hid hb; clear hb)
  go_ret
  exact ⟨rfl, ((Below.refl _ _).alloc (Nat.le_refl _) _).trans (B.out.mono (by simp))⟩
theorem number_6 (tv sz lc vl : Int) (w : World) : Calls Try.prog 113 #[.agg #[.int .i64 tv, .int .i64 sz, .int .i64 lc, .int .u64 vl], .string ⟨#[54]⟩] w fun e w' => e = .returned (.int .i64 6) ∧ Below w.heap.size w w' := by
  have HD := Lib.hid (show ∀ w : World, Calls Try.prog 117 #[.string ⟨#[54]⟩] w (fun e w' => e = .returned (.int .i64 6) ∧ Below w.heap.size w w') from fun w => by have := digits_any ⟨#[54]⟩ (by decide) w; rw [show digN (ByteArray.mk #[54]).data.toList = 6 by kernel_rfl] at this; exact this)
  go_enter Try.func113, Try.ntmps113
  go_wp2_with (go_at_call 117; refine (HD.out _).mono ?_; rintro e w1 ⟨rfl, hb⟩; have B := Lib.hid hb; clear hb)
  go_ret
  exact ⟨rfl, ((Below.refl _ _).alloc (Nat.le_refl _) _).trans (B.out.mono (by simp))⟩
theorem number_7 (tv sz lc vl : Int) (w : World) : Calls Try.prog 113 #[.agg #[.int .i64 tv, .int .i64 sz, .int .i64 lc, .int .u64 vl], .string ⟨#[55]⟩] w fun e w' => e = .returned (.int .i64 7) ∧ Below w.heap.size w w' := by
  have HD := Lib.hid (show ∀ w : World, Calls Try.prog 117 #[.string ⟨#[55]⟩] w (fun e w' => e = .returned (.int .i64 7) ∧ Below w.heap.size w w') from fun w => by have := digits_any ⟨#[55]⟩ (by decide) w; rw [show digN (ByteArray.mk #[55]).data.toList = 7 by kernel_rfl] at this; exact this)
  go_enter Try.func113, Try.ntmps113
  go_wp2_with (go_at_call 117; refine (HD.out _).mono ?_; rintro e w1 ⟨rfl, hb⟩; have B := Lib.hid hb; clear hb)
  go_ret
  exact ⟨rfl, ((Below.refl _ _).alloc (Nat.le_refl _) _).trans (B.out.mono (by simp))⟩
theorem number_15 (tv sz lc vl : Int) (w : World) : Calls Try.prog 113 #[.agg #[.int .i64 tv, .int .i64 sz, .int .i64 lc, .int .u64 vl], .string ⟨#[49, 53]⟩] w fun e w' => e = .returned (.int .i64 15) ∧ Below w.heap.size w w' := by
  have HD := Lib.hid (show ∀ w : World, Calls Try.prog 117 #[.string ⟨#[49, 53]⟩] w (fun e w' => e = .returned (.int .i64 15) ∧ Below w.heap.size w w') from fun w => by have := digits_any ⟨#[49, 53]⟩ (by decide) w; rw [show digN (ByteArray.mk #[49, 53]).data.toList = 15 by kernel_rfl] at this; exact this)
  go_enter Try.func113, Try.ntmps113
  go_wp2_with (go_at_call 117; refine (HD.out _).mono ?_; rintro e w1 ⟨rfl, hb⟩; have B := Lib.hid hb; clear hb)
  go_ret
  exact ⟨rfl, ((Below.refl _ _).alloc (Nat.le_refl _) _).trans (B.out.mono (by simp))⟩
theorem number_17 (tv sz lc vl : Int) (w : World) : Calls Try.prog 113 #[.agg #[.int .i64 tv, .int .i64 sz, .int .i64 lc, .int .u64 vl], .string ⟨#[49, 55]⟩] w fun e w' => e = .returned (.int .i64 17) ∧ Below w.heap.size w w' := by
  have HD := Lib.hid (show ∀ w : World, Calls Try.prog 117 #[.string ⟨#[49, 55]⟩] w (fun e w' => e = .returned (.int .i64 17) ∧ Below w.heap.size w w') from fun w => by have := digits_any ⟨#[49, 55]⟩ (by decide) w; rw [show digN (ByteArray.mk #[49, 55]).data.toList = 17 by kernel_rfl] at this; exact this)
  go_enter Try.func113, Try.ntmps113
  go_wp2_with (go_at_call 117; refine (HD.out _).mono ?_; rintro e w1 ⟨rfl, hb⟩; have B := Lib.hid hb; clear hb)
  go_ret
  exact ⟨rfl, ((Below.refl _ _).alloc (Nat.le_refl _) _).trans (B.out.mono (by simp))⟩
theorem number_18 (tv sz lc vl : Int) (w : World) : Calls Try.prog 113 #[.agg #[.int .i64 tv, .int .i64 sz, .int .i64 lc, .int .u64 vl], .string ⟨#[49, 56]⟩] w fun e w' => e = .returned (.int .i64 18) ∧ Below w.heap.size w w' := by
  have HD := Lib.hid (show ∀ w : World, Calls Try.prog 117 #[.string ⟨#[49, 56]⟩] w (fun e w' => e = .returned (.int .i64 18) ∧ Below w.heap.size w w') from fun w => by have := digits_any ⟨#[49, 56]⟩ (by decide) w; rw [show digN (ByteArray.mk #[49, 56]).data.toList = 18 by kernel_rfl] at this; exact this)
  go_enter Try.func113, Try.ntmps113
  go_wp2_with (go_at_call 117; refine (HD.out _).mono ?_; rintro e w1 ⟨rfl, hb⟩; have B := Lib.hid hb; clear hb)
  go_ret
  exact ⟨rfl, ((Below.refl _ _).alloc (Nat.le_refl _) _).trans (B.out.mono (by simp))⟩
theorem number_22 (tv sz lc vl : Int) (w : World) : Calls Try.prog 113 #[.agg #[.int .i64 tv, .int .i64 sz, .int .i64 lc, .int .u64 vl], .string ⟨#[50, 50]⟩] w fun e w' => e = .returned (.int .i64 22) ∧ Below w.heap.size w w' := by
  have HD := Lib.hid (show ∀ w : World, Calls Try.prog 117 #[.string ⟨#[50, 50]⟩] w (fun e w' => e = .returned (.int .i64 22) ∧ Below w.heap.size w w') from fun w => by have := digits_any ⟨#[50, 50]⟩ (by decide) w; rw [show digN (ByteArray.mk #[50, 50]).data.toList = 22 by kernel_rfl] at this; exact this)
  go_enter Try.func113, Try.ntmps113
  go_wp2_with (go_at_call 117; refine (HD.out _).mono ?_; rintro e w1 ⟨rfl, hb⟩; have B := Lib.hid hb; clear hb)
  go_ret
  exact ⟨rfl, ((Below.refl _ _).alloc (Nat.le_refl _) _).trans (B.out.mono (by simp))⟩
theorem number_23 (tv sz lc vl : Int) (w : World) : Calls Try.prog 113 #[.agg #[.int .i64 tv, .int .i64 sz, .int .i64 lc, .int .u64 vl], .string ⟨#[50, 51]⟩] w fun e w' => e = .returned (.int .i64 23) ∧ Below w.heap.size w w' := by
  have HD := Lib.hid (show ∀ w : World, Calls Try.prog 117 #[.string ⟨#[50, 51]⟩] w (fun e w' => e = .returned (.int .i64 23) ∧ Below w.heap.size w w') from fun w => by have := digits_any ⟨#[50, 51]⟩ (by decide) w; rw [show digN (ByteArray.mk #[50, 51]).data.toList = 23 by kernel_rfl] at this; exact this)
  go_enter Try.func113, Try.ntmps113
  go_wp2_with (go_at_call 117; refine (HD.out _).mono ?_; rintro e w1 ⟨rfl, hb⟩; have B := Lib.hid hb; clear hb)
  go_ret
  exact ⟨rfl, ((Below.refl _ _).alloc (Nat.le_refl _) _).trans (B.out.mono (by simp))⟩
end Go.Proofs.Ytmmfadakhnagpaa
