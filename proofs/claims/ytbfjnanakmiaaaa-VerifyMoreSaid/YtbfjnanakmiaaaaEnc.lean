
/-
  code.Encode: the bytes of right instructions.
-/
import Derived.Test.YtbfjnanakmiaaaaCode2
import Derived.Test.YtbfjnanakmiaaaaBytes
import Derived.Deep.CutBlock
import Derived.ChangeSlices
namespace Go.Proofs.Ytbfjnanakmiaaaa
open Go.RowKit Go.ChangeShapes Go.WideShapes
set_option linter.unusedSimpArgs false
set_option linter.unusedVariables false

def byteAt (v : Int) (k : Nat) : Int := v / 2 ^ (8 * (7 - k)) % 256
def eight (v : Int) (k : Nat) : List Int := (List.range k).map (byteAt v)
def enc1 (x : Ins3) : List Int := x.op :: ((bif argB x.op then [x.arg] else []) ++ (bif valB x.op then eight x.val 8 else []))
def encB (l : List Ins3) : List Int := l.flatMap enc1
theorem eight_len (v : Int) (k : Nat) : (eight v k).length = k := by simp [eight]
theorem eight_succ (v : Int) (k : Nat) : eight v (k + 1) = eight v k ++ [byteAt v k] := by unfold eight; rw [List.range_succ, List.map_append]; rfl
theorem enc1_len (x : Ins3) : (enc1 x).length ≤ 10 := by
  unfold enc1
  cases argB x.op <;> cases valB x.op <;> simp [eight_len]
theorem encB_succ {l : List Ins3} {j : Nat} (h : j < l.length) : encB (l.take (j + 1)) = encB (l.take j) ++ enc1 (xn l j) := by
  unfold encB
  rw [List.take_add_one, xn_get h, List.flatMap_append]
  simp
theorem encB_len (l : List Ins3) : (encB l).length ≤ l.length * 10 := by
  induction l with
  | nil => simp [encB]
  | cons x l ih =>
    have := enc1_len x
    unfold encB at *
    rw [List.flatMap_cons, List.length_append, List.length_cons]
    omega
theorem byteAt_u8 (v : Int) (k : Nat) : U8 (byteAt v k) := by unfold byteAt U8; omega
theorem right_at {l : List Ins3} (h : ∀ s ∈ l, rightI s = true) {j : Nat} (hj : j < l.length) : rightI (xn l j) = true := by
  have := xn_get hj
  obtain ⟨hj, e⟩ := List.getElem?_eq_some_iff.mp this
  exact h _ (by rw [← e]; exact List.getElem_mem hj)
theorem bif_le (b : Bool) (x y : Int) (h1 : x ≤ 64) (h2 : y ≤ 64) : (bif b then x else y) ≤ 64 := by cases b <;> assumption
theorem right_arg {x : Ins3} (h : rightI x = true) : 0 ≤ x.arg ∧ x.arg ≤ 255 := by
  unfold rightI at h
  simp only [Bool.and_eq_true, decide_eq_true_eq] at h
  have : limI x.op ≤ 64 := by unfold limI; exact bif_le _ _ _ (by decide) (bif_le _ _ _ (by decide) (bif_le _ _ _ (by decide) (bif_le _ _ _ (by decide) (bif_le _ _ _ (by decide) (bif_le _ _ _ (by decide) (by decide))))))
  omega
/-- Encode's round: the instruction in block g, its form in block h, and the bytes so far. -/
def EncSt (w : World) (g h : Nat) (x : Ins3) (F : List UInt8 × Bool × Bool × Int × Int) (wr : World) (A : Option Addr) (c : Nat) (o : List Int) : Prop :=
  wr.heap[g]? = some (.cells #[.int .u8 x.op, .int .i64 x.arg, .int .u64 x.val] 34 (0, 0)) ∧ wr.heap[h]? = some (.cells #[.string ⟨F.1.toArray⟩, .bool F.2.1, .bool F.2.2.1, .int .i64 F.2.2.2.1, .int .i64 F.2.2.2.2] 53 (0, 0)) ∧ BRowAt wr w.heap.size A c o ∧ Below w.heap.size w wr
theorem encSt_push {w wr w' : World} {g h : Nat} {x : Ins3} {F : List UInt8 × Bool × Bool × Int × Int} {A A' : Option Addr} {c c' : Nat} {o o' : List Int} {cs : Array Value} {t : TypeId} (H : EncSt w g h x F wr A c o) (hr : BRowAt w' w.heap.size A' c' o') (hg : (wr.alloc (.cells cs t)).grownBy w' (bblk A)) : EncSt w g h x F w' A' c' o' := by
  obtain ⟨H1, H2, H3, H4⟩ := H
  have b0 : Below wr.heap.size wr (wr.alloc (.cells cs t)) := (Below.refl _ _).alloc (Nat.le_refl _) _
  have ne : ∀ (k : Nat) (cs' : Array Value) (t' : TypeId), wr.heap[k]? = some (.cells cs' t' (0, 0)) → t' ≠ 5 → some k ≠ bblk A := by
    intro k cs' t' hk ht e
    obtain ⟨cs2, h2⟩ := brow_typed H3 k e.symm
    rw [hk] at h2
    simp only [Option.some.injEq, Obj.cells.injEq] at h2
    exact ht h2.2.1
  refine ⟨hp_grown (hp_below H1 b0) hg (ne g _ _ H1 (by decide)), hp_grown (hp_below H2 b0) hg (ne h _ _ H2 (by decide)), hr, ?_⟩
  exact (H4.alloc H4.size _).grown hg (by have := H4.size; simp; omega) (fun k hk => by have := (brow_lt H3 k hk).1; omega)
theorem encSt_mk {w w2 : World} {g : Nat} {x : Ins3} {F : List UInt8 × Bool × Bool × Int × Int} {A : Option Addr} {c : Nat} {o : List Int} (h1 : w2.heap[g]? = some (.cells #[.int .u8 x.op, .int .i64 x.arg, .int .u64 x.val] 34 (0, 0))) (h2 : BRowAt w2 w.heap.size A c o) (h3 : Below w.heap.size w w2) :
    EncSt w g w2.heap.size x F (w2.alloc (.cells #[.string ⟨F.1.toArray⟩, .bool F.2.1, .bool F.2.2.1, .int .i64 F.2.2.2.1, .int .i64 F.2.2.2.2] 53)) A c o :=
  ⟨hp_below h1 ((Below.refl _ _).alloc (Nat.le_refl _) _), heap_alloc_new w2 _, brow_below h2 ((Below.refl _ _).alloc (Nat.le_refl _) _), h3.alloc h3.size _⟩
theorem encSt_cells {w wr : World} {g h : Nat} {x : Ins3} {F : List UInt8 × Bool × Bool × Int × Int} {A : Option Addr} {c : Nat} {o : List Int} (H : EncSt w g h x F wr A c o) :
    wr.cell? ⟨g, 1, none⟩ = some (.int .i64 x.arg) ∧ wr.cell? ⟨g, 2, none⟩ = some (.int .u64 x.val) ∧ wr.cell? ⟨h, 1, none⟩ = some (.bool F.2.1) ∧ wr.cell? ⟨h, 2, none⟩ = some (.bool F.2.2.1) ∧ g < wr.heap.size ∧ h < wr.heap.size :=
  ⟨hp_cell H.1 1, hp_cell H.1 2, hp_cell H.2.1 1, hp_cell H.2.1 2, hp_lt H.1, hp_lt H.2.1⟩
def EncPost (l : List Ins3) (w : World) (e : Ending) (w' : World) : Prop := ∃ A' c', e = .returned (.tuple #[.slice A' (encB l).length c', .int .i64 0]) ∧ BRowAt w' w.heap.size A' c' (encB l) ∧ Below w.heap.size w w'
set_option maxHeartbeats 16000000 in
set_option maxRecDepth 100000 in
theorem encode_any (l : List Ins3) (A : Option Addr) (c : Nat) (hl : l.length ≤ 60) (hr : ∀ s ∈ l, rightI s = true) (w : World) (HI : InssAt w A l) : Calls Try.prog 10 #[.slice A l.length c] w (EncPost l w) := by
  have HS := Lib.hid HI
  have HR := Lib.hid hr
  clear HI hr
  go_enter Try.func10, Try.ntmps10
  go_wp2_with fail
  go_loopw [11, 4] (fun i s wr => ∃ (j : Nat) (A' : Option Addr) (c' : Nat) (o : List Int), j ≤ l.length ∧ i = .int .i64 j ∧ s = .slice A' o.length c' ∧ Hid (o = encB (l.take j)) ∧ Hid (BRowAt wr w.heap.size A' c' o) ∧ Hid (Below w.heap.size w wr)) (fun i _ _ => l.length - (intOf i).toNat)
  case atStart => exact ⟨0, none, 0, [], by omega, rfl, rfl, Lib.hid (by simp [encB]), Lib.hid (brow_nil _ _), Lib.hid (Below.refl _ _)⟩
  case round =>
    obtain ⟨j, A', c', o, hj, rfl, rfl, HO, HW, HB⟩ := hrel
    by_cases hlt : j < l.length
    · have t1 : decide (j < l.length) = true := decide_eq_true hlt
      have t1' : decide ((j : Int) < (l.length : Int)) = true := decide_eq_true (by omega)
      have t3 : (j : Int) < (l.length : Int) := by omega
      have t4 : (0 : Int) ≤ (j : Int) := by omega
      obtain ⟨ad, rfl, hok, a0, a1, a2⟩ := xn_at (inss_below HS.out HB.out) hlt
      have hri := right_at HR.out hlt
      have hag := right_arg hri
      have HE := Lib.hid (encB_succ hlt)
      have hol : o.length ≤ 590 := by rw [HO.out]; have := encB_len (l.take j); rw [List.length_take] at this; omega
      generalize xn l j = x at hok a0 a1 a2 hag hri HE
      obtain ⟨op, ag, v⟩ := x
      try dsimp only at *
      have HOK := Lib.hid hok
      have HRI := Lib.hid hri
      obtain ⟨⟨h0, h1⟩, hI, hv⟩ := hok
      clear hri
      obtain ⟨F, hF⟩ : ∃ F, formAt op.toNat = F := ⟨_, rfl⟩
      have HC := Lib.hid (fun w => code_as op h0 h1 F hF w)
      have HA1 : Hid (argB op = F.2.1) := Lib.hid (by unfold argB; rw [hF])
      have HV1 : Hid (valB op = F.2.2.1) := Lib.hid (by unfold valB; rw [hF])
      clear hF
      obtain ⟨F1, F2, F3, F4, F5⟩ := F
      dsimp only at *
      obtain ⟨o1, HO1⟩ : ∃ y, Hid (o ++ [op] = y) := ⟨_, Lib.hid rfl⟩
      obtain ⟨o2, HO2⟩ : ∃ y, Hid (o1 ++ [ag] = y) := ⟨_, Lib.hid rfl⟩
      have hol1 : o1.length ≤ 591 := by rw [← HO1.out]; simp; omega
      have hol2 : o2.length ≤ 592 := by rw [← HO2.out]; simp; omega
      cases F2 <;> cases F3
      · have ew : Hid (enc1 ⟨op, ag, v⟩ = [op]) := Lib.hid (by unfold enc1; dsimp only; rw [HA1.out, HV1.out]; rfl)
        go_wp2_with (first | (go_at_call 8; refine (codeRight ⟨op, ag, v⟩ HOK.out _).mono ?_; rintro e w1 ⟨rfl, hb⟩; rw [HRI.out]; have B1 := Lib.hid (HB.out.alloc HB.out.size (.cells #[.int .u8 op, .int .i64 ag, .int .u64 v] 34) |>.trans (hb.mono (HB.out.alloc HB.out.size _).size)); have X1 := Lib.hid (hp_below (heap_alloc_new wr (.cells #[.int .u8 op, .int .i64 ag, .int .u64 v] 34)) hb); have R1 := Lib.hid (brow_below (brow_below HW.out ((Below.refl _ _).alloc (Nat.le_refl _) _)) hb); have q0 : w1.cell? ⟨wr.heap.size, 0, none⟩ = some (.int .u8 op) := hp_cell X1.out 0; have lx := hp_lt X1.out; clear hb) | (go_at_call 21; refine (HC.out _).mono ?_; rintro e w2 ⟨rfl, hb⟩; have B2 := Lib.hid (B1.out.trans (hb.mono B1.out.size)); have X2 := Lib.hid (hp_below X1.out hb); have R2 := Lib.hid (brow_below R1.out hb); have q1 : w2.cell? ⟨wr.heap.size, 0, none⟩ = some (.int .u8 op) := hp_cell X2.out 0; have lx2 := hp_lt X2.out; have S2 := Lib.hid (encSt_mk (x := ⟨op, ag, v⟩) (F := (F1, false, false, F4, F5)) X2.out R2.out B2.out); clear hb) | (at_builtin; refine append_bytes' rfl (.tmp 21) (.tmp 24) rfl w.heap.size A' c' o rfl (brow_below S2.out.2.2.1 ((Below.refl _ _).alloc (Nat.le_refl _) _)) (some ⟨_, 0, none⟩) 1 [op] rfl (fun h => by cases h) (bytes_lit' _ op ⟨h0, h1⟩ _ (by simp)) (by simp; omega) (by have := S2.out.2.2.2.size; simp at this ⊢; omega) o1 HO1.out ?_; intro A3 c3 w3 hr3 hg3 hat3; have S3 := Lib.hid (encSt_push S2.out hr3 hg3); obtain ⟨q3a, q3b, q3c, q3d, l3a, l3b⟩ := encSt_cells S3.out; clear hr3 hg3 hat3))
        go_roundw
        case rel => exact ⟨j + 1, A3, c3, o1, by omega, by go_num, rfl, Lib.hid (by rw [HE.out, ← HO.out, ew.out, ← HO1.out]; try simp), Lib.hid S3.out.2.2.1, Lib.hid S3.out.2.2.2⟩
        case measure => simp [intOf]; omega
      · have ew : Hid (enc1 ⟨op, ag, v⟩ = op :: eight v 8) := Lib.hid (by unfold enc1; dsimp only; rw [HA1.out, HV1.out]; rfl)
        go_wp2_with (first | (go_at_call 8; refine (codeRight ⟨op, ag, v⟩ HOK.out _).mono ?_; rintro e w1 ⟨rfl, hb⟩; rw [HRI.out]; have B1 := Lib.hid (HB.out.alloc HB.out.size (.cells #[.int .u8 op, .int .i64 ag, .int .u64 v] 34) |>.trans (hb.mono (HB.out.alloc HB.out.size _).size)); have X1 := Lib.hid (hp_below (heap_alloc_new wr (.cells #[.int .u8 op, .int .i64 ag, .int .u64 v] 34)) hb); have R1 := Lib.hid (brow_below (brow_below HW.out ((Below.refl _ _).alloc (Nat.le_refl _) _)) hb); have q0 : w1.cell? ⟨wr.heap.size, 0, none⟩ = some (.int .u8 op) := hp_cell X1.out 0; have lx := hp_lt X1.out; clear hb) | (go_at_call 21; refine (HC.out _).mono ?_; rintro e w2 ⟨rfl, hb⟩; have B2 := Lib.hid (B1.out.trans (hb.mono B1.out.size)); have X2 := Lib.hid (hp_below X1.out hb); have R2 := Lib.hid (brow_below R1.out hb); have q1 : w2.cell? ⟨wr.heap.size, 0, none⟩ = some (.int .u8 op) := hp_cell X2.out 0; have lx2 := hp_lt X2.out; have S2 := Lib.hid (encSt_mk (x := ⟨op, ag, v⟩) (F := (F1, false, true, F4, F5)) X2.out R2.out B2.out); clear hb) | (at_builtin; refine append_bytes' rfl (.tmp 21) (.tmp 24) rfl w.heap.size A' c' o rfl (brow_below S2.out.2.2.1 ((Below.refl _ _).alloc (Nat.le_refl _) _)) (some ⟨_, 0, none⟩) 1 [op] rfl (fun h => by cases h) (bytes_lit' _ op ⟨h0, h1⟩ _ (by simp)) (by simp; omega) (by have := S2.out.2.2.2.size; simp at this ⊢; omega) o1 HO1.out ?_; intro A3 c3 w3 hr3 hg3 hat3; have S3 := Lib.hid (encSt_push S2.out hr3 hg3); obtain ⟨q3a, q3b, q3c, q3d, l3a, l3b⟩ := encSt_cells S3.out; clear hr3 hg3 hat3))
        go_loopw [36, 4] (fun i s wi => ∃ (k : Nat) (A5 : Option Addr) (c5 : Nat) (p : List Int), k ≤ 8 ∧ i = .int .i64 k ∧ s = .slice A5 p.length c5 ∧ Hid (p = o1 ++ eight v k) ∧ Hid (EncSt w wr.heap.size w2.heap.size ⟨op, ag, v⟩ (F1, false, true, F4, F5) wi A5 c5 p)) (fun i _ _ => 8 - (intOf i).toNat)
        case atStart => exact ⟨0, A3, c3, o1, by omega, rfl, rfl, Lib.hid (by simp [eight]), S3⟩
        case round =>
          obtain ⟨k, A5, c5, p, hk, rfl, rfl, HP, S5⟩ := hrel
          obtain ⟨q5a, q5b, q5c, q5d, l5a, l5b⟩ := encSt_cells S5.out
          have hpl : p.length ≤ 600 := by rw [HP.out]; simp [eight_len]; omega
          obtain ⟨p1, HP1⟩ : ∃ y, Hid (p ++ [byteAt v k] = y) := ⟨_, Lib.hid rfl⟩
          by_cases hk8 : k < 8
          · have t1 : decide (k < 8) = true := decide_eq_true hk8
            have t1' : decide ((k : Int) < 8) = true := decide_eq_true (by omega)
            go_wp2_with (at_builtin; refine append_bytes' rfl (.tmp 39) (.tmp 47) rfl w.heap.size A5 c5 p rfl (brow_below S5.out.2.2.1 ((Below.refl _ _).alloc (Nat.le_refl _) _)) (some ⟨_, 0, none⟩) 1 [(byteAt v k)] rfl (fun h => by cases h) (bytes_lit' _ (byteAt v k) (byteAt_u8 v k) _ (by simp)) (by simp; omega) (by have := S5.out.2.2.2.size; simp at this ⊢; omega) p1 HP1.out ?_; intro A6 c6 w6 hr6 hg6 hat6; have S6 := Lib.hid (encSt_push S5.out hr6 hg6); obtain ⟨q6a, q6b, q6c, q6d, l6a, l6b⟩ := encSt_cells S6.out; clear hr6 hg6 hat6)
            go_roundw
            case rel => exact ⟨k + 1, A6, c6, p1, by omega, by go_num, rfl, Lib.hid (by rw [← HP1.out, HP.out, eight_succ, List.append_assoc]), S6⟩
            case measure => simp [intOf]; omega
          · obtain rfl : k = 8 := by omega
            have t1 : decide (8 < 8) = false := decide_eq_false (by omega)
            have t1' : decide ((8 : Int) < 8) = false := decide_eq_false (by omega)
            go_wp2_with fail
            go_roundw
            case rel => exact ⟨j + 1, A5, c5, p, by omega, by go_num, rfl, Lib.hid (by rw [HE.out, ← HO.out, ew.out, HP.out, ← HO1.out]; simp), Lib.hid S5.out.2.2.1, Lib.hid S5.out.2.2.2⟩
            case measure => simp [intOf]; omega
      · have ew : Hid (enc1 ⟨op, ag, v⟩ = [op, ag]) := Lib.hid (by unfold enc1; dsimp only; rw [HA1.out, HV1.out]; rfl)
        go_wp2_with (first | (go_at_call 8; refine (codeRight ⟨op, ag, v⟩ HOK.out _).mono ?_; rintro e w1 ⟨rfl, hb⟩; rw [HRI.out]; have B1 := Lib.hid (HB.out.alloc HB.out.size (.cells #[.int .u8 op, .int .i64 ag, .int .u64 v] 34) |>.trans (hb.mono (HB.out.alloc HB.out.size _).size)); have X1 := Lib.hid (hp_below (heap_alloc_new wr (.cells #[.int .u8 op, .int .i64 ag, .int .u64 v] 34)) hb); have R1 := Lib.hid (brow_below (brow_below HW.out ((Below.refl _ _).alloc (Nat.le_refl _) _)) hb); have q0 : w1.cell? ⟨wr.heap.size, 0, none⟩ = some (.int .u8 op) := hp_cell X1.out 0; have lx := hp_lt X1.out; clear hb) | (go_at_call 21; refine (HC.out _).mono ?_; rintro e w2 ⟨rfl, hb⟩; have B2 := Lib.hid (B1.out.trans (hb.mono B1.out.size)); have X2 := Lib.hid (hp_below X1.out hb); have R2 := Lib.hid (brow_below R1.out hb); have q1 : w2.cell? ⟨wr.heap.size, 0, none⟩ = some (.int .u8 op) := hp_cell X2.out 0; have lx2 := hp_lt X2.out; have S2 := Lib.hid (encSt_mk (x := ⟨op, ag, v⟩) (F := (F1, true, false, F4, F5)) X2.out R2.out B2.out); clear hb) | (at_builtin; refine append_bytes' rfl (.tmp 21) (.tmp 24) rfl w.heap.size A' c' o rfl (brow_below S2.out.2.2.1 ((Below.refl _ _).alloc (Nat.le_refl _) _)) (some ⟨_, 0, none⟩) 1 [op] rfl (fun h => by cases h) (bytes_lit' _ op ⟨h0, h1⟩ _ (by simp)) (by simp; omega) (by have := S2.out.2.2.2.size; simp at this ⊢; omega) o1 HO1.out ?_; intro A3 c3 w3 hr3 hg3 hat3; have S3 := Lib.hid (encSt_push S2.out hr3 hg3); obtain ⟨q3a, q3b, q3c, q3d, l3a, l3b⟩ := encSt_cells S3.out; clear hr3 hg3 hat3) | (at_builtin; refine append_bytes' rfl (.tmp 28) (.tmp 32) rfl w.heap.size A3 c3 o1 rfl (brow_below S3.out.2.2.1 ((Below.refl _ _).alloc (Nat.le_refl _) _)) (some ⟨_, 0, none⟩) 1 [ag] rfl (fun h => by cases h) (bytes_lit' _ ag ⟨hag.1, hag.2⟩ _ (by simp)) (by simp; omega) (by have := S3.out.2.2.2.size; simp at this ⊢; omega) o2 HO2.out ?_; intro A4 c4 w4 hr4 hg4 hat4; have S4 := Lib.hid (encSt_push S3.out hr4 hg4); obtain ⟨q4a, q4b, q4c, q4d, l4a, l4b⟩ := encSt_cells S4.out; clear hr4 hg4 hat4))
        go_roundw
        case rel => exact ⟨j + 1, A4, c4, o2, by omega, by go_num, rfl, Lib.hid (by rw [HE.out, ← HO.out, ew.out, ← HO2.out, ← HO1.out]; try simp), Lib.hid S4.out.2.2.1, Lib.hid S4.out.2.2.2⟩
        case measure => simp [intOf]; omega
      · have ew : Hid (enc1 ⟨op, ag, v⟩ = op :: ag :: eight v 8) := Lib.hid (by unfold enc1; dsimp only; rw [HA1.out, HV1.out]; rfl)
        go_wp2_with (first | (go_at_call 8; refine (codeRight ⟨op, ag, v⟩ HOK.out _).mono ?_; rintro e w1 ⟨rfl, hb⟩; rw [HRI.out]; have B1 := Lib.hid (HB.out.alloc HB.out.size (.cells #[.int .u8 op, .int .i64 ag, .int .u64 v] 34) |>.trans (hb.mono (HB.out.alloc HB.out.size _).size)); have X1 := Lib.hid (hp_below (heap_alloc_new wr (.cells #[.int .u8 op, .int .i64 ag, .int .u64 v] 34)) hb); have R1 := Lib.hid (brow_below (brow_below HW.out ((Below.refl _ _).alloc (Nat.le_refl _) _)) hb); have q0 : w1.cell? ⟨wr.heap.size, 0, none⟩ = some (.int .u8 op) := hp_cell X1.out 0; have lx := hp_lt X1.out; clear hb) | (go_at_call 21; refine (HC.out _).mono ?_; rintro e w2 ⟨rfl, hb⟩; have B2 := Lib.hid (B1.out.trans (hb.mono B1.out.size)); have X2 := Lib.hid (hp_below X1.out hb); have R2 := Lib.hid (brow_below R1.out hb); have q1 : w2.cell? ⟨wr.heap.size, 0, none⟩ = some (.int .u8 op) := hp_cell X2.out 0; have lx2 := hp_lt X2.out; have S2 := Lib.hid (encSt_mk (x := ⟨op, ag, v⟩) (F := (F1, true, true, F4, F5)) X2.out R2.out B2.out); clear hb) | (at_builtin; refine append_bytes' rfl (.tmp 21) (.tmp 24) rfl w.heap.size A' c' o rfl (brow_below S2.out.2.2.1 ((Below.refl _ _).alloc (Nat.le_refl _) _)) (some ⟨_, 0, none⟩) 1 [op] rfl (fun h => by cases h) (bytes_lit' _ op ⟨h0, h1⟩ _ (by simp)) (by simp; omega) (by have := S2.out.2.2.2.size; simp at this ⊢; omega) o1 HO1.out ?_; intro A3 c3 w3 hr3 hg3 hat3; have S3 := Lib.hid (encSt_push S2.out hr3 hg3); obtain ⟨q3a, q3b, q3c, q3d, l3a, l3b⟩ := encSt_cells S3.out; clear hr3 hg3 hat3) | (at_builtin; refine append_bytes' rfl (.tmp 28) (.tmp 32) rfl w.heap.size A3 c3 o1 rfl (brow_below S3.out.2.2.1 ((Below.refl _ _).alloc (Nat.le_refl _) _)) (some ⟨_, 0, none⟩) 1 [ag] rfl (fun h => by cases h) (bytes_lit' _ ag ⟨hag.1, hag.2⟩ _ (by simp)) (by simp; omega) (by have := S3.out.2.2.2.size; simp at this ⊢; omega) o2 HO2.out ?_; intro A4 c4 w4 hr4 hg4 hat4; have S4 := Lib.hid (encSt_push S3.out hr4 hg4); obtain ⟨q4a, q4b, q4c, q4d, l4a, l4b⟩ := encSt_cells S4.out; clear hr4 hg4 hat4))
        go_loopw [36, 4] (fun i s wi => ∃ (k : Nat) (A5 : Option Addr) (c5 : Nat) (p : List Int), k ≤ 8 ∧ i = .int .i64 k ∧ s = .slice A5 p.length c5 ∧ Hid (p = o2 ++ eight v k) ∧ Hid (EncSt w wr.heap.size w2.heap.size ⟨op, ag, v⟩ (F1, true, true, F4, F5) wi A5 c5 p)) (fun i _ _ => 8 - (intOf i).toNat)
        case atStart => exact ⟨0, A4, c4, o2, by omega, rfl, rfl, Lib.hid (by simp [eight]), S4⟩
        case round =>
          obtain ⟨k, A5, c5, p, hk, rfl, rfl, HP, S5⟩ := hrel
          obtain ⟨q5a, q5b, q5c, q5d, l5a, l5b⟩ := encSt_cells S5.out
          have hpl : p.length ≤ 600 := by rw [HP.out]; simp [eight_len]; omega
          obtain ⟨p1, HP1⟩ : ∃ y, Hid (p ++ [byteAt v k] = y) := ⟨_, Lib.hid rfl⟩
          by_cases hk8 : k < 8
          · have t1 : decide (k < 8) = true := decide_eq_true hk8
            have t1' : decide ((k : Int) < 8) = true := decide_eq_true (by omega)
            go_wp2_with (at_builtin; refine append_bytes' rfl (.tmp 39) (.tmp 47) rfl w.heap.size A5 c5 p rfl (brow_below S5.out.2.2.1 ((Below.refl _ _).alloc (Nat.le_refl _) _)) (some ⟨_, 0, none⟩) 1 [(byteAt v k)] rfl (fun h => by cases h) (bytes_lit' _ (byteAt v k) (byteAt_u8 v k) _ (by simp)) (by simp; omega) (by have := S5.out.2.2.2.size; simp at this ⊢; omega) p1 HP1.out ?_; intro A6 c6 w6 hr6 hg6 hat6; have S6 := Lib.hid (encSt_push S5.out hr6 hg6); obtain ⟨q6a, q6b, q6c, q6d, l6a, l6b⟩ := encSt_cells S6.out; clear hr6 hg6 hat6)
            go_roundw
            case rel => exact ⟨k + 1, A6, c6, p1, by omega, by go_num, rfl, Lib.hid (by rw [← HP1.out, HP.out, eight_succ, List.append_assoc]), S6⟩
            case measure => simp [intOf]; omega
          · obtain rfl : k = 8 := by omega
            have t1 : decide (8 < 8) = false := decide_eq_false (by omega)
            have t1' : decide ((8 : Int) < 8) = false := decide_eq_false (by omega)
            go_wp2_with fail
            go_roundw
            case rel => exact ⟨j + 1, A5, c5, p, by omega, by go_num, rfl, Lib.hid (by rw [HE.out, ← HO.out, ew.out, HP.out, ← HO2.out, ← HO1.out]; simp), Lib.hid S5.out.2.2.1, Lib.hid S5.out.2.2.2⟩
            case measure => simp [intOf]; omega
    · obtain rfl : j = l.length := by omega
      have t1 : decide (l.length < l.length) = false := decide_eq_false (by omega)
      have t1' : decide ((l.length : Int) < (l.length : Int)) = false := decide_eq_false (by omega)
      have he : o = encB l := by rw [HO.out, List.take_length]
      subst he
      go_wp2_with fail
      go_ret2
      exact ⟨A', c', rfl, HW.out, HB.out⟩
end Go.Proofs.Ytbfjnanakmiaaaa
