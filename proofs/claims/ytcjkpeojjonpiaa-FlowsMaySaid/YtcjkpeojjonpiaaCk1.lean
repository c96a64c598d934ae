
/-
  rowlockref15: closes, opens, variable, arms, next.
-/
import Derived.Test.YtcjkpeojjonpiaaCk0
import Derived.Test.YtcjkpeojjonpiaaIns
import Derived.Lib.Hide
import Derived.Handy
import Derived.LoopTactic
import Derived.Deep.LoopGhost
import Derived.Deep.CutBlock
import Derived.Deep.DeepCutAuto
namespace Go.Proofs.Ytcjkpeojjonpiaa
open Go.RowKit Go.ChangeShapes Go.WideShapes
set_option linter.unusedSimpArgs false
set_option linter.unusedVariables false

def okAny (k : Nat) : Prop := True
def closesI (o : Int) : Int := if o = 22 then 21 else if o = 24 then 23 else if o = 25 then 24 else 0
def opensB (o : Int) : Bool := o == 21 || o == 23 || o == 24
def varB (o : Int) : Bool := o == 4 || o == 5 || o == 6 || o == 7
theorem eqk {o k : Int} (h : o ≠ k) : (o == k) = false := by simpa using h
set_option maxHeartbeats 4000000 in
theorem closes_any (o : Int) (w : World) : Calls Try.prog 83 #[.int .u8 o] w fun e w' => e = .returned (.int .u8 (closesI o)) ∧ w = w' := by
  rcases Decidable.em (o = 22) with rfl | h1
  · go_enter Try.func83, Try.ntmps83
    go_wp2_with fail
    go_ret
    exact ⟨rfl, rfl⟩
  rcases Decidable.em (o = 24) with rfl | h2
  · go_enter Try.func83, Try.ntmps83
    go_wp2_with fail
    go_ret
    exact ⟨rfl, rfl⟩
  rcases Decidable.em (o = 25) with rfl | h3
  · go_enter Try.func83, Try.ntmps83
    go_wp2_with fail
    go_ret
    exact ⟨rfl, rfl⟩
  have e : closesI o = 0 := by unfold closesI; rw [if_neg h1, if_neg h2, if_neg h3]
  rw [e]
  have k1 := eqk h1
  have k2 := eqk h2
  have k3 := eqk h3
  clear h1 h2 h3 e
  go_enter Try.func83, Try.ntmps83
  go_wp2_with fail
  go_ret
  exact ⟨rfl, rfl⟩
set_option maxHeartbeats 4000000 in
theorem opens_any (o : Int) (w : World) : Calls Try.prog 84 #[.int .u8 o] w fun e w' => e = .returned (.bool (opensB o)) ∧ w = w' := by
  unfold opensB
  cases k1 : (o == 21)
  · cases k2 : (o == 23)
    · cases k3 : (o == 24) <;> (go_enter Try.func84, Try.ntmps84
                                go_wp2_with fail
                                go_ret
                                exact ⟨rfl, rfl⟩)
    · go_enter Try.func84, Try.ntmps84
      go_wp2_with fail
      go_ret
      exact ⟨rfl, rfl⟩
  · go_enter Try.func84, Try.ntmps84
    go_wp2_with fail
    go_ret
    exact ⟨rfl, rfl⟩
set_option maxHeartbeats 4000000 in
theorem var15_any (o : Int) (w : World) : Calls Try.prog 36 #[.int .u8 o] w fun e w' => e = .returned (.bool (varB o)) ∧ w = w' := by
  unfold varB
  cases k1 : (o == 4)
  · cases k2 : (o == 5)
    · cases k3 : (o == 6)
      · cases k4 : (o == 7) <;> (go_enter Try.func36, Try.ntmps36
                                 go_wp2_with fail
                                 go_ret
                                 exact ⟨rfl, rfl⟩)
      · go_enter Try.func36, Try.ntmps36
        go_wp2_with fail
        go_ret
        exact ⟨rfl, rfl⟩
    · go_enter Try.func36, Try.ntmps36
      go_wp2_with fail
      go_ret
      exact ⟨rfl, rfl⟩
  · go_enter Try.func36, Try.ntmps36
    go_wp2_with fail
    go_ret
    exact ⟨rfl, rfl⟩
/-- The open ones are places of instructions. -/
def inR (l : List Ins3) (opn : List Int) : Prop := ∀ x ∈ opn, 0 ≤ x ∧ x < (l.length : Int)
def armsI (l : List Ins3) (opn : List Int) : Nat := opn.countP (fun k => (xn l k.toNat).op != 21)
theorem armsI_le (l : List Ins3) (opn : List Int) : armsI l opn ≤ opn.length := List.countP_le_length
theorem iv_at {opn : List Int} {j : Nat} (h : j < opn.length) : ivAt opn j = opn[j] := by unfold ivAt; rw [List.getElem?_eq_getElem h]; rfl
theorem arms_step (l : List Ins3) (opn : List Int) {j : Nat} (h : j < opn.length) : armsI l (opn.take (j + 1)) = armsI l (opn.take j) + (if ((xn l (ivAt opn j).toNat).op != 21) = true then 1 else 0) := by
  unfold armsI
  rw [iv_at h, List.take_succ_eq_append_getElem h, List.countP_append, List.countP_cons, List.countP_nil]
  simp
theorem ints_head {ok : Nat → Prop} {w : World} {A : Option Addr} {l : List Int} (h : IntsAt ok w A l) {i : Nat} (hi : i < l.length) : ∃ ad, A = some ad ∧ w.cell? (ad.add i) = some (.int .i64 (ivAt l i)) := by
  cases hA : A with
  | none =>
    rw [hA] at h
    have := ints_none h
    subst this
    simp at hi
  | some b =>
    rw [hA] at h
    exact ⟨b, rfl, ints_cell h i _ (by rw [intsC_get, iv_get hi]; rfl)⟩
set_option maxRecDepth 20000 in
set_option maxHeartbeats 8000000 in
theorem arms_any (l : List Ins3) (A : Option Addr) (c : Nat) (opn : List Int) (Ao : Option Addr) (co : Nat) (hr : inR l opn) (hl : opn.length ≤ 1000) (w : World) (hi : InssAt w A l) (ho : IntsAt okAny w Ao opn) : Calls Try.prog 82 #[.slice A l.length c, .slice Ao opn.length co] w fun e w' => e = .returned (.int .i64 (armsI l opn)) ∧ w = w' := by
  have HI := Lib.hid hi
  have HO := Lib.hid ho
  have HR := Lib.hid hr
  have HL := Lib.hid hl
  clear hi ho hr hl
  go_enter Try.func82, Try.ntmps82
  go_wp2_with fail
  go_loopg [5, 6] opn.length (fun gm s5 s6 wx => w = wx ∧ ∃ j : Nat, j ≤ opn.length ∧ gm = opn.length - j ∧ s6 = .int .i64 j ∧ s5 = .int .i64 (armsI l (opn.take j)))
  case atStart => exact ⟨rfl, 0, Nat.zero_le _, rfl, rfl, rfl⟩
  case round =>
    obtain ⟨rfl, j, hj, rfl, rfl, rfl⟩ := hrel
    by_cases hlt : j < opn.length
    · have s1 : decide ((j : Int) < (opn.length : Int)) = true := decide_eq_true (by omega)
      have s2 : decide (j < opn.length) = true := decide_eq_true hlt
      have s3 : (j : Int) < (opn.length : Int) := by omega
      have s4 : (0 : Int) ≤ (j : Int) := by omega
      have s5 : wrap64 ((j : Int) + 1) = (j : Int) + 1 := by have := HL.out; unfold wrap64; omega
      have hst := arms_step l opn hlt
      have hcn : armsI l (opn.take j) ≤ 1000 := by
        have := armsI_le l (opn.take j)
        rw [List.length_take] at this
        have := HL.out
        omega
      obtain ⟨N, hN⟩ : ∃ N, armsI l (opn.take j) = N := ⟨_, rfl⟩
      rw [hN] at hst hcn ⊢
      have s6 : wrap64 ((N : Int) + 1) = (N : Int) + 1 := by unfold wrap64; omega
      obtain ⟨ao, rfl, xo⟩ := ints_head HO.out hlt
      have lo := World.block_lt_of_cell? w _ xo
      have hx := HR.out (ivAt opn j) (by rw [iv_at hlt]; exact List.getElem_mem hlt)
      obtain ⟨k, hk⟩ : ∃ k : Nat, ivAt opn j = (k : Int) := ⟨(ivAt opn j).toNat, by omega⟩
      rw [hk] at xo hx hst
      rw [Int.toNat_natCast] at hst
      have hkl : k < l.length := by omega
      obtain ⟨ad, rfl, _⟩ := xn_at HI.out hkl
      have hx3 := xn_some HI.out hkl
      obtain ⟨_, xa, _, _⟩ := hx3
      have la := World.block_lt_of_cell? w _ xa
      have s7 : (k : Int) < (l.length : Int) := hx.2
      have s8 : (0 : Int) ≤ (k : Int) := hx.1
      obtain ⟨op, hop⟩ : ∃ op, (xn l k).op = op := ⟨_, rfl⟩
      rw [hop] at hst xa
      have HST := Lib.hid hst
      have HLT := Lib.hid hlt
      clear hst hop hk hN hx hkl hlt hj hcn
      cases hb : (op != 21)
      · have hb' : (op == 21) = true := by simpa [bne] using hb
        have e2 : armsI l (opn.take (j + 1)) = N := by rw [HST.out, hb]; rfl
        have E2 := Lib.hid e2
        clear e2
        go_wp2_with fail
        go_roundg (opn.length - (j + 1))
        case measure => have := HLT.out; omega
        case rel => exact ⟨rfl, j + 1, HLT.out, rfl, by first | rfl | (rw [s5]; rfl), by rw [E2.out]⟩
      · have hb' : (op == 21) = false := by simpa [bne] using hb
        have e2 : armsI l (opn.take (j + 1)) = N + 1 := by rw [HST.out, hb]; rfl
        have E2 := Lib.hid e2
        clear e2
        go_wp2_with fail
        go_roundg (opn.length - (j + 1))
        case measure => have := HLT.out; omega
        case rel => exact ⟨rfl, j + 1, HLT.out, rfl, by first | rfl | (rw [s5]; rfl), by rw [E2.out]; first | rfl | (rw [s6]; rfl)⟩
    · obtain rfl : j = opn.length := by omega
      have s1 : decide ((opn.length : Int) < (opn.length : Int)) = false := decide_eq_false (by omega)
      have s2 : decide (opn.length < opn.length) = false := decide_eq_false (by omega)
      rw [List.take_length]
      obtain ⟨N, hN⟩ : ∃ N, armsI l opn = N := ⟨_, rfl⟩
      rw [hN]
      have HN := Lib.hid hN
      clear hN
      go_wp2_with fail
      go_ret
      exact ⟨by rw [HN.out]; rfl, rfl⟩
end Go.Proofs.Ytcjkpeojjonpiaa
