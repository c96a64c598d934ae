
/-
  code.Decode on the bytes of right instructions.
-/
import Derived.Test.YtbfjnanakmiaaaaOne
namespace Go.Proofs.Ytbfjnanakmiaaaa
open Go.RowKit Go.ChangeShapes Go.WideShapes
set_option linter.unusedSimpArgs false
set_option linter.unusedVariables false

theorem nrow_typed {w : World} {base c : Nat} {A : Option Addr} {l : List Ins3} (h : NRow w base A c l) : ∀ k, iblk A = some k → ∃ cs, w.heap[k]? = some (.cells cs 34 (0, 0)) := by
  intro k hk
  rcases h.1.2 with ⟨hn, _⟩ | ⟨g, cap, cur, hv, _, hg, _⟩
  · simp only [Value.slice.injEq] at hn
    rw [hn.1] at hk
    cases hk
  · simp only [Value.slice.injEq] at hv
    rw [hv.1] at hk
    simp only [iblk, Option.map_some, Option.some.injEq] at hk
    subst hk
    exact ⟨cur, hg⟩
theorem BS.grown {w w1 : World} {A A0 : Option Addr} {n c base c0 : Nat} {b : List Int} {o : List Ins3} (h : BS w A n c b) (hr : NRow w base A0 c0 o) (hg : w.grownBy w1 (iblk A0)) : BS w1 A n c b := by
  refine ⟨?_, h.2⟩
  cases hA : iblk A0 with
  | none => exact bytes_row h.1 (hA ▸ hg) (fun k _ => by simp)
  | some k =>
    obtain ⟨cs, hk⟩ := nrow_typed hr k hA
    exact bytes_other h.1 hk (by decide) (hA ▸ hg)
/-- Decode's state. -/
def DecSt (w wr : World) (A : Option Addr) (n c : Nat) (b : List Int) (A' : Option Addr) (c' : Nat) (o : List Ins3) : Prop := BS wr A n c b ∧ NRow wr w.heap.size A' c' o ∧ Below w.heap.size w wr
theorem DecSt.below {w wr w1 : World} {A A' : Option Addr} {n c c' : Nat} {b : List Int} {o : List Ins3} (h : DecSt w wr A n c b A' c' o) (hb : Below wr.heap.size wr w1) : DecSt w w1 A n c b A' c' o := ⟨h.1.below hb, nrow_below h.2.1 hb, h.2.2.trans (hb.mono h.2.2.size)⟩
theorem DecSt.alloc {w wr : World} {A A' : Option Addr} {n c c' : Nat} {b : List Int} {o : List Ins3} (h : DecSt w wr A n c b A' c' o) (x : Obj) : DecSt w (wr.alloc x) A n c b A' c' o := h.below ((Below.refl _ _).alloc (Nat.le_refl _) x)
theorem DecSt.next {w wr w1 : World} {A A1 A' : Option Addr} {n n1 c c1 c' : Nat} {b b1 : List Int} {o : List Ins3} (h : DecSt w wr A n c b A' c' o) (hb : Below wr.heap.size wr w1) (h1 : BS w1 A1 n1 c1 b1) : DecSt w w1 A1 n1 c1 b1 A' c' o := ⟨h1, (h.below hb).2⟩
theorem DecSt.push {w wr w1 : World} {A A' A2 : Option Addr} {n c c' c2 : Nat} {b : List Int} {o o2 : List Ins3} (h : DecSt w wr A n c b A' c' o) (hr : NRow w1 w.heap.size A2 c2 o2) (hg : wr.grownBy w1 (iblk A')) : DecSt w w1 A n c b A2 c2 o2 :=
  ⟨h.1.grown h.2.1 hg, hr, h.2.2.grown hg h.2.2.size (fun k hk => (nrow_lt h.2.1 k hk).1)⟩
theorem encB_drop {l : List Ins3} {j : Nat} (h : j < l.length) : encB (l.drop j) = enc1 (xn l j) ++ encB (l.drop (j + 1)) := by
  unfold encB
  rw [List.drop_eq_getElem_cons h, List.flatMap_cons]
  congr 2
  have := xn_get h
  rw [List.getElem?_eq_getElem h] at this
  exact Option.some.inj this
def sliceLen : Value → Nat | .slice _ n _ => n | _ => 0
def DecPost (l : List Ins3) (w : World) (e : Ending) (w' : World) : Prop := ∃ A' c', e = .returned (.tuple #[.slice A' l.length c', .int .i64 0]) ∧ Below w.heap.size w w'
set_option maxHeartbeats 16000000 in
set_option maxRecDepth 100000 in
theorem decode_any (l : List Ins3) (hl : l.length ≤ 60) (hok : ∀ s ∈ l, s.ok) (hri : ∀ s ∈ l, rightI s = true) (A : Option Addr) (n c : Nat) (w : World) (HB : BS w A n c (encB l)) : Calls Try.prog 11 #[.slice A n c] w (DecPost l w) := by
  have HR := Lib.hid hri
  have HK := Lib.hid hok
  have HS := Lib.hid HB
  clear hri hok HB
  go_enter Try.func11, Try.ntmps11
  go_wp2_with fail
  go_loopw [0, 4] (fun s o' wr => ∃ (j : Nat) (A : Option Addr) (n c : Nat) (A' : Option Addr) (c' : Nat) (o : List Ins3) (b : List Int), j ≤ l.length ∧ s = .slice A n c ∧ o' = .slice A' o.length c' ∧ Hid (o = l.take j) ∧ Hid (b = encB (l.drop j)) ∧ Hid (DecSt w wr A n c b A' c' o)) (fun s _ _ => sliceLen s)
  case atStart => exact ⟨0, A, n, c, none, 0, [], encB l, by omega, rfl, rfl, Lib.hid (by simp), Lib.hid (by simp), Lib.hid ⟨HS.out, nrow_nil _ _, Below.refl _ _⟩⟩
  case round =>
    clear HS
    obtain ⟨j, A, n, c, A', c', o, b, hj, rfl, rfl, HO, HE, HD⟩ := hrel
    have hnl : n ≤ 600 := by
      rw [← HD.out.1.2.1, HE.out]
      have := encB_len (l.drop j)
      rw [List.length_drop] at this
      omega
    by_cases hlt : j < l.length
    · have hn1 : 1 ≤ n := by
        rw [← HD.out.1.2.1, HE.out, encB_drop hlt, List.length_append]
        show 1 ≤ List.length (_ :: _) + _
        rw [List.length_cons]
        omega
      have t1 : decide ((n : Int) > 0) = true := decide_eq_true (by omega)
      have t1' : decide ((0 : Int) < (n : Int)) = true := decide_eq_true (by omega)
      have t3 : (0 : Int) < (n : Int) := by omega
      have hol : o.length ≤ 60 := by rw [HO.out, List.length_take]; omega
      have hxm : xn l j ∈ l := by
        have h := xn_get hlt
        obtain ⟨hj, e⟩ := List.getElem?_eq_some_iff.mp h
        rw [← e]
        exact List.getElem_mem hj
      have HKx := Lib.hid (HK.out _ hxm)
      have HRx := Lib.hid (HR.out _ hxm)
      have HEx := Lib.hid (encB_drop hlt)
      have HTx := Lib.hid (show l.take (j + 1) = l.take j ++ [xn l j] by rw [List.take_add_one, xn_get hlt]; rfl)
      generalize xn l j = x at HKx HRx HEx HTx hxm
      clear hxm
      obtain ⟨op, ag, v⟩ := x
      obtain ⟨b2, HB2⟩ : ∃ y, Hid (encB (l.drop (j + 1)) = y) := ⟨_, Lib.hid rfl⟩
      obtain ⟨o1, HO1⟩ : ∃ y, Hid (o ++ [⟨op, ag, v⟩] = y) := ⟨_, Lib.hid rfl⟩
      have hb2 : b2.length ≤ 600 := by
        rw [← HB2.out]
        have := encB_len (l.drop (j + 1))
        rw [List.length_drop] at this
        omega
      have HBS : Hid (BS wr A n c (enc1 ⟨op, ag, v⟩ ++ b2)) := Lib.hid (by have h := HD.out.1; rw [HE.out, HEx.out, HB2.out] at h; exact h)
      go_wp2_with (first | (go_at_call 24; refine (codeOne ⟨op, ag, v⟩ HKx.out HRx.out b2 hb2 A n c _ HBS.out).mono ?_; rintro e w1 ⟨A1, c1, rfl, hs1, hb1⟩; unfold inV; have D1 := Lib.hid (HD.out.next hb1 hs1); clear hs1 hb1) | (at_builtin; refine append_ins rfl (.tmp 19) (.tmp 21) rfl w.heap.size A' c' o rfl ((D1.out.alloc _).alloc _).2.1 (w1.heap.size + 1) ⟨op, ag, v⟩ HKx.out rfl ((congrArg _ (by simp)).trans (heap_alloc_new _ _)) (by omega) ((D1.out.alloc _).alloc _).2.2.size o1 HO1.out ?_; intro A6 c6 w6 hr6 hg6; have D6 := Lib.hid (((D1.out.alloc _).alloc _).push hr6 hg6); clear hr6 hg6))
      go_roundw
      case rel => exact ⟨j + 1, A1, b2.length, c1, A6, c6, o1, b2, by omega, rfl, rfl, Lib.hid (by rw [HTx.out, ← HO1.out, HO.out]), Lib.hid HB2.out.symm, D6⟩
      case measure =>
        show b2.length < n
        have h := HBS.out.2.1
        unfold enc1 at h
        rw [List.length_append, List.length_cons] at h
        omega
    · obtain rfl : j = l.length := by omega
      have hb0 : b = [] := by rw [HE.out, List.drop_length]; rfl
      obtain rfl : n = 0 := by rw [← HD.out.1.2.1, hb0]; rfl
      have ho : o = l := by rw [HO.out, List.take_length]
      subst ho
      go_wp2_with fail
      go_ret2
      exact ⟨A', c', rfl, HD.out.2.2⟩
end Go.Proofs.Ytbfjnanakmiaaaa
