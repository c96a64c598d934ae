
/-
  rowlockref15: Regions, next, spread.
-/
import Derived.Test.YtcjkpeojjonpiaaCk3
import Derived.Test.YtcjkpeojjonpiaaSp28
namespace Go.Proofs.Ytcjkpeojjonpiaa
open Go.RowKit Go.ChangeShapes Go.WideShapes
set_option linter.unusedSimpArgs false
set_option linter.unusedVariables false

def RgPost (l : List Ins3) (W : World) (e : Ending) (w' : World) : Prop := ∃ A1 c1, e = .returned (.tuple #[.slice A1 (rg15 l).1.length c1, .int .i64 (rg15 l).2.1, .int .i64 (rg15 l).2.2]) ∧ IRowAt w' W.heap.size A1 c1 (rg15 l).1 ∧ Below W.heap.size W w'
set_option maxRecDepth 20000 in
set_option maxHeartbeats 4000000 in
theorem regions15 (l : List Ins3) (hl : l.length ≤ 100) (A : Option Addr) (c : Nat) (W : World) (hs : InssAt W A l) : Calls Try.prog 35 #[.slice A l.length c] W (RgPost l W) := by
  have HB := Lib.hid (fun w h => brackets_any l hl A c w h)
  have HS := Lib.hid hs
  unfold RgPost
  obtain ⟨r, hr⟩ : ∃ r, rg15 l = r := ⟨_, rfl⟩
  have HR := Lib.hid hr
  rw [hr]
  obtain ⟨nl, hnl⟩ : ∃ n, l.length = n := ⟨_, rfl⟩
  rw [hnl] at HB ⊢
  unfold BrPost at HB
  rw [hr] at HB
  clear hs hl hr hnl
  go_enter Try.func35, Try.ntmps35
  go_wp2_with (go_at_call 66; refine (HB.out W HS.out).mono ?_; rintro e w1 ⟨A1, c1, A2, n2, c2, rfl, hr1, hb1⟩; have R1 := Lib.hid hr1; have B1 := Lib.hid hb1; clear hr1 hb1)
  refine bodyPost_ret (by simp [results, Try.results35, go_sem]; try rfl) rfl ?_
  exact ⟨A1, c1, rfl, R1.out, B1.out⟩
theorem xn_some' {w : World} {A : Option Addr} {l : List Ins3} (h : InssAt w A l) {j : Nat} (hj : j < l.length) : ∃ ad, A = some ad ∧ InAt w (ad.add (j * 3)) (xn l j) := xn_at h hj
def nextI (l : List Ins3) (i : Nat) : List Int :=
  if (xn l i).op = 19 then [(xn l i).arg] else if (xn l i).op = 20 then [(i : Int) + 1, (xn l i).arg] else if (xn l i).op = 23 then [(i : Int) + 1, (xn l i).arg + 1] else if (xn l i).op = 24 then [(xn l i).arg + 1] else if (xn l i).op = 26 then [] else if (xn l i).op = 28 then [] else [(i : Int) + 1]
def NextPost (l : List Ins3) (i : Nat) (w : World) (e : Ending) (w' : World) : Prop := ∃ A c, e = .returned (.slice A (nextI l i).length c) ∧ IntsAt (fun k => w.heap.size ≤ k) w' A (nextI l i) ∧ Below w.heap.size w w'
theorem ints_new {w : World} {b n : Nat} {l : List Int} (hb : w.heap[n]? = some (.cells (intsC l).toArray 3 (0, 0))) (hok : ∀ x ∈ l, I64 x) (hn : b ≤ n) : IntsAt (fun k => b ≤ k) w (some ⟨n, 0, none⟩) l :=
  ⟨hok, .inr ⟨n, 0, _, rfl, hb, fun j x hj => by rw [Nat.zero_add]; simp [intsC, hj], hn⟩⟩
set_option maxRecDepth 20000 in
set_option maxHeartbeats 8000000 in
theorem next_any (l : List Ins3) (hl : l.length ≤ 100) (A : Option Addr) (c i : Nat) (hi : i < l.length) (hag : 0 ≤ (xn l i).arg ∧ (xn l i).arg < 100) (W : World) (hs : InssAt W A l) : Calls Try.prog 85 #[.slice A l.length c, .int .i64 (i : Int)] W (NextPost l i W) := by
  have s3 : (i : Int) < (l.length : Int) := by omega
  have s4 : (0 : Int) ≤ (i : Int) := by omega
  have k1 : wrap64 ((i : Int) + 1) = (i : Int) + 1 := by unfold wrap64; omega
  have HJ := Lib.hid (And.intro hi hl)
  have hI3 := xn_some' hs hi
  obtain ⟨ad, rfl, hI3⟩ := hI3
  obtain ⟨⟨op, ag, v⟩, hop⟩ : ∃ x, xn l i = x := ⟨_, rfl⟩
  rw [hop] at hI3 hag
  obtain ⟨hok, a0, a1, a2⟩ := hI3
  dsimp only at a0 a1 a2 hag
  have la := World.block_lt_of_cell? W _ a0
  have la' : ad.block < W.heap.size := by
    have e : (ad.add (i * 3)).block = ad.block := by unfold Addr.add; split <;> rfl
    omega
  have k2 : wrap64 (ag + 1) = ag + 1 := by unfold wrap64; omega
  have HAG := Lib.hid hag
  have HE : Hid (nextI l i = if op = 19 then [ag] else if op = 20 then [(i : Int) + 1, ag] else if op = 23 then [(i : Int) + 1, ag + 1] else if op = 24 then [ag + 1] else if op = 26 then [] else if op = 28 then [] else [(i : Int) + 1]) := Lib.hid (by unfold nextI; rw [hop])
  unfold NextPost
  obtain ⟨N, hN⟩ : ∃ N, nextI l i = N := ⟨_, rfl⟩
  rw [hN] at HE ⊢
  obtain ⟨nl, hnl⟩ : ∃ n, l.length = n := ⟨_, rfl⟩
  rw [hnl] at s3 HJ ⊢
  have z1 := Lib.hid (Below.refl W.heap.size W)
  clear hop hN hnl hl hi hs hag hok
  rcases Decidable.em (op = 19) with rfl | n19
  · have hE : N = [ag] := by rw [HE.out]; simp
    have HE2 := Lib.hid hE
    clear hE HE
    go_enter Try.func85, Try.ntmps85
    go_wp2_with fail
    go_ret
    refine ⟨some ⟨(W.alloc (.cells #[.int .u8 19, .int .i64 ag, .int .u64 v] 35)).heap.size, 0, none⟩, 1, by rw [HE2.out]; first | rfl | (simp; try rfl), ?_, ?_⟩
    · rw [HE2.out]
      exact ints_new (by first | exact heap_alloc_new (W.alloc (.cells #[.int .u8 19, .int .i64 ag, .int .u64 v] 35)) _ | (have := heap_alloc_new (W.alloc (.cells #[.int .u8 19, .int .i64 ag, .int .u64 v] 35)) (.cells #[.int .i64 (ag)] 3); simpa [k1, k2, intsC] using this)) (by
        have h1 := HAG.out
        have h2 := HJ.out
        intro x hx
        simp only [List.mem_cons, List.not_mem_nil, or_false] at hx
        subst hx
        exact ⟨by omega, by omega⟩) (by simp)
    · exact (z1.out.alloc (Nat.le_refl _) (.cells #[.int .u8 19, .int .i64 ag, .int .u64 v] 35)).alloc (by simp) _
  rcases Decidable.em (op = 20) with rfl | n20
  · have hE : N = [(i : Int) + 1, ag] := by rw [HE.out]; simp
    have HE2 := Lib.hid hE
    clear hE HE
    go_enter Try.func85, Try.ntmps85
    go_wp2_with fail
    go_ret
    refine ⟨some ⟨(W.alloc (.cells #[.int .u8 20, .int .i64 ag, .int .u64 v] 35)).heap.size, 0, none⟩, 2, by rw [HE2.out]; first | rfl | (simp; try rfl), ?_, ?_⟩
    · rw [HE2.out]
      exact ints_new (by first | exact heap_alloc_new (W.alloc (.cells #[.int .u8 20, .int .i64 ag, .int .u64 v] 35)) _ | (have := heap_alloc_new (W.alloc (.cells #[.int .u8 20, .int .i64 ag, .int .u64 v] 35)) (.cells #[.int .i64 ((i : Int) + 1), .int .i64 (ag)] 3); simpa [k1, k2, intsC] using this)) (by
        have h1 := HAG.out
        have h2 := HJ.out
        intro x hx
        simp only [List.mem_cons, List.not_mem_nil, or_false] at hx
        rcases hx with rfl | rfl <;> exact ⟨by omega, by omega⟩) (by simp)
    · exact (z1.out.alloc (Nat.le_refl _) (.cells #[.int .u8 20, .int .i64 ag, .int .u64 v] 35)).alloc (by simp) _
  rcases Decidable.em (op = 23) with rfl | n23
  · have hE : N = [(i : Int) + 1, ag + 1] := by rw [HE.out]; simp
    have HE2 := Lib.hid hE
    clear hE HE
    go_enter Try.func85, Try.ntmps85
    go_wp2_with fail
    go_ret
    refine ⟨some ⟨(W.alloc (.cells #[.int .u8 23, .int .i64 ag, .int .u64 v] 35)).heap.size, 0, none⟩, 2, by rw [HE2.out]; first | rfl | (simp; try rfl), ?_, ?_⟩
    · rw [HE2.out]
      exact ints_new (by first | exact heap_alloc_new (W.alloc (.cells #[.int .u8 23, .int .i64 ag, .int .u64 v] 35)) _ | (have := heap_alloc_new (W.alloc (.cells #[.int .u8 23, .int .i64 ag, .int .u64 v] 35)) (.cells #[.int .i64 ((i : Int) + 1), .int .i64 (ag + 1)] 3); simpa [k1, k2, intsC] using this)) (by
        have h1 := HAG.out
        have h2 := HJ.out
        intro x hx
        simp only [List.mem_cons, List.not_mem_nil, or_false] at hx
        rcases hx with rfl | rfl <;> exact ⟨by omega, by omega⟩) (by simp)
    · exact (z1.out.alloc (Nat.le_refl _) (.cells #[.int .u8 23, .int .i64 ag, .int .u64 v] 35)).alloc (by simp) _
  rcases Decidable.em (op = 24) with rfl | n24
  · have hE : N = [ag + 1] := by rw [HE.out]; simp
    have HE2 := Lib.hid hE
    clear hE HE
    go_enter Try.func85, Try.ntmps85
    go_wp2_with fail
    go_ret
    refine ⟨some ⟨(W.alloc (.cells #[.int .u8 24, .int .i64 ag, .int .u64 v] 35)).heap.size, 0, none⟩, 1, by rw [HE2.out]; first | rfl | (simp; try rfl), ?_, ?_⟩
    · rw [HE2.out]
      exact ints_new (by first | exact heap_alloc_new (W.alloc (.cells #[.int .u8 24, .int .i64 ag, .int .u64 v] 35)) _ | (have := heap_alloc_new (W.alloc (.cells #[.int .u8 24, .int .i64 ag, .int .u64 v] 35)) (.cells #[.int .i64 (ag + 1)] 3); simpa [k1, k2, intsC] using this)) (by
        have h1 := HAG.out
        have h2 := HJ.out
        intro x hx
        simp only [List.mem_cons, List.not_mem_nil, or_false] at hx
        subst hx
        exact ⟨by omega, by omega⟩) (by simp)
    · exact (z1.out.alloc (Nat.le_refl _) (.cells #[.int .u8 24, .int .i64 ag, .int .u64 v] 35)).alloc (by simp) _
  rcases Decidable.em (op = 26) with rfl | n26
  · have hE : N = [] := by rw [HE.out]; simp
    have HE2 := Lib.hid hE
    clear hE HE
    go_enter Try.func85, Try.ntmps85
    go_wp2_with fail
    go_ret
    exact ⟨none, 0, by rw [HE2.out]; rfl, by rw [HE2.out]; exact ⟨fun x hx => (List.not_mem_nil hx).elim, .inl ⟨rfl, rfl⟩⟩, z1.out.alloc (Nat.le_refl _) _⟩
  rcases Decidable.em (op = 28) with rfl | n28
  · have hE : N = [] := by rw [HE.out]; simp
    have HE2 := Lib.hid hE
    clear hE HE
    go_enter Try.func85, Try.ntmps85
    go_wp2_with fail
    go_ret
    exact ⟨none, 0, by rw [HE2.out]; rfl, by rw [HE2.out]; exact ⟨fun x hx => (List.not_mem_nil hx).elim, .inl ⟨rfl, rfl⟩⟩, z1.out.alloc (Nat.le_refl _) _⟩
  have hE : N = [(i : Int) + 1] := by rw [HE.out]; simp [n19, n20, n23, n24, n26, n28]
  have HE2 := Lib.hid hE
  have m19 := eqk n19
  have m20 := eqk n20
  have m23 := eqk n23
  have m24 := eqk n24
  have m26 := eqk n26
  have m28 := eqk n28
  clear n19 n20 n23 n24 n26 n28
  clear hE HE
  go_enter Try.func85, Try.ntmps85
  go_wp2_with fail
  go_ret
  refine ⟨some ⟨(W.alloc (.cells #[.int .u8 op, .int .i64 ag, .int .u64 v] 35)).heap.size, 0, none⟩, 1, by rw [HE2.out]; first | rfl | (simp; try rfl), ?_, ?_⟩
  · rw [HE2.out]
    exact ints_new (by first | exact heap_alloc_new (W.alloc (.cells #[.int .u8 op, .int .i64 ag, .int .u64 v] 35)) _ | (have := heap_alloc_new (W.alloc (.cells #[.int .u8 op, .int .i64 ag, .int .u64 v] 35)) (.cells #[.int .i64 ((i : Int) + 1)] 3); simpa [k1, k2, intsC] using this)) (by
      have h1 := HAG.out
      have h2 := HJ.out
      intro x hx
      simp only [List.mem_cons, List.not_mem_nil, or_false] at hx
      subst hx
      exact ⟨by omega, by omega⟩) (by simp)
  · exact (z1.out.alloc (Nat.le_refl _) (.cells #[.int .u8 op, .int .i64 ag, .int .u64 v] 35)).alloc (by simp) _
end Go.Proofs.Ytcjkpeojjonpiaa
