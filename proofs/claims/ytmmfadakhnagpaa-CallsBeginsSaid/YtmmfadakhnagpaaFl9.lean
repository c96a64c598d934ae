
/-
  rowlockref14.Same of lists that are the same; live; the four blocks are the reference's.
-/
import Derived.Test.YtmmfadakhnagpaaFl8e
import Derived.Test.YtmmfadakhnagpaaFl8t
import Derived.Test.YtmmfadakhnagpaaFl8a
import Derived.Test.YtmmfadakhnagpaaFl8l
import Derived.Laws.StructEq
namespace Go.Proofs.Ytmmfadakhnagpaa
open Go.RowKit Go.ChangeShapes Go.WideShapes
set_option linter.unusedSimpArgs false
set_option linter.unusedVariables false

theorem run_eq_insv (a b c : Int) (w : World) : (Op.equal 64 (.agg #[.int .u8 a, .int .i64 b, .int .u64 c]) (.agg #[.int .u8 a, .int .i64 b, .int .u64 c])).run Try.prog w = .ok true w := by
  unfold Op.equal
  obtain ⟨dd, hd⟩ : ∃ dd, Op.maxDepth = dd + 1 + 1 := ⟨9998, by kernel_rfl⟩
  rw [hd, run_equalIn_struct _ (dd + 1) _ _ _ (by kernel_rfl) (by kernel_rfl)]
  simp only [Program.fieldsOf, Try.underlying64]
  have p0 : ∀ w, (part 62 #[.int .u8 a, .int .i64 b, .int .u64 c] 0).run Try.prog w = .ok (.int .u8 a) w := fun w => run_part_plain (w := w) (by kernel_rfl) rfl
  have p1 : ∀ w, (part 3 #[.int .u8 a, .int .i64 b, .int .u64 c] 1).run Try.prog w = .ok (.int .i64 b) w := fun w => run_part_plain (w := w) (by kernel_rfl) rfl
  have p2 : ∀ w, (part 53 #[.int .u8 a, .int .i64 b, .int .u64 c] 2).run Try.prog w = .ok (.int .u64 c) w := fun w => run_part_plain (w := w) (by kernel_rfl) rfl
  simp [Op.eqFields, Sem.run_bind, Result.andThen_ok, p0, p1, p2, run_equalIn_int _ _ _ _ _ _ _ Try.underlying62, run_equalIn_int _ _ _ _ _ _ _ Try.underlying3, run_equalIn_int _ _ _ _ _ _ _ Try.underlying53]
set_option maxRecDepth 20000 in
set_option maxHeartbeats 4000000 in
theorem sameIns_yes (A B : Option Addr) (c d : Nat) (l : List Ins3) (hl : l.length ≤ 1000) (w : World) (h1 : InssAt w A l) (h2 : InssAt w B l) : Calls Try.prog 10 #[.slice A l.length c, .slice B l.length d] w fun e w' => e = .returned (.bool true) ∧ Below w.heap.size w w' := by
  have H1 := Lib.hid h1
  have H2 := Lib.hid h2
  have HL := Lib.hid hl
  have qq : ∀ (a b c : Int) (w : World), (binOp .neq 64 (.agg #[.int .u8 a, .int .i64 b, .int .u64 c]) (.agg #[.int .u8 a, .int .i64 b, .int .u64 c])).run Try.prog w = .ok (.bool false) w := fun a b c w => by simp [binOp, go_sem, run_eq_insv]
  clear h1 h2 hl
  go_enter Try.func10, Try.ntmps10
  go_wp2_with fail
  go_loopg [5] l.length (fun gm s5 wx => ∃ (j : Nat), j ≤ l.length ∧ gm = l.length - j ∧ s5 = .int .i64 j ∧ Hid (Below w.heap.size w wx))
  case atStart => exact ⟨0, Nat.zero_le _, rfl, rfl, Lib.hid (Below.refl _ _)⟩
  case round =>
    obtain ⟨j, hj, rfl, rfl, HB⟩ := hrel
    by_cases hlt : j < l.length
    · obtain ⟨a, rfl, _⟩ := xn_at H1.out hlt
      obtain ⟨b, rfl, _⟩ := xn_at H2.out hlt
      have ha := xn_some (inss_below H1.out HB.out) hlt
      have hb := xn_some (inss_below H2.out HB.out) hlt
      obtain ⟨x, hxx⟩ : ∃ x, xn l j = x := ⟨_, rfl⟩
      rw [hxx] at ha hb
      clear hxx
      obtain ⟨op, ar, vl⟩ := x
      obtain ⟨_, x0, x1, x2⟩ := ha
      obtain ⟨_, y0, y1, y2⟩ := hb
      dsimp only at x0 x1 x2 y0 y1 y2
      have la := World.block_lt_of_cell? wr _ x0
      have lb := World.block_lt_of_cell? wr _ y0
      have s1 : decide ((j : Int) < (l.length : Int)) = true := decide_eq_true (by omega)
      have s2 : decide (j < l.length) = true := decide_eq_true (by omega)
      have s3 : (j : Int) < (l.length : Int) := by omega
      have s4 : (0 : Int) ≤ (j : Int) := by omega
      have s5 : wrap64 ((j : Int) + 1) = (j : Int) + 1 := by have := HL.out; unfold wrap64; omega
      have HLT := Lib.hid hlt
      clear hlt hj
      go_wp2_with fail
      go_quiet (fail)
      go_wp2_with fail
      go_roundg (l.length - (j + 1))
      case measure => have := HLT.out; omega
      case rel => exact ⟨j + 1, HLT.out, rfl, by first | rfl | (rw [s5]; rfl), Lib.hid (bl_drewN HB.out nq)⟩
    · have s1 : decide ((j : Int) < (l.length : Int)) = false := decide_eq_false (by omega)
      have s2 : decide (j < l.length) = false := decide_eq_false (by omega)
      go_wp2_with fail
      go_ret
      exact ⟨rfl, HB.out⟩
def liveF : List Ins3 := [⟨21, 7, 0⟩, ⟨2, 1, 0⟩, ⟨4, 4, 0⟩, ⟨13, 0, 0⟩, ⟨20, 6, 0⟩, ⟨19, 7, 0⟩, ⟨26, 0, 0⟩, ⟨22, 0, 0⟩]
theorem leF_live : leF 0 3 1 = (0, liveF) := by kernel_rfl
theorem nrow_g {w : World} {b c : Nat} {A : Option Addr} {l : List Ins3} (h : NRow w b A c l) (hl : l.length ≠ 0) : ∃ g, A = some ⟨g, 0, none⟩ := by
  rcases h.1.2 with ⟨h1, h2⟩ | ⟨g, cap, cur, h1, h2, h3⟩
  · exact absurd h2 hl
  · simp only [Value.slice.injEq] at h1
    exact ⟨g, h1.1⟩
theorem leave_live (w : World) : Calls Try.prog 60 #[.int .i64 0, .int .i64 3, .int .i64 1] w fun e w' => ∃ g c, e = .returned (.tuple #[.slice (some ⟨g, 0, none⟩) 8 c, .int .i64 0]) ∧ (∀ (j : Nat) (u : Value), (insC liveF)[j]? = some u → w'.cell? ⟨g, j, none⟩ = some u) ∧ Below w.heap.size w w' := by
  refine (leave_any 0 3 1 w).mono ?_
  rintro e w' ⟨A, c, rfl, hn, hb⟩
  rw [leF_live] at hn ⊢
  obtain ⟨g, rfl⟩ := nrow_g hn (by decide)
  refine ⟨g, c, rfl, fun j u hu => ?_, hb⟩
  have := inss_cells (nrow_inss hn (by decide)).1 j u hu
  rw [add_at, Nat.zero_add] at this
  exact this
theorem blk_eq {l m : List Ins3} {at' : Int} (h : m.map (atI at') = l) : blkR l at' = blkA m at' := by
  unfold blkR blkA
  rw [h]
  have e : l.length = m.length := by rw [← h, List.length_map]
  rw [e]
theorem atI_no {at' op x v : Int} (h : plcB op = false) : atI at' ⟨op, x, v⟩ = ⟨op, x, v⟩ := by unfold atI; dsimp only; rw [h]; rfl
theorem atI_yes {at' op x v : Int} (h : plcB op = true) : atI at' ⟨op, x, v⟩ = ⟨op, at' + x, v⟩ := by unfold atI; dsimp only; rw [h]; show (⟨op, x + at', v⟩ : Ins3) = _; rw [Int.add_comm]
theorem enter_map (tv sz v at' : Int) : (enterR tv sz v).map (atI at') = enterL tv sz 0 v at' := by
  unfold enterR enterL
  simp only [List.map_cons, List.map_nil]
  repeat (first | rw [atI_no (by decide)] | rw [atI_yes (by decide)])
theorem take_map (tv sz at' : Int) : (takeR tv sz).map (atI at') = takeL tv sz 0 0 at' := by
  unfold takeR takeL
  simp only [List.map_cons, List.map_nil]
  repeat (first | rw [atI_no (by decide)] | rw [atI_yes (by decide)])
theorem arrive_map (tv sz at' : Int) : (arriveR tv sz).map (atI at') = arriveL tv sz 0 0 at' := by
  unfold arriveR arriveL
  simp only [List.map_cons, List.map_nil]
  repeat (first | rw [atI_no (by decide)] | rw [atI_yes (by decide)])
theorem leave_map (tv lc at' : Int) : (leaveR tv lc).map (atI at') = leaveL tv 0 lc 0 at' := by
  unfold leaveR leaveL
  simp only [List.map_cons, List.map_nil]
  repeat (first | rw [atI_no (by decide)] | rw [atI_yes (by decide)])
theorem may_q {at' tv sz : Int} (h1 : ¬ sz < 1) (h2 : ¬ 4 < sz) : mayB at' tv (sz + 2) sz 4 = !quB at' tv sz := by
  unfold mayB quB wthB
  rw [Bool.eq_iff_iff]
  simp
  omega
theorem enter_eq (at' tv sz v : Int) : enF at' tv sz v = enterM at' tv sz v := by
  unfold enF enterM
  rw [blk_eq (enter_map tv sz v at')]
  by_cases h1 : sz < 1
  · have : quB at' tv sz = false := by unfold quB wthB; simp; omega
    rw [this, decide_eq_true h1]; rfl
  by_cases h2 : 4 < sz
  · have : quB at' tv sz = false := by unfold quB wthB; simp; omega
    rw [this, decide_eq_true h2]; simp
  rw [may_q h1 h2, decide_eq_false h1, decide_eq_false h2]
  rfl
theorem take_eq (at' tv sz : Int) : taF at' tv sz = takeM at' tv sz := by
  unfold taF takeM
  rw [blk_eq (take_map tv sz at')]
  by_cases h1 : sz < 1
  · have : quB at' tv sz = false := by unfold quB wthB; simp; omega
    rw [this, decide_eq_true h1]; rfl
  by_cases h2 : 4 < sz
  · have : quB at' tv sz = false := by unfold quB wthB; simp; omega
    rw [this, decide_eq_true h2]; simp
  rw [may_q h1 h2, decide_eq_false h1, decide_eq_false h2]
  rfl
theorem arrive_eq (at' tv sz : Int) : arF at' tv sz = arriveM at' tv sz := by
  unfold arF arriveM
  rw [blk_eq (arrive_map tv sz at')]
  have : mayB at' tv 2 sz 4 = (!baB at' tv || !wthB sz 1 4) := by
    unfold mayB baB wthB
    rw [Bool.eq_iff_iff]
    simp
    omega
  rw [this]
theorem leave_eq (at' tv lc : Int) : leF at' tv lc = leaveM at' tv lc := by
  unfold leF leaveM
  rw [blk_eq (leave_map tv lc at')]
  have h1 : mayB at' tv 2 1 1 = !baB at' tv := by
    unfold mayB baB wthB
    rw [Bool.eq_iff_iff]
    simp
    omega
  have h2 : (decide (lc < 0) || decide (4 ≤ lc)) = !wthB lc 0 3 := by
    unfold wthB
    rw [Bool.eq_iff_iff]
    simp
    omega
  rw [h1, h2]
  cases baB at' tv <;> cases wthB lc 0 3 <;> rfl
theorem blkR_len {l : List Ins3} {at' : Int} (h : l.length ≤ 100) : (blkR l at').2.length ≤ 100 := by
  unfold blkR
  split
  · exact Nat.zero_le _
  · exact h
theorem enF_len (at' tv sz v : Int) : (enF at' tv sz v).2.length ≤ 100 := by
  unfold enF
  cases quB at' tv sz <;> cases rightB v <;> first | exact Nat.zero_le _ | exact blkR_len (show _ ≤ 100 by first | (simp [enterL]; done) | (simp [takeL]; done) | (simp [arriveL]; done) | (simp [leaveL]; done))
theorem taF_len (at' tv sz : Int) : (taF at' tv sz).2.length ≤ 100 := by
  unfold taF
  cases quB at' tv sz <;> first | exact Nat.zero_le _ | exact blkR_len (show _ ≤ 100 by first | (simp [enterL]; done) | (simp [takeL]; done) | (simp [arriveL]; done) | (simp [leaveL]; done))
theorem arF_len (at' tv sz : Int) : (arF at' tv sz).2.length ≤ 100 := by
  unfold arF
  cases baB at' tv <;> cases wthB sz 1 4 <;> first | exact Nat.zero_le _ | exact blkR_len (show _ ≤ 100 by first | (simp [enterL]; done) | (simp [takeL]; done) | (simp [arriveL]; done) | (simp [leaveL]; done))
theorem leF_len (at' tv lc : Int) : (leF at' tv lc).2.length ≤ 100 := by
  unfold leF
  cases baB at' tv <;> cases wthB lc 0 3 <;> first | exact Nat.zero_le _ | exact blkR_len (show _ ≤ 100 by first | (simp [enterL]; done) | (simp [takeL]; done) | (simp [arriveL]; done) | (simp [leaveL]; done))
end Go.Proofs.Ytmmfadakhnagpaa
