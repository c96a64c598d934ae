
/-
  spec: block: last, what puts back.
-/
import Derived.Test.YtlgpjcdlomhlcaaSp9
namespace Go.Proofs.Ytlgpjcdlomhlcaa
open Go.RowKit Go.ChangeShapes Go.WideShapes
set_option linter.unusedSimpArgs false
set_option linter.unusedVariables false

theorem last_nil (g cb : Nat) (Ab : Option Addr) (w : World) (h9 : w.cell? ⟨g, 9, none⟩ = some (.slice Ab 0 cb)) : Calls Try.prog 77 #[.pointer (some ⟨g, 0, none⟩)] w fun e w' => e = .returned .nilFunc ∧ w = w' := by
  go_enter Try.func77, Try.ntmps77
  go_wp2
  go_ret
  exact ⟨rfl, rfl⟩
theorem last_some (g n cb : Nat) (b : Addr) (v : Value) (w : World) (h9 : w.cell? ⟨g, 9, none⟩ = some (.slice (some b) (n + 1) cb)) (hz : w.frozen? ⟨g, 9, none⟩ = false) (hv : w.cell? (b.add n) = some v) (hc : n + 1 ≤ cb) (hn : n ≤ 1000) : Calls Try.prog 77 #[.pointer (some ⟨g, 0, none⟩)] w fun e w' => e = .returned v ∧ w.setCell ⟨g, 9, none⟩ (.slice (some b) n cb) = w' := by
  have kw : wrap64 (n : Int) = (n : Int) := by unfold wrap64; omega
  have k2 : n ≤ cb := by omega
  have kd : decide ((n : Int) < 0) = false := decide_eq_false (by omega)
  go_enter Try.func77, Try.ntmps77
  go_wp2
  go_ret
  exact ⟨rfl, rfl⟩
/-- What a mark's function has caught: the state, the heap, the block's pointer, the instruction. -/
structure MkC (w : World) (g si hi bi xi : Nat) (s0 : St) (n0 : Nat) (p0 : Pl) (x : Ins3) : Prop where
  cs : w.heap[si]? = some (.cells (stC s0 p0.A1 p0.c1 p0.A2 p0.c2) 28 (0, 0))
  ch : w.heap[hi]? = some (.cells #[.slice p0.A3 n0 p0.c3] 23 (0, 0))
  cb : w.heap[bi]? = some (.cells #[.pointer (some ⟨g, 0, none⟩)] 88 (0, 0))
  cx : w.heap[xi]? = some (.cells #[.int .u8 x.op, .int .i64 x.arg, .int .u64 x.val] 42 (0, 0))
def PBS (si hi bi g : Nat) (s0 : St) (n0 : Nat) (p0 : Pl) (w' : World) : Prop := w'.cell? ⟨si, 0, none⟩ = some (.int .i64 s0.pc) ∧ w'.cell? ⟨si, 1, none⟩ = some (.slice p0.A1 s0.stk.length p0.c1) ∧ w'.cell? ⟨si, 2, none⟩ = some (.int .u64 s0.la) ∧ w'.cell? ⟨si, 3, none⟩ = some (.int .u64 s0.lb) ∧ w'.cell? ⟨si, 4, none⟩ = some (.int .u64 s0.lc) ∧ w'.cell? ⟨si, 5, none⟩ = some (.int .u64 s0.ld) ∧ w'.cell? ⟨si, 6, none⟩ = some (.slice p0.A2 s0.out.length p0.c2) ∧ w'.cell? ⟨hi, 0, none⟩ = some (.slice p0.A3 n0 p0.c3) ∧ w'.cell? ⟨bi, 0, none⟩ = some (.pointer (some ⟨g, 0, none⟩))
theorem cell_far {w : World} {a : Addr} {g j : Nat} {u v : Value} (h : w.cell? a = some v) (hn : a.block ≠ g) : (w.setCell ⟨g, j, none⟩ u).cell? a = some v :=
  (World.cell?_of_block (Below.heap_setCell w ⟨g, j, none⟩ u a.block hn)).trans h
theorem pbs_set {si hi bi g : Nat} {s0 : St} {n0 : Nat} {p0 : Pl} {w : World} (h : PBS si hi bi g s0 n0 p0 w) (ns : si ≠ g) (nh : hi ≠ g) (nb : bi ≠ g) (j : Nat) (u : Value) : PBS si hi bi g s0 n0 p0 (w.setCell ⟨g, j, none⟩ u) := by
  obtain ⟨h0, h1, h2, h3, h4, h5, h6, h7, h8⟩ := h
  exact ⟨cell_far h0 ns, cell_far h1 ns, cell_far h2 ns, cell_far h3 ns, cell_far h4 ns, cell_far h5 ns, cell_far h6 ns, cell_far h7 nh, cell_far h8 nb⟩
theorem hp_dr {w : World} {g : Nat} {o : Obj} (h : w.heap[g]? = some o) : w.drew.heap[g]? = some o := h
theorem put8 {w : World} {g n n0 : Nat} {T : TypeId} {X : List Value} {I : Value} {s s0 : St} {p p0 : Pl} (h : w.heap[g]? = some (.cells (wkL I s n p X) T (0, 0))) : ((((((((w.setCell ⟨g, 1, none⟩ (.int .i64 s0.pc)).setCell ⟨g, 2, none⟩ (.slice p0.A1 s0.stk.length p0.c1)).setCell ⟨g, 3, none⟩ (.int .u64 s0.la)).setCell ⟨g, 4, none⟩ (.int .u64 s0.lb)).setCell ⟨g, 5, none⟩ (.int .u64 s0.lc)).setCell ⟨g, 6, none⟩ (.int .u64 s0.ld)).setCell ⟨g, 7, none⟩ (.slice p0.A2 s0.out.length p0.c2)).setCell ⟨g, 8, none⟩ (.slice p0.A3 n0 p0.c3)).heap[g]? = some (.cells (wkL I s0 n0 p0 X) T (0, 0)) := by
  unfold wkL at h ⊢
  have h1 := hp_put (cs' := (I :: (.int .i64 s0.pc) :: (.slice p.A1 s.stk.length p.c1) :: (.int .u64 s.la) :: (.int .u64 s.lb) :: (.int .u64 s.lc) :: (.int .u64 s.ld) :: (.slice p.A2 s.out.length p.c2) :: (.slice p.A3 n p.c3) :: X).toArray) h 1 (.int .i64 s0.pc) (by simp)
  have h2 := hp_put (cs' := (I :: (.int .i64 s0.pc) :: (.slice p0.A1 s0.stk.length p0.c1) :: (.int .u64 s.la) :: (.int .u64 s.lb) :: (.int .u64 s.lc) :: (.int .u64 s.ld) :: (.slice p.A2 s.out.length p.c2) :: (.slice p.A3 n p.c3) :: X).toArray) h1 2 (.slice p0.A1 s0.stk.length p0.c1) (by simp)
  have h3 := hp_put (cs' := (I :: (.int .i64 s0.pc) :: (.slice p0.A1 s0.stk.length p0.c1) :: (.int .u64 s0.la) :: (.int .u64 s.lb) :: (.int .u64 s.lc) :: (.int .u64 s.ld) :: (.slice p.A2 s.out.length p.c2) :: (.slice p.A3 n p.c3) :: X).toArray) h2 3 (.int .u64 s0.la) (by simp)
  have h4 := hp_put (cs' := (I :: (.int .i64 s0.pc) :: (.slice p0.A1 s0.stk.length p0.c1) :: (.int .u64 s0.la) :: (.int .u64 s0.lb) :: (.int .u64 s.lc) :: (.int .u64 s.ld) :: (.slice p.A2 s.out.length p.c2) :: (.slice p.A3 n p.c3) :: X).toArray) h3 4 (.int .u64 s0.lb) (by simp)
  have h5 := hp_put (cs' := (I :: (.int .i64 s0.pc) :: (.slice p0.A1 s0.stk.length p0.c1) :: (.int .u64 s0.la) :: (.int .u64 s0.lb) :: (.int .u64 s0.lc) :: (.int .u64 s.ld) :: (.slice p.A2 s.out.length p.c2) :: (.slice p.A3 n p.c3) :: X).toArray) h4 5 (.int .u64 s0.lc) (by simp)
  have h6 := hp_put (cs' := (I :: (.int .i64 s0.pc) :: (.slice p0.A1 s0.stk.length p0.c1) :: (.int .u64 s0.la) :: (.int .u64 s0.lb) :: (.int .u64 s0.lc) :: (.int .u64 s0.ld) :: (.slice p.A2 s.out.length p.c2) :: (.slice p.A3 n p.c3) :: X).toArray) h5 6 (.int .u64 s0.ld) (by simp)
  have h7 := hp_put (cs' := (I :: (.int .i64 s0.pc) :: (.slice p0.A1 s0.stk.length p0.c1) :: (.int .u64 s0.la) :: (.int .u64 s0.lb) :: (.int .u64 s0.lc) :: (.int .u64 s0.ld) :: (.slice p0.A2 s0.out.length p0.c2) :: (.slice p.A3 n p.c3) :: X).toArray) h6 7 (.slice p0.A2 s0.out.length p0.c2) (by simp)
  have h8 := hp_put (cs' := (I :: (.int .i64 s0.pc) :: (.slice p0.A1 s0.stk.length p0.c1) :: (.int .u64 s0.la) :: (.int .u64 s0.lb) :: (.int .u64 s0.lc) :: (.int .u64 s0.ld) :: (.slice p0.A2 s0.out.length p0.c2) :: (.slice p0.A3 n0 p0.c3) :: X).toArray) h7 8 (.slice p0.A3 n0 p0.c3) (by simp)
  exact h8
theorem put8_fr {w : World} {g n0 : Nat} {s0 : St} {p0 : Pl} : Fr (fun k => k ≠ g) w ((((((((w.setCell ⟨g, 1, none⟩ (.int .i64 s0.pc)).setCell ⟨g, 2, none⟩ (.slice p0.A1 s0.stk.length p0.c1)).setCell ⟨g, 3, none⟩ (.int .u64 s0.la)).setCell ⟨g, 4, none⟩ (.int .u64 s0.lb)).setCell ⟨g, 5, none⟩ (.int .u64 s0.lc)).setCell ⟨g, 6, none⟩ (.int .u64 s0.ld)).setCell ⟨g, 7, none⟩ (.slice p0.A2 s0.out.length p0.c2)).setCell ⟨g, 8, none⟩ (.slice p0.A3 n0 p0.c3)) := by
  exact (((((((((Fr.refl (fun k => k ≠ g) w).trans (Fr.set _ (fun e => e rfl) 1 (.int .i64 s0.pc))).trans (Fr.set _ (fun e => e rfl) 2 (.slice p0.A1 s0.stk.length p0.c1))).trans (Fr.set _ (fun e => e rfl) 3 (.int .u64 s0.la))).trans (Fr.set _ (fun e => e rfl) 4 (.int .u64 s0.lb))).trans (Fr.set _ (fun e => e rfl) 5 (.int .u64 s0.lc))).trans (Fr.set _ (fun e => e rfl) 6 (.int .u64 s0.ld))).trans (Fr.set _ (fun e => e rfl) 7 (.slice p0.A2 s0.out.length p0.c2))).trans (Fr.set _ (fun e => e rfl) 8 (.slice p0.A3 n0 p0.c3)))
set_option maxRecDepth 20000 in
set_option maxHeartbeats 8000000 in
theorem put_back {F : Nat → Prop} {w : World} {g : Nat} {T : TypeId} {X : List Value} {I : Value} {s : St} {hp : List Int} {p : Pl} (si hi bi xi : Nat) (s0 : St) (n0 : Nat) (p0 : Pl) (x : Ins3) (hx : 0 ≤ x.arg ∧ x.arg < 64) (h : WK F w g T X I s hp p) (hm : MkC w g si hi bi xi s0 n0 p0 x) (hT : T = 91) :
    Calls Try.prog 102 #[.pointer (some ⟨si, 0, none⟩), .pointer (some ⟨hi, 0, none⟩), .pointer (some ⟨bi, 0, none⟩), .pointer (some ⟨xi, 0, none⟩)] w fun e w' => e = .returned (.tuple #[]) ∧ Fr (fun k => k ≠ g) w w' ∧ w'.heap[g]? = some (.cells (wkL I { s0 with pc := x.arg + 1 } n0 p0 X) T (0, 0)) := by
  have u0 : w.cell? ⟨si, 0, none⟩ = some (.int .i64 s0.pc) := hp_cell hm.cs 0
  have u1 : w.cell? ⟨si, 1, none⟩ = some (.slice p0.A1 s0.stk.length p0.c1) := hp_cell hm.cs 1
  have u2 : w.cell? ⟨si, 2, none⟩ = some (.int .u64 s0.la) := hp_cell hm.cs 2
  have u3 : w.cell? ⟨si, 3, none⟩ = some (.int .u64 s0.lb) := hp_cell hm.cs 3
  have u4 : w.cell? ⟨si, 4, none⟩ = some (.int .u64 s0.lc) := hp_cell hm.cs 4
  have u5 : w.cell? ⟨si, 5, none⟩ = some (.int .u64 s0.ld) := hp_cell hm.cs 5
  have u6 : w.cell? ⟨si, 6, none⟩ = some (.slice p0.A2 s0.out.length p0.c2) := hp_cell hm.cs 6
  have h0 : w.cell? ⟨hi, 0, none⟩ = some (.slice p0.A3 n0 p0.c3) := hp_cell hm.ch 0
  have b0 : w.cell? ⟨bi, 0, none⟩ = some (.pointer (some ⟨g, 0, none⟩)) := hp_cell hm.cb 0
  have x1 : w.cell? ⟨xi, 1, none⟩ = some (.int .i64 x.arg) := hp_cell hm.cx 1
  have hc := h.cells
  obtain ⟨y0, y1, y2, y3, y4, y5, y6, y7, y8⟩ := h.at
  have z1 := h.fz 1
  have z2 := h.fz 2
  have z3 := h.fz 3
  have z4 := h.fz 4
  have z5 := h.fz 5
  have z6 := h.fz 6
  have z7 := h.fz 7
  have z8 := h.fz 8
  have lg := h.lt
  have ns : si ≠ g := hp_ne hm.cs hc (by rw [hT]; decide)
  have nh : hi ≠ g := hp_ne hm.ch hc (by rw [hT]; decide)
  have nb : bi ≠ g := hp_ne hm.cb hc (by rw [hT]; decide)
  have nx : xi ≠ g := hp_ne hm.cx hc (by rw [hT]; decide)
  have ns' : g ≠ si := fun e => ns e.symm
  have nh' : g ≠ hi := fun e => nh e.symm
  have nb' : g ≠ bi := fun e => nb e.symm
  have nx' : g ≠ xi := fun e => nx e.symm
  have kw : wrap64 (x.arg + 1) = x.arg + 1 := by unfold wrap64; omega
  have HC := Lib.hid hc
  clear h hm hc hx
  go_enter Try.func102, Try.ntmps102
  go_wp2_with fail
  go_region
  have HF := Lib.hid ((put8_fr (w := w) (g := g) (s0 := s0) (n0 := n0) (p0 := p0)).trans (Fr.drew1 _ _))
  have HG := Lib.hid (hp_dr (put8 (s0 := s0) (n0 := n0) (p0 := p0) HC.out))
  generalize ((((((((w.setCell ⟨g, 1, none⟩ (.int .i64 s0.pc)).setCell ⟨g, 2, none⟩ (.slice p0.A1 s0.stk.length p0.c1)).setCell ⟨g, 3, none⟩ (.int .u64 s0.la)).setCell ⟨g, 4, none⟩ (.int .u64 s0.lb)).setCell ⟨g, 5, none⟩ (.int .u64 s0.lc)).setCell ⟨g, 6, none⟩ (.int .u64 s0.ld)).setCell ⟨g, 7, none⟩ (.slice p0.A2 s0.out.length p0.c2)).setCell ⟨g, 8, none⟩ (.slice p0.A3 n0 p0.c3)).drew = wF at HF HG ⊢
  have xF : wF.cell? ⟨xi, 1, none⟩ = some (.int .i64 x.arg) := (World.cell?_of_block (HF.out.block xi nx)).trans x1
  have bF : wF.cell? ⟨bi, 0, none⟩ = some (.pointer (some ⟨g, 0, none⟩)) := (World.cell?_of_block (HF.out.block bi nb)).trans b0
  have gF : wF.cell? ⟨g, 1, none⟩ = some (.int .i64 s0.pc) := (hp_cell HG.out 1).trans (by simp [wkL])
  have zF := hp_frozen HG.out 1
  have lF := hp_lt HG.out
  clear u0 u1 u2 u3 u4 u5 u6 h0 b0 x1 y0 y1 y2 y3 y4 y5 y6 y7 y8 z1 z2 z3 z4 z5 z6 z7 z8 lg
  go_wp2
  go_end0
  exact ⟨rfl, HF.out.trans (Fr.set _ (fun e => e rfl) _ _), hp_put HG.out 1 _ (by simp [wkL])⟩
end Go.Proofs.Ytlgpjcdlomhlcaa
