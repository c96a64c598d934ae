
/-
  spec: Run.
-/
import Derived.Test.YtlgpjcdlomhlcaaSp20
namespace Go.Proofs.Ytlgpjcdlomhlcaa
open Go.RowKit Go.ChangeShapes Go.WideShapes
set_option linter.unusedSimpArgs false
set_option linter.unusedVariables false

/-- What Run keeps: the state in block g, its result's place in block r, the heap, the arms. -/
structure RS (W w : World) (g r : Nat) (s : St) (hp : List Int) (arms : List Bool) (A1 : Option Addr) (a1 : Nat) (A2 : Option Addr) (a2 : Nat) (A3 : Option Addr) (a3 : Nat) (Aa : Option Addr) (aa : Nat) : Prop where
  hg : w.heap[g]? = some (.cells (stC s A1 a1 A2 a2) 28 (0, 0))
  hr : w.heap[r]? = some (.cells (ocC ⟨0, St.zero, [], [], 0⟩ none 0 none 0 none 0 none 0) 46 (0, 0))
  ok : s.ok
  stk : RowAt w W.heap.size A1 a1 s.stk
  out : RowAt w W.heap.size A2 a2 s.out
  hep : RowAt w W.heap.size A3 a3 hp
  ar : GRow 4 w Aa aa (arms.map Value.bool)
  ab : ∀ k, blk Aa = some k → W.heap.size ≤ k
  bl : Below W.heap.size W w
  gb : W.heap.size ≤ g
  rb : W.heap.size ≤ r
  n1 : s.stk.length ≤ 100
  n2 : s.out.length ≤ 100
  n3 : hp.length ≤ 100
/-- An outcome stands in block x. -/
structure RO (W w : World) (x : Nat) (o : Oc) (B1 : Option Addr) (b1 : Nat) (B2 : Option Addr) (b2 : Nat) (B3 : Option Addr) (b3 : Nat) (Ba : Option Addr) (ba : Nat) : Prop where
  hx : w.heap[x]? = some (.cells (ocC o B1 b1 B2 b2 B3 b3 Ba ba) 46 (0, 0))
  ok : o.s.ok
  stk : RowAt w W.heap.size B1 b1 o.s.stk
  out : RowAt w W.heap.size B2 b2 o.s.out
  hep : RowAt w W.heap.size B3 b3 o.hp
  ar : GRow 4 w Ba ba (o.arms.map Value.bool)
  ab : ∀ k, blk Ba = some k → W.heap.size ≤ k
  xb : W.heap.size ≤ x
  n1 : o.s.stk.length ≤ 100
  n2 : o.s.out.length ≤ 100
section
variable {W w w1 : World} {g r x : Nat} {s : St} {hp : List Int} {arms : List Bool} {o : Oc} {A1 : Option Addr} {a1 : Nat} {A2 : Option Addr} {a2 : Nat} {A3 : Option Addr} {a3 : Nat} {Aa : Option Addr} {aa : Nat} {B1 : Option Addr} {b1 : Nat} {B2 : Option Addr} {b2 : Nat} {B3 : Option Addr} {b3 : Nat} {Ba : Option Addr} {ba : Nat}
theorem RS.below (h : RS W w g r s hp arms A1 a1 A2 a2 A3 a3 Aa aa) (hb : Below w.heap.size w w1) : RS W w1 g r s hp arms A1 a1 A2 a2 A3 a3 Aa aa :=
  ⟨hp_below h.hg hb, hp_below h.hr hb, h.ok, row_below h.stk hb, row_below h.out hb, row_below h.hep hb, grow_below h.ar hb, h.ab, h.bl.trans (hb.mono h.bl.size), h.gb, h.rb, h.n1, h.n2, h.n3⟩
theorem RO.below (h : RO W w x o B1 b1 B2 b2 B3 b3 Ba ba) (hb : Below w.heap.size w w1) : RO W w1 x o B1 b1 B2 b2 B3 b3 Ba ba :=
  ⟨hp_below h.hx hb, h.ok, row_below h.stk hb, row_below h.out hb, row_below h.hep hb, grow_below h.ar hb, h.ab, h.xb, h.n1, h.n2⟩
theorem RS.gr (h : RS W w g r s hp arms A1 a1 A2 a2 A3 a3 Aa aa) : g ≠ r := hp_ne h.hg h.hr (by decide)
theorem RS.gx (h : RS W w g r s hp arms A1 a1 A2 a2 A3 a3 Aa aa) (k : RO W w x o B1 b1 B2 b2 B3 b3 Ba ba) : g ≠ x := hp_ne h.hg k.hx (by decide)
theorem row_nx {A : Option Addr} {c : Nat} {l : List Int} {cs : Array Value} {t : TypeId} {base : Nat} (h : RowAt w base A c l) (hx : w.heap[x]? = some (.cells cs t (0, 0))) (ht : 25 ≠ t) : ∀ k, blk A = some k → k ≠ x := fun k hk => by
  obtain ⟨cs', hc⟩ := row_typed h k hk
  exact hp_ne hc hx ht
theorem grow_nx {A : Option Addr} {c : Nat} {l : List Value} {cs : Array Value} {t t' : TypeId} (h : GRow t' w A c l) (hx : w.heap[x]? = some (.cells cs t (0, 0))) (ht : t' ≠ t) : ∀ k, blk A = some k → k ≠ x := fun k hk => by
  obtain ⟨cs', hc⟩ := grow_typed h k hk
  exact hp_ne hc hx ht
/-- A block that is none of its own is written. -/
theorem RS.far (h : RS W w g r s hp arms A1 a1 A2 a2 A3 a3 Aa aa) {cs : Array Value} {t : TypeId} (hx : w.heap[x]? = some (.cells cs t (0, 0))) (t1 : 25 ≠ t) (t2 : 4 ≠ t) (t3 : g ≠ x) (t4 : r ≠ x) (xb : W.heap.size ≤ x) (hf : Fr (fun k => k ≠ x) w w1) : RS W w1 g r s hp arms A1 a1 A2 a2 A3 a3 Aa aa :=
  ⟨hf.hp h.hg t3, hf.hp h.hr t4, h.ok, row_fr h.stk hf (row_nx h.stk hx t1), row_fr h.out hf (row_nx h.out hx t1), row_fr h.hep hf (row_nx h.hep hx t1), grow_fr h.ar hf (grow_nx h.ar hx t2), h.ab, h.bl.trans (hf.toBelow (fun k hk => by omega)), h.gb, h.rb, h.n1, h.n2, h.n3⟩
theorem RO.far (h : RO W w x o B1 b1 B2 b2 B3 b3 Ba ba) {y : Nat} {cs : Array Value} {t : TypeId} (hx : w.heap[y]? = some (.cells cs t (0, 0))) (t1 : 25 ≠ t) (t2 : 4 ≠ t) (t3 : x ≠ y) (hf : Fr (fun k => k ≠ y) w w1) : RO W w1 x o B1 b1 B2 b2 B3 b3 Ba ba :=
  ⟨hf.hp h.hx t3, h.ok, row_fr h.stk hf (row_nx h.stk hx t1), row_fr h.out hf (row_nx h.out hx t1), row_fr h.hep hf (row_nx h.hep hx t1), grow_fr h.ar hf (grow_nx h.ar hx t2), h.ab, h.xb, h.n1, h.n2⟩
theorem RS.more {A' : Option Addr} {c' : Nat} {more : List Bool} (h : RS W w g r s hp arms A1 a1 A2 a2 A3 a3 Aa aa) (hr : GRow 4 w1 A' c' (arms.map Value.bool ++ more.map Value.bool)) (hg : w.grownBy w1 (blk Aa)) (hat : blk A' = blk Aa ∨ blk A' = some w.heap.size) : RS W w1 g r s hp (arms ++ more) A1 a1 A2 a2 A3 a3 A' c' := by
  have hn : ∀ k cs t, w.heap[k]? = some (.cells cs t (0, 0)) → t ≠ 4 → some k ≠ blk Aa := fun k cs t hk ht e => by
    obtain ⟨cs', hc⟩ := grow_typed h.ar k e.symm
    exact hp_ne hk hc ht rfl
  have hrow : ∀ {A : Option Addr} {c : Nat} {l : List Int}, RowAt w W.heap.size A c l → RowAt w1 W.heap.size A c l := fun {A c l} hw => row_other hw hg (fun k hk => by
    obtain ⟨cs, hc⟩ := row_typed hw k hk
    exact hn k _ _ hc (by decide))
  exact ⟨hp_grown h.hg hg (hn _ _ _ h.hg (by decide)), hp_grown h.hr hg (hn _ _ _ h.hr (by decide)), h.ok, hrow h.stk, hrow h.out, hrow h.hep, by rw [List.map_append]; exact hr, fun k hk => by
    rcases hat with e | e
    · exact h.ab k (e ▸ hk)
    · rw [e] at hk; have := h.bl.size; simp at hk; omega, h.bl.grown hg h.bl.size (fun k hk => h.ab k hk), h.gb, h.rb, h.n1, h.n2, h.n3⟩
theorem put11 {o' : Oc} (hx : w.heap[x]? = some (.cells (ocC o' A1 a1 A2 a2 A3 a3 Aa aa) 46 (0, 0))) : ((((((((((((w).setCell ⟨x, 0, none⟩ (.int .u8 o.kind)).setCell ⟨x, 1, none⟩ (.int .i64 o.s.pc)).setCell ⟨x, 2, none⟩ (.slice B1 o.s.stk.length b1)).setCell ⟨x, 3, none⟩ (.int .u64 o.s.la)).setCell ⟨x, 4, none⟩ (.int .u64 o.s.lb)).setCell ⟨x, 5, none⟩ (.int .u64 o.s.lc)).setCell ⟨x, 6, none⟩ (.int .u64 o.s.ld)).setCell ⟨x, 7, none⟩ (.slice B2 o.s.out.length b2)).setCell ⟨x, 8, none⟩ (.slice B3 o.hp.length b3)).setCell ⟨x, 9, none⟩ (.slice Ba o.arms.length ba)).setCell ⟨x, 10, none⟩ (.int .i64 o.err)).heap[x]? = some (.cells (ocC o B1 b1 B2 b2 B3 b3 Ba ba) 46 (0, 0)) := by
  have h0 := hp_put (cs' := #[.int .u8 o.kind, .int .i64 o'.s.pc, .slice A1 o'.s.stk.length a1, .int .u64 o'.s.la, .int .u64 o'.s.lb, .int .u64 o'.s.lc, .int .u64 o'.s.ld, .slice A2 o'.s.out.length a2, .slice A3 o'.hp.length a3, .slice Aa o'.arms.length aa, .int .i64 o'.err]) hx 0 (.int .u8 o.kind) (by simp [ocC])
  have h1 := hp_put (cs' := #[.int .u8 o.kind, .int .i64 o.s.pc, .slice A1 o'.s.stk.length a1, .int .u64 o'.s.la, .int .u64 o'.s.lb, .int .u64 o'.s.lc, .int .u64 o'.s.ld, .slice A2 o'.s.out.length a2, .slice A3 o'.hp.length a3, .slice Aa o'.arms.length aa, .int .i64 o'.err]) h0 1 (.int .i64 o.s.pc) (by simp [ocC])
  have h2 := hp_put (cs' := #[.int .u8 o.kind, .int .i64 o.s.pc, .slice B1 o.s.stk.length b1, .int .u64 o'.s.la, .int .u64 o'.s.lb, .int .u64 o'.s.lc, .int .u64 o'.s.ld, .slice A2 o'.s.out.length a2, .slice A3 o'.hp.length a3, .slice Aa o'.arms.length aa, .int .i64 o'.err]) h1 2 (.slice B1 o.s.stk.length b1) (by simp [ocC])
  have h3 := hp_put (cs' := #[.int .u8 o.kind, .int .i64 o.s.pc, .slice B1 o.s.stk.length b1, .int .u64 o.s.la, .int .u64 o'.s.lb, .int .u64 o'.s.lc, .int .u64 o'.s.ld, .slice A2 o'.s.out.length a2, .slice A3 o'.hp.length a3, .slice Aa o'.arms.length aa, .int .i64 o'.err]) h2 3 (.int .u64 o.s.la) (by simp [ocC])
  have h4 := hp_put (cs' := #[.int .u8 o.kind, .int .i64 o.s.pc, .slice B1 o.s.stk.length b1, .int .u64 o.s.la, .int .u64 o.s.lb, .int .u64 o'.s.lc, .int .u64 o'.s.ld, .slice A2 o'.s.out.length a2, .slice A3 o'.hp.length a3, .slice Aa o'.arms.length aa, .int .i64 o'.err]) h3 4 (.int .u64 o.s.lb) (by simp [ocC])
  have h5 := hp_put (cs' := #[.int .u8 o.kind, .int .i64 o.s.pc, .slice B1 o.s.stk.length b1, .int .u64 o.s.la, .int .u64 o.s.lb, .int .u64 o.s.lc, .int .u64 o'.s.ld, .slice A2 o'.s.out.length a2, .slice A3 o'.hp.length a3, .slice Aa o'.arms.length aa, .int .i64 o'.err]) h4 5 (.int .u64 o.s.lc) (by simp [ocC])
  have h6 := hp_put (cs' := #[.int .u8 o.kind, .int .i64 o.s.pc, .slice B1 o.s.stk.length b1, .int .u64 o.s.la, .int .u64 o.s.lb, .int .u64 o.s.lc, .int .u64 o.s.ld, .slice A2 o'.s.out.length a2, .slice A3 o'.hp.length a3, .slice Aa o'.arms.length aa, .int .i64 o'.err]) h5 6 (.int .u64 o.s.ld) (by simp [ocC])
  have h7 := hp_put (cs' := #[.int .u8 o.kind, .int .i64 o.s.pc, .slice B1 o.s.stk.length b1, .int .u64 o.s.la, .int .u64 o.s.lb, .int .u64 o.s.lc, .int .u64 o.s.ld, .slice B2 o.s.out.length b2, .slice A3 o'.hp.length a3, .slice Aa o'.arms.length aa, .int .i64 o'.err]) h6 7 (.slice B2 o.s.out.length b2) (by simp [ocC])
  have h8 := hp_put (cs' := #[.int .u8 o.kind, .int .i64 o.s.pc, .slice B1 o.s.stk.length b1, .int .u64 o.s.la, .int .u64 o.s.lb, .int .u64 o.s.lc, .int .u64 o.s.ld, .slice B2 o.s.out.length b2, .slice B3 o.hp.length b3, .slice Aa o'.arms.length aa, .int .i64 o'.err]) h7 8 (.slice B3 o.hp.length b3) (by simp [ocC])
  have h9 := hp_put (cs' := #[.int .u8 o.kind, .int .i64 o.s.pc, .slice B1 o.s.stk.length b1, .int .u64 o.s.la, .int .u64 o.s.lb, .int .u64 o.s.lc, .int .u64 o.s.ld, .slice B2 o.s.out.length b2, .slice B3 o.hp.length b3, .slice Ba o.arms.length ba, .int .i64 o'.err]) h8 9 (.slice Ba o.arms.length ba) (by simp [ocC])
  have h10 := hp_put (cs' := #[.int .u8 o.kind, .int .i64 o.s.pc, .slice B1 o.s.stk.length b1, .int .u64 o.s.la, .int .u64 o.s.lb, .int .u64 o.s.lc, .int .u64 o.s.ld, .slice B2 o.s.out.length b2, .slice B3 o.hp.length b3, .slice Ba o.arms.length ba, .int .i64 o.err]) h9 10 (.int .i64 o.err) (by simp [ocC])
  exact h10
theorem put11_fr : Fr (fun k => k ≠ x) w ((((((((((((w).setCell ⟨x, 0, none⟩ (.int .u8 o.kind)).setCell ⟨x, 1, none⟩ (.int .i64 o.s.pc)).setCell ⟨x, 2, none⟩ (.slice B1 o.s.stk.length b1)).setCell ⟨x, 3, none⟩ (.int .u64 o.s.la)).setCell ⟨x, 4, none⟩ (.int .u64 o.s.lb)).setCell ⟨x, 5, none⟩ (.int .u64 o.s.lc)).setCell ⟨x, 6, none⟩ (.int .u64 o.s.ld)).setCell ⟨x, 7, none⟩ (.slice B2 o.s.out.length b2)).setCell ⟨x, 8, none⟩ (.slice B3 o.hp.length b3)).setCell ⟨x, 9, none⟩ (.slice Ba o.arms.length ba)).setCell ⟨x, 10, none⟩ (.int .i64 o.err)) := (((((((((((Fr.refl (fun k => k ≠ x) w).trans (Fr.set _ (fun e => e rfl) _ _)).trans (Fr.set _ (fun e => e rfl) _ _)).trans (Fr.set _ (fun e => e rfl) _ _)).trans (Fr.set _ (fun e => e rfl) _ _)).trans (Fr.set _ (fun e => e rfl) _ _)).trans (Fr.set _ (fun e => e rfl) _ _)).trans (Fr.set _ (fun e => e rfl) _ _)).trans (Fr.set _ (fun e => e rfl) _ _)).trans (Fr.set _ (fun e => e rfl) _ _)).trans (Fr.set _ (fun e => e rfl) _ _)).trans (Fr.set _ (fun e => e rfl) _ _)
theorem putS (hg : w.heap[g]? = some (.cells (stC s A1 a1 A2 a2) 28 (0, 0))) : ((((((((w).setCell ⟨g, 0, none⟩ (.int .i64 o.s.pc)).setCell ⟨g, 1, none⟩ (.slice B1 o.s.stk.length b1)).setCell ⟨g, 2, none⟩ (.int .u64 o.s.la)).setCell ⟨g, 3, none⟩ (.int .u64 o.s.lb)).setCell ⟨g, 4, none⟩ (.int .u64 o.s.lc)).setCell ⟨g, 5, none⟩ (.int .u64 o.s.ld)).setCell ⟨g, 6, none⟩ (.slice B2 o.s.out.length b2)).heap[g]? = some (.cells (stC o.s B1 b1 B2 b2) 28 (0, 0)) := by
  have h0 := hp_put (cs' := #[.int .i64 o.s.pc, .slice A1 s.stk.length a1, .int .u64 s.la, .int .u64 s.lb, .int .u64 s.lc, .int .u64 s.ld, .slice A2 s.out.length a2]) hg 0 (.int .i64 o.s.pc) (by simp [stC])
  have h1 := hp_put (cs' := #[.int .i64 o.s.pc, .slice B1 o.s.stk.length b1, .int .u64 s.la, .int .u64 s.lb, .int .u64 s.lc, .int .u64 s.ld, .slice A2 s.out.length a2]) h0 1 (.slice B1 o.s.stk.length b1) (by simp [stC])
  have h2 := hp_put (cs' := #[.int .i64 o.s.pc, .slice B1 o.s.stk.length b1, .int .u64 o.s.la, .int .u64 s.lb, .int .u64 s.lc, .int .u64 s.ld, .slice A2 s.out.length a2]) h1 2 (.int .u64 o.s.la) (by simp [stC])
  have h3 := hp_put (cs' := #[.int .i64 o.s.pc, .slice B1 o.s.stk.length b1, .int .u64 o.s.la, .int .u64 o.s.lb, .int .u64 s.lc, .int .u64 s.ld, .slice A2 s.out.length a2]) h2 3 (.int .u64 o.s.lb) (by simp [stC])
  have h4 := hp_put (cs' := #[.int .i64 o.s.pc, .slice B1 o.s.stk.length b1, .int .u64 o.s.la, .int .u64 o.s.lb, .int .u64 o.s.lc, .int .u64 s.ld, .slice A2 s.out.length a2]) h3 4 (.int .u64 o.s.lc) (by simp [stC])
  have h5 := hp_put (cs' := #[.int .i64 o.s.pc, .slice B1 o.s.stk.length b1, .int .u64 o.s.la, .int .u64 o.s.lb, .int .u64 o.s.lc, .int .u64 o.s.ld, .slice A2 s.out.length a2]) h4 5 (.int .u64 o.s.ld) (by simp [stC])
  have h6 := hp_put (cs' := #[.int .i64 o.s.pc, .slice B1 o.s.stk.length b1, .int .u64 o.s.la, .int .u64 o.s.lb, .int .u64 o.s.lc, .int .u64 o.s.ld, .slice B2 o.s.out.length b2]) h5 6 (.slice B2 o.s.out.length b2) (by simp [stC])
  exact h6
theorem putS_fr : Fr (fun k => k ≠ g) w ((((((((w).setCell ⟨g, 0, none⟩ (.int .i64 o.s.pc)).setCell ⟨g, 1, none⟩ (.slice B1 o.s.stk.length b1)).setCell ⟨g, 2, none⟩ (.int .u64 o.s.la)).setCell ⟨g, 3, none⟩ (.int .u64 o.s.lb)).setCell ⟨g, 4, none⟩ (.int .u64 o.s.lc)).setCell ⟨g, 5, none⟩ (.int .u64 o.s.ld)).setCell ⟨g, 6, none⟩ (.slice B2 o.s.out.length b2)) := (((((((Fr.refl (fun k => k ≠ g) w).trans (Fr.set _ (fun e => e rfl) _ _)).trans (Fr.set _ (fun e => e rfl) _ _)).trans (Fr.set _ (fun e => e rfl) _ _)).trans (Fr.set _ (fun e => e rfl) _ _)).trans (Fr.set _ (fun e => e rfl) _ _)).trans (Fr.set _ (fun e => e rfl) _ _)).trans (Fr.set _ (fun e => e rfl) _ _)
end
set_option maxRecDepth 20000 in
set_option maxHeartbeats 16000000 in
theorem run_all (l : List Ins3) (c : Nat) (A : Option Addr) (hlc : l.length ≤ c) (hll : l.length ≤ 900) (hp0 : List Int) (most : Int) (hn0 : hp0.length ≤ 100) (A0 : Option Addr) (c0 : Nat) (w : World) (h3 : Src w A0 c0 hp0) (hi : InssAt w A l) :
    Calls Try.prog 17 #[.slice A l.length c, .slice A0 hp0.length c0, .int .i64 most] w (OcPost (runF l (fuelF most).toNat 20 St.zero hp0 []) w) := by
  have HI := Lib.hid hi
  have G3 := Lib.hid h3
  have HN := Lib.hid hn0
  obtain ⟨f, hf⟩ : ∃ f, (fuelF most).toNat = f := ⟨_, rfl⟩
  obtain ⟨R, hR⟩ : ∃ R, runF l f 20 St.zero hp0 [] = R := ⟨_, rfl⟩
  have HF := Lib.hid (show (fuelF most).toNat = f ∧ f ≤ 300 from ⟨hf, by rw [← hf]; unfold fuelF; omega⟩)
  have HR := Lib.hid hR
  clear h3 hi hn0 hf hR
  have hb0 : Below w.heap.size w (w.alloc (.cells (ocC ⟨0, St.zero, [], [], 0⟩ none 0 none 0 none 0 none 0) 46)) := (Below.refl _ _).alloc (Nat.le_refl _) _
  have Y0 := Lib.hid (heap_alloc_new w (.cells (ocC ⟨0, St.zero, [], [], 0⟩ none 0 none 0 none 0 none 0) 46))
  have B0 := Lib.hid hb0
  clear hb0
  go_enter Try.func17, Try.ntmps17
  go_upto_region 4 with (first | (go_at_call 41; refine (clone_src A0 c0 hp0 _ (G3.out.below B0.out)).mono ?_; rintro e w2 ⟨D3, d3, rfl, hr3, hb3⟩; have R3 := Lib.hid hr3; have B3 := Lib.hid hb3; have Y3 := Lib.hid (hp_below Y0.out hb3); clear hr3 hb3))
  have z2 : Below w.heap.size w (w2.alloc (.cells (stC St.zero none 0 none 0) 28)) := (B0.out.trans (B3.out.mono B0.out.size)).alloc (Nat.le_trans B0.out.size B3.out.size) _
  have PS2 : RS w (w2.alloc (.cells (stC St.zero none 0 none 0) 28)) w2.heap.size w.heap.size St.zero hp0 [] none 0 none 0 D3 d3 none 0 :=
    ⟨heap_alloc_new w2 _, hp_alloc Y3.out _, ⟨⟨by decide, by decide⟩, ⟨by decide, by decide⟩, ⟨by decide, by decide⟩, ⟨by decide, by decide⟩, by decide, by decide⟩, row_nil _ _, row_nil _ _, row_base (row_below R3.out ((Below.refl _ _).alloc (Nat.le_refl _) _)) B0.out.size, grow_nil _, (fun k hk => by cases hk), z2, Nat.le_trans B0.out.size B3.out.size, Nat.le_refl _, Nat.zero_le _, Nat.zero_le _, HN.out⟩
  clear z2 Y3 R3 B3 Y0
  have P2 := Lib.hid PS2
  clear PS2 B0
  unfold stC St.zero at P2
  dsimp only [List.length_nil] at P2
  generalize w2.alloc _ = w3 at P2 ⊢
  obtain ⟨g, hg⟩ : ∃ g, w2.heap.size = g := ⟨_, rfl⟩
  obtain ⟨r, hr⟩ : ∃ r, w.heap.size = r := ⟨_, rfl⟩
  have P2' := Lib.hid (show RS w w3 g r St.zero hp0 [] none 0 none 0 D3 d3 none 0 by rw [← hg, ← hr]; exact P2.out)
  rw [hg, hr]
  clear P2 hg hr
  go_wp2_with fail
  go_loopw [7, 9, 10] (fun v7 v9 v10 w' => ∃ (k j : Nat) (s : St) (hp : List Int) (arms : List Bool) (A1 : Option Addr) (a1 : Nat) (A2 : Option Addr) (a2 : Nat) (A3 : Option Addr) (a3 : Nat) (Aa : Option Addr) (aa : Nat), v7 = .slice A3 hp.length a3 ∧ v9 = .slice Aa arms.length aa ∧ v10 = .int .i64 j ∧ Hid (j + k = 20) ∧ Hid (RS w w' g r s hp arms A1 a1 A2 a2 A3 a3 Aa aa) ∧ Hid (runF l f k s hp arms = R) ∧ Hid (arms.length ≤ 300 * j)) (fun _ _ v10 _ => 20 - (intOf v10).toNat)
  case atStart => exact ⟨20, 0, St.zero, hp0, [], none, 0, none, 0, D3, d3, none, 0, rfl, rfl, rfl, Lib.hid rfl, P2', HR, Lib.hid (Nat.zero_le _)⟩
  case round =>
    obtain ⟨k, j, s, hp, arms, A1, a1, A2, a2, A3, a3, Aa, aa, rfl, rfl, rfl, HJ, HP, HRu, HAL⟩ := hrel
    have HI2 := Lib.hid (inss_below HI.out HP.out.bl)
    obtain ⟨o, ho⟩ : ∃ o, goF l f s = o := ⟨_, rfl⟩
    have HGO := Lib.hid (show goF l (fuelF most).toNat s = o by rw [HF.out.1]; exact ho)
    have HO := Lib.hid ho
    have HOL := Lib.hid (show o.s.stk.length ≤ 100 ∧ o.s.out.length ≤ 100 ∧ o.hp = [] ∧ o.arms = [] by rw [← ho]; exact goF_len HI2.out f s HP.out.n1 HP.out.n2)
    clear ho
    have cx0 : wr.cell? ⟨g, 0, none⟩ = some (.int .i64 s.pc) := hp_cell HP.out.hg 0; have cz0 := hp_frozen HP.out.hg 0; have cx1 : wr.cell? ⟨g, 1, none⟩ = some (.slice A1 s.stk.length a1) := hp_cell HP.out.hg 1; have cz1 := hp_frozen HP.out.hg 1; have cx2 : wr.cell? ⟨g, 2, none⟩ = some (.int .u64 s.la) := hp_cell HP.out.hg 2; have cz2 := hp_frozen HP.out.hg 2; have cx3 : wr.cell? ⟨g, 3, none⟩ = some (.int .u64 s.lb) := hp_cell HP.out.hg 3; have cz3 := hp_frozen HP.out.hg 3; have cx4 : wr.cell? ⟨g, 4, none⟩ = some (.int .u64 s.lc) := hp_cell HP.out.hg 4; have cz4 := hp_frozen HP.out.hg 4; have cx5 : wr.cell? ⟨g, 5, none⟩ = some (.int .u64 s.ld) := hp_cell HP.out.hg 5; have cz5 := hp_frozen HP.out.hg 5; have cx6 : wr.cell? ⟨g, 6, none⟩ = some (.slice A2 s.out.length a2) := hp_cell HP.out.hg 6; have cz6 := hp_frozen HP.out.hg 6; have cl := hp_lt HP.out.hg
    go_upto_region 7 with (first | (go_at_call 21; refine (plain_all l c A hlc hll s HP.out.ok most HP.out.n1 HP.out.n2 A1 a1 A2 a2 _ (Src.row (row_base HP.out.stk (Nat.zero_le _)) (by have := HP.out.n1; omega)) (Src.row (row_base HP.out.out (Nat.zero_le _)) (by have := HP.out.n2; omega)) HI2.out).mono ?_; rintro e w3 ⟨hb3, B1, b1, B2, b2, B3, b3, Ba, ba, rfl, hat⟩; rw [HGO.out] at hat; rw [HGO.out]; unfold ocC; have P3 := Lib.hid (HP.out.below hb3); have AT3 := Lib.hid hat; have S2 := Lib.hid HP.out.bl.size; clear hb3 hat))
    clear cx0 cz0 cx1 cz1 cx2 cz2 cx3 cz3 cx4 cz4 cx5 cz5 cx6 cz6 cl
    have z3 := (Below.refl w3.heap.size w3).alloc (Nat.le_refl _) (.cells (ocC o B1 b1 B2 b2 B3 b3 Ba ba) 46)
    have P4 := Lib.hid (P3.out.below z3)
    have hO4 : RO w (w3.alloc (.cells (ocC o B1 b1 B2 b2 B3 b3 Ba ba) 46)) w3.heap.size o B1 b1 B2 b2 B3 b3 Ba ba := ⟨heap_alloc_new w3 _, AT3.out.1, row_base (row_below AT3.out.2.1 z3) S2.out, row_base (row_below AT3.out.2.2.1 z3) S2.out, row_base (row_below AT3.out.2.2.2.1 z3) S2.out, grow_below AT3.out.2.2.2.2.1 z3, fun k hk => Nat.le_trans S2.out (AT3.out.2.2.2.2.2 k hk), P3.out.bl.size, HOL.out.1, HOL.out.2.1⟩
    have O4 := Lib.hid hO4
    have XR := Lib.hid (show r < w3.heap.size from hp_lt P3.out.hr)
    clear z3 hO4
    unfold ocC at P4 O4
    generalize w3.alloc _ = w4 at P4 O4 ⊢
    obtain ⟨x, hx⟩ : ∃ x, w3.heap.size = x := ⟨_, rfl⟩
    rw [hx] at O4 XR ⊢
    have O4 : Hid (RO w w4 x o B1 b1 B2 b2 B3 b3 Ba ba) := O4
    clear hx P3 AT3 S2
    have HI4 := Lib.hid (inss_below HI.out P4.out.bl)
    have xx0 : w4.cell? ⟨x, 0, none⟩ = some (.int .u8 o.kind) := hp_cell O4.out.hx 0; have xz0 := hp_frozen O4.out.hx 0; have xx1 : w4.cell? ⟨x, 1, none⟩ = some (.int .i64 o.s.pc) := hp_cell O4.out.hx 1; have xz1 := hp_frozen O4.out.hx 1; have xx2 : w4.cell? ⟨x, 2, none⟩ = some (.slice B1 o.s.stk.length b1) := hp_cell O4.out.hx 2; have xz2 := hp_frozen O4.out.hx 2; have xx3 : w4.cell? ⟨x, 3, none⟩ = some (.int .u64 o.s.la) := hp_cell O4.out.hx 3; have xz3 := hp_frozen O4.out.hx 3; have xx4 : w4.cell? ⟨x, 4, none⟩ = some (.int .u64 o.s.lb) := hp_cell O4.out.hx 4; have xz4 := hp_frozen O4.out.hx 4; have xx5 : w4.cell? ⟨x, 5, none⟩ = some (.int .u64 o.s.lc) := hp_cell O4.out.hx 5; have xz5 := hp_frozen O4.out.hx 5; have xx6 : w4.cell? ⟨x, 6, none⟩ = some (.int .u64 o.s.ld) := hp_cell O4.out.hx 6; have xz6 := hp_frozen O4.out.hx 6; have xx7 : w4.cell? ⟨x, 7, none⟩ = some (.slice B2 o.s.out.length b2) := hp_cell O4.out.hx 7; have xz7 := hp_frozen O4.out.hx 7; have xx8 : w4.cell? ⟨x, 8, none⟩ = some (.slice B3 o.hp.length b3) := hp_cell O4.out.hx 8; have xz8 := hp_frozen O4.out.hx 8; have xx9 : w4.cell? ⟨x, 9, none⟩ = some (.slice Ba o.arms.length ba) := hp_cell O4.out.hx 9; have xz9 := hp_frozen O4.out.hx 9; have xx10 : w4.cell? ⟨x, 10, none⟩ = some (.int .i64 o.err) := hp_cell O4.out.hx 10; have xz10 := hp_frozen O4.out.hx 10; have xl := hp_lt O4.out.hx
    by_cases h4 : o.kind = 4
    · rw [h4] at xx0
      cases k with
      | zero =>
        obtain rfl : j = 20 := by have := HJ.out; omega
        have HRQ := Lib.hid (show R = ⟨3, o.s, hp, arms, 11⟩ from by rw [← HRu.out]; unfold runF; rw [HO.out, if_pos h4])
        clear h4
        have hxr : x ≠ r := fun e => Nat.lt_irrefl _ (e ▸ XR.out)
        have hxr' : r ≠ x := fun e => hxr e.symm
        have rx0 : w4.cell? ⟨r, 0, none⟩ = some (.int .u8 0) := hp_cell P4.out.hr 0; have rz0 := hp_frozen P4.out.hr 0; have rx1 : w4.cell? ⟨r, 1, none⟩ = some (.int .i64 0) := hp_cell P4.out.hr 1; have rz1 := hp_frozen P4.out.hr 1; have rx2 : w4.cell? ⟨r, 2, none⟩ = some (.slice none 0 0) := hp_cell P4.out.hr 2; have rz2 := hp_frozen P4.out.hr 2; have rx3 : w4.cell? ⟨r, 3, none⟩ = some (.int .u64 0) := hp_cell P4.out.hr 3; have rz3 := hp_frozen P4.out.hr 3; have rx4 : w4.cell? ⟨r, 4, none⟩ = some (.int .u64 0) := hp_cell P4.out.hr 4; have rz4 := hp_frozen P4.out.hr 4; have rx5 : w4.cell? ⟨r, 5, none⟩ = some (.int .u64 0) := hp_cell P4.out.hr 5; have rz5 := hp_frozen P4.out.hr 5; have rx6 : w4.cell? ⟨r, 6, none⟩ = some (.int .u64 0) := hp_cell P4.out.hr 6; have rz6 := hp_frozen P4.out.hr 6; have rx7 : w4.cell? ⟨r, 7, none⟩ = some (.slice none 0 0) := hp_cell P4.out.hr 7; have rz7 := hp_frozen P4.out.hr 7; have rx8 : w4.cell? ⟨r, 8, none⟩ = some (.slice none 0 0) := hp_cell P4.out.hr 8; have rz8 := hp_frozen P4.out.hr 8; have rx9 : w4.cell? ⟨r, 9, none⟩ = some (.slice none 0 0) := hp_cell P4.out.hr 9; have rz9 := hp_frozen P4.out.hr 9; have rx10 : w4.cell? ⟨r, 10, none⟩ = some (.int .i64 0) := hp_cell P4.out.hr 10; have rz10 := hp_frozen P4.out.hr 10; have rl := hp_lt P4.out.hr
        go_wp2_with fail
        refine bodyPost_ret (by simp [results, Try.results17, go_sem, rx0, rx1, rx2, rx3, rx4, rx5, rx6, rx7, rx8, rx9, rx10, hxr, hxr']; try rfl) rfl ?_
        have m1x := row_nx O4.out.stk O4.out.hx (by decide)
        have m1r := row_nx O4.out.stk P4.out.hr (by decide)
        have m2x := row_nx O4.out.out O4.out.hx (by decide)
        have m2r := row_nx O4.out.out P4.out.hr (by decide)
        have m3x := row_nx P4.out.hep O4.out.hx (by decide)
        have m3r := row_nx P4.out.hep P4.out.hr (by decide)
        have m4x := grow_nx P4.out.ar O4.out.hx (by decide)
        have m4r := grow_nx P4.out.ar P4.out.hr (by decide)
        rw [HF.out.1, HR.out, HRQ.out]
        exact ⟨(bl_new (bl_new (bl_new (bl_new (bl_new (bl_new (bl_new (bl_new (bl_new (bl_new (bl_new (bl_new (bl_new (bl_new (bl_new P4.out.bl O4.out.xb _) O4.out.xb _) O4.out.xb _) O4.out.xb _) P4.out.rb _) P4.out.rb _) P4.out.rb _) P4.out.rb _) P4.out.rb _) P4.out.rb _) P4.out.rb _) P4.out.rb _) P4.out.rb _) P4.out.rb _) P4.out.rb _), B1, b1, B2, b2, A3, a3, Aa, aa, rfl, O4.out.ok, (row_ne (row_ne (row_ne (row_ne (row_ne (row_ne (row_ne (row_ne (row_ne (row_ne (row_ne (row_ne (row_ne (row_ne (row_ne O4.out.stk m1x _ _) m1x _ _) m1x _ _) m1x _ _) m1r _ _) m1r _ _) m1r _ _) m1r _ _) m1r _ _) m1r _ _) m1r _ _) m1r _ _) m1r _ _) m1r _ _) m1r _ _), (row_ne (row_ne (row_ne (row_ne (row_ne (row_ne (row_ne (row_ne (row_ne (row_ne (row_ne (row_ne (row_ne (row_ne (row_ne O4.out.out m2x _ _) m2x _ _) m2x _ _) m2x _ _) m2r _ _) m2r _ _) m2r _ _) m2r _ _) m2r _ _) m2r _ _) m2r _ _) m2r _ _) m2r _ _) m2r _ _) m2r _ _), (row_ne (row_ne (row_ne (row_ne (row_ne (row_ne (row_ne (row_ne (row_ne (row_ne (row_ne (row_ne (row_ne (row_ne (row_ne P4.out.hep m3x _ _) m3x _ _) m3x _ _) m3x _ _) m3r _ _) m3r _ _) m3r _ _) m3r _ _) m3r _ _) m3r _ _) m3r _ _) m3r _ _) m3r _ _) m3r _ _) m3r _ _), (grow_ne (grow_ne (grow_ne (grow_ne (grow_ne (grow_ne (grow_ne (grow_ne (grow_ne (grow_ne (grow_ne (grow_ne (grow_ne (grow_ne (grow_ne P4.out.ar m4x _ _) m4x _ _) m4x _ _) m4x _ _) m4r _ _) m4r _ _) m4r _ _) m4r _ _) m4r _ _) m4r _ _) m4r _ _) m4r _ _) m4r _ _) m4r _ _) m4r _ _), P4.out.ab⟩
      | succ k =>
        have HRk := Lib.hid (show runF l f (k + 1) s hp arms = R from HRu.out)
        have j1 : ((j : Int) == 20) = false := beq_eq_false_iff_ne.2 (by have := HJ.out; omega)
        have H4 := Lib.hid h4
        obtain ⟨q, hq⟩ : ∃ q, ocF o.s hp (blockF l o.s hp f) = q := ⟨_, rfl⟩
        have HBQ := Lib.hid hq
        have HQL := Lib.hid (show q.s.stk.length ≤ 100 ∧ q.s.out.length ≤ 100 ∧ q.hp.length = hp.length ∧ q.arms.length ≤ f by rw [← hq]; exact ocF_len HOL.out.1 HOL.out.2.1)
        clear h4 hq
        go_upto_region 11 with (first | (go_at_call 22; refine (block_sp l c A hlc hll o.s O4.out.ok hp most O4.out.n1 O4.out.n2 P4.out.n3 B1 b1 B2 b2 A3 a3 _ (Src.row (row_base O4.out.stk (Nat.zero_le _)) (by have := O4.out.n1; omega)) (Src.row (row_base O4.out.out (Nat.zero_le _)) (by have := O4.out.n2; omega)) (Src.row (row_base P4.out.hep (Nat.zero_le _)) (by have := P4.out.n3; omega)) HI4.out).mono ?_; rintro e w5 ⟨hb5, C1, c1, C2, c2, C3, c3, Ca, ca, rfl, hat⟩; rw [HF.out.1, HBQ.out] at hat; rw [HF.out.1, HBQ.out]; unfold ocC; have P5 := Lib.hid (P4.out.below hb5); have O5 := Lib.hid (O4.out.below hb5); have AT5 := Lib.hid hat; have S4 := Lib.hid P4.out.bl.size; clear hb5 hat; clear xx0 xz0 xx1 xz1 xx2 xz2 xx3 xz3 xx4 xz4 xx5 xz5 xx6 xz6 xx7 xz7 xx8 xz8 xx9 xz9 xx10 xz10 xl; have yx0 : w5.cell? ⟨x, 0, none⟩ = some (.int .u8 o.kind) := hp_cell O5.out.hx 0; have yz0 := hp_frozen O5.out.hx 0; have yx1 : w5.cell? ⟨x, 1, none⟩ = some (.int .i64 o.s.pc) := hp_cell O5.out.hx 1; have yz1 := hp_frozen O5.out.hx 1; have yx2 : w5.cell? ⟨x, 2, none⟩ = some (.slice B1 o.s.stk.length b1) := hp_cell O5.out.hx 2; have yz2 := hp_frozen O5.out.hx 2; have yx3 : w5.cell? ⟨x, 3, none⟩ = some (.int .u64 o.s.la) := hp_cell O5.out.hx 3; have yz3 := hp_frozen O5.out.hx 3; have yx4 : w5.cell? ⟨x, 4, none⟩ = some (.int .u64 o.s.lb) := hp_cell O5.out.hx 4; have yz4 := hp_frozen O5.out.hx 4; have yx5 : w5.cell? ⟨x, 5, none⟩ = some (.int .u64 o.s.lc) := hp_cell O5.out.hx 5; have yz5 := hp_frozen O5.out.hx 5; have yx6 : w5.cell? ⟨x, 6, none⟩ = some (.int .u64 o.s.ld) := hp_cell O5.out.hx 6; have yz6 := hp_frozen O5.out.hx 6; have yx7 : w5.cell? ⟨x, 7, none⟩ = some (.slice B2 o.s.out.length b2) := hp_cell O5.out.hx 7; have yz7 := hp_frozen O5.out.hx 7; have yx8 : w5.cell? ⟨x, 8, none⟩ = some (.slice B3 o.hp.length b3) := hp_cell O5.out.hx 8; have yz8 := hp_frozen O5.out.hx 8; have yx9 : w5.cell? ⟨x, 9, none⟩ = some (.slice Ba o.arms.length ba) := hp_cell O5.out.hx 9; have yz9 := hp_frozen O5.out.hx 9; have yx10 : w5.cell? ⟨x, 10, none⟩ = some (.int .i64 o.err) := hp_cell O5.out.hx 10; have yz10 := hp_frozen O5.out.hx 10; have yl := hp_lt O5.out.hx))
        clear yx0 yz0 yx1 yz1 yx2 yz2 yx3 yz3 yx4 yz4 yx5 yz5 yx6 yz6 yx7 yz7 yx8 yz8 yx9 yz9 yx10 yz10 yl
        have PH7 := put11 (o := q) (B1 := C1) (b1 := c1) (B2 := C2) (b2 := c2) (B3 := C3) (b3 := c3) (Ba := Ca) (ba := ca) O5.out.hx
        have PF7 := put11_fr (w := w5) (x := x) (o := q) (B1 := C1) (b1 := c1) (B2 := C2) (b2 := c2) (B3 := C3) (b3 := c3) (Ba := Ca) (ba := ca)
        have P7 := Lib.hid (P5.out.far O5.out.hx (by decide) (by decide) (P5.out.gx O5.out) (fun e => Nat.lt_irrefl _ (e ▸ XR.out)) O5.out.xb PF7)
        have hO7 : RO w ((((((((((((w5).setCell ⟨x, 0, none⟩ (.int .u8 q.kind)).setCell ⟨x, 1, none⟩ (.int .i64 q.s.pc)).setCell ⟨x, 2, none⟩ (.slice C1 q.s.stk.length c1)).setCell ⟨x, 3, none⟩ (.int .u64 q.s.la)).setCell ⟨x, 4, none⟩ (.int .u64 q.s.lb)).setCell ⟨x, 5, none⟩ (.int .u64 q.s.lc)).setCell ⟨x, 6, none⟩ (.int .u64 q.s.ld)).setCell ⟨x, 7, none⟩ (.slice C2 q.s.out.length c2)).setCell ⟨x, 8, none⟩ (.slice C3 q.hp.length c3)).setCell ⟨x, 9, none⟩ (.slice Ca q.arms.length ca)).setCell ⟨x, 10, none⟩ (.int .i64 q.err)) x q C1 c1 C2 c2 C3 c3 Ca ca := ⟨PH7, AT5.out.1, row_fr (row_base AT5.out.2.1 S4.out) PF7 (row_nx AT5.out.2.1 O5.out.hx (by decide)), row_fr (row_base AT5.out.2.2.1 S4.out) PF7 (row_nx AT5.out.2.2.1 O5.out.hx (by decide)), row_fr (row_base AT5.out.2.2.2.1 S4.out) PF7 (row_nx AT5.out.2.2.2.1 O5.out.hx (by decide)), grow_fr AT5.out.2.2.2.2.1 PF7 (grow_nx AT5.out.2.2.2.2.1 O5.out.hx (by decide)), fun k hk => Nat.le_trans S4.out (AT5.out.2.2.2.2.2 k hk), O5.out.xb, HQL.out.1, HQL.out.2.1⟩
        have O7 := Lib.hid hO7
        clear PH7 PF7 hO7
        generalize (((((((((((w5).setCell ⟨x, 0, none⟩ (.int .u8 q.kind)).setCell ⟨x, 1, none⟩ (.int .i64 q.s.pc)).setCell ⟨x, 2, none⟩ (.slice C1 q.s.stk.length c1)).setCell ⟨x, 3, none⟩ (.int .u64 q.s.la)).setCell ⟨x, 4, none⟩ (.int .u64 q.s.lb)).setCell ⟨x, 5, none⟩ (.int .u64 q.s.lc)).setCell ⟨x, 6, none⟩ (.int .u64 q.s.ld)).setCell ⟨x, 7, none⟩ (.slice C2 q.s.out.length c2)).setCell ⟨x, 8, none⟩ (.slice C3 q.hp.length c3)).setCell ⟨x, 9, none⟩ (.slice Ca q.arms.length ca)).setCell ⟨x, 10, none⟩ (.int .i64 q.err) = w7 at P7 O7 ⊢
        clear P5 O5 AT5 S4 P4 O4 HI4
        have xx0 : w7.cell? ⟨x, 0, none⟩ = some (.int .u8 q.kind) := hp_cell O7.out.hx 0; have xz0 := hp_frozen O7.out.hx 0; have xx1 : w7.cell? ⟨x, 1, none⟩ = some (.int .i64 q.s.pc) := hp_cell O7.out.hx 1; have xz1 := hp_frozen O7.out.hx 1; have xx2 : w7.cell? ⟨x, 2, none⟩ = some (.slice C1 q.s.stk.length c1) := hp_cell O7.out.hx 2; have xz2 := hp_frozen O7.out.hx 2; have xx3 : w7.cell? ⟨x, 3, none⟩ = some (.int .u64 q.s.la) := hp_cell O7.out.hx 3; have xz3 := hp_frozen O7.out.hx 3; have xx4 : w7.cell? ⟨x, 4, none⟩ = some (.int .u64 q.s.lb) := hp_cell O7.out.hx 4; have xz4 := hp_frozen O7.out.hx 4; have xx5 : w7.cell? ⟨x, 5, none⟩ = some (.int .u64 q.s.lc) := hp_cell O7.out.hx 5; have xz5 := hp_frozen O7.out.hx 5; have xx6 : w7.cell? ⟨x, 6, none⟩ = some (.int .u64 q.s.ld) := hp_cell O7.out.hx 6; have xz6 := hp_frozen O7.out.hx 6; have xx7 : w7.cell? ⟨x, 7, none⟩ = some (.slice C2 q.s.out.length c2) := hp_cell O7.out.hx 7; have xz7 := hp_frozen O7.out.hx 7; have xx8 : w7.cell? ⟨x, 8, none⟩ = some (.slice C3 q.hp.length c3) := hp_cell O7.out.hx 8; have xz8 := hp_frozen O7.out.hx 8; have xx9 : w7.cell? ⟨x, 9, none⟩ = some (.slice Ca q.arms.length ca) := hp_cell O7.out.hx 9; have xz9 := hp_frozen O7.out.hx 9; have xx10 : w7.cell? ⟨x, 10, none⟩ = some (.int .i64 q.err) := hp_cell O7.out.hx 10; have xz10 := hp_frozen O7.out.hx 10; have xl := hp_lt O7.out.hx
        by_cases h1 : q.kind = 1
        · rw [h1] at xx0
          have HRQ := Lib.hid (show runF l f k q.s q.hp (arms ++ q.arms) = R from by have := HRk.out; unfold runF at this; rw [HO.out, if_pos H4.out, HBQ.out, if_pos h1] at this; exact this)
          clear h1
          have gx : g ≠ x := P7.out.gx O7.out
          have gx' : x ≠ g := fun e => gx e.symm
          have gx0 : w7.cell? ⟨g, 0, none⟩ = some (.int .i64 s.pc) := hp_cell P7.out.hg 0; have gz0 := hp_frozen P7.out.hg 0; have gx1 : w7.cell? ⟨g, 1, none⟩ = some (.slice A1 s.stk.length a1) := hp_cell P7.out.hg 1; have gz1 := hp_frozen P7.out.hg 1; have gx2 : w7.cell? ⟨g, 2, none⟩ = some (.int .u64 s.la) := hp_cell P7.out.hg 2; have gz2 := hp_frozen P7.out.hg 2; have gx3 : w7.cell? ⟨g, 3, none⟩ = some (.int .u64 s.lb) := hp_cell P7.out.hg 3; have gz3 := hp_frozen P7.out.hg 3; have gx4 : w7.cell? ⟨g, 4, none⟩ = some (.int .u64 s.lc) := hp_cell P7.out.hg 4; have gz4 := hp_frozen P7.out.hg 4; have gx5 : w7.cell? ⟨g, 5, none⟩ = some (.int .u64 s.ld) := hp_cell P7.out.hg 5; have gz5 := hp_frozen P7.out.hg 5; have gx6 : w7.cell? ⟨g, 6, none⟩ = some (.slice A2 s.out.length a2) := hp_cell P7.out.hg 6; have gz6 := hp_frozen P7.out.hg 6; have gl := hp_lt P7.out.hg
          go_wp2_with fail
          go_region
          have PG := hp_dr (putS (o := q) (B1 := C1) (b1 := c1) (B2 := C2) (b2 := c2) P7.out.hg)
          have PF := (putS_fr (w := w7) (g := g) (o := q) (B1 := C1) (b1 := c1) (B2 := C2) (b2 := c2)).trans (Fr.drew1 _ _)
          have hP8 : RS w ((((((((w7).setCell ⟨g, 0, none⟩ (.int .i64 q.s.pc)).setCell ⟨g, 1, none⟩ (.slice C1 q.s.stk.length c1)).setCell ⟨g, 2, none⟩ (.int .u64 q.s.la)).setCell ⟨g, 3, none⟩ (.int .u64 q.s.lb)).setCell ⟨g, 4, none⟩ (.int .u64 q.s.lc)).setCell ⟨g, 5, none⟩ (.int .u64 q.s.ld)).setCell ⟨g, 6, none⟩ (.slice C2 q.s.out.length c2)).drew g r q.s q.hp arms C1 c1 C2 c2 C3 c3 Aa aa := ⟨PG, PF.hp P7.out.hr (fun e => P7.out.gr e.symm), O7.out.ok, row_fr O7.out.stk PF (row_nx O7.out.stk P7.out.hg (by decide)), row_fr O7.out.out PF (row_nx O7.out.out P7.out.hg (by decide)), row_fr O7.out.hep PF (row_nx O7.out.hep P7.out.hg (by decide)), grow_fr P7.out.ar PF (grow_nx P7.out.ar P7.out.hg (by decide)), P7.out.ab, P7.out.bl.trans (PF.toBelow (fun k hk => by have := P7.out.gb; omega)), P7.out.gb, P7.out.rb, O7.out.n1, O7.out.n2, by rw [HQL.out.2.2.1]; exact P7.out.n3⟩
          have P8 := Lib.hid hP8
          have OA8 := Lib.hid (grow_fr O7.out.ar PF (grow_nx O7.out.ar P7.out.hg (by decide)))
          have X8 := Lib.hid (PF.hp O7.out.hx gx')
          clear PG PF hP8
          generalize ((((((((w7).setCell ⟨g, 0, none⟩ (.int .i64 q.s.pc)).setCell ⟨g, 1, none⟩ (.slice C1 q.s.stk.length c1)).setCell ⟨g, 2, none⟩ (.int .u64 q.s.la)).setCell ⟨g, 3, none⟩ (.int .u64 q.s.lb)).setCell ⟨g, 4, none⟩ (.int .u64 q.s.lc)).setCell ⟨g, 5, none⟩ (.int .u64 q.s.ld)).setCell ⟨g, 6, none⟩ (.slice C2 q.s.out.length c2)).drew = w8 at P8 OA8 X8 ⊢
          clear P7 O7 xx0 xz0 xx1 xz1 xx2 xz2 xx3 xz3 xx4 xz4 xx5 xz5 xx6 xz6 xx7 xz7 xx8 xz8 xx9 xz9 xx10 xz10 xl gx0 gz0 gx1 gz1 gx2 gz2 gx3 gz3 gx4 gz4 gx5 gz5 gx6 gz6 gl
          have x9 : w8.cell? ⟨x, 9, none⟩ = some (.slice Ca q.arms.length ca) := hp_cell X8.out 9
          have lx := hp_lt X8.out
          have kw : wrap64 ((j : Int) + 1) = ((j + 1 : Nat) : Int) := by have := HJ.out; unfold wrap64; omega
          go_wp2_with (at_builtin; refine append_bools rfl (.tmp 40) (.tmp 42) rfl Aa aa (arms.map Value.bool) (by rw [List.length_map]; rfl) P8.out.ar Ca ca (q.arms.map Value.bool) (by rw [List.length_map]; rfl) OA8.out (by rw [List.length_map, List.length_map]; have := HAL.out; have := HQL.out.2.2.2; have := HF.out.2; have := HJ.out; omega) _ rfl ?_; intro A' c' w9 hr9 hg9 hat9; have R9 := Lib.hid hr9; have G9 := Lib.hid hg9; have T9 := Lib.hid hat9; clear hr9 hg9 hat9)
          rw [kw]
          go_roundw
          case rel => exact ⟨k, j + 1, q.s, q.hp, arms ++ q.arms, C1, c1, C2, c2, C3, c3, A', c', rfl, by simp, rfl, Lib.hid (by have := HJ.out; omega), Lib.hid (P8.out.more R9.out G9.out T9.out), HRQ, Lib.hid (by rw [List.length_append]; have := HAL.out; have := HQL.out.2.2.2; have := HF.out.2; omega)⟩
          case measure => have := HJ.out; show 20 - (intOf (.int .i64 ((j + 1 : Nat) : Int))).toNat < 20 - (intOf (.int .i64 (j : Int))).toNat; simp only [intOf]; omega
        · have k1 : (q.kind == 1) = false := beq_eq_false_iff_ne.2 h1
          have HRQ := Lib.hid (show R = ⟨q.kind, q.s, hp, arms, q.err⟩ from by rw [← HRk.out]; unfold runF; rw [HO.out, if_pos H4.out, HBQ.out, if_neg h1])
          clear h1
          have hxr : x ≠ r := fun e => Nat.lt_irrefl _ (e ▸ XR.out)
          have hxr' : r ≠ x := fun e => hxr e.symm
          have rx0 : w7.cell? ⟨r, 0, none⟩ = some (.int .u8 0) := hp_cell P7.out.hr 0; have rz0 := hp_frozen P7.out.hr 0; have rx1 : w7.cell? ⟨r, 1, none⟩ = some (.int .i64 0) := hp_cell P7.out.hr 1; have rz1 := hp_frozen P7.out.hr 1; have rx2 : w7.cell? ⟨r, 2, none⟩ = some (.slice none 0 0) := hp_cell P7.out.hr 2; have rz2 := hp_frozen P7.out.hr 2; have rx3 : w7.cell? ⟨r, 3, none⟩ = some (.int .u64 0) := hp_cell P7.out.hr 3; have rz3 := hp_frozen P7.out.hr 3; have rx4 : w7.cell? ⟨r, 4, none⟩ = some (.int .u64 0) := hp_cell P7.out.hr 4; have rz4 := hp_frozen P7.out.hr 4; have rx5 : w7.cell? ⟨r, 5, none⟩ = some (.int .u64 0) := hp_cell P7.out.hr 5; have rz5 := hp_frozen P7.out.hr 5; have rx6 : w7.cell? ⟨r, 6, none⟩ = some (.int .u64 0) := hp_cell P7.out.hr 6; have rz6 := hp_frozen P7.out.hr 6; have rx7 : w7.cell? ⟨r, 7, none⟩ = some (.slice none 0 0) := hp_cell P7.out.hr 7; have rz7 := hp_frozen P7.out.hr 7; have rx8 : w7.cell? ⟨r, 8, none⟩ = some (.slice none 0 0) := hp_cell P7.out.hr 8; have rz8 := hp_frozen P7.out.hr 8; have rx9 : w7.cell? ⟨r, 9, none⟩ = some (.slice none 0 0) := hp_cell P7.out.hr 9; have rz9 := hp_frozen P7.out.hr 9; have rx10 : w7.cell? ⟨r, 10, none⟩ = some (.int .i64 0) := hp_cell P7.out.hr 10; have rz10 := hp_frozen P7.out.hr 10; have rl := hp_lt P7.out.hr
          go_wp2_with fail
          refine bodyPost_ret (by simp [results, Try.results17, go_sem, rx0, rx1, rx2, rx3, rx4, rx5, rx6, rx7, rx8, rx9, rx10, hxr, hxr']; try rfl) rfl ?_
          have m1x := row_nx O7.out.stk O7.out.hx (by decide)
          have m1r := row_nx O7.out.stk P7.out.hr (by decide)
          have m2x := row_nx O7.out.out O7.out.hx (by decide)
          have m2r := row_nx O7.out.out P7.out.hr (by decide)
          have m3x := row_nx P7.out.hep O7.out.hx (by decide)
          have m3r := row_nx P7.out.hep P7.out.hr (by decide)
          have m4x := grow_nx P7.out.ar O7.out.hx (by decide)
          have m4r := grow_nx P7.out.ar P7.out.hr (by decide)
          rw [HF.out.1, HR.out, HRQ.out]
          exact ⟨(bl_new (bl_new (bl_new (bl_new (bl_new (bl_new (bl_new (bl_new (bl_new (bl_new (bl_new (bl_new (bl_new P7.out.bl O7.out.xb _) O7.out.xb _) P7.out.rb _) P7.out.rb _) P7.out.rb _) P7.out.rb _) P7.out.rb _) P7.out.rb _) P7.out.rb _) P7.out.rb _) P7.out.rb _) P7.out.rb _) P7.out.rb _), C1, c1, C2, c2, A3, a3, Aa, aa, rfl, O7.out.ok, (row_ne (row_ne (row_ne (row_ne (row_ne (row_ne (row_ne (row_ne (row_ne (row_ne (row_ne (row_ne (row_ne O7.out.stk m1x _ _) m1x _ _) m1r _ _) m1r _ _) m1r _ _) m1r _ _) m1r _ _) m1r _ _) m1r _ _) m1r _ _) m1r _ _) m1r _ _) m1r _ _), (row_ne (row_ne (row_ne (row_ne (row_ne (row_ne (row_ne (row_ne (row_ne (row_ne (row_ne (row_ne (row_ne O7.out.out m2x _ _) m2x _ _) m2r _ _) m2r _ _) m2r _ _) m2r _ _) m2r _ _) m2r _ _) m2r _ _) m2r _ _) m2r _ _) m2r _ _) m2r _ _), (row_ne (row_ne (row_ne (row_ne (row_ne (row_ne (row_ne (row_ne (row_ne (row_ne (row_ne (row_ne (row_ne P7.out.hep m3x _ _) m3x _ _) m3r _ _) m3r _ _) m3r _ _) m3r _ _) m3r _ _) m3r _ _) m3r _ _) m3r _ _) m3r _ _) m3r _ _) m3r _ _), (grow_ne (grow_ne (grow_ne (grow_ne (grow_ne (grow_ne (grow_ne (grow_ne (grow_ne (grow_ne (grow_ne (grow_ne (grow_ne P7.out.ar m4x _ _) m4x _ _) m4r _ _) m4r _ _) m4r _ _) m4r _ _) m4r _ _) m4r _ _) m4r _ _) m4r _ _) m4r _ _) m4r _ _) m4r _ _), P7.out.ab⟩
    · have k4 : (o.kind == 4) = false := beq_eq_false_iff_ne.2 h4
      have HRQ := Lib.hid (show R = ⟨o.kind, o.s, hp, arms, o.err⟩ from by rw [← HRu.out]; cases k <;> (unfold runF; rw [HO.out, if_neg h4]))
      clear h4
      have hxr : x ≠ r := fun e => Nat.lt_irrefl _ (e ▸ XR.out)
      have hxr' : r ≠ x := fun e => hxr e.symm
      have rx0 : w4.cell? ⟨r, 0, none⟩ = some (.int .u8 0) := hp_cell P4.out.hr 0; have rz0 := hp_frozen P4.out.hr 0; have rx1 : w4.cell? ⟨r, 1, none⟩ = some (.int .i64 0) := hp_cell P4.out.hr 1; have rz1 := hp_frozen P4.out.hr 1; have rx2 : w4.cell? ⟨r, 2, none⟩ = some (.slice none 0 0) := hp_cell P4.out.hr 2; have rz2 := hp_frozen P4.out.hr 2; have rx3 : w4.cell? ⟨r, 3, none⟩ = some (.int .u64 0) := hp_cell P4.out.hr 3; have rz3 := hp_frozen P4.out.hr 3; have rx4 : w4.cell? ⟨r, 4, none⟩ = some (.int .u64 0) := hp_cell P4.out.hr 4; have rz4 := hp_frozen P4.out.hr 4; have rx5 : w4.cell? ⟨r, 5, none⟩ = some (.int .u64 0) := hp_cell P4.out.hr 5; have rz5 := hp_frozen P4.out.hr 5; have rx6 : w4.cell? ⟨r, 6, none⟩ = some (.int .u64 0) := hp_cell P4.out.hr 6; have rz6 := hp_frozen P4.out.hr 6; have rx7 : w4.cell? ⟨r, 7, none⟩ = some (.slice none 0 0) := hp_cell P4.out.hr 7; have rz7 := hp_frozen P4.out.hr 7; have rx8 : w4.cell? ⟨r, 8, none⟩ = some (.slice none 0 0) := hp_cell P4.out.hr 8; have rz8 := hp_frozen P4.out.hr 8; have rx9 : w4.cell? ⟨r, 9, none⟩ = some (.slice none 0 0) := hp_cell P4.out.hr 9; have rz9 := hp_frozen P4.out.hr 9; have rx10 : w4.cell? ⟨r, 10, none⟩ = some (.int .i64 0) := hp_cell P4.out.hr 10; have rz10 := hp_frozen P4.out.hr 10; have rl := hp_lt P4.out.hr
      go_wp2_with fail
      refine bodyPost_ret (by simp [results, Try.results17, go_sem, rx0, rx1, rx2, rx3, rx4, rx5, rx6, rx7, rx8, rx9, rx10, hxr, hxr']; try rfl) rfl ?_
      have m1x := row_nx O4.out.stk O4.out.hx (by decide)
      have m1r := row_nx O4.out.stk P4.out.hr (by decide)
      have m2x := row_nx O4.out.out O4.out.hx (by decide)
      have m2r := row_nx O4.out.out P4.out.hr (by decide)
      have m3x := row_nx P4.out.hep O4.out.hx (by decide)
      have m3r := row_nx P4.out.hep P4.out.hr (by decide)
      have m4x := grow_nx P4.out.ar O4.out.hx (by decide)
      have m4r := grow_nx P4.out.ar P4.out.hr (by decide)
      rw [HF.out.1, HR.out, HRQ.out]
      exact ⟨(bl_new (bl_new (bl_new (bl_new (bl_new (bl_new (bl_new (bl_new (bl_new (bl_new (bl_new (bl_new (bl_new P4.out.bl O4.out.xb _) O4.out.xb _) P4.out.rb _) P4.out.rb _) P4.out.rb _) P4.out.rb _) P4.out.rb _) P4.out.rb _) P4.out.rb _) P4.out.rb _) P4.out.rb _) P4.out.rb _) P4.out.rb _), B1, b1, B2, b2, A3, a3, Aa, aa, rfl, O4.out.ok, (row_ne (row_ne (row_ne (row_ne (row_ne (row_ne (row_ne (row_ne (row_ne (row_ne (row_ne (row_ne (row_ne O4.out.stk m1x _ _) m1x _ _) m1r _ _) m1r _ _) m1r _ _) m1r _ _) m1r _ _) m1r _ _) m1r _ _) m1r _ _) m1r _ _) m1r _ _) m1r _ _), (row_ne (row_ne (row_ne (row_ne (row_ne (row_ne (row_ne (row_ne (row_ne (row_ne (row_ne (row_ne (row_ne O4.out.out m2x _ _) m2x _ _) m2r _ _) m2r _ _) m2r _ _) m2r _ _) m2r _ _) m2r _ _) m2r _ _) m2r _ _) m2r _ _) m2r _ _) m2r _ _), (row_ne (row_ne (row_ne (row_ne (row_ne (row_ne (row_ne (row_ne (row_ne (row_ne (row_ne (row_ne (row_ne P4.out.hep m3x _ _) m3x _ _) m3r _ _) m3r _ _) m3r _ _) m3r _ _) m3r _ _) m3r _ _) m3r _ _) m3r _ _) m3r _ _) m3r _ _) m3r _ _), (grow_ne (grow_ne (grow_ne (grow_ne (grow_ne (grow_ne (grow_ne (grow_ne (grow_ne (grow_ne (grow_ne (grow_ne (grow_ne P4.out.ar m4x _ _) m4x _ _) m4r _ _) m4r _ _) m4r _ _) m4r _ _) m4r _ _) m4r _ _) m4r _ _) m4r _ _) m4r _ _) m4r _ _) m4r _ _), P4.out.ab⟩
end Go.Proofs.Ytlgpjcdlomhlcaa
