
/-
  flows: a block.
-/
import Derived.Test.YtmmfadakhnagpaaFl3
namespace Go.Proofs.Ytmmfadakhnagpaa
open Go.RowKit Go.ChangeShapes Go.WideShapes Go.Maps Go.WideMaps Go.Shelf
set_option linter.unusedSimpArgs false
set_option linter.unusedVariables false
attribute [local go_sem] Oper.semAt_some

theorem insC_snoc {α : Type} (f : α → Ins3) (l : List α) (x : α) : insC ((l ++ [x]).map f) = insC (l.map f) ++ inC (f x) := by
  rw [List.map_append, insC_append]; simp [insC]
theorem own_below {w w1 : World} {base size n : Nat} {e : TypeId} {v : Value} {xs : List Value} (h : w.ownsRow base e size v n xs) (hb : Below w.heap.size w w1) : w1.ownsRow base e size v n xs :=
  h.kept (gb_below (r := none) hb) (by cases hh : v.ownBlock <;> simp)
theorem inC_cells {W : World} {g : Nat} {q : Ins3} (hg : W.heap[g]? = some (.cells #[.int .u8 q.op, .int .i64 q.arg, .int .u64 q.val] 64 (0, 0))) : ∀ (j : Nat) (u : Value), (inC q)[j]? = some u → W.cell? ((⟨g, 0, none⟩ : Addr).add j) = some u := by
  intro j u hu
  rw [add_at, Nat.zero_add, hp_cell hg, ← Array.getElem?_toList]
  exact hu
theorem inC_one (q : Ins3) : ∀ u ∈ inC q, u.oneCell' = true := by
  intro u hu
  simp only [inC, List.mem_cons, List.not_mem_nil, or_false] at hu
  rcases hu with rfl | rfl | rfl <;> rfl
/-- The post of a block. -/
def BPost (w : World) (l : List Ins3) (at' : Int) (e : Ending) (w' : World) : Prop :=
  (if at' + l.length > 64 then e = .returned (.tuple #[.slice none 0 0, .int .i64 4]) else ∃ A c, e = .returned (.tuple #[.slice A l.length c, .int .i64 0]) ∧ NRow w' w.heap.size A c l) ∧ Below w.heap.size w w'
theorem blk_retE {w WF : World} {D : Nat} {tmps : Array Value} {l : List Ins3} {at' : Int} (h6 : tmps[6]?.getD undef = .slice none 0 0) (h7 : tmps[7]?.getD undef = .int .i64 4) (KF : WF.heap[D]? = some (.deferred (some []))) (hl : at' + l.length > 64) (BF : Below w.heap.size w WF) (hD : w.heap.size ≤ D) :
    bodyPostM Fence.wide 6 Try.prog Try.f85 (BPost w l at') .ret { tmps := tmps, defers := [{ target := .collected D, args := #[] }] } WF := by
  refine ⟨by simp, .inl ⟨_, _, rfl, run_takeDeferred KF, ?_⟩⟩
  refine ⟨.tuple #[.slice none 0 0, .int .i64 4], by simp [results, Try.results85, go_sem, h6, h7], ?_, BF.trans ((Below.refl w.heap.size WF).grown (grownBy_putObj' WF D _) BF.size (fun j e => by cases e; exact hD))⟩
  rw [if_pos hl]
theorem blk_ret {w WF : World} {D c : Nat} {A : Option Addr} {tmps : Array Value} {l : List Ins3} {at' : Int} (h6 : tmps[6]?.getD undef = .slice A l.length c) (h7 : tmps[7]?.getD undef = .int .i64 0) (KF : WF.heap[D]? = some (.deferred (some []))) (hl : ¬ at' + l.length > 64) (BF : Below w.heap.size w WF) (hD : w.heap.size ≤ D) (hr : NRow WF w.heap.size A c l) :
    bodyPostM Fence.wide 6 Try.prog Try.f85 (BPost w l at') .ret { tmps := tmps, defers := [{ target := .collected D, args := #[] }] } WF := by
  have hgb := grownBy_putObj' WF D (.deferred none)
  refine ⟨by simp, .inl ⟨_, _, rfl, run_takeDeferred KF, ?_⟩⟩
  refine ⟨.tuple #[.slice A l.length c, .int .i64 0], by simp [results, Try.results85, go_sem, h6, h7], ?_, BF.trans ((Below.refl w.heap.size WF).grown hgb BF.size (fun j e => by cases e; exact hD))⟩
  rw [if_neg hl]
  refine ⟨A, c, rfl, ?_, hr.2⟩
  refine hr.1.kept hgb ?_
  rcases hr.1.2 with ⟨hv, _⟩ | ⟨g, cap, cur, hv, _, hgb', _⟩
  · left
    have := congrArg Value.ownBlock hv
    exact this
  · right
    rw [hv]
    intro e
    simp only [Value.ownBlock, Option.some.injEq] at e
    rw [e, KF] at hgb'
    cases hgb'
theorem opIn_append_own {F : Fence} {n : Nat} {P : Program} (w : World) {ops : Array Oper} {o : Oper} {a : Act} {K : Act → World → Prop} {Q : Exit → Act → World → Prop} {E : Prop}
    (hw : Region.wanted o (yielded ops a.tmps) = true) (s x : Operand) (t : TypeId) (hop : o.op = Op.call { callee := Callee.builtin Builtin.append, args := #[s, x], argTypes := #[t, t] })
    (base : Nat) (e : TypeId) (i : TypeInfo) (z : Value) (size bytes : Nat) (h1 : P.underlying t = some (.slice e)) (h2 : P.info? e = some i) (h3 : i.zero = some z) (h4 : i.size = size) (h5 : i.bytes = bytes) (h6 : z.cells.size = size) (h7 : 0 < size)
    (v : Value) (k : Nat) (xs : List Value) (hs : a.eval s = v) (hown : w.ownsRow base e size v k xs) (ad : Addr) (m c : Nat) (news : List Value) (hx : a.eval x = .slice (some ad) m c) (hn : news.length = m * size)
    (hc : ∀ j u, news[j]? = some u → w.cell? (ad.add j) = some u) (h1c : ∀ u ∈ news, u.oneCell' = true) (b1 : k + m ≤ maxLen) (b2 : (k + m) * bytes ≤ 140737488355328) (b3 : base ≤ w.heap.size)
    (hK : ∀ v' w', w'.ownsRow base e size v' (k + m) (xs ++ news) → w.grownBy w' v.ownBlock → K (a.put o.dst v') w') :
    if Region.wanted o (yielded ops a.tmps) = true then Oper.wpIn F n P o a w K Q else E := by
  rw [if_pos hw]
  obtain ⟨v', w', hrun, r1, r2, r3⟩ := run_append_own (P := P) w base t o.type e i z size bytes h1 h2 h3 h4 h5 h6 h7 v k xs hown ad m c news hn hc h1c b1 b2 b3
  unfold Oper.wpIn
  refine ⟨?_, ?_⟩
  · simp [Oper.about, hop, resolve, Target.leads, Sem.run_pure]
  · rw [Oper.semAt_plain F _ _ (by rw [hop]; intro c hc'; cases hc')]
    simp [execOp, hop, resolve, invoke, builtin, hs, hx, hrun, Result.andThen]
    exact hK v' w' r1 r2
theorem blk_body {w W W0 w4 w5 : World} {a5 : Act} {nb ab ob tb sb : Nat} {v5 : Value} {ps : List ByteArray} {F : ByteArray → Ins3} {pre : List { p : ByteArray // p ∈ ps }} {x : { p : ByteArray // p ∈ ps }} {tv sz lc vl at' : Int}
    (HB : Hid (Below nb w W)) (HN : Hid (W.heap[nb]? = some (.cells #[.int .i64 tv, .int .i64 sz, .int .i64 lc, .int .u64 vl] 123 (0, 0)))) (HA : Hid (W.heap[ab]? = some (.cells #[.int .i64 at'] 3 (0, 0)))) (HW : Hid (W0.heap.size ≤ W.heap.size))
    (HZ : Hid (ab = nb + 1 ∧ ob = nb + 2 ∧ tb = nb + 3 ∧ sb = nb + 4 ∧ W0.heap.size = nb + 5 ∧ w.heap.size = nb)) (HB4 : Hid (Below W.drew.heap.size W.drew w4))
    (hv2 : Boxed w5 ob 25 v5) (hr2 : w5.ownsRow W0.heap.size 64 3 v5 (pre.length + 1) (insC (pre.map (fun x => F x.1)) ++ inC (F x.1))) (hk2 : KeepsOthers w4 w5) (hb2 : ∀ nb, nb ≤ ob → nb ≤ W0.heap.size → nb ≤ w4.heap.size → Below nb w4 w5) (hh2 : ∀ k, k < W0.heap.size → k ≠ ob → k < w4.heap.size → w5.heap[k]? = w4.heap[k]?) :
    ownPostG W0.heap.size (Kq tb sb) (fun (pre : List { p : ByteArray // p ∈ ps }) W => (∃ v, Boxed W ob 25 v ∧ W.ownsRow W0.heap.size 64 3 v pre.length (insC (pre.map (fun x => F x.1))) ∧ True) ∧ (Below nb w W ∧ (W.heap[nb]? = some (.cells #[.int .i64 tv, .int .i64 sz, .int .i64 lc, .int .u64 vl] 123 (0, 0)) ∧ (W.heap[ab]? = some (.cells #[.int .i64 at'] 3 (0, 0)) ∧ W0.heap.size ≤ W.heap.size)))) (fun _ _ _ => False) (pre ++ [x]) W .normal a5 w5 := by
  have z := HZ.out
  have h4 : W.heap.size ≤ w4.heap.size := HB4.out.size
  have hw := HW.out
  have hb : Below W.heap.size W w4 := Below.trans (Below.drew (Below.refl W.heap.size W)) HB4.out
  have ko : KeepsOthers W w4 := ⟨h4, fun k o hk _ => hp_below hk hb⟩
  have e : ∀ k, k < W0.heap.size → k ≠ ob → w5.heap[k]? = W.heap[k]? := fun k hk hn => (hh2 k hk hn (by omega)).trans (hb.block k (by omega))
  exact ⟨(ko.trans hk2).from _, ⟨e tb (by omega) (by omega), e sb (by omega) (by omega), (ko.trans hk2).walks⟩, ⟨_, hv2, by rw [insC_snoc]; simpa using hr2, trivial⟩, HB.out.trans ((hb.mono (by omega)).trans (hb2 nb (by omega) (by omega) (by omega))), (e nb (by omega) (by omega)).trans HN.out, (e ab (by omega) (by omega)).trans HA.out, by have := hk2.size; omega⟩
set_option maxRecDepth 100000 in
set_option maxHeartbeats 4000000 in
theorem block_any (tv sz lc vl at' : Int) (s : ByteArray) (hs : s.size ≤ 1000) (hasc : ∀ x ∈ s.data.toList, x.toNat < 128) (hat : 0 ≤ at' ∧ at' ≤ 1000) (F : ByteArray → Ins3)
    (hps : (pcs s 44).length ≤ 100) (hok : ∀ p ∈ pcs s 44, (F p).ok) (hins : ∀ p ∈ pcs s 44, ∀ w : World, Calls Try.prog 106 #[.agg #[.int .i64 tv, .int .i64 sz, .int .i64 lc, .int .u64 vl], .int .i64 at', .string p] w fun e w' => e = .returned (.agg #[.int .u8 (F p).op, .int .i64 (F p).arg, .int .u64 (F p).val]) ∧ Below w.heap.size w w') (w : World) :
    Calls Try.prog 85 #[.agg #[.int .i64 tv, .int .i64 sz, .int .i64 lc, .int .u64 vl], .int .i64 at', .string s] w (BPost w ((pcs s 44).map F) at') := by
  obtain ⟨ps, hp⟩ : ∃ ps, pcs s 44 = ps := ⟨_, rfl⟩
  rw [hp] at hps hok hins ⊢
  have HI := Lib.hid hins
  have HO := Lib.hid hok
  have HP := Lib.hid hp
  have HL := Lib.hid hps
  have HT := Lib.hid hat
  clear hins hok
  refine (callsIn_wide (n := 6)).1 ?_
  refine callsIn_of_wp_marks Try.func85 rfl trivial ?_ rfl
  simp only [Try.ntmps85, List.size_toArray, List.length_cons, List.length_nil, Nat.reduceAdd, Nat.reduceSub, Array.replicate_succ, Array.replicate_zero, List.push_toArray, List.append_toArray, List.nil_append, List.cons_append]
  refine wpIn_wide.2 ?_
  refine wp_retOnly ?_
  clear hp hps hat
  go_wp2_with (go_at_call 105; refine (pieces_any s 44 _).mono ?_; rintro e w' ⟨rfl, rfl⟩)
  have BX0 : Below w.heap.size w (((((w.alloc (.cells #[.int .i64 tv, .int .i64 sz, .int .i64 lc, .int .u64 vl] 123)).alloc (.cells #[.int .i64 at'] 3)).alloc (.cells #[.slice none 0 0] 25)).alloc (.cells #[.string s] 9)).alloc (.cells #[.int .i32 44] 21)) := ((((((Below.refl _ w).alloc (Nat.le_refl _) _).alloc (by simp) _).alloc (by simp; omega) _).alloc (by simp; omega) _).alloc (by simp; omega) _)
  have hz0 : (((((w.alloc (.cells #[.int .i64 tv, .int .i64 sz, .int .i64 lc, .int .u64 vl] 123)).alloc (.cells #[.int .i64 at'] 3)).alloc (.cells #[.slice none 0 0] 25)).alloc (.cells #[.string s] 9)).alloc (.cells #[.int .i32 44] 21)).heap.size = w.heap.size + 1 + 1 + 1 + 1 + 1 := by simp
  have XN0 : (((((w.alloc (.cells #[.int .i64 tv, .int .i64 sz, .int .i64 lc, .int .u64 vl] 123)).alloc (.cells #[.int .i64 at'] 3)).alloc (.cells #[.slice none 0 0] 25)).alloc (.cells #[.string s] 9)).alloc (.cells #[.int .i32 44] 21)).heap[w.heap.size]? = some (.cells #[.int .i64 tv, .int .i64 sz, .int .i64 lc, .int .u64 vl] 123 (0, 0)) := hp_alloc (hp_alloc (hp_alloc (hp_alloc (heap_alloc_new w _) _) _) _) _
  have XA0 : (((((w.alloc (.cells #[.int .i64 tv, .int .i64 sz, .int .i64 lc, .int .u64 vl] 123)).alloc (.cells #[.int .i64 at'] 3)).alloc (.cells #[.slice none 0 0] 25)).alloc (.cells #[.string s] 9)).alloc (.cells #[.int .i32 44] 21)).heap[w.heap.size + 1]? = some (.cells #[.int .i64 at'] 3 (0, 0)) := hp_alloc (hp_alloc (hp_alloc ((congrArg _ (by simp)).trans (heap_alloc_new (w.alloc (.cells #[.int .i64 tv, .int .i64 sz, .int .i64 lc, .int .u64 vl] 123)) _)) _) _) _
  have XO0 : (((((w.alloc (.cells #[.int .i64 tv, .int .i64 sz, .int .i64 lc, .int .u64 vl] 123)).alloc (.cells #[.int .i64 at'] 3)).alloc (.cells #[.slice none 0 0] 25)).alloc (.cells #[.string s] 9)).alloc (.cells #[.int .i32 44] 21)).heap[w.heap.size + 1 + 1]? = some (.cells #[.slice none 0 0] 25 (0, 0)) := hp_alloc (hp_alloc ((congrArg _ (by simp)).trans (heap_alloc_new ((w.alloc (.cells #[.int .i64 tv, .int .i64 sz, .int .i64 lc, .int .u64 vl] 123)).alloc (.cells #[.int .i64 at'] 3)) _)) _) _
  have XT0 : (((((w.alloc (.cells #[.int .i64 tv, .int .i64 sz, .int .i64 lc, .int .u64 vl] 123)).alloc (.cells #[.int .i64 at'] 3)).alloc (.cells #[.slice none 0 0] 25)).alloc (.cells #[.string s] 9)).alloc (.cells #[.int .i32 44] 21)).heap[w.heap.size + 1 + 1 + 1]? = some (.cells #[.string s] 9 (0, 0)) := hp_alloc ((congrArg _ (by simp)).trans (heap_alloc_new (((w.alloc (.cells #[.int .i64 tv, .int .i64 sz, .int .i64 lc, .int .u64 vl] 123)).alloc (.cells #[.int .i64 at'] 3)).alloc (.cells #[.slice none 0 0] 25)) _)) _
  have XS0 : (((((w.alloc (.cells #[.int .i64 tv, .int .i64 sz, .int .i64 lc, .int .u64 vl] 123)).alloc (.cells #[.int .i64 at'] 3)).alloc (.cells #[.slice none 0 0] 25)).alloc (.cells #[.string s] 9)).alloc (.cells #[.int .i32 44] 21)).heap[w.heap.size + 1 + 1 + 1 + 1]? = some (.cells #[.int .i32 44] 21 (0, 0)) := (congrArg _ (by simp)).trans (heap_alloc_new ((((w.alloc (.cells #[.int .i64 tv, .int .i64 sz, .int .i64 lc, .int .u64 vl] 123)).alloc (.cells #[.int .i64 at'] 3)).alloc (.cells #[.slice none 0 0] 25)).alloc (.cells #[.string s] 9)) _)
  generalize (((((w.alloc (.cells #[.int .i64 tv, .int .i64 sz, .int .i64 lc, .int .u64 vl] 123)).alloc (.cells #[.int .i64 at'] 3)).alloc (.cells #[.slice none 0 0] 25)).alloc (.cells #[.string s] 9)).alloc (.cells #[.int .i32 44] 21)) = W0 at BX0 hz0 XN0 XA0 XO0 XT0 XS0 ⊢
  obtain ⟨sb, hsb⟩ : ∃ b, w.heap.size + 1 + 1 + 1 + 1 = b := ⟨_, rfl⟩
  obtain ⟨tb, htb⟩ : ∃ b, w.heap.size + 1 + 1 + 1 = b := ⟨_, rfl⟩
  obtain ⟨ob, hob⟩ : ∃ b, w.heap.size + 1 + 1 = b := ⟨_, rfl⟩
  obtain ⟨ab, hab⟩ : ∃ b, w.heap.size + 1 = b := ⟨_, rfl⟩
  obtain ⟨nb, hnb⟩ : ∃ b, w.heap.size = b := ⟨_, rfl⟩
  have HZ := Lib.hid (show ab = nb + 1 ∧ ob = nb + 2 ∧ tb = nb + 3 ∧ sb = nb + 4 ∧ W0.heap.size = nb + 5 ∧ w.heap.size = nb by omega)
  rw [hsb] at XS0
  rw [htb] at XT0
  rw [hob] at XO0
  rw [hab] at XA0
  rw [hnb] at XN0 BX0
  rw [hsb, htb, hob, hab, hnb]
  clear hz0 hsb htb hob hab hnb
  obtain ⟨i0, hi, hz0, hz1, hz2⟩ := info_parts Ins_info
  refine (wpIn_wide (n := 5)).1 ?_
  refine wpIn_rangeFunc_ownG rfl (by omega) (gf := 111) (lb := #[.pointer (some ⟨tb, 0, none⟩), .pointer (some ⟨sb, 0, none⟩)]) rfl trivial (enters_of Try.func111 (by kernel_rfl) rfl)
    (pieces_stops (5 - 1) (by omega) tb sb s 44 (by omega) hasc (fun p => p ∈ ps) (fun p h => by rw [HP.out] at h; exact h) W0 (hp_cell XT0 0) (hp_cell XS0 0)) (fun h k => kq_t h k) (kq_b (hp_lt XT0) (hp_lt XS0)) (Below.refl _ _) (fun _ => rfl)
    (fun (pre : List { p : ByteArray // p ∈ ps }) W => (∃ v, Boxed W ob 25 v ∧ W.ownsRow W0.heap.size 64 3 v pre.length (insC (pre.map (fun x => F x.1))) ∧ True) ∧ (Below nb w W ∧ (W.heap[nb]? = some (.cells #[.int .i64 tv, .int .i64 sz, .int .i64 lc, .int .u64 vl] 123 (0, 0)) ∧ (W.heap[ab]? = some (.cells #[.int .i64 at'] 3 (0, 0)) ∧ W0.heap.size ≤ W.heap.size))))
    (fun _ _ _ => False)
    (OwnFrom.and (Own.from (holdsRow_own W0.heap.size ob 25 64 3 (fun (pre : List { p : ByteArray // p ∈ ps }) => pre.length) (fun pre => insC (pre.map (fun x => F x.1))) (fun _ _ => True)) _) (OwnFrom.and (ownFrom_below (by have := HZ.out; omega) (by have := HZ.out; omega)) (OwnFrom.and (ownFrom_heap _ _ _ _) (OwnFrom.and (ownFrom_heap _ _ _ _) (ownFrom_size _ _)))))
    (fun _ _ _ _ _ hs _ _ => hs)
    ⟨⟨_, XO0, World.ownsRow_nil _ _ _ _, trivial⟩, BX0, XN0, XA0, Nat.le_refl _⟩
    ?a1 ?assign ?body ?done ?stop
  case assign =>
    intro l x W K hK
    gi_wp2
    exact hK
  case body =>
    rintro l pre x W ⟨⟨v, hv, hrow, _⟩, hB, hn, hr, hwz⟩ hlt
    have hmx : Try.prog.follows .mixedOrders = true := by kernel_rfl
    have HV := Lib.hid hv
    have HR := Lib.hid hrow
    have HB := Lib.hid hB
    have HN := Lib.hid hn
    have HA := Lib.hid hr
    have HW := Lib.hid hwz
    have hlen : pre.length < 100 := by have h1 := HP.out ▸ hlt; have h2 := HL.out; omega
    have HLT := Lib.hid hlen
    have o0 : W.drew.cell? ⟨ob, 0, none⟩ = some v := hp_cell (hp_dw HV.out) 0
    have ol : ob < W.heap.size := hp_lt HV.out
    have n0 : W.drew.cell? ⟨nb, 0, none⟩ = some (.int .i64 tv) := hp_cell (hp_dw HN.out) 0
    have n1 : W.drew.cell? ⟨nb, 1, none⟩ = some (.int .i64 sz) := hp_cell (hp_dw HN.out) 1
    have n2 : W.drew.cell? ⟨nb, 2, none⟩ = some (.int .i64 lc) := hp_cell (hp_dw HN.out) 2
    have n3 : W.drew.cell? ⟨nb, 3, none⟩ = some (.int .u64 vl) := hp_cell (hp_dw HN.out) 3
    have nl : nb < W.heap.size := hp_lt HN.out
    have a0 : W.drew.cell? ⟨ab, 0, none⟩ = some (.int .i64 at') := hp_cell (hp_dw HA.out) 0
    have al : ab < W.heap.size := hp_lt HA.out
    clear hv hrow hB hn hr hwz hlt hlen XN0 XA0 XO0 XT0 XS0 BX0
    gi_wp2
    refine wpIn_region_any hmx ?_
    change wpAnyIn _ _ _ _ _ _ _ _ _ (World.drew _)
    refine wpAnyIn_ready (rs := [0, 1, 2, 3]) (by kernel_rfl) (by simp) ?_
    refine AllReadyIn.cons rfl (fun K hK => ?_) ?_
    · go_simp
      refine hK _ _ ?_
      clear hK K
      refine wpAnyIn_ready (rs := [1, 2, 3]) (by kernel_rfl) (by simp) ?_
      refine AllReadyIn.cons rfl (fun K hK => ?_) ?_
      · go_simp
        refine hK _ _ ?_
        clear hK K
        refine wpAnyIn_ready (rs := [2, 3]) (by kernel_rfl) (by simp) ?_
        refine AllReadyIn.cons rfl (fun K hK => ?_) ?_
        · go_simp
          refine hK _ _ ?_
          clear hK K
          refine wpAnyIn_ready (rs := [3]) (by kernel_rfl) (by simp) ?_
          refine AllReadyIn.cons rfl (fun K hK => ?_) ?_
          · go_simp
            refine hK _ _ ?_
            clear hK K
            refine wpAnyIn_ready (rs := [4]) (by kernel_rfl) (by simp) ?_
            refine AllReadyIn.cons rfl (fun K hK => ?_) ?_
            · go_simp
              refine ⟨trivial, ?_⟩
              refine (CallsIn.inRound l (callsIn_wide.2 (HI.out x.1 x.2 _))).mono ?_
              rintro e w4 ⟨rfl, hb⟩
              have HB4 := Lib.hid hb
              clear hb n0 n1 n2 n3 nl a0 al o0 ol
              have o0 : w4.cell? ⟨ob, 0, none⟩ = some v := hp_cell (hp_below (hp_dw HV.out) HB4.out) 0
              have ol : ob < w4.heap.size := hp_lt (hp_below (hp_dw HV.out) HB4.out)
              dsimp only
              refine hK _ _ ?_
              clear hK K
              refine wpAnyIn_ready (rs := [5]) (by kernel_rfl) (by simp) ?_
              refine AllReadyIn.cons rfl (fun K hK => ?_) ?_
              · go_simp
                refine hK _ _ ?_
                clear hK K
                refine wpAnyIn_ready (rs := [6]) (by kernel_rfl) (by simp) ?_
                refine AllReadyIn.cons rfl (fun K hK => ?_) ?_
                · refine opIn_append_own _ rfl _ _ 25 rfl W0.heap.size 64 i0 _ 3 24 Try.underlying25 hi hz0 hz1 hz2 rfl (by decide) v pre.length (insC (pre.map (fun x => F x.1))) rfl ((own_below HR.out (Below.trans (Below.drew (Below.refl _ _)) HB4.out)).alloc _) ⟨w4.heap.size, 0, none⟩ 1 1 (inC (F x.1)) rfl rfl (inC_cells (heap_alloc_new _ _)) (inC_one _) (by have := HLT.out; unfold maxLen; omega) (by have := HLT.out; omega) (by have h1 := HW.out; have h2 := HB4.out.size; simp; exact Nat.le_trans h1 (Nat.le_succ_of_le h2)) ?_
                  intro v5 w5 hown hgrow
                  obtain ⟨g', cap', rfl⟩ := ownsRow_succ hown
                  obtain ⟨hv1, hv2, hr2, hk2, hb2, hh2⟩ := boxed_app (hp_below (hp_dw HV.out) HB4.out) (by decide) (own_below HR.out (Below.trans (Below.drew (Below.refl _ _)) HB4.out)) hown hgrow
                  have hc1 := hv1.cell
                  have hf1 := hv1.frozen
                  refine hK _ _ ?_
                  clear hK K
                  refine wpAnyIn_ready (rs := [7]) (by kernel_rfl) (by simp) ?_
                  refine AllReadyIn.cons rfl (fun K hK => ?_) ?_
                  · go_simp
                    refine hK _ _ ?_
                    clear hK K
                    refine wpAnyIn_done (by kernel_rfl) ?_ _
                    gi_wp2; exact blk_body HB HN HA HW HZ HB4 hv2 hr2 hk2 hb2 hh2
                  exact AllReadyIn.nil
                exact AllReadyIn.nil
              exact AllReadyIn.nil
            exact AllReadyIn.nil
          exact AllReadyIn.nil
        refine AllReadyIn.cons rfl (fun K hK => ?_) ?_
        · go_simp
          refine hK _ _ ?_
          clear hK K
          refine wpAnyIn_ready (rs := [2]) (by kernel_rfl) (by simp) ?_
          refine AllReadyIn.cons rfl (fun K hK => ?_) ?_
          · go_simp
            refine hK _ _ ?_
            clear hK K
            refine wpAnyIn_ready (rs := [4]) (by kernel_rfl) (by simp) ?_
            refine AllReadyIn.cons rfl (fun K hK => ?_) ?_
            · go_simp
              refine ⟨trivial, ?_⟩
              refine (CallsIn.inRound l (callsIn_wide.2 (HI.out x.1 x.2 _))).mono ?_
              rintro e w4 ⟨rfl, hb⟩
              have HB4 := Lib.hid hb
              clear hb n0 n1 n2 n3 nl a0 al o0 ol
              have o0 : w4.cell? ⟨ob, 0, none⟩ = some v := hp_cell (hp_below (hp_dw HV.out) HB4.out) 0
              have ol : ob < w4.heap.size := hp_lt (hp_below (hp_dw HV.out) HB4.out)
              dsimp only
              refine hK _ _ ?_
              clear hK K
              refine wpAnyIn_ready (rs := [5]) (by kernel_rfl) (by simp) ?_
              refine AllReadyIn.cons rfl (fun K hK => ?_) ?_
              · go_simp
                refine hK _ _ ?_
                clear hK K
                refine wpAnyIn_ready (rs := [6]) (by kernel_rfl) (by simp) ?_
                refine AllReadyIn.cons rfl (fun K hK => ?_) ?_
                · refine opIn_append_own _ rfl _ _ 25 rfl W0.heap.size 64 i0 _ 3 24 Try.underlying25 hi hz0 hz1 hz2 rfl (by decide) v pre.length (insC (pre.map (fun x => F x.1))) rfl ((own_below HR.out (Below.trans (Below.drew (Below.refl _ _)) HB4.out)).alloc _) ⟨w4.heap.size, 0, none⟩ 1 1 (inC (F x.1)) rfl rfl (inC_cells (heap_alloc_new _ _)) (inC_one _) (by have := HLT.out; unfold maxLen; omega) (by have := HLT.out; omega) (by have h1 := HW.out; have h2 := HB4.out.size; simp; exact Nat.le_trans h1 (Nat.le_succ_of_le h2)) ?_
                  intro v5 w5 hown hgrow
                  obtain ⟨g', cap', rfl⟩ := ownsRow_succ hown
                  obtain ⟨hv1, hv2, hr2, hk2, hb2, hh2⟩ := boxed_app (hp_below (hp_dw HV.out) HB4.out) (by decide) (own_below HR.out (Below.trans (Below.drew (Below.refl _ _)) HB4.out)) hown hgrow
                  have hc1 := hv1.cell
                  have hf1 := hv1.frozen
                  refine hK _ _ ?_
                  clear hK K
                  refine wpAnyIn_ready (rs := [7]) (by kernel_rfl) (by simp) ?_
                  refine AllReadyIn.cons rfl (fun K hK => ?_) ?_
                  · go_simp
                    refine hK _ _ ?_
                    clear hK K
                    refine wpAnyIn_done (by kernel_rfl) ?_ _
                    gi_wp2; exact blk_body HB HN HA HW HZ HB4 hv2 hr2 hk2 hb2 hh2
                  exact AllReadyIn.nil
                exact AllReadyIn.nil
              exact AllReadyIn.nil
            exact AllReadyIn.nil
          exact AllReadyIn.nil
        exact AllReadyIn.nil
      refine AllReadyIn.cons rfl (fun K hK => ?_) ?_
      · go_simp
        refine hK _ _ ?_
        clear hK K
        refine wpAnyIn_ready (rs := [1, 3]) (by kernel_rfl) (by simp) ?_
        refine AllReadyIn.cons rfl (fun K hK => ?_) ?_
        · go_simp
          refine hK _ _ ?_
          clear hK K
          refine wpAnyIn_ready (rs := [3]) (by kernel_rfl) (by simp) ?_
          refine AllReadyIn.cons rfl (fun K hK => ?_) ?_
          · go_simp
            refine hK _ _ ?_
            clear hK K
            refine wpAnyIn_ready (rs := [4]) (by kernel_rfl) (by simp) ?_
            refine AllReadyIn.cons rfl (fun K hK => ?_) ?_
            · go_simp
              refine ⟨trivial, ?_⟩
              refine (CallsIn.inRound l (callsIn_wide.2 (HI.out x.1 x.2 _))).mono ?_
              rintro e w4 ⟨rfl, hb⟩
              have HB4 := Lib.hid hb
              clear hb n0 n1 n2 n3 nl a0 al o0 ol
              have o0 : w4.cell? ⟨ob, 0, none⟩ = some v := hp_cell (hp_below (hp_dw HV.out) HB4.out) 0
              have ol : ob < w4.heap.size := hp_lt (hp_below (hp_dw HV.out) HB4.out)
              dsimp only
              refine hK _ _ ?_
              clear hK K
              refine wpAnyIn_ready (rs := [5]) (by kernel_rfl) (by simp) ?_
              refine AllReadyIn.cons rfl (fun K hK => ?_) ?_
              · go_simp
                refine hK _ _ ?_
                clear hK K
                refine wpAnyIn_ready (rs := [6]) (by kernel_rfl) (by simp) ?_
                refine AllReadyIn.cons rfl (fun K hK => ?_) ?_
                · refine opIn_append_own _ rfl _ _ 25 rfl W0.heap.size 64 i0 _ 3 24 Try.underlying25 hi hz0 hz1 hz2 rfl (by decide) v pre.length (insC (pre.map (fun x => F x.1))) rfl ((own_below HR.out (Below.trans (Below.drew (Below.refl _ _)) HB4.out)).alloc _) ⟨w4.heap.size, 0, none⟩ 1 1 (inC (F x.1)) rfl rfl (inC_cells (heap_alloc_new _ _)) (inC_one _) (by have := HLT.out; unfold maxLen; omega) (by have := HLT.out; omega) (by have h1 := HW.out; have h2 := HB4.out.size; simp; exact Nat.le_trans h1 (Nat.le_succ_of_le h2)) ?_
                  intro v5 w5 hown hgrow
                  obtain ⟨g', cap', rfl⟩ := ownsRow_succ hown
                  obtain ⟨hv1, hv2, hr2, hk2, hb2, hh2⟩ := boxed_app (hp_below (hp_dw HV.out) HB4.out) (by decide) (own_below HR.out (Below.trans (Below.drew (Below.refl _ _)) HB4.out)) hown hgrow
                  have hc1 := hv1.cell
                  have hf1 := hv1.frozen
                  refine hK _ _ ?_
                  clear hK K
                  refine wpAnyIn_ready (rs := [7]) (by kernel_rfl) (by simp) ?_
                  refine AllReadyIn.cons rfl (fun K hK => ?_) ?_
                  · go_simp
                    refine hK _ _ ?_
                    clear hK K
                    refine wpAnyIn_done (by kernel_rfl) ?_ _
                    gi_wp2; exact blk_body HB HN HA HW HZ HB4 hv2 hr2 hk2 hb2 hh2
                  exact AllReadyIn.nil
                exact AllReadyIn.nil
              exact AllReadyIn.nil
            exact AllReadyIn.nil
          exact AllReadyIn.nil
        refine AllReadyIn.cons rfl (fun K hK => ?_) ?_
        · go_simp
          refine hK _ _ ?_
          clear hK K
          refine wpAnyIn_ready (rs := [1]) (by kernel_rfl) (by simp) ?_
          refine AllReadyIn.cons rfl (fun K hK => ?_) ?_
          · go_simp
            refine hK _ _ ?_
            clear hK K
            refine wpAnyIn_ready (rs := [4]) (by kernel_rfl) (by simp) ?_
            refine AllReadyIn.cons rfl (fun K hK => ?_) ?_
            · go_simp
              refine ⟨trivial, ?_⟩
              refine (CallsIn.inRound l (callsIn_wide.2 (HI.out x.1 x.2 _))).mono ?_
              rintro e w4 ⟨rfl, hb⟩
              have HB4 := Lib.hid hb
              clear hb n0 n1 n2 n3 nl a0 al o0 ol
              have o0 : w4.cell? ⟨ob, 0, none⟩ = some v := hp_cell (hp_below (hp_dw HV.out) HB4.out) 0
              have ol : ob < w4.heap.size := hp_lt (hp_below (hp_dw HV.out) HB4.out)
              dsimp only
              refine hK _ _ ?_
              clear hK K
              refine wpAnyIn_ready (rs := [5]) (by kernel_rfl) (by simp) ?_
              refine AllReadyIn.cons rfl (fun K hK => ?_) ?_
              · go_simp
                refine hK _ _ ?_
                clear hK K
                refine wpAnyIn_ready (rs := [6]) (by kernel_rfl) (by simp) ?_
                refine AllReadyIn.cons rfl (fun K hK => ?_) ?_
                · refine opIn_append_own _ rfl _ _ 25 rfl W0.heap.size 64 i0 _ 3 24 Try.underlying25 hi hz0 hz1 hz2 rfl (by decide) v pre.length (insC (pre.map (fun x => F x.1))) rfl ((own_below HR.out (Below.trans (Below.drew (Below.refl _ _)) HB4.out)).alloc _) ⟨w4.heap.size, 0, none⟩ 1 1 (inC (F x.1)) rfl rfl (inC_cells (heap_alloc_new _ _)) (inC_one _) (by have := HLT.out; unfold maxLen; omega) (by have := HLT.out; omega) (by have h1 := HW.out; have h2 := HB4.out.size; simp; exact Nat.le_trans h1 (Nat.le_succ_of_le h2)) ?_
                  intro v5 w5 hown hgrow
                  obtain ⟨g', cap', rfl⟩ := ownsRow_succ hown
                  obtain ⟨hv1, hv2, hr2, hk2, hb2, hh2⟩ := boxed_app (hp_below (hp_dw HV.out) HB4.out) (by decide) (own_below HR.out (Below.trans (Below.drew (Below.refl _ _)) HB4.out)) hown hgrow
                  have hc1 := hv1.cell
                  have hf1 := hv1.frozen
                  refine hK _ _ ?_
                  clear hK K
                  refine wpAnyIn_ready (rs := [7]) (by kernel_rfl) (by simp) ?_
                  refine AllReadyIn.cons rfl (fun K hK => ?_) ?_
                  · go_simp
                    refine hK _ _ ?_
                    clear hK K
                    refine wpAnyIn_done (by kernel_rfl) ?_ _
                    gi_wp2; exact blk_body HB HN HA HW HZ HB4 hv2 hr2 hk2 hb2 hh2
                  exact AllReadyIn.nil
                exact AllReadyIn.nil
              exact AllReadyIn.nil
            exact AllReadyIn.nil
          exact AllReadyIn.nil
        exact AllReadyIn.nil
      refine AllReadyIn.cons rfl (fun K hK => ?_) ?_
      · go_simp
        refine hK _ _ ?_
        clear hK K
        refine wpAnyIn_ready (rs := [1, 2]) (by kernel_rfl) (by simp) ?_
        refine AllReadyIn.cons rfl (fun K hK => ?_) ?_
        · go_simp
          refine hK _ _ ?_
          clear hK K
          refine wpAnyIn_ready (rs := [2]) (by kernel_rfl) (by simp) ?_
          refine AllReadyIn.cons rfl (fun K hK => ?_) ?_
          · go_simp
            refine hK _ _ ?_
            clear hK K
            refine wpAnyIn_ready (rs := [4]) (by kernel_rfl) (by simp) ?_
            refine AllReadyIn.cons rfl (fun K hK => ?_) ?_
            · go_simp
              refine ⟨trivial, ?_⟩
              refine (CallsIn.inRound l (callsIn_wide.2 (HI.out x.1 x.2 _))).mono ?_
              rintro e w4 ⟨rfl, hb⟩
              have HB4 := Lib.hid hb
              clear hb n0 n1 n2 n3 nl a0 al o0 ol
              have o0 : w4.cell? ⟨ob, 0, none⟩ = some v := hp_cell (hp_below (hp_dw HV.out) HB4.out) 0
              have ol : ob < w4.heap.size := hp_lt (hp_below (hp_dw HV.out) HB4.out)
              dsimp only
              refine hK _ _ ?_
              clear hK K
              refine wpAnyIn_ready (rs := [5]) (by kernel_rfl) (by simp) ?_
              refine AllReadyIn.cons rfl (fun K hK => ?_) ?_
              · go_simp
                refine hK _ _ ?_
                clear hK K
                refine wpAnyIn_ready (rs := [6]) (by kernel_rfl) (by simp) ?_
                refine AllReadyIn.cons rfl (fun K hK => ?_) ?_
                · refine opIn_append_own _ rfl _ _ 25 rfl W0.heap.size 64 i0 _ 3 24 Try.underlying25 hi hz0 hz1 hz2 rfl (by decide) v pre.length (insC (pre.map (fun x => F x.1))) rfl ((own_below HR.out (Below.trans (Below.drew (Below.refl _ _)) HB4.out)).alloc _) ⟨w4.heap.size, 0, none⟩ 1 1 (inC (F x.1)) rfl rfl (inC_cells (heap_alloc_new _ _)) (inC_one _) (by have := HLT.out; unfold maxLen; omega) (by have := HLT.out; omega) (by have h1 := HW.out; have h2 := HB4.out.size; simp; exact Nat.le_trans h1 (Nat.le_succ_of_le h2)) ?_
                  intro v5 w5 hown hgrow
                  obtain ⟨g', cap', rfl⟩ := ownsRow_succ hown
                  obtain ⟨hv1, hv2, hr2, hk2, hb2, hh2⟩ := boxed_app (hp_below (hp_dw HV.out) HB4.out) (by decide) (own_below HR.out (Below.trans (Below.drew (Below.refl _ _)) HB4.out)) hown hgrow
                  have hc1 := hv1.cell
                  have hf1 := hv1.frozen
                  refine hK _ _ ?_
                  clear hK K
                  refine wpAnyIn_ready (rs := [7]) (by kernel_rfl) (by simp) ?_
                  refine AllReadyIn.cons rfl (fun K hK => ?_) ?_
                  · go_simp
                    refine hK _ _ ?_
                    clear hK K
                    refine wpAnyIn_done (by kernel_rfl) ?_ _
                    gi_wp2; exact blk_body HB HN HA HW HZ HB4 hv2 hr2 hk2 hb2 hh2
                  exact AllReadyIn.nil
                exact AllReadyIn.nil
              exact AllReadyIn.nil
            exact AllReadyIn.nil
          exact AllReadyIn.nil
        refine AllReadyIn.cons rfl (fun K hK => ?_) ?_
        · go_simp
          refine hK _ _ ?_
          clear hK K
          refine wpAnyIn_ready (rs := [1]) (by kernel_rfl) (by simp) ?_
          refine AllReadyIn.cons rfl (fun K hK => ?_) ?_
          · go_simp
            refine hK _ _ ?_
            clear hK K
            refine wpAnyIn_ready (rs := [4]) (by kernel_rfl) (by simp) ?_
            refine AllReadyIn.cons rfl (fun K hK => ?_) ?_
            · go_simp
              refine ⟨trivial, ?_⟩
              refine (CallsIn.inRound l (callsIn_wide.2 (HI.out x.1 x.2 _))).mono ?_
              rintro e w4 ⟨rfl, hb⟩
              have HB4 := Lib.hid hb
              clear hb n0 n1 n2 n3 nl a0 al o0 ol
              have o0 : w4.cell? ⟨ob, 0, none⟩ = some v := hp_cell (hp_below (hp_dw HV.out) HB4.out) 0
              have ol : ob < w4.heap.size := hp_lt (hp_below (hp_dw HV.out) HB4.out)
              dsimp only
              refine hK _ _ ?_
              clear hK K
              refine wpAnyIn_ready (rs := [5]) (by kernel_rfl) (by simp) ?_
              refine AllReadyIn.cons rfl (fun K hK => ?_) ?_
              · go_simp
                refine hK _ _ ?_
                clear hK K
                refine wpAnyIn_ready (rs := [6]) (by kernel_rfl) (by simp) ?_
                refine AllReadyIn.cons rfl (fun K hK => ?_) ?_
                · refine opIn_append_own _ rfl _ _ 25 rfl W0.heap.size 64 i0 _ 3 24 Try.underlying25 hi hz0 hz1 hz2 rfl (by decide) v pre.length (insC (pre.map (fun x => F x.1))) rfl ((own_below HR.out (Below.trans (Below.drew (Below.refl _ _)) HB4.out)).alloc _) ⟨w4.heap.size, 0, none⟩ 1 1 (inC (F x.1)) rfl rfl (inC_cells (heap_alloc_new _ _)) (inC_one _) (by have := HLT.out; unfold maxLen; omega) (by have := HLT.out; omega) (by have h1 := HW.out; have h2 := HB4.out.size; simp; exact Nat.le_trans h1 (Nat.le_succ_of_le h2)) ?_
                  intro v5 w5 hown hgrow
                  obtain ⟨g', cap', rfl⟩ := ownsRow_succ hown
                  obtain ⟨hv1, hv2, hr2, hk2, hb2, hh2⟩ := boxed_app (hp_below (hp_dw HV.out) HB4.out) (by decide) (own_below HR.out (Below.trans (Below.drew (Below.refl _ _)) HB4.out)) hown hgrow
                  have hc1 := hv1.cell
                  have hf1 := hv1.frozen
                  refine hK _ _ ?_
                  clear hK K
                  refine wpAnyIn_ready (rs := [7]) (by kernel_rfl) (by simp) ?_
                  refine AllReadyIn.cons rfl (fun K hK => ?_) ?_
                  · go_simp
                    refine hK _ _ ?_
                    clear hK K
                    refine wpAnyIn_done (by kernel_rfl) ?_ _
                    gi_wp2; exact blk_body HB HN HA HW HZ HB4 hv2 hr2 hk2 hb2 hh2
                  exact AllReadyIn.nil
                exact AllReadyIn.nil
              exact AllReadyIn.nil
            exact AllReadyIn.nil
          exact AllReadyIn.nil
        exact AllReadyIn.nil
      exact AllReadyIn.nil
    refine AllReadyIn.cons rfl (fun K hK => ?_) ?_
    · go_simp
      refine hK _ _ ?_
      clear hK K
      refine wpAnyIn_ready (rs := [0, 2, 3]) (by kernel_rfl) (by simp) ?_
      refine AllReadyIn.cons rfl (fun K hK => ?_) ?_
      · go_simp
        refine hK _ _ ?_
        clear hK K
        refine wpAnyIn_ready (rs := [2, 3]) (by kernel_rfl) (by simp) ?_
        refine AllReadyIn.cons rfl (fun K hK => ?_) ?_
        · go_simp
          refine hK _ _ ?_
          clear hK K
          refine wpAnyIn_ready (rs := [3]) (by kernel_rfl) (by simp) ?_
          refine AllReadyIn.cons rfl (fun K hK => ?_) ?_
          · go_simp
            refine hK _ _ ?_
            clear hK K
            refine wpAnyIn_ready (rs := [4]) (by kernel_rfl) (by simp) ?_
            refine AllReadyIn.cons rfl (fun K hK => ?_) ?_
            · go_simp
              refine ⟨trivial, ?_⟩
              refine (CallsIn.inRound l (callsIn_wide.2 (HI.out x.1 x.2 _))).mono ?_
              rintro e w4 ⟨rfl, hb⟩
              have HB4 := Lib.hid hb
              clear hb n0 n1 n2 n3 nl a0 al o0 ol
              have o0 : w4.cell? ⟨ob, 0, none⟩ = some v := hp_cell (hp_below (hp_dw HV.out) HB4.out) 0
              have ol : ob < w4.heap.size := hp_lt (hp_below (hp_dw HV.out) HB4.out)
              dsimp only
              refine hK _ _ ?_
              clear hK K
              refine wpAnyIn_ready (rs := [5]) (by kernel_rfl) (by simp) ?_
              refine AllReadyIn.cons rfl (fun K hK => ?_) ?_
              · go_simp
                refine hK _ _ ?_
                clear hK K
                refine wpAnyIn_ready (rs := [6]) (by kernel_rfl) (by simp) ?_
                refine AllReadyIn.cons rfl (fun K hK => ?_) ?_
                · refine opIn_append_own _ rfl _ _ 25 rfl W0.heap.size 64 i0 _ 3 24 Try.underlying25 hi hz0 hz1 hz2 rfl (by decide) v pre.length (insC (pre.map (fun x => F x.1))) rfl ((own_below HR.out (Below.trans (Below.drew (Below.refl _ _)) HB4.out)).alloc _) ⟨w4.heap.size, 0, none⟩ 1 1 (inC (F x.1)) rfl rfl (inC_cells (heap_alloc_new _ _)) (inC_one _) (by have := HLT.out; unfold maxLen; omega) (by have := HLT.out; omega) (by have h1 := HW.out; have h2 := HB4.out.size; simp; exact Nat.le_trans h1 (Nat.le_succ_of_le h2)) ?_
                  intro v5 w5 hown hgrow
                  obtain ⟨g', cap', rfl⟩ := ownsRow_succ hown
                  obtain ⟨hv1, hv2, hr2, hk2, hb2, hh2⟩ := boxed_app (hp_below (hp_dw HV.out) HB4.out) (by decide) (own_below HR.out (Below.trans (Below.drew (Below.refl _ _)) HB4.out)) hown hgrow
                  have hc1 := hv1.cell
                  have hf1 := hv1.frozen
                  refine hK _ _ ?_
                  clear hK K
                  refine wpAnyIn_ready (rs := [7]) (by kernel_rfl) (by simp) ?_
                  refine AllReadyIn.cons rfl (fun K hK => ?_) ?_
                  · go_simp
                    refine hK _ _ ?_
                    clear hK K
                    refine wpAnyIn_done (by kernel_rfl) ?_ _
                    gi_wp2; exact blk_body HB HN HA HW HZ HB4 hv2 hr2 hk2 hb2 hh2
                  exact AllReadyIn.nil
                exact AllReadyIn.nil
              exact AllReadyIn.nil
            exact AllReadyIn.nil
          exact AllReadyIn.nil
        refine AllReadyIn.cons rfl (fun K hK => ?_) ?_
        · go_simp
          refine hK _ _ ?_
          clear hK K
          refine wpAnyIn_ready (rs := [2]) (by kernel_rfl) (by simp) ?_
          refine AllReadyIn.cons rfl (fun K hK => ?_) ?_
          · go_simp
            refine hK _ _ ?_
            clear hK K
            refine wpAnyIn_ready (rs := [4]) (by kernel_rfl) (by simp) ?_
            refine AllReadyIn.cons rfl (fun K hK => ?_) ?_
            · go_simp
              refine ⟨trivial, ?_⟩
              refine (CallsIn.inRound l (callsIn_wide.2 (HI.out x.1 x.2 _))).mono ?_
              rintro e w4 ⟨rfl, hb⟩
              have HB4 := Lib.hid hb
              clear hb n0 n1 n2 n3 nl a0 al o0 ol
              have o0 : w4.cell? ⟨ob, 0, none⟩ = some v := hp_cell (hp_below (hp_dw HV.out) HB4.out) 0
              have ol : ob < w4.heap.size := hp_lt (hp_below (hp_dw HV.out) HB4.out)
              dsimp only
              refine hK _ _ ?_
              clear hK K
              refine wpAnyIn_ready (rs := [5]) (by kernel_rfl) (by simp) ?_
              refine AllReadyIn.cons rfl (fun K hK => ?_) ?_
              · go_simp
                refine hK _ _ ?_
                clear hK K
                refine wpAnyIn_ready (rs := [6]) (by kernel_rfl) (by simp) ?_
                refine AllReadyIn.cons rfl (fun K hK => ?_) ?_
                · refine opIn_append_own _ rfl _ _ 25 rfl W0.heap.size 64 i0 _ 3 24 Try.underlying25 hi hz0 hz1 hz2 rfl (by decide) v pre.length (insC (pre.map (fun x => F x.1))) rfl ((own_below HR.out (Below.trans (Below.drew (Below.refl _ _)) HB4.out)).alloc _) ⟨w4.heap.size, 0, none⟩ 1 1 (inC (F x.1)) rfl rfl (inC_cells (heap_alloc_new _ _)) (inC_one _) (by have := HLT.out; unfold maxLen; omega) (by have := HLT.out; omega) (by have h1 := HW.out; have h2 := HB4.out.size; simp; exact Nat.le_trans h1 (Nat.le_succ_of_le h2)) ?_
                  intro v5 w5 hown hgrow
                  obtain ⟨g', cap', rfl⟩ := ownsRow_succ hown
                  obtain ⟨hv1, hv2, hr2, hk2, hb2, hh2⟩ := boxed_app (hp_below (hp_dw HV.out) HB4.out) (by decide) (own_below HR.out (Below.trans (Below.drew (Below.refl _ _)) HB4.out)) hown hgrow
                  have hc1 := hv1.cell
                  have hf1 := hv1.frozen
                  refine hK _ _ ?_
                  clear hK K
                  refine wpAnyIn_ready (rs := [7]) (by kernel_rfl) (by simp) ?_
                  refine AllReadyIn.cons rfl (fun K hK => ?_) ?_
                  · go_simp
                    refine hK _ _ ?_
                    clear hK K
                    refine wpAnyIn_done (by kernel_rfl) ?_ _
                    gi_wp2; exact blk_body HB HN HA HW HZ HB4 hv2 hr2 hk2 hb2 hh2
                  exact AllReadyIn.nil
                exact AllReadyIn.nil
              exact AllReadyIn.nil
            exact AllReadyIn.nil
          exact AllReadyIn.nil
        exact AllReadyIn.nil
      refine AllReadyIn.cons rfl (fun K hK => ?_) ?_
      · go_simp
        refine hK _ _ ?_
        clear hK K
        refine wpAnyIn_ready (rs := [0, 3]) (by kernel_rfl) (by simp) ?_
        refine AllReadyIn.cons rfl (fun K hK => ?_) ?_
        · go_simp
          refine hK _ _ ?_
          clear hK K
          refine wpAnyIn_ready (rs := [3]) (by kernel_rfl) (by simp) ?_
          refine AllReadyIn.cons rfl (fun K hK => ?_) ?_
          · go_simp
            refine hK _ _ ?_
            clear hK K
            refine wpAnyIn_ready (rs := [4]) (by kernel_rfl) (by simp) ?_
            refine AllReadyIn.cons rfl (fun K hK => ?_) ?_
            · go_simp
              refine ⟨trivial, ?_⟩
              refine (CallsIn.inRound l (callsIn_wide.2 (HI.out x.1 x.2 _))).mono ?_
              rintro e w4 ⟨rfl, hb⟩
              have HB4 := Lib.hid hb
              clear hb n0 n1 n2 n3 nl a0 al o0 ol
              have o0 : w4.cell? ⟨ob, 0, none⟩ = some v := hp_cell (hp_below (hp_dw HV.out) HB4.out) 0
              have ol : ob < w4.heap.size := hp_lt (hp_below (hp_dw HV.out) HB4.out)
              dsimp only
              refine hK _ _ ?_
              clear hK K
              refine wpAnyIn_ready (rs := [5]) (by kernel_rfl) (by simp) ?_
              refine AllReadyIn.cons rfl (fun K hK => ?_) ?_
              · go_simp
                refine hK _ _ ?_
                clear hK K
                refine wpAnyIn_ready (rs := [6]) (by kernel_rfl) (by simp) ?_
                refine AllReadyIn.cons rfl (fun K hK => ?_) ?_
                · refine opIn_append_own _ rfl _ _ 25 rfl W0.heap.size 64 i0 _ 3 24 Try.underlying25 hi hz0 hz1 hz2 rfl (by decide) v pre.length (insC (pre.map (fun x => F x.1))) rfl ((own_below HR.out (Below.trans (Below.drew (Below.refl _ _)) HB4.out)).alloc _) ⟨w4.heap.size, 0, none⟩ 1 1 (inC (F x.1)) rfl rfl (inC_cells (heap_alloc_new _ _)) (inC_one _) (by have := HLT.out; unfold maxLen; omega) (by have := HLT.out; omega) (by have h1 := HW.out; have h2 := HB4.out.size; simp; exact Nat.le_trans h1 (Nat.le_succ_of_le h2)) ?_
                  intro v5 w5 hown hgrow
                  obtain ⟨g', cap', rfl⟩ := ownsRow_succ hown
                  obtain ⟨hv1, hv2, hr2, hk2, hb2, hh2⟩ := boxed_app (hp_below (hp_dw HV.out) HB4.out) (by decide) (own_below HR.out (Below.trans (Below.drew (Below.refl _ _)) HB4.out)) hown hgrow
                  have hc1 := hv1.cell
                  have hf1 := hv1.frozen
                  refine hK _ _ ?_
                  clear hK K
                  refine wpAnyIn_ready (rs := [7]) (by kernel_rfl) (by simp) ?_
                  refine AllReadyIn.cons rfl (fun K hK => ?_) ?_
                  · go_simp
                    refine hK _ _ ?_
                    clear hK K
                    refine wpAnyIn_done (by kernel_rfl) ?_ _
                    gi_wp2; exact blk_body HB HN HA HW HZ HB4 hv2 hr2 hk2 hb2 hh2
                  exact AllReadyIn.nil
                exact AllReadyIn.nil
              exact AllReadyIn.nil
            exact AllReadyIn.nil
          exact AllReadyIn.nil
        refine AllReadyIn.cons rfl (fun K hK => ?_) ?_
        · go_simp
          refine hK _ _ ?_
          clear hK K
          refine wpAnyIn_ready (rs := [0, 4]) (by kernel_rfl) (by simp) ?_
          refine AllReadyIn.cons rfl (fun K hK => ?_) ?_
          · go_simp
            refine hK _ _ ?_
            clear hK K
            refine wpAnyIn_ready (rs := [4]) (by kernel_rfl) (by simp) ?_
            refine AllReadyIn.cons rfl (fun K hK => ?_) ?_
            · go_simp
              refine ⟨trivial, ?_⟩
              refine (CallsIn.inRound l (callsIn_wide.2 (HI.out x.1 x.2 _))).mono ?_
              rintro e w4 ⟨rfl, hb⟩
              have HB4 := Lib.hid hb
              clear hb n0 n1 n2 n3 nl a0 al o0 ol
              have o0 : w4.cell? ⟨ob, 0, none⟩ = some v := hp_cell (hp_below (hp_dw HV.out) HB4.out) 0
              have ol : ob < w4.heap.size := hp_lt (hp_below (hp_dw HV.out) HB4.out)
              dsimp only
              refine hK _ _ ?_
              clear hK K
              refine wpAnyIn_ready (rs := [5]) (by kernel_rfl) (by simp) ?_
              refine AllReadyIn.cons rfl (fun K hK => ?_) ?_
              · go_simp
                refine hK _ _ ?_
                clear hK K
                refine wpAnyIn_ready (rs := [6]) (by kernel_rfl) (by simp) ?_
                refine AllReadyIn.cons rfl (fun K hK => ?_) ?_
                · refine opIn_append_own _ rfl _ _ 25 rfl W0.heap.size 64 i0 _ 3 24 Try.underlying25 hi hz0 hz1 hz2 rfl (by decide) v pre.length (insC (pre.map (fun x => F x.1))) rfl ((own_below HR.out (Below.trans (Below.drew (Below.refl _ _)) HB4.out)).alloc _) ⟨w4.heap.size, 0, none⟩ 1 1 (inC (F x.1)) rfl rfl (inC_cells (heap_alloc_new _ _)) (inC_one _) (by have := HLT.out; unfold maxLen; omega) (by have := HLT.out; omega) (by have h1 := HW.out; have h2 := HB4.out.size; simp; exact Nat.le_trans h1 (Nat.le_succ_of_le h2)) ?_
                  intro v5 w5 hown hgrow
                  obtain ⟨g', cap', rfl⟩ := ownsRow_succ hown
                  obtain ⟨hv1, hv2, hr2, hk2, hb2, hh2⟩ := boxed_app (hp_below (hp_dw HV.out) HB4.out) (by decide) (own_below HR.out (Below.trans (Below.drew (Below.refl _ _)) HB4.out)) hown hgrow
                  have hc1 := hv1.cell
                  have hf1 := hv1.frozen
                  refine hK _ _ ?_
                  clear hK K
                  refine wpAnyIn_ready (rs := [7]) (by kernel_rfl) (by simp) ?_
                  refine AllReadyIn.cons rfl (fun K hK => ?_) ?_
                  · go_simp
                    refine hK _ _ ?_
                    clear hK K
                    refine wpAnyIn_done (by kernel_rfl) ?_ _
                    gi_wp2; exact blk_body HB HN HA HW HZ HB4 hv2 hr2 hk2 hb2 hh2
                  exact AllReadyIn.nil
                exact AllReadyIn.nil
              exact AllReadyIn.nil
            exact AllReadyIn.nil
          refine AllReadyIn.cons rfl (fun K hK => ?_) ?_
          · go_simp
            refine ⟨trivial, ?_⟩
            refine (CallsIn.inRound l (callsIn_wide.2 (HI.out x.1 x.2 _))).mono ?_
            rintro e w4 ⟨rfl, hb⟩
            have HB4 := Lib.hid hb
            clear hb n0 n1 n2 n3 nl a0 al o0 ol
            have o0 : w4.cell? ⟨ob, 0, none⟩ = some v := hp_cell (hp_below (hp_dw HV.out) HB4.out) 0
            have ol : ob < w4.heap.size := hp_lt (hp_below (hp_dw HV.out) HB4.out)
            dsimp only
            refine hK _ _ ?_
            clear hK K
            refine wpAnyIn_ready (rs := [0, 5]) (by kernel_rfl) (by simp) ?_
            refine AllReadyIn.cons rfl (fun K hK => ?_) ?_
            · go_simp
              refine hK _ _ ?_
              clear hK K
              refine wpAnyIn_ready (rs := [5]) (by kernel_rfl) (by simp) ?_
              refine AllReadyIn.cons rfl (fun K hK => ?_) ?_
              · go_simp
                refine hK _ _ ?_
                clear hK K
                refine wpAnyIn_ready (rs := [6]) (by kernel_rfl) (by simp) ?_
                refine AllReadyIn.cons rfl (fun K hK => ?_) ?_
                · refine opIn_append_own _ rfl _ _ 25 rfl W0.heap.size 64 i0 _ 3 24 Try.underlying25 hi hz0 hz1 hz2 rfl (by decide) v pre.length (insC (pre.map (fun x => F x.1))) rfl ((own_below HR.out (Below.trans (Below.drew (Below.refl _ _)) HB4.out)).alloc _) ⟨w4.heap.size, 0, none⟩ 1 1 (inC (F x.1)) rfl rfl (inC_cells (heap_alloc_new _ _)) (inC_one _) (by have := HLT.out; unfold maxLen; omega) (by have := HLT.out; omega) (by have h1 := HW.out; have h2 := HB4.out.size; simp; exact Nat.le_trans h1 (Nat.le_succ_of_le h2)) ?_
                  intro v5 w5 hown hgrow
                  obtain ⟨g', cap', rfl⟩ := ownsRow_succ hown
                  obtain ⟨hv1, hv2, hr2, hk2, hb2, hh2⟩ := boxed_app (hp_below (hp_dw HV.out) HB4.out) (by decide) (own_below HR.out (Below.trans (Below.drew (Below.refl _ _)) HB4.out)) hown hgrow
                  have hc1 := hv1.cell
                  have hf1 := hv1.frozen
                  refine hK _ _ ?_
                  clear hK K
                  refine wpAnyIn_ready (rs := [7]) (by kernel_rfl) (by simp) ?_
                  refine AllReadyIn.cons rfl (fun K hK => ?_) ?_
                  · go_simp
                    refine hK _ _ ?_
                    clear hK K
                    refine wpAnyIn_done (by kernel_rfl) ?_ _
                    gi_wp2; exact blk_body HB HN HA HW HZ HB4 hv2 hr2 hk2 hb2 hh2
                  exact AllReadyIn.nil
                exact AllReadyIn.nil
              exact AllReadyIn.nil
            refine AllReadyIn.cons rfl (fun K hK => ?_) ?_
            · go_simp
              refine hK _ _ ?_
              clear hK K
              refine wpAnyIn_ready (rs := [0]) (by kernel_rfl) (by simp) ?_
              refine AllReadyIn.cons rfl (fun K hK => ?_) ?_
              · go_simp
                refine hK _ _ ?_
                clear hK K
                refine wpAnyIn_ready (rs := [6]) (by kernel_rfl) (by simp) ?_
                refine AllReadyIn.cons rfl (fun K hK => ?_) ?_
                · refine opIn_append_own _ rfl _ _ 25 rfl W0.heap.size 64 i0 _ 3 24 Try.underlying25 hi hz0 hz1 hz2 rfl (by decide) v pre.length (insC (pre.map (fun x => F x.1))) rfl ((own_below HR.out (Below.trans (Below.drew (Below.refl _ _)) HB4.out)).alloc _) ⟨w4.heap.size, 0, none⟩ 1 1 (inC (F x.1)) rfl rfl (inC_cells (heap_alloc_new _ _)) (inC_one _) (by have := HLT.out; unfold maxLen; omega) (by have := HLT.out; omega) (by have h1 := HW.out; have h2 := HB4.out.size; simp; exact Nat.le_trans h1 (Nat.le_succ_of_le h2)) ?_
                  intro v5 w5 hown hgrow
                  obtain ⟨g', cap', rfl⟩ := ownsRow_succ hown
                  obtain ⟨hv1, hv2, hr2, hk2, hb2, hh2⟩ := boxed_app (hp_below (hp_dw HV.out) HB4.out) (by decide) (own_below HR.out (Below.trans (Below.drew (Below.refl _ _)) HB4.out)) hown hgrow
                  have hc1 := hv1.cell
                  have hf1 := hv1.frozen
                  refine hK _ _ ?_
                  clear hK K
                  refine wpAnyIn_ready (rs := [7]) (by kernel_rfl) (by simp) ?_
                  refine AllReadyIn.cons rfl (fun K hK => ?_) ?_
                  · go_simp
                    refine hK _ _ ?_
                    clear hK K
                    refine wpAnyIn_done (by kernel_rfl) ?_ _
                    gi_wp2; exact blk_body HB HN HA HW HZ HB4 hv2 hr2 hk2 hb2 hh2
                  exact AllReadyIn.nil
                exact AllReadyIn.nil
              exact AllReadyIn.nil
            exact AllReadyIn.nil
          exact AllReadyIn.nil
        exact AllReadyIn.nil
      refine AllReadyIn.cons rfl (fun K hK => ?_) ?_
      · go_simp
        refine hK _ _ ?_
        clear hK K
        refine wpAnyIn_ready (rs := [0, 2]) (by kernel_rfl) (by simp) ?_
        refine AllReadyIn.cons rfl (fun K hK => ?_) ?_
        · go_simp
          refine hK _ _ ?_
          clear hK K
          refine wpAnyIn_ready (rs := [2]) (by kernel_rfl) (by simp) ?_
          refine AllReadyIn.cons rfl (fun K hK => ?_) ?_
          · go_simp
            refine hK _ _ ?_
            clear hK K
            refine wpAnyIn_ready (rs := [4]) (by kernel_rfl) (by simp) ?_
            refine AllReadyIn.cons rfl (fun K hK => ?_) ?_
            · go_simp
              refine ⟨trivial, ?_⟩
              refine (CallsIn.inRound l (callsIn_wide.2 (HI.out x.1 x.2 _))).mono ?_
              rintro e w4 ⟨rfl, hb⟩
              have HB4 := Lib.hid hb
              clear hb n0 n1 n2 n3 nl a0 al o0 ol
              have o0 : w4.cell? ⟨ob, 0, none⟩ = some v := hp_cell (hp_below (hp_dw HV.out) HB4.out) 0
              have ol : ob < w4.heap.size := hp_lt (hp_below (hp_dw HV.out) HB4.out)
              dsimp only
              refine hK _ _ ?_
              clear hK K
              refine wpAnyIn_ready (rs := [5]) (by kernel_rfl) (by simp) ?_
              refine AllReadyIn.cons rfl (fun K hK => ?_) ?_
              · go_simp
                refine hK _ _ ?_
                clear hK K
                refine wpAnyIn_ready (rs := [6]) (by kernel_rfl) (by simp) ?_
                refine AllReadyIn.cons rfl (fun K hK => ?_) ?_
                · refine opIn_append_own _ rfl _ _ 25 rfl W0.heap.size 64 i0 _ 3 24 Try.underlying25 hi hz0 hz1 hz2 rfl (by decide) v pre.length (insC (pre.map (fun x => F x.1))) rfl ((own_below HR.out (Below.trans (Below.drew (Below.refl _ _)) HB4.out)).alloc _) ⟨w4.heap.size, 0, none⟩ 1 1 (inC (F x.1)) rfl rfl (inC_cells (heap_alloc_new _ _)) (inC_one _) (by have := HLT.out; unfold maxLen; omega) (by have := HLT.out; omega) (by have h1 := HW.out; have h2 := HB4.out.size; simp; exact Nat.le_trans h1 (Nat.le_succ_of_le h2)) ?_
                  intro v5 w5 hown hgrow
                  obtain ⟨g', cap', rfl⟩ := ownsRow_succ hown
                  obtain ⟨hv1, hv2, hr2, hk2, hb2, hh2⟩ := boxed_app (hp_below (hp_dw HV.out) HB4.out) (by decide) (own_below HR.out (Below.trans (Below.drew (Below.refl _ _)) HB4.out)) hown hgrow
                  have hc1 := hv1.cell
                  have hf1 := hv1.frozen
                  refine hK _ _ ?_
                  clear hK K
                  refine wpAnyIn_ready (rs := [7]) (by kernel_rfl) (by simp) ?_
                  refine AllReadyIn.cons rfl (fun K hK => ?_) ?_
                  · go_simp
                    refine hK _ _ ?_
                    clear hK K
                    refine wpAnyIn_done (by kernel_rfl) ?_ _
                    gi_wp2; exact blk_body HB HN HA HW HZ HB4 hv2 hr2 hk2 hb2 hh2
                  exact AllReadyIn.nil
                exact AllReadyIn.nil
              exact AllReadyIn.nil
            exact AllReadyIn.nil
          exact AllReadyIn.nil
        refine AllReadyIn.cons rfl (fun K hK => ?_) ?_
        · go_simp
          refine hK _ _ ?_
          clear hK K
          refine wpAnyIn_ready (rs := [0, 4]) (by kernel_rfl) (by simp) ?_
          refine AllReadyIn.cons rfl (fun K hK => ?_) ?_
          · go_simp
            refine hK _ _ ?_
            clear hK K
            refine wpAnyIn_ready (rs := [4]) (by kernel_rfl) (by simp) ?_
            refine AllReadyIn.cons rfl (fun K hK => ?_) ?_
            · go_simp
              refine ⟨trivial, ?_⟩
              refine (CallsIn.inRound l (callsIn_wide.2 (HI.out x.1 x.2 _))).mono ?_
              rintro e w4 ⟨rfl, hb⟩
              have HB4 := Lib.hid hb
              clear hb n0 n1 n2 n3 nl a0 al o0 ol
              have o0 : w4.cell? ⟨ob, 0, none⟩ = some v := hp_cell (hp_below (hp_dw HV.out) HB4.out) 0
              have ol : ob < w4.heap.size := hp_lt (hp_below (hp_dw HV.out) HB4.out)
              dsimp only
              refine hK _ _ ?_
              clear hK K
              refine wpAnyIn_ready (rs := [5]) (by kernel_rfl) (by simp) ?_
              refine AllReadyIn.cons rfl (fun K hK => ?_) ?_
              · go_simp
                refine hK _ _ ?_
                clear hK K
                refine wpAnyIn_ready (rs := [6]) (by kernel_rfl) (by simp) ?_
                refine AllReadyIn.cons rfl (fun K hK => ?_) ?_
                · refine opIn_append_own _ rfl _ _ 25 rfl W0.heap.size 64 i0 _ 3 24 Try.underlying25 hi hz0 hz1 hz2 rfl (by decide) v pre.length (insC (pre.map (fun x => F x.1))) rfl ((own_below HR.out (Below.trans (Below.drew (Below.refl _ _)) HB4.out)).alloc _) ⟨w4.heap.size, 0, none⟩ 1 1 (inC (F x.1)) rfl rfl (inC_cells (heap_alloc_new _ _)) (inC_one _) (by have := HLT.out; unfold maxLen; omega) (by have := HLT.out; omega) (by have h1 := HW.out; have h2 := HB4.out.size; simp; exact Nat.le_trans h1 (Nat.le_succ_of_le h2)) ?_
                  intro v5 w5 hown hgrow
                  obtain ⟨g', cap', rfl⟩ := ownsRow_succ hown
                  obtain ⟨hv1, hv2, hr2, hk2, hb2, hh2⟩ := boxed_app (hp_below (hp_dw HV.out) HB4.out) (by decide) (own_below HR.out (Below.trans (Below.drew (Below.refl _ _)) HB4.out)) hown hgrow
                  have hc1 := hv1.cell
                  have hf1 := hv1.frozen
                  refine hK _ _ ?_
                  clear hK K
                  refine wpAnyIn_ready (rs := [7]) (by kernel_rfl) (by simp) ?_
                  refine AllReadyIn.cons rfl (fun K hK => ?_) ?_
                  · go_simp
                    refine hK _ _ ?_
                    clear hK K
                    refine wpAnyIn_done (by kernel_rfl) ?_ _
                    gi_wp2; exact blk_body HB HN HA HW HZ HB4 hv2 hr2 hk2 hb2 hh2
                  exact AllReadyIn.nil
                exact AllReadyIn.nil
              exact AllReadyIn.nil
            exact AllReadyIn.nil
          refine AllReadyIn.cons rfl (fun K hK => ?_) ?_
          · go_simp
            refine ⟨trivial, ?_⟩
            refine (CallsIn.inRound l (callsIn_wide.2 (HI.out x.1 x.2 _))).mono ?_
            rintro e w4 ⟨rfl, hb⟩
            have HB4 := Lib.hid hb
            clear hb n0 n1 n2 n3 nl a0 al o0 ol
            have o0 : w4.cell? ⟨ob, 0, none⟩ = some v := hp_cell (hp_below (hp_dw HV.out) HB4.out) 0
            have ol : ob < w4.heap.size := hp_lt (hp_below (hp_dw HV.out) HB4.out)
            dsimp only
            refine hK _ _ ?_
            clear hK K
            refine wpAnyIn_ready (rs := [0, 5]) (by kernel_rfl) (by simp) ?_
            refine AllReadyIn.cons rfl (fun K hK => ?_) ?_
            · go_simp
              refine hK _ _ ?_
              clear hK K
              refine wpAnyIn_ready (rs := [5]) (by kernel_rfl) (by simp) ?_
              refine AllReadyIn.cons rfl (fun K hK => ?_) ?_
              · go_simp
                refine hK _ _ ?_
                clear hK K
                refine wpAnyIn_ready (rs := [6]) (by kernel_rfl) (by simp) ?_
                refine AllReadyIn.cons rfl (fun K hK => ?_) ?_
                · refine opIn_append_own _ rfl _ _ 25 rfl W0.heap.size 64 i0 _ 3 24 Try.underlying25 hi hz0 hz1 hz2 rfl (by decide) v pre.length (insC (pre.map (fun x => F x.1))) rfl ((own_below HR.out (Below.trans (Below.drew (Below.refl _ _)) HB4.out)).alloc _) ⟨w4.heap.size, 0, none⟩ 1 1 (inC (F x.1)) rfl rfl (inC_cells (heap_alloc_new _ _)) (inC_one _) (by have := HLT.out; unfold maxLen; omega) (by have := HLT.out; omega) (by have h1 := HW.out; have h2 := HB4.out.size; simp; exact Nat.le_trans h1 (Nat.le_succ_of_le h2)) ?_
                  intro v5 w5 hown hgrow
                  obtain ⟨g', cap', rfl⟩ := ownsRow_succ hown
                  obtain ⟨hv1, hv2, hr2, hk2, hb2, hh2⟩ := boxed_app (hp_below (hp_dw HV.out) HB4.out) (by decide) (own_below HR.out (Below.trans (Below.drew (Below.refl _ _)) HB4.out)) hown hgrow
                  have hc1 := hv1.cell
                  have hf1 := hv1.frozen
                  refine hK _ _ ?_
                  clear hK K
                  refine wpAnyIn_ready (rs := [7]) (by kernel_rfl) (by simp) ?_
                  refine AllReadyIn.cons rfl (fun K hK => ?_) ?_
                  · go_simp
                    refine hK _ _ ?_
                    clear hK K
                    refine wpAnyIn_done (by kernel_rfl) ?_ _
                    gi_wp2; exact blk_body HB HN HA HW HZ HB4 hv2 hr2 hk2 hb2 hh2
                  exact AllReadyIn.nil
                exact AllReadyIn.nil
              exact AllReadyIn.nil
            refine AllReadyIn.cons rfl (fun K hK => ?_) ?_
            · go_simp
              refine hK _ _ ?_
              clear hK K
              refine wpAnyIn_ready (rs := [0]) (by kernel_rfl) (by simp) ?_
              refine AllReadyIn.cons rfl (fun K hK => ?_) ?_
              · go_simp
                refine hK _ _ ?_
                clear hK K
                refine wpAnyIn_ready (rs := [6]) (by kernel_rfl) (by simp) ?_
                refine AllReadyIn.cons rfl (fun K hK => ?_) ?_
                · refine opIn_append_own _ rfl _ _ 25 rfl W0.heap.size 64 i0 _ 3 24 Try.underlying25 hi hz0 hz1 hz2 rfl (by decide) v pre.length (insC (pre.map (fun x => F x.1))) rfl ((own_below HR.out (Below.trans (Below.drew (Below.refl _ _)) HB4.out)).alloc _) ⟨w4.heap.size, 0, none⟩ 1 1 (inC (F x.1)) rfl rfl (inC_cells (heap_alloc_new _ _)) (inC_one _) (by have := HLT.out; unfold maxLen; omega) (by have := HLT.out; omega) (by have h1 := HW.out; have h2 := HB4.out.size; simp; exact Nat.le_trans h1 (Nat.le_succ_of_le h2)) ?_
                  intro v5 w5 hown hgrow
                  obtain ⟨g', cap', rfl⟩ := ownsRow_succ hown
                  obtain ⟨hv1, hv2, hr2, hk2, hb2, hh2⟩ := boxed_app (hp_below (hp_dw HV.out) HB4.out) (by decide) (own_below HR.out (Below.trans (Below.drew (Below.refl _ _)) HB4.out)) hown hgrow
                  have hc1 := hv1.cell
                  have hf1 := hv1.frozen
                  refine hK _ _ ?_
                  clear hK K
                  refine wpAnyIn_ready (rs := [7]) (by kernel_rfl) (by simp) ?_
                  refine AllReadyIn.cons rfl (fun K hK => ?_) ?_
                  · go_simp
                    refine hK _ _ ?_
                    clear hK K
                    refine wpAnyIn_done (by kernel_rfl) ?_ _
                    gi_wp2; exact blk_body HB HN HA HW HZ HB4 hv2 hr2 hk2 hb2 hh2
                  exact AllReadyIn.nil
                exact AllReadyIn.nil
              exact AllReadyIn.nil
            exact AllReadyIn.nil
          exact AllReadyIn.nil
        exact AllReadyIn.nil
      exact AllReadyIn.nil
    refine AllReadyIn.cons rfl (fun K hK => ?_) ?_
    · go_simp
      refine hK _ _ ?_
      clear hK K
      refine wpAnyIn_ready (rs := [0, 1, 3]) (by kernel_rfl) (by simp) ?_
      refine AllReadyIn.cons rfl (fun K hK => ?_) ?_
      · go_simp
        refine hK _ _ ?_
        clear hK K
        refine wpAnyIn_ready (rs := [1, 3]) (by kernel_rfl) (by simp) ?_
        refine AllReadyIn.cons rfl (fun K hK => ?_) ?_
        · go_simp
          refine hK _ _ ?_
          clear hK K
          refine wpAnyIn_ready (rs := [3]) (by kernel_rfl) (by simp) ?_
          refine AllReadyIn.cons rfl (fun K hK => ?_) ?_
          · go_simp
            refine hK _ _ ?_
            clear hK K
            refine wpAnyIn_ready (rs := [4]) (by kernel_rfl) (by simp) ?_
            refine AllReadyIn.cons rfl (fun K hK => ?_) ?_
            · go_simp
              refine ⟨trivial, ?_⟩
              refine (CallsIn.inRound l (callsIn_wide.2 (HI.out x.1 x.2 _))).mono ?_
              rintro e w4 ⟨rfl, hb⟩
              have HB4 := Lib.hid hb
              clear hb n0 n1 n2 n3 nl a0 al o0 ol
              have o0 : w4.cell? ⟨ob, 0, none⟩ = some v := hp_cell (hp_below (hp_dw HV.out) HB4.out) 0
              have ol : ob < w4.heap.size := hp_lt (hp_below (hp_dw HV.out) HB4.out)
              dsimp only
              refine hK _ _ ?_
              clear hK K
              refine wpAnyIn_ready (rs := [5]) (by kernel_rfl) (by simp) ?_
              refine AllReadyIn.cons rfl (fun K hK => ?_) ?_
              · go_simp
                refine hK _ _ ?_
                clear hK K
                refine wpAnyIn_ready (rs := [6]) (by kernel_rfl) (by simp) ?_
                refine AllReadyIn.cons rfl (fun K hK => ?_) ?_
                · refine opIn_append_own _ rfl _ _ 25 rfl W0.heap.size 64 i0 _ 3 24 Try.underlying25 hi hz0 hz1 hz2 rfl (by decide) v pre.length (insC (pre.map (fun x => F x.1))) rfl ((own_below HR.out (Below.trans (Below.drew (Below.refl _ _)) HB4.out)).alloc _) ⟨w4.heap.size, 0, none⟩ 1 1 (inC (F x.1)) rfl rfl (inC_cells (heap_alloc_new _ _)) (inC_one _) (by have := HLT.out; unfold maxLen; omega) (by have := HLT.out; omega) (by have h1 := HW.out; have h2 := HB4.out.size; simp; exact Nat.le_trans h1 (Nat.le_succ_of_le h2)) ?_
                  intro v5 w5 hown hgrow
                  obtain ⟨g', cap', rfl⟩ := ownsRow_succ hown
                  obtain ⟨hv1, hv2, hr2, hk2, hb2, hh2⟩ := boxed_app (hp_below (hp_dw HV.out) HB4.out) (by decide) (own_below HR.out (Below.trans (Below.drew (Below.refl _ _)) HB4.out)) hown hgrow
                  have hc1 := hv1.cell
                  have hf1 := hv1.frozen
                  refine hK _ _ ?_
                  clear hK K
                  refine wpAnyIn_ready (rs := [7]) (by kernel_rfl) (by simp) ?_
                  refine AllReadyIn.cons rfl (fun K hK => ?_) ?_
                  · go_simp
                    refine hK _ _ ?_
                    clear hK K
                    refine wpAnyIn_done (by kernel_rfl) ?_ _
                    gi_wp2; exact blk_body HB HN HA HW HZ HB4 hv2 hr2 hk2 hb2 hh2
                  exact AllReadyIn.nil
                exact AllReadyIn.nil
              exact AllReadyIn.nil
            exact AllReadyIn.nil
          exact AllReadyIn.nil
        refine AllReadyIn.cons rfl (fun K hK => ?_) ?_
        · go_simp
          refine hK _ _ ?_
          clear hK K
          refine wpAnyIn_ready (rs := [1]) (by kernel_rfl) (by simp) ?_
          refine AllReadyIn.cons rfl (fun K hK => ?_) ?_
          · go_simp
            refine hK _ _ ?_
            clear hK K
            refine wpAnyIn_ready (rs := [4]) (by kernel_rfl) (by simp) ?_
            refine AllReadyIn.cons rfl (fun K hK => ?_) ?_
            · go_simp
              refine ⟨trivial, ?_⟩
              refine (CallsIn.inRound l (callsIn_wide.2 (HI.out x.1 x.2 _))).mono ?_
              rintro e w4 ⟨rfl, hb⟩
              have HB4 := Lib.hid hb
              clear hb n0 n1 n2 n3 nl a0 al o0 ol
              have o0 : w4.cell? ⟨ob, 0, none⟩ = some v := hp_cell (hp_below (hp_dw HV.out) HB4.out) 0
              have ol : ob < w4.heap.size := hp_lt (hp_below (hp_dw HV.out) HB4.out)
              dsimp only
              refine hK _ _ ?_
              clear hK K
              refine wpAnyIn_ready (rs := [5]) (by kernel_rfl) (by simp) ?_
              refine AllReadyIn.cons rfl (fun K hK => ?_) ?_
              · go_simp
                refine hK _ _ ?_
                clear hK K
                refine wpAnyIn_ready (rs := [6]) (by kernel_rfl) (by simp) ?_
                refine AllReadyIn.cons rfl (fun K hK => ?_) ?_
                · refine opIn_append_own _ rfl _ _ 25 rfl W0.heap.size 64 i0 _ 3 24 Try.underlying25 hi hz0 hz1 hz2 rfl (by decide) v pre.length (insC (pre.map (fun x => F x.1))) rfl ((own_below HR.out (Below.trans (Below.drew (Below.refl _ _)) HB4.out)).alloc _) ⟨w4.heap.size, 0, none⟩ 1 1 (inC (F x.1)) rfl rfl (inC_cells (heap_alloc_new _ _)) (inC_one _) (by have := HLT.out; unfold maxLen; omega) (by have := HLT.out; omega) (by have h1 := HW.out; have h2 := HB4.out.size; simp; exact Nat.le_trans h1 (Nat.le_succ_of_le h2)) ?_
                  intro v5 w5 hown hgrow
                  obtain ⟨g', cap', rfl⟩ := ownsRow_succ hown
                  obtain ⟨hv1, hv2, hr2, hk2, hb2, hh2⟩ := boxed_app (hp_below (hp_dw HV.out) HB4.out) (by decide) (own_below HR.out (Below.trans (Below.drew (Below.refl _ _)) HB4.out)) hown hgrow
                  have hc1 := hv1.cell
                  have hf1 := hv1.frozen
                  refine hK _ _ ?_
                  clear hK K
                  refine wpAnyIn_ready (rs := [7]) (by kernel_rfl) (by simp) ?_
                  refine AllReadyIn.cons rfl (fun K hK => ?_) ?_
                  · go_simp
                    refine hK _ _ ?_
                    clear hK K
                    refine wpAnyIn_done (by kernel_rfl) ?_ _
                    gi_wp2; exact blk_body HB HN HA HW HZ HB4 hv2 hr2 hk2 hb2 hh2
                  exact AllReadyIn.nil
                exact AllReadyIn.nil
              exact AllReadyIn.nil
            exact AllReadyIn.nil
          exact AllReadyIn.nil
        exact AllReadyIn.nil
      refine AllReadyIn.cons rfl (fun K hK => ?_) ?_
      · go_simp
        refine hK _ _ ?_
        clear hK K
        refine wpAnyIn_ready (rs := [0, 3]) (by kernel_rfl) (by simp) ?_
        refine AllReadyIn.cons rfl (fun K hK => ?_) ?_
        · go_simp
          refine hK _ _ ?_
          clear hK K
          refine wpAnyIn_ready (rs := [3]) (by kernel_rfl) (by simp) ?_
          refine AllReadyIn.cons rfl (fun K hK => ?_) ?_
          · go_simp
            refine hK _ _ ?_
            clear hK K
            refine wpAnyIn_ready (rs := [4]) (by kernel_rfl) (by simp) ?_
            refine AllReadyIn.cons rfl (fun K hK => ?_) ?_
            · go_simp
              refine ⟨trivial, ?_⟩
              refine (CallsIn.inRound l (callsIn_wide.2 (HI.out x.1 x.2 _))).mono ?_
              rintro e w4 ⟨rfl, hb⟩
              have HB4 := Lib.hid hb
              clear hb n0 n1 n2 n3 nl a0 al o0 ol
              have o0 : w4.cell? ⟨ob, 0, none⟩ = some v := hp_cell (hp_below (hp_dw HV.out) HB4.out) 0
              have ol : ob < w4.heap.size := hp_lt (hp_below (hp_dw HV.out) HB4.out)
              dsimp only
              refine hK _ _ ?_
              clear hK K
              refine wpAnyIn_ready (rs := [5]) (by kernel_rfl) (by simp) ?_
              refine AllReadyIn.cons rfl (fun K hK => ?_) ?_
              · go_simp
                refine hK _ _ ?_
                clear hK K
                refine wpAnyIn_ready (rs := [6]) (by kernel_rfl) (by simp) ?_
                refine AllReadyIn.cons rfl (fun K hK => ?_) ?_
                · refine opIn_append_own _ rfl _ _ 25 rfl W0.heap.size 64 i0 _ 3 24 Try.underlying25 hi hz0 hz1 hz2 rfl (by decide) v pre.length (insC (pre.map (fun x => F x.1))) rfl ((own_below HR.out (Below.trans (Below.drew (Below.refl _ _)) HB4.out)).alloc _) ⟨w4.heap.size, 0, none⟩ 1 1 (inC (F x.1)) rfl rfl (inC_cells (heap_alloc_new _ _)) (inC_one _) (by have := HLT.out; unfold maxLen; omega) (by have := HLT.out; omega) (by have h1 := HW.out; have h2 := HB4.out.size; simp; exact Nat.le_trans h1 (Nat.le_succ_of_le h2)) ?_
                  intro v5 w5 hown hgrow
                  obtain ⟨g', cap', rfl⟩ := ownsRow_succ hown
                  obtain ⟨hv1, hv2, hr2, hk2, hb2, hh2⟩ := boxed_app (hp_below (hp_dw HV.out) HB4.out) (by decide) (own_below HR.out (Below.trans (Below.drew (Below.refl _ _)) HB4.out)) hown hgrow
                  have hc1 := hv1.cell
                  have hf1 := hv1.frozen
                  refine hK _ _ ?_
                  clear hK K
                  refine wpAnyIn_ready (rs := [7]) (by kernel_rfl) (by simp) ?_
                  refine AllReadyIn.cons rfl (fun K hK => ?_) ?_
                  · go_simp
                    refine hK _ _ ?_
                    clear hK K
                    refine wpAnyIn_done (by kernel_rfl) ?_ _
                    gi_wp2; exact blk_body HB HN HA HW HZ HB4 hv2 hr2 hk2 hb2 hh2
                  exact AllReadyIn.nil
                exact AllReadyIn.nil
              exact AllReadyIn.nil
            exact AllReadyIn.nil
          exact AllReadyIn.nil
        refine AllReadyIn.cons rfl (fun K hK => ?_) ?_
        · go_simp
          refine hK _ _ ?_
          clear hK K
          refine wpAnyIn_ready (rs := [0, 4]) (by kernel_rfl) (by simp) ?_
          refine AllReadyIn.cons rfl (fun K hK => ?_) ?_
          · go_simp
            refine hK _ _ ?_
            clear hK K
            refine wpAnyIn_ready (rs := [4]) (by kernel_rfl) (by simp) ?_
            refine AllReadyIn.cons rfl (fun K hK => ?_) ?_
            · go_simp
              refine ⟨trivial, ?_⟩
              refine (CallsIn.inRound l (callsIn_wide.2 (HI.out x.1 x.2 _))).mono ?_
              rintro e w4 ⟨rfl, hb⟩
              have HB4 := Lib.hid hb
              clear hb n0 n1 n2 n3 nl a0 al o0 ol
              have o0 : w4.cell? ⟨ob, 0, none⟩ = some v := hp_cell (hp_below (hp_dw HV.out) HB4.out) 0
              have ol : ob < w4.heap.size := hp_lt (hp_below (hp_dw HV.out) HB4.out)
              dsimp only
              refine hK _ _ ?_
              clear hK K
              refine wpAnyIn_ready (rs := [5]) (by kernel_rfl) (by simp) ?_
              refine AllReadyIn.cons rfl (fun K hK => ?_) ?_
              · go_simp
                refine hK _ _ ?_
                clear hK K
                refine wpAnyIn_ready (rs := [6]) (by kernel_rfl) (by simp) ?_
                refine AllReadyIn.cons rfl (fun K hK => ?_) ?_
                · refine opIn_append_own _ rfl _ _ 25 rfl W0.heap.size 64 i0 _ 3 24 Try.underlying25 hi hz0 hz1 hz2 rfl (by decide) v pre.length (insC (pre.map (fun x => F x.1))) rfl ((own_below HR.out (Below.trans (Below.drew (Below.refl _ _)) HB4.out)).alloc _) ⟨w4.heap.size, 0, none⟩ 1 1 (inC (F x.1)) rfl rfl (inC_cells (heap_alloc_new _ _)) (inC_one _) (by have := HLT.out; unfold maxLen; omega) (by have := HLT.out; omega) (by have h1 := HW.out; have h2 := HB4.out.size; simp; exact Nat.le_trans h1 (Nat.le_succ_of_le h2)) ?_
                  intro v5 w5 hown hgrow
                  obtain ⟨g', cap', rfl⟩ := ownsRow_succ hown
                  obtain ⟨hv1, hv2, hr2, hk2, hb2, hh2⟩ := boxed_app (hp_below (hp_dw HV.out) HB4.out) (by decide) (own_below HR.out (Below.trans (Below.drew (Below.refl _ _)) HB4.out)) hown hgrow
                  have hc1 := hv1.cell
                  have hf1 := hv1.frozen
                  refine hK _ _ ?_
                  clear hK K
                  refine wpAnyIn_ready (rs := [7]) (by kernel_rfl) (by simp) ?_
                  refine AllReadyIn.cons rfl (fun K hK => ?_) ?_
                  · go_simp
                    refine hK _ _ ?_
                    clear hK K
                    refine wpAnyIn_done (by kernel_rfl) ?_ _
                    gi_wp2; exact blk_body HB HN HA HW HZ HB4 hv2 hr2 hk2 hb2 hh2
                  exact AllReadyIn.nil
                exact AllReadyIn.nil
              exact AllReadyIn.nil
            exact AllReadyIn.nil
          refine AllReadyIn.cons rfl (fun K hK => ?_) ?_
          · go_simp
            refine ⟨trivial, ?_⟩
            refine (CallsIn.inRound l (callsIn_wide.2 (HI.out x.1 x.2 _))).mono ?_
            rintro e w4 ⟨rfl, hb⟩
            have HB4 := Lib.hid hb
            clear hb n0 n1 n2 n3 nl a0 al o0 ol
            have o0 : w4.cell? ⟨ob, 0, none⟩ = some v := hp_cell (hp_below (hp_dw HV.out) HB4.out) 0
            have ol : ob < w4.heap.size := hp_lt (hp_below (hp_dw HV.out) HB4.out)
            dsimp only
            refine hK _ _ ?_
            clear hK K
            refine wpAnyIn_ready (rs := [0, 5]) (by kernel_rfl) (by simp) ?_
            refine AllReadyIn.cons rfl (fun K hK => ?_) ?_
            · go_simp
              refine hK _ _ ?_
              clear hK K
              refine wpAnyIn_ready (rs := [5]) (by kernel_rfl) (by simp) ?_
              refine AllReadyIn.cons rfl (fun K hK => ?_) ?_
              · go_simp
                refine hK _ _ ?_
                clear hK K
                refine wpAnyIn_ready (rs := [6]) (by kernel_rfl) (by simp) ?_
                refine AllReadyIn.cons rfl (fun K hK => ?_) ?_
                · refine opIn_append_own _ rfl _ _ 25 rfl W0.heap.size 64 i0 _ 3 24 Try.underlying25 hi hz0 hz1 hz2 rfl (by decide) v pre.length (insC (pre.map (fun x => F x.1))) rfl ((own_below HR.out (Below.trans (Below.drew (Below.refl _ _)) HB4.out)).alloc _) ⟨w4.heap.size, 0, none⟩ 1 1 (inC (F x.1)) rfl rfl (inC_cells (heap_alloc_new _ _)) (inC_one _) (by have := HLT.out; unfold maxLen; omega) (by have := HLT.out; omega) (by have h1 := HW.out; have h2 := HB4.out.size; simp; exact Nat.le_trans h1 (Nat.le_succ_of_le h2)) ?_
                  intro v5 w5 hown hgrow
                  obtain ⟨g', cap', rfl⟩ := ownsRow_succ hown
                  obtain ⟨hv1, hv2, hr2, hk2, hb2, hh2⟩ := boxed_app (hp_below (hp_dw HV.out) HB4.out) (by decide) (own_below HR.out (Below.trans (Below.drew (Below.refl _ _)) HB4.out)) hown hgrow
                  have hc1 := hv1.cell
                  have hf1 := hv1.frozen
                  refine hK _ _ ?_
                  clear hK K
                  refine wpAnyIn_ready (rs := [7]) (by kernel_rfl) (by simp) ?_
                  refine AllReadyIn.cons rfl (fun K hK => ?_) ?_
                  · go_simp
                    refine hK _ _ ?_
                    clear hK K
                    refine wpAnyIn_done (by kernel_rfl) ?_ _
                    gi_wp2; exact blk_body HB HN HA HW HZ HB4 hv2 hr2 hk2 hb2 hh2
                  exact AllReadyIn.nil
                exact AllReadyIn.nil
              exact AllReadyIn.nil
            refine AllReadyIn.cons rfl (fun K hK => ?_) ?_
            · go_simp
              refine hK _ _ ?_
              clear hK K
              refine wpAnyIn_ready (rs := [0]) (by kernel_rfl) (by simp) ?_
              refine AllReadyIn.cons rfl (fun K hK => ?_) ?_
              · go_simp
                refine hK _ _ ?_
                clear hK K
                refine wpAnyIn_ready (rs := [6]) (by kernel_rfl) (by simp) ?_
                refine AllReadyIn.cons rfl (fun K hK => ?_) ?_
                · refine opIn_append_own _ rfl _ _ 25 rfl W0.heap.size 64 i0 _ 3 24 Try.underlying25 hi hz0 hz1 hz2 rfl (by decide) v pre.length (insC (pre.map (fun x => F x.1))) rfl ((own_below HR.out (Below.trans (Below.drew (Below.refl _ _)) HB4.out)).alloc _) ⟨w4.heap.size, 0, none⟩ 1 1 (inC (F x.1)) rfl rfl (inC_cells (heap_alloc_new _ _)) (inC_one _) (by have := HLT.out; unfold maxLen; omega) (by have := HLT.out; omega) (by have h1 := HW.out; have h2 := HB4.out.size; simp; exact Nat.le_trans h1 (Nat.le_succ_of_le h2)) ?_
                  intro v5 w5 hown hgrow
                  obtain ⟨g', cap', rfl⟩ := ownsRow_succ hown
                  obtain ⟨hv1, hv2, hr2, hk2, hb2, hh2⟩ := boxed_app (hp_below (hp_dw HV.out) HB4.out) (by decide) (own_below HR.out (Below.trans (Below.drew (Below.refl _ _)) HB4.out)) hown hgrow
                  have hc1 := hv1.cell
                  have hf1 := hv1.frozen
                  refine hK _ _ ?_
                  clear hK K
                  refine wpAnyIn_ready (rs := [7]) (by kernel_rfl) (by simp) ?_
                  refine AllReadyIn.cons rfl (fun K hK => ?_) ?_
                  · go_simp
                    refine hK _ _ ?_
                    clear hK K
                    refine wpAnyIn_done (by kernel_rfl) ?_ _
                    gi_wp2; exact blk_body HB HN HA HW HZ HB4 hv2 hr2 hk2 hb2 hh2
                  exact AllReadyIn.nil
                exact AllReadyIn.nil
              exact AllReadyIn.nil
            exact AllReadyIn.nil
          exact AllReadyIn.nil
        exact AllReadyIn.nil
      refine AllReadyIn.cons rfl (fun K hK => ?_) ?_
      · go_simp
        refine hK _ _ ?_
        clear hK K
        refine wpAnyIn_ready (rs := [0, 1]) (by kernel_rfl) (by simp) ?_
        refine AllReadyIn.cons rfl (fun K hK => ?_) ?_
        · go_simp
          refine hK _ _ ?_
          clear hK K
          refine wpAnyIn_ready (rs := [1]) (by kernel_rfl) (by simp) ?_
          refine AllReadyIn.cons rfl (fun K hK => ?_) ?_
          · go_simp
            refine hK _ _ ?_
            clear hK K
            refine wpAnyIn_ready (rs := [4]) (by kernel_rfl) (by simp) ?_
            refine AllReadyIn.cons rfl (fun K hK => ?_) ?_
            · go_simp
              refine ⟨trivial, ?_⟩
              refine (CallsIn.inRound l (callsIn_wide.2 (HI.out x.1 x.2 _))).mono ?_
              rintro e w4 ⟨rfl, hb⟩
              have HB4 := Lib.hid hb
              clear hb n0 n1 n2 n3 nl a0 al o0 ol
              have o0 : w4.cell? ⟨ob, 0, none⟩ = some v := hp_cell (hp_below (hp_dw HV.out) HB4.out) 0
              have ol : ob < w4.heap.size := hp_lt (hp_below (hp_dw HV.out) HB4.out)
              dsimp only
              refine hK _ _ ?_
              clear hK K
              refine wpAnyIn_ready (rs := [5]) (by kernel_rfl) (by simp) ?_
              refine AllReadyIn.cons rfl (fun K hK => ?_) ?_
              · go_simp
                refine hK _ _ ?_
                clear hK K
                refine wpAnyIn_ready (rs := [6]) (by kernel_rfl) (by simp) ?_
                refine AllReadyIn.cons rfl (fun K hK => ?_) ?_
                · refine opIn_append_own _ rfl _ _ 25 rfl W0.heap.size 64 i0 _ 3 24 Try.underlying25 hi hz0 hz1 hz2 rfl (by decide) v pre.length (insC (pre.map (fun x => F x.1))) rfl ((own_below HR.out (Below.trans (Below.drew (Below.refl _ _)) HB4.out)).alloc _) ⟨w4.heap.size, 0, none⟩ 1 1 (inC (F x.1)) rfl rfl (inC_cells (heap_alloc_new _ _)) (inC_one _) (by have := HLT.out; unfold maxLen; omega) (by have := HLT.out; omega) (by have h1 := HW.out; have h2 := HB4.out.size; simp; exact Nat.le_trans h1 (Nat.le_succ_of_le h2)) ?_
                  intro v5 w5 hown hgrow
                  obtain ⟨g', cap', rfl⟩ := ownsRow_succ hown
                  obtain ⟨hv1, hv2, hr2, hk2, hb2, hh2⟩ := boxed_app (hp_below (hp_dw HV.out) HB4.out) (by decide) (own_below HR.out (Below.trans (Below.drew (Below.refl _ _)) HB4.out)) hown hgrow
                  have hc1 := hv1.cell
                  have hf1 := hv1.frozen
                  refine hK _ _ ?_
                  clear hK K
                  refine wpAnyIn_ready (rs := [7]) (by kernel_rfl) (by simp) ?_
                  refine AllReadyIn.cons rfl (fun K hK => ?_) ?_
                  · go_simp
                    refine hK _ _ ?_
                    clear hK K
                    refine wpAnyIn_done (by kernel_rfl) ?_ _
                    gi_wp2; exact blk_body HB HN HA HW HZ HB4 hv2 hr2 hk2 hb2 hh2
                  exact AllReadyIn.nil
                exact AllReadyIn.nil
              exact AllReadyIn.nil
            exact AllReadyIn.nil
          exact AllReadyIn.nil
        refine AllReadyIn.cons rfl (fun K hK => ?_) ?_
        · go_simp
          refine hK _ _ ?_
          clear hK K
          refine wpAnyIn_ready (rs := [0, 4]) (by kernel_rfl) (by simp) ?_
          refine AllReadyIn.cons rfl (fun K hK => ?_) ?_
          · go_simp
            refine hK _ _ ?_
            clear hK K
            refine wpAnyIn_ready (rs := [4]) (by kernel_rfl) (by simp) ?_
            refine AllReadyIn.cons rfl (fun K hK => ?_) ?_
            · go_simp
              refine ⟨trivial, ?_⟩
              refine (CallsIn.inRound l (callsIn_wide.2 (HI.out x.1 x.2 _))).mono ?_
              rintro e w4 ⟨rfl, hb⟩
              have HB4 := Lib.hid hb
              clear hb n0 n1 n2 n3 nl a0 al o0 ol
              have o0 : w4.cell? ⟨ob, 0, none⟩ = some v := hp_cell (hp_below (hp_dw HV.out) HB4.out) 0
              have ol : ob < w4.heap.size := hp_lt (hp_below (hp_dw HV.out) HB4.out)
              dsimp only
              refine hK _ _ ?_
              clear hK K
              refine wpAnyIn_ready (rs := [5]) (by kernel_rfl) (by simp) ?_
              refine AllReadyIn.cons rfl (fun K hK => ?_) ?_
              · go_simp
                refine hK _ _ ?_
                clear hK K
                refine wpAnyIn_ready (rs := [6]) (by kernel_rfl) (by simp) ?_
                refine AllReadyIn.cons rfl (fun K hK => ?_) ?_
                · refine opIn_append_own _ rfl _ _ 25 rfl W0.heap.size 64 i0 _ 3 24 Try.underlying25 hi hz0 hz1 hz2 rfl (by decide) v pre.length (insC (pre.map (fun x => F x.1))) rfl ((own_below HR.out (Below.trans (Below.drew (Below.refl _ _)) HB4.out)).alloc _) ⟨w4.heap.size, 0, none⟩ 1 1 (inC (F x.1)) rfl rfl (inC_cells (heap_alloc_new _ _)) (inC_one _) (by have := HLT.out; unfold maxLen; omega) (by have := HLT.out; omega) (by have h1 := HW.out; have h2 := HB4.out.size; simp; exact Nat.le_trans h1 (Nat.le_succ_of_le h2)) ?_
                  intro v5 w5 hown hgrow
                  obtain ⟨g', cap', rfl⟩ := ownsRow_succ hown
                  obtain ⟨hv1, hv2, hr2, hk2, hb2, hh2⟩ := boxed_app (hp_below (hp_dw HV.out) HB4.out) (by decide) (own_below HR.out (Below.trans (Below.drew (Below.refl _ _)) HB4.out)) hown hgrow
                  have hc1 := hv1.cell
                  have hf1 := hv1.frozen
                  refine hK _ _ ?_
                  clear hK K
                  refine wpAnyIn_ready (rs := [7]) (by kernel_rfl) (by simp) ?_
                  refine AllReadyIn.cons rfl (fun K hK => ?_) ?_
                  · go_simp
                    refine hK _ _ ?_
                    clear hK K
                    refine wpAnyIn_done (by kernel_rfl) ?_ _
                    gi_wp2; exact blk_body HB HN HA HW HZ HB4 hv2 hr2 hk2 hb2 hh2
                  exact AllReadyIn.nil
                exact AllReadyIn.nil
              exact AllReadyIn.nil
            exact AllReadyIn.nil
          refine AllReadyIn.cons rfl (fun K hK => ?_) ?_
          · go_simp
            refine ⟨trivial, ?_⟩
            refine (CallsIn.inRound l (callsIn_wide.2 (HI.out x.1 x.2 _))).mono ?_
            rintro e w4 ⟨rfl, hb⟩
            have HB4 := Lib.hid hb
            clear hb n0 n1 n2 n3 nl a0 al o0 ol
            have o0 : w4.cell? ⟨ob, 0, none⟩ = some v := hp_cell (hp_below (hp_dw HV.out) HB4.out) 0
            have ol : ob < w4.heap.size := hp_lt (hp_below (hp_dw HV.out) HB4.out)
            dsimp only
            refine hK _ _ ?_
            clear hK K
            refine wpAnyIn_ready (rs := [0, 5]) (by kernel_rfl) (by simp) ?_
            refine AllReadyIn.cons rfl (fun K hK => ?_) ?_
            · go_simp
              refine hK _ _ ?_
              clear hK K
              refine wpAnyIn_ready (rs := [5]) (by kernel_rfl) (by simp) ?_
              refine AllReadyIn.cons rfl (fun K hK => ?_) ?_
              · go_simp
                refine hK _ _ ?_
                clear hK K
                refine wpAnyIn_ready (rs := [6]) (by kernel_rfl) (by simp) ?_
                refine AllReadyIn.cons rfl (fun K hK => ?_) ?_
                · refine opIn_append_own _ rfl _ _ 25 rfl W0.heap.size 64 i0 _ 3 24 Try.underlying25 hi hz0 hz1 hz2 rfl (by decide) v pre.length (insC (pre.map (fun x => F x.1))) rfl ((own_below HR.out (Below.trans (Below.drew (Below.refl _ _)) HB4.out)).alloc _) ⟨w4.heap.size, 0, none⟩ 1 1 (inC (F x.1)) rfl rfl (inC_cells (heap_alloc_new _ _)) (inC_one _) (by have := HLT.out; unfold maxLen; omega) (by have := HLT.out; omega) (by have h1 := HW.out; have h2 := HB4.out.size; simp; exact Nat.le_trans h1 (Nat.le_succ_of_le h2)) ?_
                  intro v5 w5 hown hgrow
                  obtain ⟨g', cap', rfl⟩ := ownsRow_succ hown
                  obtain ⟨hv1, hv2, hr2, hk2, hb2, hh2⟩ := boxed_app (hp_below (hp_dw HV.out) HB4.out) (by decide) (own_below HR.out (Below.trans (Below.drew (Below.refl _ _)) HB4.out)) hown hgrow
                  have hc1 := hv1.cell
                  have hf1 := hv1.frozen
                  refine hK _ _ ?_
                  clear hK K
                  refine wpAnyIn_ready (rs := [7]) (by kernel_rfl) (by simp) ?_
                  refine AllReadyIn.cons rfl (fun K hK => ?_) ?_
                  · go_simp
                    refine hK _ _ ?_
                    clear hK K
                    refine wpAnyIn_done (by kernel_rfl) ?_ _
                    gi_wp2; exact blk_body HB HN HA HW HZ HB4 hv2 hr2 hk2 hb2 hh2
                  exact AllReadyIn.nil
                exact AllReadyIn.nil
              exact AllReadyIn.nil
            refine AllReadyIn.cons rfl (fun K hK => ?_) ?_
            · go_simp
              refine hK _ _ ?_
              clear hK K
              refine wpAnyIn_ready (rs := [0]) (by kernel_rfl) (by simp) ?_
              refine AllReadyIn.cons rfl (fun K hK => ?_) ?_
              · go_simp
                refine hK _ _ ?_
                clear hK K
                refine wpAnyIn_ready (rs := [6]) (by kernel_rfl) (by simp) ?_
                refine AllReadyIn.cons rfl (fun K hK => ?_) ?_
                · refine opIn_append_own _ rfl _ _ 25 rfl W0.heap.size 64 i0 _ 3 24 Try.underlying25 hi hz0 hz1 hz2 rfl (by decide) v pre.length (insC (pre.map (fun x => F x.1))) rfl ((own_below HR.out (Below.trans (Below.drew (Below.refl _ _)) HB4.out)).alloc _) ⟨w4.heap.size, 0, none⟩ 1 1 (inC (F x.1)) rfl rfl (inC_cells (heap_alloc_new _ _)) (inC_one _) (by have := HLT.out; unfold maxLen; omega) (by have := HLT.out; omega) (by have h1 := HW.out; have h2 := HB4.out.size; simp; exact Nat.le_trans h1 (Nat.le_succ_of_le h2)) ?_
                  intro v5 w5 hown hgrow
                  obtain ⟨g', cap', rfl⟩ := ownsRow_succ hown
                  obtain ⟨hv1, hv2, hr2, hk2, hb2, hh2⟩ := boxed_app (hp_below (hp_dw HV.out) HB4.out) (by decide) (own_below HR.out (Below.trans (Below.drew (Below.refl _ _)) HB4.out)) hown hgrow
                  have hc1 := hv1.cell
                  have hf1 := hv1.frozen
                  refine hK _ _ ?_
                  clear hK K
                  refine wpAnyIn_ready (rs := [7]) (by kernel_rfl) (by simp) ?_
                  refine AllReadyIn.cons rfl (fun K hK => ?_) ?_
                  · go_simp
                    refine hK _ _ ?_
                    clear hK K
                    refine wpAnyIn_done (by kernel_rfl) ?_ _
                    gi_wp2; exact blk_body HB HN HA HW HZ HB4 hv2 hr2 hk2 hb2 hh2
                  exact AllReadyIn.nil
                exact AllReadyIn.nil
              exact AllReadyIn.nil
            exact AllReadyIn.nil
          exact AllReadyIn.nil
        exact AllReadyIn.nil
      exact AllReadyIn.nil
    refine AllReadyIn.cons rfl (fun K hK => ?_) ?_
    · go_simp
      refine hK _ _ ?_
      clear hK K
      refine wpAnyIn_ready (rs := [0, 1, 2]) (by kernel_rfl) (by simp) ?_
      refine AllReadyIn.cons rfl (fun K hK => ?_) ?_
      · go_simp
        refine hK _ _ ?_
        clear hK K
        refine wpAnyIn_ready (rs := [1, 2]) (by kernel_rfl) (by simp) ?_
        refine AllReadyIn.cons rfl (fun K hK => ?_) ?_
        · go_simp
          refine hK _ _ ?_
          clear hK K
          refine wpAnyIn_ready (rs := [2]) (by kernel_rfl) (by simp) ?_
          refine AllReadyIn.cons rfl (fun K hK => ?_) ?_
          · go_simp
            refine hK _ _ ?_
            clear hK K
            refine wpAnyIn_ready (rs := [4]) (by kernel_rfl) (by simp) ?_
            refine AllReadyIn.cons rfl (fun K hK => ?_) ?_
            · go_simp
              refine ⟨trivial, ?_⟩
              refine (CallsIn.inRound l (callsIn_wide.2 (HI.out x.1 x.2 _))).mono ?_
              rintro e w4 ⟨rfl, hb⟩
              have HB4 := Lib.hid hb
              clear hb n0 n1 n2 n3 nl a0 al o0 ol
              have o0 : w4.cell? ⟨ob, 0, none⟩ = some v := hp_cell (hp_below (hp_dw HV.out) HB4.out) 0
              have ol : ob < w4.heap.size := hp_lt (hp_below (hp_dw HV.out) HB4.out)
              dsimp only
              refine hK _ _ ?_
              clear hK K
              refine wpAnyIn_ready (rs := [5]) (by kernel_rfl) (by simp) ?_
              refine AllReadyIn.cons rfl (fun K hK => ?_) ?_
              · go_simp
                refine hK _ _ ?_
                clear hK K
                refine wpAnyIn_ready (rs := [6]) (by kernel_rfl) (by simp) ?_
                refine AllReadyIn.cons rfl (fun K hK => ?_) ?_
                · refine opIn_append_own _ rfl _ _ 25 rfl W0.heap.size 64 i0 _ 3 24 Try.underlying25 hi hz0 hz1 hz2 rfl (by decide) v pre.length (insC (pre.map (fun x => F x.1))) rfl ((own_below HR.out (Below.trans (Below.drew (Below.refl _ _)) HB4.out)).alloc _) ⟨w4.heap.size, 0, none⟩ 1 1 (inC (F x.1)) rfl rfl (inC_cells (heap_alloc_new _ _)) (inC_one _) (by have := HLT.out; unfold maxLen; omega) (by have := HLT.out; omega) (by have h1 := HW.out; have h2 := HB4.out.size; simp; exact Nat.le_trans h1 (Nat.le_succ_of_le h2)) ?_
                  intro v5 w5 hown hgrow
                  obtain ⟨g', cap', rfl⟩ := ownsRow_succ hown
                  obtain ⟨hv1, hv2, hr2, hk2, hb2, hh2⟩ := boxed_app (hp_below (hp_dw HV.out) HB4.out) (by decide) (own_below HR.out (Below.trans (Below.drew (Below.refl _ _)) HB4.out)) hown hgrow
                  have hc1 := hv1.cell
                  have hf1 := hv1.frozen
                  refine hK _ _ ?_
                  clear hK K
                  refine wpAnyIn_ready (rs := [7]) (by kernel_rfl) (by simp) ?_
                  refine AllReadyIn.cons rfl (fun K hK => ?_) ?_
                  · go_simp
                    refine hK _ _ ?_
                    clear hK K
                    refine wpAnyIn_done (by kernel_rfl) ?_ _
                    gi_wp2; exact blk_body HB HN HA HW HZ HB4 hv2 hr2 hk2 hb2 hh2
                  exact AllReadyIn.nil
                exact AllReadyIn.nil
              exact AllReadyIn.nil
            exact AllReadyIn.nil
          exact AllReadyIn.nil
        refine AllReadyIn.cons rfl (fun K hK => ?_) ?_
        · go_simp
          refine hK _ _ ?_
          clear hK K
          refine wpAnyIn_ready (rs := [1]) (by kernel_rfl) (by simp) ?_
          refine AllReadyIn.cons rfl (fun K hK => ?_) ?_
          · go_simp
            refine hK _ _ ?_
            clear hK K
            refine wpAnyIn_ready (rs := [4]) (by kernel_rfl) (by simp) ?_
            refine AllReadyIn.cons rfl (fun K hK => ?_) ?_
            · go_simp
              refine ⟨trivial, ?_⟩
              refine (CallsIn.inRound l (callsIn_wide.2 (HI.out x.1 x.2 _))).mono ?_
              rintro e w4 ⟨rfl, hb⟩
              have HB4 := Lib.hid hb
              clear hb n0 n1 n2 n3 nl a0 al o0 ol
              have o0 : w4.cell? ⟨ob, 0, none⟩ = some v := hp_cell (hp_below (hp_dw HV.out) HB4.out) 0
              have ol : ob < w4.heap.size := hp_lt (hp_below (hp_dw HV.out) HB4.out)
              dsimp only
              refine hK _ _ ?_
              clear hK K
              refine wpAnyIn_ready (rs := [5]) (by kernel_rfl) (by simp) ?_
              refine AllReadyIn.cons rfl (fun K hK => ?_) ?_
              · go_simp
                refine hK _ _ ?_
                clear hK K
                refine wpAnyIn_ready (rs := [6]) (by kernel_rfl) (by simp) ?_
                refine AllReadyIn.cons rfl (fun K hK => ?_) ?_
                · refine opIn_append_own _ rfl _ _ 25 rfl W0.heap.size 64 i0 _ 3 24 Try.underlying25 hi hz0 hz1 hz2 rfl (by decide) v pre.length (insC (pre.map (fun x => F x.1))) rfl ((own_below HR.out (Below.trans (Below.drew (Below.refl _ _)) HB4.out)).alloc _) ⟨w4.heap.size, 0, none⟩ 1 1 (inC (F x.1)) rfl rfl (inC_cells (heap_alloc_new _ _)) (inC_one _) (by have := HLT.out; unfold maxLen; omega) (by have := HLT.out; omega) (by have h1 := HW.out; have h2 := HB4.out.size; simp; exact Nat.le_trans h1 (Nat.le_succ_of_le h2)) ?_
                  intro v5 w5 hown hgrow
                  obtain ⟨g', cap', rfl⟩ := ownsRow_succ hown
                  obtain ⟨hv1, hv2, hr2, hk2, hb2, hh2⟩ := boxed_app (hp_below (hp_dw HV.out) HB4.out) (by decide) (own_below HR.out (Below.trans (Below.drew (Below.refl _ _)) HB4.out)) hown hgrow
                  have hc1 := hv1.cell
                  have hf1 := hv1.frozen
                  refine hK _ _ ?_
                  clear hK K
                  refine wpAnyIn_ready (rs := [7]) (by kernel_rfl) (by simp) ?_
                  refine AllReadyIn.cons rfl (fun K hK => ?_) ?_
                  · go_simp
                    refine hK _ _ ?_
                    clear hK K
                    refine wpAnyIn_done (by kernel_rfl) ?_ _
                    gi_wp2; exact blk_body HB HN HA HW HZ HB4 hv2 hr2 hk2 hb2 hh2
                  exact AllReadyIn.nil
                exact AllReadyIn.nil
              exact AllReadyIn.nil
            exact AllReadyIn.nil
          exact AllReadyIn.nil
        exact AllReadyIn.nil
      refine AllReadyIn.cons rfl (fun K hK => ?_) ?_
      · go_simp
        refine hK _ _ ?_
        clear hK K
        refine wpAnyIn_ready (rs := [0, 2]) (by kernel_rfl) (by simp) ?_
        refine AllReadyIn.cons rfl (fun K hK => ?_) ?_
        · go_simp
          refine hK _ _ ?_
          clear hK K
          refine wpAnyIn_ready (rs := [2]) (by kernel_rfl) (by simp) ?_
          refine AllReadyIn.cons rfl (fun K hK => ?_) ?_
          · go_simp
            refine hK _ _ ?_
            clear hK K
            refine wpAnyIn_ready (rs := [4]) (by kernel_rfl) (by simp) ?_
            refine AllReadyIn.cons rfl (fun K hK => ?_) ?_
            · go_simp
              refine ⟨trivial, ?_⟩
              refine (CallsIn.inRound l (callsIn_wide.2 (HI.out x.1 x.2 _))).mono ?_
              rintro e w4 ⟨rfl, hb⟩
              have HB4 := Lib.hid hb
              clear hb n0 n1 n2 n3 nl a0 al o0 ol
              have o0 : w4.cell? ⟨ob, 0, none⟩ = some v := hp_cell (hp_below (hp_dw HV.out) HB4.out) 0
              have ol : ob < w4.heap.size := hp_lt (hp_below (hp_dw HV.out) HB4.out)
              dsimp only
              refine hK _ _ ?_
              clear hK K
              refine wpAnyIn_ready (rs := [5]) (by kernel_rfl) (by simp) ?_
              refine AllReadyIn.cons rfl (fun K hK => ?_) ?_
              · go_simp
                refine hK _ _ ?_
                clear hK K
                refine wpAnyIn_ready (rs := [6]) (by kernel_rfl) (by simp) ?_
                refine AllReadyIn.cons rfl (fun K hK => ?_) ?_
                · refine opIn_append_own _ rfl _ _ 25 rfl W0.heap.size 64 i0 _ 3 24 Try.underlying25 hi hz0 hz1 hz2 rfl (by decide) v pre.length (insC (pre.map (fun x => F x.1))) rfl ((own_below HR.out (Below.trans (Below.drew (Below.refl _ _)) HB4.out)).alloc _) ⟨w4.heap.size, 0, none⟩ 1 1 (inC (F x.1)) rfl rfl (inC_cells (heap_alloc_new _ _)) (inC_one _) (by have := HLT.out; unfold maxLen; omega) (by have := HLT.out; omega) (by have h1 := HW.out; have h2 := HB4.out.size; simp; exact Nat.le_trans h1 (Nat.le_succ_of_le h2)) ?_
                  intro v5 w5 hown hgrow
                  obtain ⟨g', cap', rfl⟩ := ownsRow_succ hown
                  obtain ⟨hv1, hv2, hr2, hk2, hb2, hh2⟩ := boxed_app (hp_below (hp_dw HV.out) HB4.out) (by decide) (own_below HR.out (Below.trans (Below.drew (Below.refl _ _)) HB4.out)) hown hgrow
                  have hc1 := hv1.cell
                  have hf1 := hv1.frozen
                  refine hK _ _ ?_
                  clear hK K
                  refine wpAnyIn_ready (rs := [7]) (by kernel_rfl) (by simp) ?_
                  refine AllReadyIn.cons rfl (fun K hK => ?_) ?_
                  · go_simp
                    refine hK _ _ ?_
                    clear hK K
                    refine wpAnyIn_done (by kernel_rfl) ?_ _
                    gi_wp2; exact blk_body HB HN HA HW HZ HB4 hv2 hr2 hk2 hb2 hh2
                  exact AllReadyIn.nil
                exact AllReadyIn.nil
              exact AllReadyIn.nil
            exact AllReadyIn.nil
          exact AllReadyIn.nil
        refine AllReadyIn.cons rfl (fun K hK => ?_) ?_
        · go_simp
          refine hK _ _ ?_
          clear hK K
          refine wpAnyIn_ready (rs := [0, 4]) (by kernel_rfl) (by simp) ?_
          refine AllReadyIn.cons rfl (fun K hK => ?_) ?_
          · go_simp
            refine hK _ _ ?_
            clear hK K
            refine wpAnyIn_ready (rs := [4]) (by kernel_rfl) (by simp) ?_
            refine AllReadyIn.cons rfl (fun K hK => ?_) ?_
            · go_simp
              refine ⟨trivial, ?_⟩
              refine (CallsIn.inRound l (callsIn_wide.2 (HI.out x.1 x.2 _))).mono ?_
              rintro e w4 ⟨rfl, hb⟩
              have HB4 := Lib.hid hb
              clear hb n0 n1 n2 n3 nl a0 al o0 ol
              have o0 : w4.cell? ⟨ob, 0, none⟩ = some v := hp_cell (hp_below (hp_dw HV.out) HB4.out) 0
              have ol : ob < w4.heap.size := hp_lt (hp_below (hp_dw HV.out) HB4.out)
              dsimp only
              refine hK _ _ ?_
              clear hK K
              refine wpAnyIn_ready (rs := [5]) (by kernel_rfl) (by simp) ?_
              refine AllReadyIn.cons rfl (fun K hK => ?_) ?_
              · go_simp
                refine hK _ _ ?_
                clear hK K
                refine wpAnyIn_ready (rs := [6]) (by kernel_rfl) (by simp) ?_
                refine AllReadyIn.cons rfl (fun K hK => ?_) ?_
                · refine opIn_append_own _ rfl _ _ 25 rfl W0.heap.size 64 i0 _ 3 24 Try.underlying25 hi hz0 hz1 hz2 rfl (by decide) v pre.length (insC (pre.map (fun x => F x.1))) rfl ((own_below HR.out (Below.trans (Below.drew (Below.refl _ _)) HB4.out)).alloc _) ⟨w4.heap.size, 0, none⟩ 1 1 (inC (F x.1)) rfl rfl (inC_cells (heap_alloc_new _ _)) (inC_one _) (by have := HLT.out; unfold maxLen; omega) (by have := HLT.out; omega) (by have h1 := HW.out; have h2 := HB4.out.size; simp; exact Nat.le_trans h1 (Nat.le_succ_of_le h2)) ?_
                  intro v5 w5 hown hgrow
                  obtain ⟨g', cap', rfl⟩ := ownsRow_succ hown
                  obtain ⟨hv1, hv2, hr2, hk2, hb2, hh2⟩ := boxed_app (hp_below (hp_dw HV.out) HB4.out) (by decide) (own_below HR.out (Below.trans (Below.drew (Below.refl _ _)) HB4.out)) hown hgrow
                  have hc1 := hv1.cell
                  have hf1 := hv1.frozen
                  refine hK _ _ ?_
                  clear hK K
                  refine wpAnyIn_ready (rs := [7]) (by kernel_rfl) (by simp) ?_
                  refine AllReadyIn.cons rfl (fun K hK => ?_) ?_
                  · go_simp
                    refine hK _ _ ?_
                    clear hK K
                    refine wpAnyIn_done (by kernel_rfl) ?_ _
                    gi_wp2; exact blk_body HB HN HA HW HZ HB4 hv2 hr2 hk2 hb2 hh2
                  exact AllReadyIn.nil
                exact AllReadyIn.nil
              exact AllReadyIn.nil
            exact AllReadyIn.nil
          refine AllReadyIn.cons rfl (fun K hK => ?_) ?_
          · go_simp
            refine ⟨trivial, ?_⟩
            refine (CallsIn.inRound l (callsIn_wide.2 (HI.out x.1 x.2 _))).mono ?_
            rintro e w4 ⟨rfl, hb⟩
            have HB4 := Lib.hid hb
            clear hb n0 n1 n2 n3 nl a0 al o0 ol
            have o0 : w4.cell? ⟨ob, 0, none⟩ = some v := hp_cell (hp_below (hp_dw HV.out) HB4.out) 0
            have ol : ob < w4.heap.size := hp_lt (hp_below (hp_dw HV.out) HB4.out)
            dsimp only
            refine hK _ _ ?_
            clear hK K
            refine wpAnyIn_ready (rs := [0, 5]) (by kernel_rfl) (by simp) ?_
            refine AllReadyIn.cons rfl (fun K hK => ?_) ?_
            · go_simp
              refine hK _ _ ?_
              clear hK K
              refine wpAnyIn_ready (rs := [5]) (by kernel_rfl) (by simp) ?_
              refine AllReadyIn.cons rfl (fun K hK => ?_) ?_
              · go_simp
                refine hK _ _ ?_
                clear hK K
                refine wpAnyIn_ready (rs := [6]) (by kernel_rfl) (by simp) ?_
                refine AllReadyIn.cons rfl (fun K hK => ?_) ?_
                · refine opIn_append_own _ rfl _ _ 25 rfl W0.heap.size 64 i0 _ 3 24 Try.underlying25 hi hz0 hz1 hz2 rfl (by decide) v pre.length (insC (pre.map (fun x => F x.1))) rfl ((own_below HR.out (Below.trans (Below.drew (Below.refl _ _)) HB4.out)).alloc _) ⟨w4.heap.size, 0, none⟩ 1 1 (inC (F x.1)) rfl rfl (inC_cells (heap_alloc_new _ _)) (inC_one _) (by have := HLT.out; unfold maxLen; omega) (by have := HLT.out; omega) (by have h1 := HW.out; have h2 := HB4.out.size; simp; exact Nat.le_trans h1 (Nat.le_succ_of_le h2)) ?_
                  intro v5 w5 hown hgrow
                  obtain ⟨g', cap', rfl⟩ := ownsRow_succ hown
                  obtain ⟨hv1, hv2, hr2, hk2, hb2, hh2⟩ := boxed_app (hp_below (hp_dw HV.out) HB4.out) (by decide) (own_below HR.out (Below.trans (Below.drew (Below.refl _ _)) HB4.out)) hown hgrow
                  have hc1 := hv1.cell
                  have hf1 := hv1.frozen
                  refine hK _ _ ?_
                  clear hK K
                  refine wpAnyIn_ready (rs := [7]) (by kernel_rfl) (by simp) ?_
                  refine AllReadyIn.cons rfl (fun K hK => ?_) ?_
                  · go_simp
                    refine hK _ _ ?_
                    clear hK K
                    refine wpAnyIn_done (by kernel_rfl) ?_ _
                    gi_wp2; exact blk_body HB HN HA HW HZ HB4 hv2 hr2 hk2 hb2 hh2
                  exact AllReadyIn.nil
                exact AllReadyIn.nil
              exact AllReadyIn.nil
            refine AllReadyIn.cons rfl (fun K hK => ?_) ?_
            · go_simp
              refine hK _ _ ?_
              clear hK K
              refine wpAnyIn_ready (rs := [0]) (by kernel_rfl) (by simp) ?_
              refine AllReadyIn.cons rfl (fun K hK => ?_) ?_
              · go_simp
                refine hK _ _ ?_
                clear hK K
                refine wpAnyIn_ready (rs := [6]) (by kernel_rfl) (by simp) ?_
                refine AllReadyIn.cons rfl (fun K hK => ?_) ?_
                · refine opIn_append_own _ rfl _ _ 25 rfl W0.heap.size 64 i0 _ 3 24 Try.underlying25 hi hz0 hz1 hz2 rfl (by decide) v pre.length (insC (pre.map (fun x => F x.1))) rfl ((own_below HR.out (Below.trans (Below.drew (Below.refl _ _)) HB4.out)).alloc _) ⟨w4.heap.size, 0, none⟩ 1 1 (inC (F x.1)) rfl rfl (inC_cells (heap_alloc_new _ _)) (inC_one _) (by have := HLT.out; unfold maxLen; omega) (by have := HLT.out; omega) (by have h1 := HW.out; have h2 := HB4.out.size; simp; exact Nat.le_trans h1 (Nat.le_succ_of_le h2)) ?_
                  intro v5 w5 hown hgrow
                  obtain ⟨g', cap', rfl⟩ := ownsRow_succ hown
                  obtain ⟨hv1, hv2, hr2, hk2, hb2, hh2⟩ := boxed_app (hp_below (hp_dw HV.out) HB4.out) (by decide) (own_below HR.out (Below.trans (Below.drew (Below.refl _ _)) HB4.out)) hown hgrow
                  have hc1 := hv1.cell
                  have hf1 := hv1.frozen
                  refine hK _ _ ?_
                  clear hK K
                  refine wpAnyIn_ready (rs := [7]) (by kernel_rfl) (by simp) ?_
                  refine AllReadyIn.cons rfl (fun K hK => ?_) ?_
                  · go_simp
                    refine hK _ _ ?_
                    clear hK K
                    refine wpAnyIn_done (by kernel_rfl) ?_ _
                    gi_wp2; exact blk_body HB HN HA HW HZ HB4 hv2 hr2 hk2 hb2 hh2
                  exact AllReadyIn.nil
                exact AllReadyIn.nil
              exact AllReadyIn.nil
            exact AllReadyIn.nil
          exact AllReadyIn.nil
        exact AllReadyIn.nil
      refine AllReadyIn.cons rfl (fun K hK => ?_) ?_
      · go_simp
        refine hK _ _ ?_
        clear hK K
        refine wpAnyIn_ready (rs := [0, 1]) (by kernel_rfl) (by simp) ?_
        refine AllReadyIn.cons rfl (fun K hK => ?_) ?_
        · go_simp
          refine hK _ _ ?_
          clear hK K
          refine wpAnyIn_ready (rs := [1]) (by kernel_rfl) (by simp) ?_
          refine AllReadyIn.cons rfl (fun K hK => ?_) ?_
          · go_simp
            refine hK _ _ ?_
            clear hK K
            refine wpAnyIn_ready (rs := [4]) (by kernel_rfl) (by simp) ?_
            refine AllReadyIn.cons rfl (fun K hK => ?_) ?_
            · go_simp
              refine ⟨trivial, ?_⟩
              refine (CallsIn.inRound l (callsIn_wide.2 (HI.out x.1 x.2 _))).mono ?_
              rintro e w4 ⟨rfl, hb⟩
              have HB4 := Lib.hid hb
              clear hb n0 n1 n2 n3 nl a0 al o0 ol
              have o0 : w4.cell? ⟨ob, 0, none⟩ = some v := hp_cell (hp_below (hp_dw HV.out) HB4.out) 0
              have ol : ob < w4.heap.size := hp_lt (hp_below (hp_dw HV.out) HB4.out)
              dsimp only
              refine hK _ _ ?_
              clear hK K
              refine wpAnyIn_ready (rs := [5]) (by kernel_rfl) (by simp) ?_
              refine AllReadyIn.cons rfl (fun K hK => ?_) ?_
              · go_simp
                refine hK _ _ ?_
                clear hK K
                refine wpAnyIn_ready (rs := [6]) (by kernel_rfl) (by simp) ?_
                refine AllReadyIn.cons rfl (fun K hK => ?_) ?_
                · refine opIn_append_own _ rfl _ _ 25 rfl W0.heap.size 64 i0 _ 3 24 Try.underlying25 hi hz0 hz1 hz2 rfl (by decide) v pre.length (insC (pre.map (fun x => F x.1))) rfl ((own_below HR.out (Below.trans (Below.drew (Below.refl _ _)) HB4.out)).alloc _) ⟨w4.heap.size, 0, none⟩ 1 1 (inC (F x.1)) rfl rfl (inC_cells (heap_alloc_new _ _)) (inC_one _) (by have := HLT.out; unfold maxLen; omega) (by have := HLT.out; omega) (by have h1 := HW.out; have h2 := HB4.out.size; simp; exact Nat.le_trans h1 (Nat.le_succ_of_le h2)) ?_
                  intro v5 w5 hown hgrow
                  obtain ⟨g', cap', rfl⟩ := ownsRow_succ hown
                  obtain ⟨hv1, hv2, hr2, hk2, hb2, hh2⟩ := boxed_app (hp_below (hp_dw HV.out) HB4.out) (by decide) (own_below HR.out (Below.trans (Below.drew (Below.refl _ _)) HB4.out)) hown hgrow
                  have hc1 := hv1.cell
                  have hf1 := hv1.frozen
                  refine hK _ _ ?_
                  clear hK K
                  refine wpAnyIn_ready (rs := [7]) (by kernel_rfl) (by simp) ?_
                  refine AllReadyIn.cons rfl (fun K hK => ?_) ?_
                  · go_simp
                    refine hK _ _ ?_
                    clear hK K
                    refine wpAnyIn_done (by kernel_rfl) ?_ _
                    gi_wp2; exact blk_body HB HN HA HW HZ HB4 hv2 hr2 hk2 hb2 hh2
                  exact AllReadyIn.nil
                exact AllReadyIn.nil
              exact AllReadyIn.nil
            exact AllReadyIn.nil
          exact AllReadyIn.nil
        refine AllReadyIn.cons rfl (fun K hK => ?_) ?_
        · go_simp
          refine hK _ _ ?_
          clear hK K
          refine wpAnyIn_ready (rs := [0, 4]) (by kernel_rfl) (by simp) ?_
          refine AllReadyIn.cons rfl (fun K hK => ?_) ?_
          · go_simp
            refine hK _ _ ?_
            clear hK K
            refine wpAnyIn_ready (rs := [4]) (by kernel_rfl) (by simp) ?_
            refine AllReadyIn.cons rfl (fun K hK => ?_) ?_
            · go_simp
              refine ⟨trivial, ?_⟩
              refine (CallsIn.inRound l (callsIn_wide.2 (HI.out x.1 x.2 _))).mono ?_
              rintro e w4 ⟨rfl, hb⟩
              have HB4 := Lib.hid hb
              clear hb n0 n1 n2 n3 nl a0 al o0 ol
              have o0 : w4.cell? ⟨ob, 0, none⟩ = some v := hp_cell (hp_below (hp_dw HV.out) HB4.out) 0
              have ol : ob < w4.heap.size := hp_lt (hp_below (hp_dw HV.out) HB4.out)
              dsimp only
              refine hK _ _ ?_
              clear hK K
              refine wpAnyIn_ready (rs := [5]) (by kernel_rfl) (by simp) ?_
              refine AllReadyIn.cons rfl (fun K hK => ?_) ?_
              · go_simp
                refine hK _ _ ?_
                clear hK K
                refine wpAnyIn_ready (rs := [6]) (by kernel_rfl) (by simp) ?_
                refine AllReadyIn.cons rfl (fun K hK => ?_) ?_
                · refine opIn_append_own _ rfl _ _ 25 rfl W0.heap.size 64 i0 _ 3 24 Try.underlying25 hi hz0 hz1 hz2 rfl (by decide) v pre.length (insC (pre.map (fun x => F x.1))) rfl ((own_below HR.out (Below.trans (Below.drew (Below.refl _ _)) HB4.out)).alloc _) ⟨w4.heap.size, 0, none⟩ 1 1 (inC (F x.1)) rfl rfl (inC_cells (heap_alloc_new _ _)) (inC_one _) (by have := HLT.out; unfold maxLen; omega) (by have := HLT.out; omega) (by have h1 := HW.out; have h2 := HB4.out.size; simp; exact Nat.le_trans h1 (Nat.le_succ_of_le h2)) ?_
                  intro v5 w5 hown hgrow
                  obtain ⟨g', cap', rfl⟩ := ownsRow_succ hown
                  obtain ⟨hv1, hv2, hr2, hk2, hb2, hh2⟩ := boxed_app (hp_below (hp_dw HV.out) HB4.out) (by decide) (own_below HR.out (Below.trans (Below.drew (Below.refl _ _)) HB4.out)) hown hgrow
                  have hc1 := hv1.cell
                  have hf1 := hv1.frozen
                  refine hK _ _ ?_
                  clear hK K
                  refine wpAnyIn_ready (rs := [7]) (by kernel_rfl) (by simp) ?_
                  refine AllReadyIn.cons rfl (fun K hK => ?_) ?_
                  · go_simp
                    refine hK _ _ ?_
                    clear hK K
                    refine wpAnyIn_done (by kernel_rfl) ?_ _
                    gi_wp2; exact blk_body HB HN HA HW HZ HB4 hv2 hr2 hk2 hb2 hh2
                  exact AllReadyIn.nil
                exact AllReadyIn.nil
              exact AllReadyIn.nil
            exact AllReadyIn.nil
          refine AllReadyIn.cons rfl (fun K hK => ?_) ?_
          · go_simp
            refine ⟨trivial, ?_⟩
            refine (CallsIn.inRound l (callsIn_wide.2 (HI.out x.1 x.2 _))).mono ?_
            rintro e w4 ⟨rfl, hb⟩
            have HB4 := Lib.hid hb
            clear hb n0 n1 n2 n3 nl a0 al o0 ol
            have o0 : w4.cell? ⟨ob, 0, none⟩ = some v := hp_cell (hp_below (hp_dw HV.out) HB4.out) 0
            have ol : ob < w4.heap.size := hp_lt (hp_below (hp_dw HV.out) HB4.out)
            dsimp only
            refine hK _ _ ?_
            clear hK K
            refine wpAnyIn_ready (rs := [0, 5]) (by kernel_rfl) (by simp) ?_
            refine AllReadyIn.cons rfl (fun K hK => ?_) ?_
            · go_simp
              refine hK _ _ ?_
              clear hK K
              refine wpAnyIn_ready (rs := [5]) (by kernel_rfl) (by simp) ?_
              refine AllReadyIn.cons rfl (fun K hK => ?_) ?_
              · go_simp
                refine hK _ _ ?_
                clear hK K
                refine wpAnyIn_ready (rs := [6]) (by kernel_rfl) (by simp) ?_
                refine AllReadyIn.cons rfl (fun K hK => ?_) ?_
                · refine opIn_append_own _ rfl _ _ 25 rfl W0.heap.size 64 i0 _ 3 24 Try.underlying25 hi hz0 hz1 hz2 rfl (by decide) v pre.length (insC (pre.map (fun x => F x.1))) rfl ((own_below HR.out (Below.trans (Below.drew (Below.refl _ _)) HB4.out)).alloc _) ⟨w4.heap.size, 0, none⟩ 1 1 (inC (F x.1)) rfl rfl (inC_cells (heap_alloc_new _ _)) (inC_one _) (by have := HLT.out; unfold maxLen; omega) (by have := HLT.out; omega) (by have h1 := HW.out; have h2 := HB4.out.size; simp; exact Nat.le_trans h1 (Nat.le_succ_of_le h2)) ?_
                  intro v5 w5 hown hgrow
                  obtain ⟨g', cap', rfl⟩ := ownsRow_succ hown
                  obtain ⟨hv1, hv2, hr2, hk2, hb2, hh2⟩ := boxed_app (hp_below (hp_dw HV.out) HB4.out) (by decide) (own_below HR.out (Below.trans (Below.drew (Below.refl _ _)) HB4.out)) hown hgrow
                  have hc1 := hv1.cell
                  have hf1 := hv1.frozen
                  refine hK _ _ ?_
                  clear hK K
                  refine wpAnyIn_ready (rs := [7]) (by kernel_rfl) (by simp) ?_
                  refine AllReadyIn.cons rfl (fun K hK => ?_) ?_
                  · go_simp
                    refine hK _ _ ?_
                    clear hK K
                    refine wpAnyIn_done (by kernel_rfl) ?_ _
                    gi_wp2; exact blk_body HB HN HA HW HZ HB4 hv2 hr2 hk2 hb2 hh2
                  exact AllReadyIn.nil
                exact AllReadyIn.nil
              exact AllReadyIn.nil
            refine AllReadyIn.cons rfl (fun K hK => ?_) ?_
            · go_simp
              refine hK _ _ ?_
              clear hK K
              refine wpAnyIn_ready (rs := [0]) (by kernel_rfl) (by simp) ?_
              refine AllReadyIn.cons rfl (fun K hK => ?_) ?_
              · go_simp
                refine hK _ _ ?_
                clear hK K
                refine wpAnyIn_ready (rs := [6]) (by kernel_rfl) (by simp) ?_
                refine AllReadyIn.cons rfl (fun K hK => ?_) ?_
                · refine opIn_append_own _ rfl _ _ 25 rfl W0.heap.size 64 i0 _ 3 24 Try.underlying25 hi hz0 hz1 hz2 rfl (by decide) v pre.length (insC (pre.map (fun x => F x.1))) rfl ((own_below HR.out (Below.trans (Below.drew (Below.refl _ _)) HB4.out)).alloc _) ⟨w4.heap.size, 0, none⟩ 1 1 (inC (F x.1)) rfl rfl (inC_cells (heap_alloc_new _ _)) (inC_one _) (by have := HLT.out; unfold maxLen; omega) (by have := HLT.out; omega) (by have h1 := HW.out; have h2 := HB4.out.size; simp; exact Nat.le_trans h1 (Nat.le_succ_of_le h2)) ?_
                  intro v5 w5 hown hgrow
                  obtain ⟨g', cap', rfl⟩ := ownsRow_succ hown
                  obtain ⟨hv1, hv2, hr2, hk2, hb2, hh2⟩ := boxed_app (hp_below (hp_dw HV.out) HB4.out) (by decide) (own_below HR.out (Below.trans (Below.drew (Below.refl _ _)) HB4.out)) hown hgrow
                  have hc1 := hv1.cell
                  have hf1 := hv1.frozen
                  refine hK _ _ ?_
                  clear hK K
                  refine wpAnyIn_ready (rs := [7]) (by kernel_rfl) (by simp) ?_
                  refine AllReadyIn.cons rfl (fun K hK => ?_) ?_
                  · go_simp
                    refine hK _ _ ?_
                    clear hK K
                    refine wpAnyIn_done (by kernel_rfl) ?_ _
                    gi_wp2; exact blk_body HB HN HA HW HZ HB4 hv2 hr2 hk2 hb2 hh2
                  exact AllReadyIn.nil
                exact AllReadyIn.nil
              exact AllReadyIn.nil
            exact AllReadyIn.nil
          exact AllReadyIn.nil
        exact AllReadyIn.nil
      exact AllReadyIn.nil
    exact AllReadyIn.nil
  case stop =>
    rintro D c pre W _ _ h _
    exact h.elim
  case done =>
    rintro D ys W hD hS ⟨⟨v, hv, hrow, _⟩, hB, hn, hr, hwz⟩ hK
    obtain ⟨A, c, rfl⟩ : ∃ A c, v = .slice A ys.length c := by
      rcases hrow.2 with ⟨h1, h2⟩ | ⟨g, cap, cur, h1, _⟩
      · exact ⟨none, 0, by rw [h1, h2]⟩
      · exact ⟨_, _, h1⟩
    have hm : ys.map (fun x => F x.1) = ps.map F := by
      have := congrArg (List.map F) (hS.trans HP.out)
      rwa [List.map_map] at this
    have hlen : ys.length = (ps.map F).length := by rw [← hm, List.length_map]
    have zz := HZ.out
    rw [hm] at hrow
    have hN : NRow W w.heap.size A c (ps.map F) := by
      refine ⟨?_, fun t ht => ?_⟩
      · rw [← hlen]
        refine ⟨hrow.1, ?_⟩
        rcases hrow.2 with h | ⟨g, cap, cur, h1, h2, h3⟩
        · exact .inl h
        · exact .inr ⟨g, cap, cur, h1, by omega, h3⟩
      · obtain ⟨p, hp, rfl⟩ := List.mem_map.1 ht
        exact HO.out p hp
    have hl100 : (ps.map F).length ≤ 100 := by rw [List.length_map]; exact HL.out
    rw [hlen] at hv
    obtain ⟨m, hm'⟩ : ∃ m, (ps.map F).length = m := ⟨_, rfl⟩
    have a0 : W.cell? ⟨ab, 0, none⟩ = some (.int .i64 at') := hp_cell hr 0
    have o0 : W.cell? ⟨ob, 0, none⟩ = some (.slice A m c) := by rw [← hm']; exact hp_cell hv 0
    have al := hp_lt hr
    have ol := hp_lt hv
    have hwr : wrap64 (at' + (m : Int)) = at' + (m : Int) := by have := HT.out; unfold wrap64; omega
    have HNR := Lib.hid hN
    have HK := Lib.hid hK
    have HBB := Lib.hid (show Below w.heap.size w W by rw [zz.2.2.2.2.2]; exact hB)
    have HD := Lib.hid (show w.heap.size ≤ D by omega)
    have HM := Lib.hid hm'
    clear hN hK hB hwz hrow hv hn hr hS hlen hm hl100 hm' zz hD XN0 XA0 XO0 XT0 XS0 BX0
    by_cases ht : at' + (m : Int) > 64
    · have HTT := Lib.hid ht
      have b1 : decide (at' + (m : Int) > 64) = true := decide_eq_true ht
      have b2 : decide (64 < at' + (m : Int)) = true := decide_eq_true ht
      clear ht
      go_wp2_with fail
      exact blk_retE rfl rfl HK.out (by rw [HM.out]; exact HTT.out) HBB.out HD.out
    · have HTT := Lib.hid ht
      have b1 : decide (at' + (m : Int) > 64) = false := decide_eq_false ht
      have b2 : decide (64 < at' + (m : Int)) = false := decide_eq_false ht
      clear ht
      go_wp2_with fail
      exact blk_ret (by rw [HM.out]; rfl) rfl HK.out (by rw [HM.out]; have := HTT.out; omega) HBB.out HD.out HNR.out
end Go.Proofs.Ytmmfadakhnagpaa
