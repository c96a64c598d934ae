
/-
  spec: block: its walk's closure.
-/
import Derived.Test.YtlgpjcdlomhlcaaSp14
import Derived.LoopTactic
import Derived.Deep.LoopGhost
namespace Go.Proofs.Ytlgpjcdlomhlcaa
open Go.RowKit Go.ChangeShapes Go.WideShapes
set_option linter.unusedSimpArgs false
set_option linter.unusedVariables false

def Lim (n : Nat) (b : Bs) : Prop := b.s.stk.length ≤ 100 + 2 * n ∧ b.s.out.length ≤ 100 + n ∧ b.hp.length ≤ 100 ∧ b.ms.length ≤ n ∧ b.arms.length ≤ n ∧ ∀ m ∈ b.ms, m.s0.stk.length ≤ 100 + 2 * n ∧ m.s0.out.length ≤ 100 + n ∧ m.hp0.length ≤ 100
theorem lim_step {N n : Nat} {x : Ins3} {b b' : Bs} (h : Lim n b) (hs : stepB N x b = .ok b') : Lim (n + 1) b' := by
  obtain ⟨h1, h2, h3, h4, h5, h6⟩ := h
  have h6' : ∀ m ∈ b.ms, m.s0.stk.length ≤ 100 + 2 * (n + 1) ∧ m.s0.out.length ≤ 100 + (n + 1) ∧ m.hp0.length ≤ 100 := fun m hm => by
    obtain ⟨a, b, c⟩ := h6 m hm
    exact ⟨by omega, by omega, c⟩
  have hd : ∀ m ∈ b.ms.dropLast, m.s0.stk.length ≤ 100 + 2 * (n + 1) ∧ m.s0.out.length ≤ 100 + (n + 1) ∧ m.hp0.length ≤ 100 := fun m hm => h6' m (List.dropLast_subset _ hm)
  unfold stepB at hs
  by_cases e22 : x.op = 22
  · rw [if_pos e22] at hs
    simp only [Except.ok.injEq] at hs
    subst hs
    exact ⟨by show b.s.stk.length ≤ _; omega, by show b.s.out.length ≤ _; omega, h3, by show b.ms.length ≤ _; omega, by show b.arms.length ≤ _; omega, h6'⟩
  rw [if_neg e22] at hs
  by_cases e26 : x.op = 26
  · rw [if_pos e26] at hs
    cases hl : b.ms.getLast? with
    | none =>
      rw [hl] at hs
      simp only [Except.ok.injEq] at hs
      subst hs
      exact ⟨by show b.s.stk.length ≤ _; omega, by show b.s.out.length ≤ _; omega, h3, by show b.ms.length ≤ _; omega, by show b.arms.length ≤ _; omega, h6'⟩
    | some m =>
      rw [hl] at hs
      simp only [Except.ok.injEq] at hs
      subst hs
      obtain ⟨a, c, d⟩ := h6' m (List.mem_of_getLast? hl)
      exact ⟨a, c, d, by show b.ms.dropLast.length ≤ _; simp; omega, by show b.arms.length ≤ _; omega, hd⟩
  rw [if_neg e26] at hs
  by_cases e23 : x.op = 23
  · rw [if_pos e23] at hs
    simp only [Except.ok.injEq] at hs
    subst hs
    refine ⟨by show b.s.stk.length ≤ _; omega, by show b.s.out.length ≤ _; omega, h3, by simp; omega, by show b.arms.length ≤ _; omega, fun m hm => ?_⟩
    rcases List.mem_append.mp hm with hm | hm
    · exact h6' m hm
    · rw [List.mem_singleton.mp hm]
      exact ⟨by show b.s.stk.length ≤ _; omega, by show b.s.out.length ≤ _; omega, h3⟩
  rw [if_neg e23] at hs
  by_cases e24 : x.op = 24
  · rw [if_pos e24] at hs
    cases hl : b.ms.getLast? with
    | none => rw [hl] at hs; cases hs
    | some m =>
      rw [hl] at hs
      simp only [Except.ok.injEq] at hs
      subst hs
      exact ⟨by show b.s.stk.length ≤ _; omega, by show b.s.out.length ≤ _; omega, h3, by show b.ms.dropLast.length ≤ _; simp; omega, by simp; omega, hd⟩
  rw [if_neg e24] at hs
  by_cases e25 : x.op = 25
  · rw [if_pos e25] at hs
    simp only [Except.ok.injEq] at hs
    subst hs
    exact ⟨by show b.s.stk.length ≤ _; omega, by show b.s.out.length ≤ _; omega, h3, by show b.ms.length ≤ _; omega, by simp; omega, h6'⟩
  rw [if_neg e25] at hs
  by_cases e4 : x.op = 4 ∨ x.op = 5 ∨ x.op = 6 ∨ x.op = 7
  · rw [if_pos e4] at hs
    cases ht : touchF x b.s b.hp with
    | error e => rw [ht] at hs; cases hs
    | ok q =>
      rw [ht] at hs
      simp only [Except.map, Except.ok.injEq] at hs
      subst hs
      obtain ⟨t, hp'⟩ := q
      obtain ⟨a, c, d⟩ := touchF_len ht
      exact ⟨by show t.stk.length ≤ _; omega, by show t.out.length ≤ _; rw [c]; omega, by show hp'.length ≤ _; omega, by show b.ms.length ≤ _; omega, by show b.arms.length ≤ _; omega, h6'⟩
  rw [if_neg e4] at hs
  by_cases e27 : x.op = 27 ∨ x.op = 28 ∨ x.op = 21
  · rw [if_pos e27] at hs; cases hs
  rw [if_neg e27] at hs
  cases ht : plainF N x b.s with
  | error e => rw [ht] at hs; cases hs
  | ok t =>
    rw [ht] at hs
    simp only [Except.map, Except.ok.injEq] at hs
    subst hs
    obtain ⟨a, c⟩ := plainF_len ht
    exact ⟨by show t.stk.length ≤ _; omega, by show t.out.length ≤ _; omega, h3, by show b.ms.length ≤ _; omega, by show b.arms.length ≤ _; omega, h6'⟩
def BQ (B : Nat → Prop) (g : Nat) (I : Value) (b : Bs) (w : World) : Prop := ∃ p ms Ab cb Aa ca, BK B w g I b p ms Ab cb Aa ca
set_option maxRecDepth 20000 in
set_option maxHeartbeats 8000000 in
theorem block1_sp {B : Nat → Prop} {w : World} {g gb mb : Nat} (A : Option Addr) (c : Nat) (l : List Ins3) (hlc : l.length ≤ c) (hll : l.length ≤ 900) (s : St) (hp : List Int) (most : Int) (p : Pl) (hl1 : s.stk.length ≤ 100) (hl2 : s.out.length ≤ 100) (hl3 : hp.length ≤ 100)
    (h : BK B w g (.slice A l.length c) ⟨s, hp, [], [], 0⟩ p [] none 0 none 0) (hi : InsF B w A l) (hg : w.heap[gb]? = some (.cells #[.pointer (some ⟨g, 0, none⟩)] 88 (0, 0))) (hgB : B gb) (hm : w.heap[mb]? = some (.cells #[.int .i64 most] 3 (0, 0))) (hmB : B mb) :
    Calls Try.prog 47 #[.pointer (some ⟨gb, 0, none⟩), .pointer (some ⟨mb, 0, none⟩)] w (TryPost B w (blockF l s hp (fuelF most).toNat) (BQ B g (.slice A l.length c))) := by
  have KW := Lib.hid h
  have HI := Lib.hid hi
  have HG := Lib.hid hg
  have HM := Lib.hid hm
  have g0 : w.cell? ⟨gb, 0, none⟩ = some (.pointer (some ⟨g, 0, none⟩)) := hp_cell hg 0
  have HC := Lib.hid (here_sp A c l hlc w h.wk hi.1)
  have HL := Lib.hid (And.intro hl1 (And.intro hl2 hl3))
  clear h hi hg hm hl1 hl2 hl3
  obtain ⟨R, HR⟩ : ∃ R, Hid (blockF l s hp (fuelF most).toNat = R) := ⟨_, Lib.hid rfl⟩
  rw [HR.out]
  have hR := HR.out
  unfold blockF at hR
  cases hh : hereB l s.pc
  · rw [hh] at HC hR
    rw [if_neg (by decide)] at hR
    subst hR
    have hE : hereE false (xn l s.pc.toNat) = .panicked (stopP 3) := rfl
    rw [hE] at HC
    clear HR hh hE
    go_enter Try.func47, Try.ntmps47
    go_wp2_with (go_at_call 32; refine (HC.out).mono ?_; rintro e w1 ⟨rfl, hb⟩; have F1 := Lib.hid (KW.out.frB hb); clear hb)
    exact ⟨rfl, F1.out, rfl⟩
  · obtain ⟨q1, q2, q3⟩ := here_pc hh
    rw [hh] at HC hR
    rw [if_pos rfl] at hR
    obtain ⟨x, hx⟩ : ∃ x, xn l s.pc.toNat = x := ⟨_, rfl⟩
    rw [hx] at HC hR
    have hE : hereE true x = .returned (inV x) := rfl
    rw [hE] at HC
    obtain ⟨op, ag, v⟩ := x
    unfold inV at HC
    dsimp only at HC hR
    have kw : wrap64 (s.pc + 1) = s.pc + 1 := by unfold wrap64; omega
    have HPC := Lib.hid (show I64 (s.pc + 1) from ⟨by omega, by omega⟩)
    clear hx hE hh q1 q2 q3
    have hfd : ∀ w, (Instr.field 42 (.agg #[.int .u8 op, .int .i64 ag, .int .u64 v]) 0).run Try.prog w = .ok (.int .u8 op) w := fun w => by kernel_rfl
    by_cases h21 : op = 21
    · subst h21
      rw [if_pos rfl] at hR
      have HR2 := Lib.hid hR
      obtain ⟨k0, hk0⟩ : ∃ k0 : Nat, fuelF most = (k0 : Int) ∧ k0 ≤ 300 := ⟨(fuelF most).toNat, by unfold fuelF; omega, by unfold fuelF; omega⟩
      have HK0 := Lib.hid hk0
      rw [hk0.1, Int.toNat_natCast] at HR2
      clear HR hR hk0
      go_enter Try.func47, Try.ntmps47
      go_wp2_with (first | (go_at_call 32; refine (HC.out).mono ?_; rintro e w1 ⟨rfl, hb⟩; have K1 := Lib.hid (KW.out.below hb); have F1 := Lib.hid (KW.out.frB hb); have G1 := Lib.hid (hp_below HG.out hb); have M1 := Lib.hid (hp_below HM.out hb); have g1 : w1.cell? ⟨gb, 0, none⟩ = some (.pointer (some ⟨g, 0, none⟩)) := hp_cell G1.out 0; have m1 : w1.cell? ⟨mb, 0, none⟩ = some (.int .i64 most) := hp_cell M1.out 0; have y1 := K1.out.wk.at.2.1; have z1 := K1.out.wk.fz 1; have lg1 := K1.out.wk.lt; have nm1 : mb ≠ g := hp_ne M1.out K1.out.wk.cells (by decide); have nm2 : g ≠ mb := fun e => nm1 e.symm; have ng1 : gb ≠ g := hp_ne G1.out K1.out.wk.cells (by decide); have ng2 : g ≠ gb := fun e => ng1 e.symm; clear hb) | (go_at_call 48; (with_reducible refine (need_yes _ _).mono ?_); rintro e w' ⟨rfl, rfl⟩) | (go_at_call 45; refine (fuel_sp _ _).mono ?_; rintro e w' ⟨rfl, rfl⟩; rw [HK0.out.1]))
      have K2 := Lib.hid (show BQ B g (.slice A l.length c) ⟨{ s with pc := s.pc + 1 }, hp, [], [], 0⟩ (w1.setCell ⟨g, 1, none⟩ (.int .i64 (s.pc + 1))) from ⟨_, _, _, _, _, _, K1.out.walk (Fr.set _ K1.out.wk.fg 1 (.int .i64 (s.pc + 1))) (K1.out.wk.setPc (s.pc + 1) HPC.out)⟩)
      have F2 := Lib.hid (F1.out.trans (K1.out.fB 1 (.int .i64 (s.pc + 1))))
      clear K1 F1 G1 M1 g1 m1 y1 z1 lg1 nm1 nm2 ng1 ng2 HC HM g0
      generalize (w1.setCell ⟨g, 1, none⟩ (.int .i64 (s.pc + 1))) = w2 at K2 F2 ⊢
      go_loopw [2] (fun t w' => ∃ (j : Nat) (b : Bs), j ≤ 300 ∧ t = .int .i64 j ∧ Hid (BQ B g (.slice A l.length c) b w') ∧ Hid (Fr B w w') ∧ Hid (loopB l j b = R) ∧ Hid (Lim (300 - j) b)) (fun t _ => (intOf t).toNat)
      case atStart => exact ⟨k0, _, HK0.out.2, rfl, K2, F2, HR2, Lib.hid ⟨by show s.stk.length ≤ _; have := HL.out; omega, by show s.out.length ≤ _; have := HL.out; omega, HL.out.2.2, Nat.zero_le _, Nat.zero_le _, fun m hm => (List.not_mem_nil hm).elim⟩⟩
      case round =>
        obtain ⟨j, b, hj, rfl, HQ, HF, HRl, HLm⟩ := hrel
        obtain ⟨p1, ms1, Ab1, cb1, Aa1, ca1, hk⟩ := HQ.out
        have K := Lib.hid hk
        have G := Lib.hid (HF.out.hp HG.out hgB)
        have g0 : World.cell? _ ⟨gb, 0, none⟩ = some (.pointer (some ⟨g, 0, none⟩)) := hp_cell G.out 0
        have y11 := K.out.b9.2.2
        have lg := K.out.wk.lt
        have lgb := hp_lt G.out
        have HII := Lib.hid (insF_fr HI.out HF.out)
        clear hk
        by_cases hkd : b.kind = 0
        · rw [hkd] at y11
          have HC := Lib.hid (here_sp A c l hlc _ K.out.wk HII.out.1)
          cases hh : hereB l b.s.pc
          · have HH := Lib.hid hh
            have HR3 := Lib.hid (show R = .error 3 from by
              have := HRl.out
              cases j with
              | zero => unfold loopB at this; rw [if_pos hkd, if_neg (by rw [hh]; decide)] at this; exact this.symm
              | succ j => unfold loopB at this; rw [if_pos hkd, if_neg (by rw [hh]; decide)] at this; exact this.symm)
            clear hh hkd
            go_wp2_with (go_at_call 32; refine (HC.out).mono ?_; rintro e w3 ⟨he, hb3⟩; rw [HH.out] at he; (obtain rfl : e = .panicked (stopP 3) := he); have F3 := Lib.hid (K.out.frB hb3); have K3 := Lib.hid (K.out.below hb3); have g3 : w3.cell? ⟨gb, 0, none⟩ = some (.pointer (some ⟨g, 0, none⟩)) := hp_cell (hp_below G.out hb3) 0; have lg3 := hp_lt (hp_below G.out hb3); clear hb3)
            exact ⟨rfl, HF.out.trans F3.out, by rw [HR3.out]⟩
          · obtain ⟨q1, q2, q3⟩ := here_pc hh
            have hxo := ins_ok HII.out.1 (j := b.s.pc.toNat) (by omega)
            obtain ⟨x, hx⟩ : ∃ x, xn l b.s.pc.toNat = x := ⟨_, rfl⟩
            rw [hx] at HC q3 hxo
            obtain ⟨op, ag, v⟩ := x
            have HH := Lib.hid hh
            have HXO := Lib.hid hxo
            have HQ3 := Lib.hid q3
            clear hxo q3
            cases j with
            | zero =>
              have HR3 := Lib.hid (show R = .error 11 from by
                have := HRl.out
                unfold loopB at this; rw [if_pos hkd, if_pos hh] at this; exact this.symm)
              clear hh hkd hx q1 q2
              go_wp2_with (first | (go_at_call 32; refine (HC.out).mono ?_; rintro e w3 ⟨he, hb3⟩; rw [HH.out] at he; (obtain rfl : e = .returned (.agg #[.int .u8 op, .int .i64 ag, .int .u64 v]) := he); have F3 := Lib.hid (K.out.frB hb3); have K3 := Lib.hid (K.out.below hb3); have g3 : w3.cell? ⟨gb, 0, none⟩ = some (.pointer (some ⟨g, 0, none⟩)) := hp_cell (hp_below G.out hb3) 0; have lg3 := hp_lt (hp_below G.out hb3); clear hb3) | (go_at_call 48; (with_reducible refine (need_no _ _).mono ?_); rintro e w' ⟨rfl, rfl⟩))
              exact ⟨rfl, (HF.out.trans F3.out).trans (K3.out.frA _), by rw [HR3.out]⟩
            | succ k =>
              have HBD := Lib.hid (show b.s.stk.length ≤ 800 ∧ b.s.out.length ≤ 800 ∧ b.hp.length ≤ 1000 ∧ b.ms.length ≤ 900 ∧ b.arms.length ≤ 900 from by
                obtain ⟨a1, a2, a3, a4, a5, _⟩ := HLm.out
                refine ⟨?_, ?_, ?_, ?_, ?_⟩ <;> omega)
              have HPB := Lib.hid (show 0 ≤ b.s.pc ∧ b.s.pc < 1000 from ⟨q1, by omega⟩)
              have t1 : decide ((0 : Int) < ((k + 1 : Nat) : Int)) = true := decide_eq_true (by omega)
              have t2 : decide (((k + 1 : Nat) : Int) > 0) = true := t1
              have t3 : decide ((0 : Int) < (k : Int) + 1) = true := decide_eq_true (by omega)
              have kw1 : wrap64 (((k + 1 : Nat) : Int) - 1) = (k : Int) := by unfold wrap64; omega
              have kw2 : wrap64 ((k : Int) + 1 - 1) = (k : Int) := by unfold wrap64; omega
              have hRl := HRl.out
              unfold loopB at hRl
              rw [if_pos hkd, if_pos hh, hx] at hRl
              cases hs : stepB l.length ⟨op, ag, v⟩ b with
              | error e1 =>
                rw [hs] at hRl
                have HR3 := Lib.hid (show R = .error e1 from hRl.symm)
                have HS := Lib.hid hs
                clear hh hkd hx hs hRl q1 q2
                go_wp2_with (first | (go_at_call 32; refine (HC.out).mono ?_; rintro e w3 ⟨he, hb3⟩; rw [HH.out] at he; (obtain rfl : e = .returned (.agg #[.int .u8 op, .int .i64 ag, .int .u64 v]) := he); have F3 := Lib.hid (K.out.frB hb3); have K3 := Lib.hid (K.out.below hb3); have g3 : w3.cell? ⟨gb, 0, none⟩ = some (.pointer (some ⟨g, 0, none⟩)) := hp_cell (hp_below G.out hb3) 0; have lg3 := hp_lt (hp_below G.out hb3); clear hb3) | (go_at_call 48; (with_reducible refine (need_yes _ _).mono ?_); rintro e w' ⟨rfl, rfl⟩) | (go_at_call 49; refine (blk_sp l.length c A rfl ⟨op, ag, v⟩ HXO.out HQ3.out HPB.out HBD.out.1 HBD.out.2.1 HBD.out.2.2.1 HBD.out.2.2.2.1 HBD.out.2.2.2.2 (K3.out.alloc _)).mono ?_; rintro e w5 ⟨hf5, hm5⟩; rw [HS.out] at hm5; (obtain rfl : e = .panicked (stopP e1) := hm5); have F5 := Lib.hid hf5; clear hf5))
                exact ⟨rfl, ((HF.out.trans F3.out).trans (K3.out.frA _)).trans F5.out, by rw [HR3.out]⟩
              | ok b' =>
                rw [hs] at hRl
                have HR3 := Lib.hid (show loopB l k b' = R from hRl)
                have HS := Lib.hid hs
                have HL2 := Lib.hid (show Lim (300 - k) b' from by
                  have := lim_step HLm.out hs
                  rwa [show 300 - (k + 1) + 1 = 300 - k by omega] at this)
                clear hh hkd hx hs hRl q1 q2
                go_wp2_with (first | (go_at_call 32; refine (HC.out).mono ?_; rintro e w3 ⟨he, hb3⟩; rw [HH.out] at he; (obtain rfl : e = .returned (.agg #[.int .u8 op, .int .i64 ag, .int .u64 v]) := he); have F3 := Lib.hid (K.out.frB hb3); have K3 := Lib.hid (K.out.below hb3); have g3 : w3.cell? ⟨gb, 0, none⟩ = some (.pointer (some ⟨g, 0, none⟩)) := hp_cell (hp_below G.out hb3) 0; have lg3 := hp_lt (hp_below G.out hb3); clear hb3) | (go_at_call 48; (with_reducible refine (need_yes _ _).mono ?_); rintro e w' ⟨rfl, rfl⟩) | (go_at_call 49; refine (blk_sp l.length c A rfl ⟨op, ag, v⟩ HXO.out HQ3.out HPB.out HBD.out.1 HBD.out.2.1 HBD.out.2.2.1 HBD.out.2.2.2.1 HBD.out.2.2.2.2 (K3.out.alloc _)).mono ?_; rintro e w5 ⟨hf5, hm5⟩; rw [HS.out] at hm5; (obtain ⟨rfl, hq5⟩ := hm5); have F5 := Lib.hid hf5; have Q5 := Lib.hid (show BQ B g (.slice A l.length c) b' w5 from hq5); clear hf5 hq5))
                go_roundw
                case rel => exact ⟨k, b', by omega, by go_num, Q5, Lib.hid (((HF.out.trans F3.out).trans (K3.out.frA _)).trans F5.out), HR3, HL2⟩
                case measure => simp [intOf]
        · have t0 : (b.kind == 0) = false := beq_eq_false_iff_ne.2 hkd
          have HR3 := Lib.hid (show R = .ok b from by
            have := HRl.out
            cases j with
            | zero => unfold loopB at this; rw [if_neg hkd] at this; exact this.symm
            | succ j => unfold loopB at this; rw [if_neg hkd] at this; exact this.symm)
          clear hkd
          go_wp2_with fail
          go_end0
          exact ⟨HF.out, by rw [HR3.out]; exact ⟨rfl, HQ.out⟩⟩
    · rw [if_neg h21] at hR
      subst hR
      have t21 : (op == 21) = false := beq_eq_false_iff_ne.2 h21
      clear HR h21
      go_enter Try.func47, Try.ntmps47
      go_wp2_with (first | (go_at_call 32; refine (HC.out).mono ?_; rintro e w1 ⟨rfl, hb⟩; have F1 := Lib.hid (KW.out.frB hb); clear hb) | (go_at_call 48; (with_reducible refine (need_no _ _).mono ?_); rintro e w' ⟨rfl, rfl⟩))
      exact ⟨rfl, F1.out, rfl⟩
end Go.Proofs.Ytlgpjcdlomhlcaa
