
/-
  rowlockref23: may, Enter, Take, Arrive, Leave.
-/
import Derived.Test.YtmmfadakhnagpaaFl7
import Derived.Deep.CutBlock
import Derived.Handy
namespace Go.Proofs.Ytmmfadakhnagpaa
open Go.RowKit Go.ChangeShapes Go.WideShapes
set_option linter.unusedSimpArgs false
set_option linter.unusedVariables false

def mayB (at' tv vars sz most : Int) : Bool := decide (at' < 0) || (decide (64 < at') || (decide (sz < 1) || (decide (most < sz) || (decide (tv < 0) || decide (12 - vars < tv)))))
theorem nrow_base {w : World} {b b' c : Nat} {A : Option Addr} {l : List Ins3} (h : NRow w b A c l) (hb : b' ≤ b) : NRow w b' A c l := by
  refine ⟨⟨h.1.1, ?_⟩, h.2⟩
  rcases h.1.2 with h1 | ⟨g, cap, cur, h1, h2, h3⟩
  · exact .inl h1
  · exact .inr ⟨g, cap, cur, h1, by omega, h3⟩
theorem RI.fin {W w w1 : World} {A : Option Addr} {c : Nat} {l : List Ins3} (h : RI W w A c l) {r : Int × List Ins3} {e : Ending} (hp : FPost w r e w1) : FPost W r e w1 := by
  obtain ⟨A1, c1, he, hn, hb⟩ := hp
  exact ⟨A1, c1, he, nrow_base hn h.bl.size, h.bl.trans (hb.mono h.bl.size)⟩
set_option maxHeartbeats 4000000 in
theorem may_any (at' tv vars sz most : Int) (hv : wrap64 (12 - vars) = 12 - vars) (w : World) : Calls Try.prog 91 #[.int .i64 at', .int .i64 tv, .int .i64 vars, .int .i64 sz, .int .i64 most] w fun e w' => e = .returned (.int .i64 (bif mayB at' tv vars sz most then 2 else 0)) ∧ w = w' := by
  unfold mayB
  obtain ⟨vv, hvv⟩ : ∃ v, 12 - vars = v := ⟨_, rfl⟩
  have hv' : wrap64 (12 - vars) = vv := by rw [hv, hvv]
  rw [hvv]
  clear hvv hv
  cases h0 : decide (at' < 0)
  · have g0 : decide (at' < 0) = false := h0
    cases h1 : decide (64 < at')
    · have g1 : decide (at' > 64) = false := h1
      cases h2 : decide (sz < 1)
      · have g2 : decide (sz < 1) = false := h2
        cases h3 : decide (most < sz)
        · have g3 : decide (sz > most) = false := h3
          cases h4 : decide (tv < 0)
          · have g4 : decide (tv < 0) = false := h4
            cases h5 : decide (vv < tv)
            · have g5 : decide (tv > vv) = false := h5
              go_enter Try.func91, Try.ntmps91
              go_wp2_with fail
              go_ret
              exact ⟨rfl, rfl⟩
            · have g5 : decide (tv > vv) = true := h5
              go_enter Try.func91, Try.ntmps91
              go_wp2_with fail
              go_ret
              exact ⟨rfl, rfl⟩
          · have g4 : decide (tv < 0) = true := h4
            go_enter Try.func91, Try.ntmps91
            go_wp2_with fail
            go_ret
            exact ⟨rfl, rfl⟩
        · have g3 : decide (sz > most) = true := h3
          go_enter Try.func91, Try.ntmps91
          go_wp2_with fail
          go_ret
          exact ⟨rfl, rfl⟩
      · have g2 : decide (sz < 1) = true := h2
        go_enter Try.func91, Try.ntmps91
        go_wp2_with fail
        go_ret
        exact ⟨rfl, rfl⟩
    · have g1 : decide (at' > 64) = true := h1
      go_enter Try.func91, Try.ntmps91
      go_wp2_with fail
      go_ret
      exact ⟨rfl, rfl⟩
  · have g0 : decide (at' < 0) = true := h0
    go_enter Try.func91, Try.ntmps91
    go_wp2_with fail
    go_ret
    exact ⟨rfl, rfl⟩
def enterR (tv sz v : Int) : List Ins3 := [⟨21, 22, 0⟩, ⟨4, tv, 0⟩, ⟨1, 0, intV sz⟩, ⟨14, 0, 0⟩, ⟨20, 6, 0⟩, ⟨26, 0, 0⟩, ⟨1, 0, v⟩, ⟨4, (tv + 1), 0⟩, ⟨4, tv, 0⟩, ⟨8, 0, 0⟩, ⟨16, 0, 0⟩, ⟨1, 0, intV sz⟩, ⟨13, 0, 0⟩, ⟨20, 15, 0⟩, ⟨19, 17, 0⟩, ⟨1, 0, intV sz⟩, ⟨9, 0, 0⟩, ⟨7, (tv + 2), 0⟩, ⟨4, tv, 0⟩, ⟨1, 0, intV 1⟩, ⟨8, 0, 0⟩, ⟨5, tv, 0⟩, ⟨22, 0, 0⟩]
def takeR (tv sz : Int) : List Ins3 := [⟨21, 23, 0⟩, ⟨4, tv, 0⟩, ⟨20, 22, 0⟩, ⟨4, (tv + 1), 0⟩, ⟨6, (tv + 2), 0⟩, ⟨4, tv, 0⟩, ⟨1, 0, intV 1⟩, ⟨9, 0, 0⟩, ⟨5, tv, 0⟩, ⟨4, (tv + 1), 0⟩, ⟨1, 0, intV 1⟩, ⟨8, 0, 0⟩, ⟨16, 0, 0⟩, ⟨1, 0, intV sz⟩, ⟨13, 0, 0⟩, ⟨20, 18, 0⟩, ⟨5, (tv + 1), 0⟩, ⟨19, 23, 0⟩, ⟨17, 0, 0⟩, ⟨1, 0, intV 0⟩, ⟨5, (tv + 1), 0⟩, ⟨19, 23, 0⟩, ⟨26, 0, 0⟩, ⟨22, 0, 0⟩]
def arriveR (tv sz : Int) : List Ins3 := [⟨21, 18, 0⟩, ⟨4, (tv + 1), 0⟩, ⟨4, tv, 0⟩, ⟨1, 0, intV 1⟩, ⟨8, 0, 0⟩, ⟨16, 0, 0⟩, ⟨1, 0, intV sz⟩, ⟨14, 0, 0⟩, ⟨20, 17, 0⟩, ⟨17, 0, 0⟩, ⟨1, 0, intV 0⟩, ⟨5, tv, 0⟩, ⟨4, (tv + 1), 0⟩, ⟨1, 0, intV 1⟩, ⟨8, 0, 0⟩, ⟨5, (tv + 1), 0⟩, ⟨19, 18, 0⟩, ⟨5, tv, 0⟩, ⟨22, 0, 0⟩]
def leaveR (tv lc : Int) : List Ins3 := [⟨21, 7, 0⟩, ⟨2, lc, 0⟩, ⟨4, (tv + 1), 0⟩, ⟨13, 0, 0⟩, ⟨20, 6, 0⟩, ⟨19, 7, 0⟩, ⟨26, 0, 0⟩, ⟨22, 0, 0⟩]
def enterM (at' tv sz v : Int) : Int × List Ins3 := bif (decide (sz < 1) || decide (4 < sz)) then (2, []) else bif mayB at' tv (sz + 2) sz 4 then (2, []) else bif !rightB v then (3, []) else blkA (enterR tv sz v) at'
def takeM (at' tv sz : Int) : Int × List Ins3 := bif (decide (sz < 1) || decide (4 < sz)) then (2, []) else bif mayB at' tv (sz + 2) sz 4 then (2, []) else blkA (takeR tv sz) at'
def arriveM (at' tv sz : Int) : Int × List Ins3 := bif mayB at' tv 2 sz 4 then (2, []) else blkA (arriveR tv sz) at'
def leaveM (at' tv lc : Int) : Int × List Ins3 := bif mayB at' tv 2 1 1 then (2, []) else bif (decide (lc < 0) || decide (4 ≤ lc)) then (2, []) else blkA (leaveR tv lc) at'
end Go.Proofs.Ytmmfadakhnagpaa
