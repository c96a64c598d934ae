/-
  The walk of ValueTexts.
-/
import Derived.Test.YtfnjldofbdkjgaaHex
namespace Go.Proofs.Ytfnjldofbdkjgaa
open Go.RowKit
set_option linter.unusedSimpArgs false

theorem bstep {B : Nat} {a b c : World} (h : Below B a b) (k : Below b.heap.size b c) (hB : B ≤ a.heap.size) : Below B a c := h.trans (k.mono (Nat.le_trans hB h.size))
theorem dstep {B : Nat} {a b c : World} (h : Below B a b) (k : DrewN b c) : Below B a c := by obtain ⟨n, rfl⟩ := k; exact below_drewN h n
theorem valueTexts_walk (a0 : Int) (_w0 : (Lit.int .i64 a0).wf = true) (a1 : Int) (w1 : (Lit.int .u64 a1).wf = true) (s : ByteArray) (_w2 : s.size ≤ 140737488351232) (w : World) :
    Calls Try.prog 8 #[.int .i64 a0, .int .u64 a1, .string s] w fun e w' => e = .returned (.bool true) ∧ Below w.heap.size w w' := by
  have h1 := w64_of w1
  have g1 : (parsedV (hexStr a1).data.toList == canon a1) = true := by unfold parsedV; rw [parse_hex h1]; simp
  have g2 : (parsedE (hexStr a1).data.toList == 0) = true := by unfold parsedE; rw [parse_hex h1]; rfl
  clear w1
  go_enter Try.func8, Try.ntmps8
  go_wp2_with (first | (go_at_call 27; refine (int_any _ _).mono ?_; rintro e w' ⟨rfl, rfl⟩) | (go_at_call 38; refine (refInt_any _ _).mono ?_; rintro e w' ⟨rfl, rfl⟩) | (go_at_call 28; refine (whole_any _ h1 _).mono ?_; rintro e w' ⟨rfl, rfl⟩) | (go_at_call 39; refine (refWhole_any _ h1 _).mono ?_; rintro e w' ⟨rfl, rfl⟩) | (go_at_call 42; refine (hex_any _ h1 _).mono ?_; rintro e wx ⟨rfl, hb⟩) | (go_at_call 43; refine (refHex_any _ h1 _).mono ?_; rintro e w' ⟨rfl, rfl⟩) | (go_at_call 19; refine (canon_any _ h1 _).mono ?_; rintro e w' ⟨rfl, rfl⟩) | (go_at_call 40; refine (parse_any _ _).mono ?_; rintro e wx ⟨rfl, hb⟩) | (go_at_call 41; refine (refParse_any _ _).mono ?_; rintro e wx ⟨rfl, n, rfl⟩) | (go_at_call 14; refine (live_any _).mono ?_; rintro e wx ⟨rfl, hb⟩))
  go_ret
  refine ⟨rfl, ?_⟩
  repeat (first | exact Below.refl _ _ | refine bstep ?_ (by assumption) (Nat.le_refl _) | refine below_drewN ?_ _)

end Go.Proofs.Ytfnjldofbdkjgaa
