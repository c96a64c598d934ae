/-
  value.Parse: what is refused is caught, and answered by an error.
-/
import Derived.Test.YtfnjldofbdkjgaaPar
import Derived.Laws.Pointers
namespace Go.Proofs.Ytfnjldofbdkjgaa
open Go.RowKit
set_option linter.unusedSimpArgs false

/-- The two results' places, as they stand at the door. -/
def two (w : World) : World := (w.alloc (.cells #[.int .u64 0] 24)).alloc (.cells #[.int .i64 0] 41)
def Caught (w w' : World) : Prop := Below w.heap.size w w' ∧ w'.cell? ⟨w.heap.size, 0, none⟩ = some (.int .u64 0) ∧ w'.cell? ⟨w.heap.size + 1, 0, none⟩ = some (.int .i64 3)
theorem catch_panicking (w : World) :
    CallsD Try.prog 62 #[.pointer (some ⟨w.heap.size, 0, none⟩), .pointer (some ⟨w.heap.size + 1, 0, none⟩)] (.panicking refusal) (two w) fun e u' w' =>
      e = .returned (.tuple #[]) ∧ u' = .panicking [{ v := .iface 52 (.agg #[]), recovered := true }] ∧ Caught w w' := by
  refine callsD_of_wpS Try.func62 rfl fun c₀ cs hu => ?_
  apply wpS_seq
  apply wpS_region
  simp [wpOpsS, go_sem, recoverD, hu, Try.ntmps62, Exit.thenS, refusal]
  refine wpS_of_wp ?_
  have e : #[Value.pointer (some ⟨w.heap.size, 0, none⟩), Value.pointer (some ⟨w.heap.size + 1, 0, none⟩)] ++ ((Array.replicate 14 undef).setIfInBounds 3 (Value.iface 52 (Value.agg #[]))).setIfInBounds 0 (Value.iface 52 (Value.agg #[])) =
    #[Value.pointer (some ⟨w.heap.size, 0, none⟩), Value.pointer (some ⟨w.heap.size + 1, 0, none⟩), Value.iface 52 (Value.agg #[]), undef, undef, Value.iface 52 (Value.agg #[]), undef, undef, undef, undef, undef, undef, undef, undef, undef, undef] := rfl
  rw [e]
  clear e
  refine wp_mono (Q := fun ex a' w' => ex = Exit.normal ∧ a'.defers = [] ∧ Caught w w') ?_ ?_
  · clear hu
    have hta : ∀ w : World, (Instr.typeAssert (.iface 52 (.agg #[])) 20 52 true).run Try.prog w = .ok (.tuple #[.agg #[], .bool true]) w := fun _ => by kernel_rfl
    unfold two
    go_wp2
    exact ⟨(((Below.refl _ _).alloc (Nat.le_refl _) _).alloc (by simp) _).alloc (by simp; omega) _, by simp [go_sem], by simp [go_sem]⟩
  · rintro ex a' w' ⟨rfl, h1, h2⟩
    simp [bodyPostS, results, Try.results62, h1, h2]

theorem catch_idle (p q : Addr) (w : World) :
    CallsD Try.prog 62 #[.pointer (some p), .pointer (some q)] .returning w fun e u' w' => e = .returned (.tuple #[]) ∧ u' = .returning ∧ w' = w := by
  refine callsD_of_wpS Try.func62 rfl fun c₀ cs hu => ?_
  apply wpS_seq
  apply wpS_region
  simp [wpOpsS, go_sem, recoverD, hu, Try.ntmps62, Exit.thenS]
  refine wpS_of_wp ?_
  have e : #[Value.pointer (some p), Value.pointer (some q)] ++ ((Array.replicate 14 undef).setIfInBounds 3 Value.nilIface).setIfInBounds 0 Value.nilIface =
    #[Value.pointer (some p), Value.pointer (some q), Value.nilIface, undef, undef, Value.nilIface, undef, undef, undef, undef, undef, undef, undef, undef, undef, undef] := rfl
  rw [e]
  clear e
  refine wp_mono (Q := fun ex a' w' => ex = Exit.normal ∧ a'.defers = [] ∧ w' = w) ?_ ?_
  · clear hu
    go_wp2
  · rintro ex a' w' ⟨rfl, h1, rfl⟩
    cases c₀
    simp_all [bodyPostS, results, Try.results62]

def parsedV (l : List UInt8) : Int := (parseV l).getD 0
def parsedE (l : List UInt8) : Int := if (parseV l).isSome then 0 else 3
theorem parse_any (s : ByteArray) (w : World) : Calls Try.prog 40 #[.string s] w fun e w' =>
    e = .returned (.tuple #[.int .u64 (parsedV s.data.toList), .int .i64 (parsedE s.data.toList)]) ∧ Below w.heap.size w w' := by
  have hmf : ∀ (fn : Fn) (first cap : Array Value) (w : World), (Instr.makeFunc fn first cap).run Try.prog w = .ok (.func fn first cap) w := fun _ _ _ _ => rfl
  cases h : parseV s.data.toList with
  | some x =>
    have F1 := Lib.hid (show parsedV s.data.toList = x by unfold parsedV; rw [h]; rfl)
    have F2 := Lib.hid (show parsedE s.data.toList = 0 by unfold parsedE; rw [h]; rfl)
    have HG : ∀ w' : World, Calls Try.prog 63 #[.string s] w' fun e w'' => e = .returned (.int .u64 x) ∧ w' = w'' := by
      intro w'
      refine (bits_any s w').mono ?_
      rintro e w'' ⟨h1, h2⟩
      rw [h] at h1
      exact ⟨h1, h2⟩
    have HG' := Lib.hid HG
    clear h HG
    go_enter_defers Try.func40, Try.ntmps40
    go_wp2_with (go_at_call 63; refine (HG'.out _).mono ?_; rintro e w' ⟨rfl, rfl⟩)
    refine leaves_cons (f := 62) (args := #[.pointer (some ⟨w.heap.size, 0, none⟩), .pointer (some ⟨w.heap.size + 1, 0, none⟩)]) (by simp) (by simp [go_sem]) ?_
    refine (catch_idle _ _ _).mono ?_
    rintro e u' w'' ⟨rfl, rfl, rfl⟩
    simp [Leaves, settle, results, Try.results40, go_sem]
    refine ⟨by rw [F1.out, F2.out]; exact ⟨rfl, rfl⟩, ((Below.refl _ _).alloc (Nat.le_refl _) _).alloc (by simp) _⟩
  | none =>
    have F1 := Lib.hid (show parsedV s.data.toList = 0 by unfold parsedV; rw [h]; rfl)
    have F2 := Lib.hid (show parsedE s.data.toList = 3 by unfold parsedE; rw [h]; rfl)
    have HG : ∀ w' : World, Calls Try.prog 63 #[.string s] w' fun e w'' => e = .panicked refusal ∧ w' = w'' := by
      intro w'
      refine (bits_any s w').mono ?_
      rintro e w'' ⟨h1, h2⟩
      rw [h] at h1
      exact ⟨h1, h2⟩
    have HG' := Lib.hid HG
    clear h HG
    go_enter_defers Try.func40, Try.ntmps40
    go_wp2_with (go_at_call 63; refine (HG'.out _).mono ?_; rintro e w' ⟨rfl, rfl⟩)
    refine leaves_cons (f := 62) (args := #[.pointer (some ⟨w.heap.size, 0, none⟩), .pointer (some ⟨w.heap.size + 1, 0, none⟩)]) (by simp) (by simp [go_sem]) ?_
    refine (catch_panicking w).mono ?_
    rintro e u' w'' ⟨rfl, rfl, hb, h1, h2⟩
    simp [Leaves, settle, results, Try.results40, go_sem, h1, h2]
    exact ⟨by rw [F1.out, F2.out]; exact ⟨rfl, rfl⟩, hb⟩

end Go.Proofs.Ytfnjldofbdkjgaa
