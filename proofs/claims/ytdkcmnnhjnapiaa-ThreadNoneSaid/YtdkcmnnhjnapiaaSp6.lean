
/-
  spec: attempt: what is given up is caught.
-/
import Derived.Test.YtdkcmnnhjnapiaaSp4
import Derived.Recover
import Derived.Defers
import Derived.Laws.Pointers
namespace Go.Proofs.Ytdkcmnnhjnapiaa
open Go.RowKit Go.ChangeShapes Go.WideShapes
set_option linter.unusedSimpArgs false
set_option linter.unusedVariables false

def errC (n : Int) : Obj := .cells #[.int .i64 n] 31 (0, 0)
theorem att_idle (b : Nat) (w : World) :
    CallsD Try.prog 50 #[.pointer (some ⟨b, 0, none⟩)] .returning w fun e u' w' => e = .returned (.tuple #[]) ∧ u' = .returning ∧ w' = w := by
  refine callsD_of_wpS Try.func50 rfl fun c₀ cs hu => ?_
  apply wpS_seq
  apply wpS_region
  simp [wpOpsS, go_sem, recoverD, hu, Try.ntmps50, Exit.thenS]
  refine wpS_of_wp ?_
  have e : #[Value.pointer (some ⟨b, 0, none⟩)] ++ (Array.replicate 11 undef).setIfInBounds 3 Value.nilIface =
    #[Value.pointer (some ⟨b, 0, none⟩), undef, undef, undef, Value.nilIface, undef, undef, undef, undef, undef, undef, undef] := rfl
  rw [e]
  clear e
  refine wp_mono (Q := fun ex a' w' => ex = Exit.normal ∧ a'.defers = [] ∧ w' = w) ?_ ?_
  · clear hu
    go_wp2
  · rintro ex a' w' ⟨rfl, h1, rfl⟩
    cases c₀
    simp_all [bodyPostS, results, Try.results50]
theorem att_catch (b : Nat) (n m : Int) (w : World) (hb : w.heap[b]? = some (errC m)) :
    CallsD Try.prog 50 #[.pointer (some ⟨b, 0, none⟩)] (.panicking (stopP n)) w fun e u' w' =>
      e = .returned (.tuple #[]) ∧ u' = .panicking [{ v := .iface 103 (.agg #[.int .i64 n]), recovered := true }] ∧ ∃ o, w' = (w.alloc o).setCell ⟨b, 0, none⟩ (.int .i64 n) := by
  refine callsD_of_wpS Try.func50 rfl fun c₀ cs hu => ?_
  apply wpS_seq
  apply wpS_region
  simp [wpOpsS, go_sem, recoverD, hu, Try.ntmps50, Exit.thenS, stopP]
  refine wpS_of_wp ?_
  have e : #[Value.pointer (some ⟨b, 0, none⟩)] ++ (Array.replicate 11 undef).setIfInBounds 3 (Value.iface 103 (Value.agg #[.int .i64 n])) =
    #[Value.pointer (some ⟨b, 0, none⟩), undef, undef, undef, Value.iface 103 (Value.agg #[.int .i64 n]), undef, undef, undef, undef, undef, undef, undef] := rfl
  rw [e]
  clear e
  refine wp_mono (Q := fun ex a' w' => ex = Exit.normal ∧ a'.defers = [] ∧ ∃ o, w' = (w.alloc o).setCell ⟨b, 0, none⟩ (.int .i64 n)) ?_ ?_
  · clear hu
    have hta : ∀ w : World, (Instr.typeAssert (.iface 103 (.agg #[.int .i64 n])) 20 103 true).run Try.prog w = .ok (.tuple #[.agg #[.int .i64 n], .bool true]) w := fun _ => by kernel_rfl
    have b0 : w.cell? ⟨b, 0, none⟩ = some (.int .i64 m) := hp_cell hb 0
    have bz := hp_frozen hb 0
    have bl := hp_lt hb
    clear hb
    go_wp2
    first | exact ⟨_, rfl⟩ | exact ⟨rfl, rfl, _, rfl⟩
  · rintro ex a' w' ⟨rfl, h1, h2⟩
    simp [bodyPostS, results, Try.results50, h1, h2]
def errOf {α : Type} : Except Int α → Int
  | .ok _ => 0
  | .error n => n
theorem WK.foreign {F : Nat → Prop} {w : World} {g : Nat} {T : TypeId} {X : List Value} {I : Value} {s : St} {hp : List Int} {p : Pl} (h : WK F w g T X I s hp p) {b : Nat} (hb : F b) (j : Nat) (u : Value) : WK F (w.setCell ⟨b, j, none⟩ u) g T X I s hp p := by
  have hs : ∀ {A c l}, RowAt w 0 A c l → (∀ k, blk A = some k → ¬ F k) → RowAt (w.setCell ⟨b, j, none⟩ u) 0 A c l := fun hr hn =>
    row_other hr (gb_set (gb_refl w (some b)) j u) (fun k hk e => hn k hk (by rw [Option.some.inj e]; exact hb))
  exact ⟨hp_far h.cells (fun e => h.fg (by rw [show g = b from e]; exact hb)) _, hs h.stk h.f1, hs h.out h.f2, hs h.hep h.f3, h.d12, h.d13, h.d23, h.fg, h.f1, h.f2, h.f3, fun k hk => Nat.lt_of_lt_of_le (h.fl k hk) (by simp [World.setCell]), h.ok, h.ty⟩
/-- What the function that is tried comes to: r; where it does, Q holds. -/
def TryPost {α : Type} (F : Nat → Prop) (w : World) (r : Except Int α) (Q : α → World → Prop) (e : Ending) (w' : World) : Prop :=
  Fr F w w' ∧ match r with
    | .ok q => e = .returned (.tuple #[]) ∧ Q q w'
    | .error n => e = .panicked (stopP n)
def AttPost {α : Type} (F : Nat → Prop) (w : World) (r : Except Int α) (Q : α → World → Prop) (e : Ending) (w' : World) : Prop :=
  e = .returned (.int .i64 (errOf r)) ∧ Fr F w w' ∧ match r with
    | .ok q => ∃ w0, Q q w0 ∧ w0.heap[w.heap.size]? = some (errC 0) ∧ w' = w0.setCell ⟨w.heap.size, 0, none⟩ (.int .i64 0)
    | .error n => True
set_option maxHeartbeats 4000000 in
theorem attempt_sp {α : Type} (k : Nat) (caps : Array Value) (HK : ∀ (args : Array Value) (w : World), (callFunc k args).run Try.prog w = .ok (.enter k args) w) (F : Nat → Prop) (r : Except Int α) (Q : α → World → Prop) (w : World) (hl : ∀ j, F j → j < w.heap.size)
    (HF : Calls Try.prog k caps (w.alloc (.cells #[.int .i64 0] 31)) (TryPost (Fb F w.heap.size) (w.alloc (.cells #[.int .i64 0] 31)) r Q)) :
    Calls Try.prog 42 #[.func (.func k) #[] caps] w (AttPost F w r Q) := by
  have hmf : ∀ (fn : Fn) (first cap : Array Value) (w : World), (Instr.makeFunc fn first cap).run Try.prog w = .ok (.func fn first cap) w := fun _ _ _ _ => rfl
  have HFh := Lib.hid HF
  have HL := Lib.hid hl
  have E0 := Lib.hid (show (w.alloc (.cells #[.int .i64 0] 31)).heap[w.heap.size]? = some (errC 0) from heap_alloc_new w _)
  clear HF hl
  cases r with
  | ok q =>
    have HFo := Lib.hid (show Calls Try.prog k caps (w.alloc (.cells #[.int .i64 0] 31)) (fun e w' => Fr (Fb F w.heap.size) (w.alloc (.cells #[.int .i64 0] 31)) w' ∧ e = .returned (.tuple #[]) ∧ Q q w') from HFh.out)
    go_enter_defers Try.func42, Try.ntmps42
    go_wp2_with (refine (HFo.out).mono ?_; rintro e w1 ⟨hf, rfl, hq⟩; have F1 := Lib.hid hf; have Q1 := Lib.hid hq; have E1 := Lib.hid (hf.hp E0.out (Or.inr rfl)); have e0 : w1.cell? ⟨w.heap.size, 0, none⟩ = some (.int .i64 0) := hp_cell E1.out 0; have ez := hp_frozen E1.out 0; have el := hp_lt E1.out; clear hf hq)
    refine leaves_cons (f := 50) (args := #[.pointer (some ⟨w.heap.size, 0, none⟩)]) (by simp) (by simp [go_sem]) ?_
    refine (att_idle _ _).mono ?_
    rintro e u' w'' ⟨rfl, rfl, rfl⟩
    simp [Leaves, settle, results, Try.results42, go_sem]
    have cr : (w1.setCell ⟨w.heap.size, 0, none⟩ (.int .i64 0)).cell? ⟨w.heap.size, 0, none⟩ = some (.int .i64 0) := hp_cell (hp_put1 E1.out _) 0
    rw [cr]
    exact ⟨_, rfl, rfl, (Fr.below ((Below.refl _ _).alloc (Nat.le_refl _) _) HL.out).trans ((F1.out.mono (fun k hk => .inl hk)).trans (Fr.set _ (fun e => Nat.lt_irrefl _ (HL.out _ e)) _ _)), w1, Q1.out, E1.out, rfl⟩
  | error n =>
    have HFo := Lib.hid (show Calls Try.prog k caps (w.alloc (.cells #[.int .i64 0] 31)) (fun e w' => Fr (Fb F w.heap.size) (w.alloc (.cells #[.int .i64 0] 31)) w' ∧ e = .panicked (stopP n)) from HFh.out)
    go_enter_defers Try.func42, Try.ntmps42
    go_wp2_with (refine (HFo.out).mono ?_; rintro e w1 ⟨hf, rfl⟩; have F1 := Lib.hid hf; have E1 := Lib.hid (hf.hp E0.out (Or.inr rfl)); clear hf)
    refine leaves_cons (f := 50) (args := #[.pointer (some ⟨w.heap.size, 0, none⟩)]) (by simp) (by simp [go_sem]) ?_
    refine (att_catch _ n 0 _ E1.out).mono ?_
    rintro e u' w'' ⟨rfl, rfl, o, rfl⟩
    simp [Leaves, settle, results, Try.results42, go_sem]
    have cr : ((w1.alloc o).setCell ⟨w.heap.size, 0, none⟩ (.int .i64 n)).cell? ⟨w.heap.size, 0, none⟩ = some (.int .i64 n) := hp_cell (hp_put1 (hp_alloc E1.out o) _) 0
    rw [cr]
    refine ⟨_, rfl, rfl, (Fr.below ((Below.refl _ _).alloc (Nat.le_refl _) _) HL.out).trans ((F1.out.mono (fun k hk => .inl hk)).trans ((Fr.below ((Below.refl _ _).alloc (Nat.le_refl _) _) ?_).trans (Fr.set _ (fun e => Nat.lt_irrefl _ (HL.out _ e)) _ _))), trivial⟩
    intro k hk
    have h1 := HL.out k hk
    have h2 := F1.out.size
    have h3 := hp_lt E1.out
    omega
end Go.Proofs.Ytdkcmnnhjnapiaa
