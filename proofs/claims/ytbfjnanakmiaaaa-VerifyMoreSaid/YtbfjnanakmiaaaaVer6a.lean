
/-
  verify.Depths.
-/
import Derived.Test.YtbfjnanakmiaaaaVer5
import Derived.WalkMore
import Derived.ScopeJumps
import Derived.Deep.OwnRows
namespace Go.Proofs.Ytbfjnanakmiaaaa
open Go.RowKit Go.ChangeShapes Go.WideShapes
set_option linter.unusedSimpArgs false
set_option linter.unusedVariables false

def skipB (ns : List Int) (gs : List Bool) (i : Nat) : Bool := bif iat ns i == -1 then true else bat gs i
def findF (ns : List Int) (gs : List Bool) : Nat → Nat → Option Nat
  | _, 0 => none
  | i, k + 1 => bif skipB ns gs i then findF ns gs (i + 1) k else some i
def depF (l : List Ins3) : Nat → List Int → List Bool → Int × Int
  | 0, _, _ => (0, 0)
  | f + 1, ns, gs => match findF ns gs 0 l.length with
    | none => (0, 0)
    | some i => bif (thrF l ns i).2 == 0 then depF l f (thrF l ns i).1 (gs.set i true) else ((i : Int), (thrF l ns i).2)
def initN (n : Nat) : List Int := match n with | 0 => [] | n + 1 => 0 :: List.replicate n (-1)
def depsF (l : List Ins3) : Int × Int := bif (regF l).2.2 == 0 then depF l (l.length + 1) (initN l.length) (List.replicate l.length false) else ((regF l).2.1, (regF l).2.2)
def okReg (l : List Ins3) : Prop := ∀ s ∈ l, 0 ≤ s.arg ∧ s.arg ≤ 255
def DepPost (l : List Ins3) (W : World) (e : Ending) (w' : World) : Prop := ∃ A' c' n', e = .returned (.tuple #[.slice A' n' c', .int .i64 (depsF l).1, .int .i64 (depsF l).2]) ∧ Below W.heap.size W w'
theorem Bool_info : (Try.prog.info? 4).map (fun i => (i.zero, i.size, i.bytes)) = some (some (.bool false), 1, 1) := by kernel_rfl
theorem findF_at (ns : List Int) (gs : List Bool) : ∀ (d i k : Nat), (∀ m, m < d → skipB ns gs (i + m) = true) → skipB ns gs (i + d) = false → d < k → findF ns gs i k = some (i + d) := by
  intro d
  induction d with
  | zero =>
    intro i k _ h hk
    obtain ⟨k', rfl⟩ : ∃ k', k = k' + 1 := ⟨k - 1, by omega⟩
    unfold findF
    rw [Nat.add_zero] at h ⊢
    rw [h]
    rfl
  | succ d ih =>
    intro i k hs h hk
    obtain ⟨k', rfl⟩ : ∃ k', k = k' + 1 := ⟨k - 1, by omega⟩
    unfold findF
    rw [show skipB ns gs i = true from hs 0 (by omega)]
    show findF ns gs (i + 1) k' = _
    have := ih (i + 1) k' (fun m hm => by have := hs (m + 1) (by omega); rwa [show i + (m + 1) = i + 1 + m by omega] at this) (by rwa [show i + 1 + d = i + (d + 1) by omega]) (by omega)
    rw [show i + (d + 1) = i + 1 + d by omega]
    exact this
theorem findF_none (ns : List Int) (gs : List Bool) : ∀ (k i : Nat), (∀ m, m < k → skipB ns gs (i + m) = true) → findF ns gs i k = none := by
  intro k
  induction k with
  | zero => intro i _; rfl
  | succ k ih =>
    intro i h
    unfold findF
    rw [show skipB ns gs i = true from h 0 (by omega)]
    exact ih (i + 1) (fun m hm => by have := h (m + 1) (by omega); rwa [show i + (m + 1) = i + 1 + m by omega] at this)
def isF0 : Value → Bool | .bool false => true | _ => false
def cntF (gs : List Bool) : Nat := (bolsC gs).countP isF0
def muF (a : Act) (w : World) : Nat := match a.tmps.getD 8 undef with
  | .pointer (some p) => (match w.cell? ⟨p.block, 2, none⟩ with
    | some (.slice (some b) _ _) => (match w.heap[b.block]? with | some (.cells cs _ _) => cs.toList.countP isF0 | _ => 0)
    | _ => 0)
  | _ => 0
theorem cntF_set : ∀ (gs : List Bool) (i : Nat), i < gs.length → bat gs i = false → cntF (gs.set i true) + 1 = cntF gs := by
  intro gs
  induction gs with
  | nil => intro i h; simp at h
  | cons g gs ih =>
    intro i h hb
    cases i with
    | zero =>
      have : g = false := by simpa [bat] using hb
      subst this
      unfold cntF bolsC
      rw [List.set_cons_zero, List.map_cons, List.map_cons, List.countP_cons, List.countP_cons]
      simp [isF0]
    | succ i =>
      have h2 := ih i (by simpa using h) (by simpa [bat] using hb)
      unfold cntF bolsC at *
      rw [List.set_cons_succ, List.map_cons, List.map_cons, List.countP_cons, List.countP_cons]
      omega
theorem cntF_init (n : Nat) : cntF (List.replicate n false) = n := by
  induction n with
  | zero => rfl
  | succ n ih =>
    unfold cntF bolsC at *
    rw [List.replicate_succ, List.map_cons, List.countP_cons, ih]
    rfl
theorem muF_eq {W w : World} {q gn gg n c cn cg : Nat} {A : Option Addr} {ns : List Int} {gs : List Bool} (h : FlX W w q gn gg A n c cn cg ns gs) (a : Act) (ha : a.tmps.getD 8 undef = .pointer (some ⟨q, 0, none⟩)) : muF a w = cntF gs := by
  unfold muF
  rw [ha]
  show (match w.cell? ⟨q, 2, none⟩ with | some (.slice (some b) _ _) => _ | _ => 0) = _
  rw [h.cells.2.2.1]
  show (match w.heap[gg]? with | some (.cells cs _ _) => _ | _ => 0) = _
  rw [h.2.2.1]
  rfl
theorem made_ints (n : Nat) : madeCells #[.int .i64 0] n = (intsC (List.replicate n 0)).toArray := by
  unfold madeCells intsC
  apply Array.ext
  · simp
  · intro i h1 h2
    simp [Nat.mod_one]
theorem made_bols (n : Nat) : madeCells #[.bool false] n = (bolsC (List.replicate n false)).toArray := by
  unfold madeCells bolsC
  apply Array.ext
  · simp
  · intro i h1 h2
    simp [Nat.mod_one]
theorem init_of {ns : List Int} {n : Nat} (hn : ns.length = n) (h0 : 1 ≤ n) (h : ∀ i, i < n → iat ns i = -1) : ns.set 0 0 = initN n := by
  obtain ⟨m, rfl⟩ : ∃ m, n = m + 1 := ⟨n - 1, by omega⟩
  unfold initN
  cases ns with
  | nil => simp at hn
  | cons x ns =>
    rw [List.set_cons_zero]
    congr 1
    refine List.ext_getElem? (fun i => ?_)
    rw [List.getElem?_replicate]
    simp at hn
    by_cases hi : i < m
    · rw [if_pos hi]
      have := h (i + 1) (by omega)
      unfold iat at this
      rw [List.getElem?_cons_succ, List.getElem?_eq_getElem (by omega)] at this
      rw [List.getElem?_eq_getElem (by omega)]
      exact congrArg some this
    · rw [if_neg hi, List.getElem?_eq_none (by omega)]
theorem initN_nB (n : Nat) : nB (initN n) := by
  intro x hx
  unfold initN at hx
  cases n with
  | zero => simp at hx
  | succ n =>
    rcases List.mem_cons.mp hx with rfl | hx
    · omega
    · have := (List.mem_replicate.mp hx).2
      omega
/-- What holds at the label. -/
def DepJ (W : World) (l : List Ins3) (A : Option Addr) (c : Nat) (d : Int × Int) (a : Act) (w : World) : Prop := ∃ (q gn gg cn cg f : Nat) (ns : List Int) (gs : List Bool) (u : Nat → Value), a = { tmps := #[.slice A l.length c, u 1, u 2, u 3, u 4, u 5, u 6, u 7, .pointer (some ⟨q, 0, none⟩), u 9, u 10, u 11, u 12, u 13, u 14, u 15, u 16, u 17, u 18, u 19, u 20, u 21, u 22, u 23, u 24, u 25, u 26, u 27, u 28, u 29, u 30, u 31, u 32, u 33, u 34, u 35, u 36, u 37, u 38, u 39, u 40, u 41, u 42, u 43, u 44, u 45, u 46, u 47, u 48, u 49, u 50, u 51, u 52, u 53, u 54, u 55, u 56, u 57, u 58, u 59, u 60, u 61, u 62, u 63, u 64, u 65, u 66, u 67, u 68, u 69, u 70, u 71, u 72, u 73, u 74, u 75, u 76, u 77, u 78, u 79, u 80, u 81, u 82, u 83, u 84], defers := [] } ∧ FlX W w q gn gg A l.length c cn cg ns gs ∧ nB ns ∧ depF l f ns gs = d ∧ cntF gs < f
theorem depJ_mk {W w : World} {l : List Ins3} {A : Option Addr} {c q gn gg cn cg f : Nat} {d : Int × Int} {ns : List Int} {gs : List Bool} {a : Act} (h : a = { tmps := #[.slice A l.length c, a.tmps.getD 1 undef, a.tmps.getD 2 undef, a.tmps.getD 3 undef, a.tmps.getD 4 undef, a.tmps.getD 5 undef, a.tmps.getD 6 undef, a.tmps.getD 7 undef, .pointer (some ⟨q, 0, none⟩), a.tmps.getD 9 undef, a.tmps.getD 10 undef, a.tmps.getD 11 undef, a.tmps.getD 12 undef, a.tmps.getD 13 undef, a.tmps.getD 14 undef, a.tmps.getD 15 undef, a.tmps.getD 16 undef, a.tmps.getD 17 undef, a.tmps.getD 18 undef, a.tmps.getD 19 undef, a.tmps.getD 20 undef, a.tmps.getD 21 undef, a.tmps.getD 22 undef, a.tmps.getD 23 undef, a.tmps.getD 24 undef, a.tmps.getD 25 undef, a.tmps.getD 26 undef, a.tmps.getD 27 undef, a.tmps.getD 28 undef, a.tmps.getD 29 undef, a.tmps.getD 30 undef, a.tmps.getD 31 undef, a.tmps.getD 32 undef, a.tmps.getD 33 undef, a.tmps.getD 34 undef, a.tmps.getD 35 undef, a.tmps.getD 36 undef, a.tmps.getD 37 undef, a.tmps.getD 38 undef, a.tmps.getD 39 undef, a.tmps.getD 40 undef, a.tmps.getD 41 undef, a.tmps.getD 42 undef, a.tmps.getD 43 undef, a.tmps.getD 44 undef, a.tmps.getD 45 undef, a.tmps.getD 46 undef, a.tmps.getD 47 undef, a.tmps.getD 48 undef, a.tmps.getD 49 undef, a.tmps.getD 50 undef, a.tmps.getD 51 undef, a.tmps.getD 52 undef, a.tmps.getD 53 undef, a.tmps.getD 54 undef, a.tmps.getD 55 undef, a.tmps.getD 56 undef, a.tmps.getD 57 undef, a.tmps.getD 58 undef, a.tmps.getD 59 undef, a.tmps.getD 60 undef, a.tmps.getD 61 undef, a.tmps.getD 62 undef, a.tmps.getD 63 undef, a.tmps.getD 64 undef, a.tmps.getD 65 undef, a.tmps.getD 66 undef, a.tmps.getD 67 undef, a.tmps.getD 68 undef, a.tmps.getD 69 undef, a.tmps.getD 70 undef, a.tmps.getD 71 undef, a.tmps.getD 72 undef, a.tmps.getD 73 undef, a.tmps.getD 74 undef, a.tmps.getD 75 undef, a.tmps.getD 76 undef, a.tmps.getD 77 undef, a.tmps.getD 78 undef, a.tmps.getD 79 undef, a.tmps.getD 80 undef, a.tmps.getD 81 undef, a.tmps.getD 82 undef, a.tmps.getD 83 undef, a.tmps.getD 84 undef], defers := [] }) (h1 : FlX W w q gn gg A l.length c cn cg ns gs) (h2 : nB ns) (h3 : depF l f ns gs = d) (h4 : cntF gs < f) : DepJ W l A c d a w := ⟨q, gn, gg, cn, cg, f, ns, gs, fun k => a.tmps.getD k undef, h, h1, h2, h3, h4⟩
theorem iat_set_ne {ns : List Int} {i k : Nat} {v : Int} (h : k ≠ i) : iat (ns.set k v) i = iat ns i := by unfold iat; rw [List.getElem?_set_ne h]
theorem flX_init1 {W w1 : World} {A : Option Addr} {n c : Nat} (hb : Below W.heap.size W w1) : FlX W (((w1.alloc (.cells (madeCells #[.int .i64 0] n) 3)).alloc (.cells (madeCells #[.bool false] n) 4)).alloc (.cells #[.slice A n c, .slice (some ⟨w1.heap.size, 0, none⟩) n n, .slice (some ⟨w1.heap.size + 1, 0, none⟩) n n] 67)).drew (w1.heap.size + 1 + 1) w1.heap.size (w1.heap.size + 1) A n c n n (List.replicate n 0) (List.replicate n false) := by
  rw [made_ints, made_bols]
  have b1 := hb.alloc hb.size (.cells (intsC (List.replicate n 0)).toArray 3)
  have b2 := b1.alloc b1.size (.cells (bolsC (List.replicate n false)).toArray 4)
  have b3 := b2.alloc b2.size (.cells #[.slice A n c, .slice (some ⟨w1.heap.size, 0, none⟩) n n, .slice (some ⟨w1.heap.size + 1, 0, none⟩) n n] 67)
  have hs := hb.size
  exact ⟨(congrArg _ (by simp)).trans (heap_alloc_new ((w1.alloc _).alloc _) _), hp_alloc (hp_alloc (heap_alloc_new w1 _) _) _, hp_alloc ((congrArg _ (by simp)).trans (heap_alloc_new (w1.alloc _) _)) _, by simp, by simp, ⟨b3.os, b3.tape, b3.output, b3.size, b3.block⟩, by omega, hs, by omega⟩
theorem flX_init2 {W w1 : World} {A : Option Addr} {n c : Nat} (hb : Below W.heap.size W w1) : FlX W (((w1.alloc (.cells (madeCells #[.bool false] n) 4)).alloc (.cells (madeCells #[.int .i64 0] n) 3)).alloc (.cells #[.slice A n c, .slice (some ⟨w1.heap.size + 1, 0, none⟩) n n, .slice (some ⟨w1.heap.size, 0, none⟩) n n] 67)).drew (w1.heap.size + 1 + 1) (w1.heap.size + 1) w1.heap.size A n c n n (List.replicate n 0) (List.replicate n false) := by
  rw [made_ints, made_bols]
  have b1 := hb.alloc hb.size (.cells (bolsC (List.replicate n false)).toArray 4)
  have b2 := b1.alloc b1.size (.cells (intsC (List.replicate n 0)).toArray 3)
  have b3 := b2.alloc b2.size (.cells #[.slice A n c, .slice (some ⟨w1.heap.size + 1, 0, none⟩) n n, .slice (some ⟨w1.heap.size, 0, none⟩) n n] 67)
  have hs := hb.size
  exact ⟨(congrArg _ (by simp)).trans (heap_alloc_new ((w1.alloc _).alloc _) _), hp_alloc ((congrArg _ (by simp)).trans (heap_alloc_new (w1.alloc _) _)) _, hp_alloc (hp_alloc (heap_alloc_new w1 _) _) _, by simp, by simp, ⟨b3.os, b3.tape, b3.output, b3.size, b3.block⟩, by omega, by omega, hs⟩
theorem depF_succ (l : List Ins3) (f : Nat) (ns : List Int) (gs : List Bool) : depF l (f + 1) ns gs = match findF ns gs 0 l.length with
    | none => (0, 0)
    | some i => bif (thrF l ns i).2 == 0 then depF l f (thrF l ns i).1 (gs.set i true) else ((i : Int), (thrF l ns i).2) := rfl
theorem depF_step {l : List Ins3} {f j : Nat} {ns : List Int} {gs : List Bool} {d : Int × Int} (h : depF l f ns gs = d) (hf : cntF gs < f) (hs : ∀ i, i < j → skipB ns gs i = true) (hj : skipB ns gs j = false) (hl : j < l.length) : ∃ f', f = f' + 1 ∧ (bif (thrF l ns j).2 == 0 then depF l f' (thrF l ns j).1 (gs.set j true) else ((j : Int), (thrF l ns j).2)) = d := by
  obtain ⟨f', rfl⟩ : ∃ f', f = f' + 1 := ⟨f - 1, by omega⟩
  refine ⟨f', rfl, ?_⟩
  rw [← h, depF_succ, findF_at ns gs j 0 l.length (fun m hm => by rw [Nat.zero_add]; exact hs m hm) (by rw [Nat.zero_add]; exact hj) hl, Nat.zero_add]
theorem depF_end {l : List Ins3} {f : Nat} {ns : List Int} {gs : List Bool} {d : Int × Int} (h : depF l f ns gs = d) (hf : cntF gs < f) (hs : ∀ i, i < l.length → skipB ns gs i = true) : d = (0, 0) := by
  obtain ⟨f', rfl⟩ : ∃ f', f = f' + 1 := ⟨f - 1, by omega⟩
  rw [← h, depF_succ, findF_none ns gs l.length 0 (fun m hm => by rw [Nat.zero_add]; exact hs m hm)]
end Go.Proofs.Ytbfjnanakmiaaaa
