import Derived.Test.YtmfcfihpmollfaaPLocksBlocksx3
namespace Go.Proofs.Ytmfcfihpmollfaa.PureLocksBlocks
open Go.RowKit Go.Proofs.Ytmfcfihpmollfaa.PLocksBlocks Go.Proofs.YtmfcfihpmollfaaW.PrintWords Go.Proofs.YtmfcfihpmollfaaW.PrintLast

set_option linter.unusedVariables false
set_option linter.unusedSimpArgs false

def plc (o : Int) : Bool := o == 21 || o == 23 || o == 24 || o == 19 || o == 20
def shf (p : Int) (x : S42) : S42 := if jumpB x.f0 = true then ⟨x.f0, x.f1 + p, x.f2⟩ else x
def blk (p : Int) (l : List S42) : Option (List S42 × Int) := if 64 < p + (l.length : Int) then some ([], 4) else some (l.map (shf p), 0)

theorem place_eq (o : Int) : rowlockref22_place.f o = some (plc o) := by
  unfold rowlockref22_place.f plc
  repeat' split
  all_goals simp_all

theorem w64 (x : Int) (h0 : -9223372036854775808 ≤ x) (h1 : x < 9223372036854775808) : wrap64 x = x := by
  unfold wrap64
  omega

theorem rd_at (l : List S42) (i : Nat) (h : i < l.length) : rd_T42 l (i : Int) = l[i] := by
  unfold rd_T42
  rw [Int.toNat_natCast, List.getD_eq_getElem?_getD, List.getElem?_eq_getElem h]
  rfl

theorem same_l0 (l : List S42) (hl : l.length ≤ 1000) : ∀ (n i : Nat), l.length - i ≤ n → i ≤ l.length → rowlockref14_Same.l0 (n + 1) l l (i : Int) = some true := by
  intro n
  induction n with
  | zero =>
    intro i h1 h2
    unfold rowlockref14_Same.l0
    rw [if_neg (by omega)]
  | succ n ih =>
    intro i h1 h2
    unfold rowlockref14_Same.l0
    by_cases hi : (i : Int) < (l.length : Int)
    · rw [if_pos hi, if_pos (by omega), if_pos hi, if_neg (by simp), w64 _ (by omega) (by omega)]
      exact ih (i + 1) (by omega) (by omega)
    · rw [if_neg hi]

theorem same_f (l : List S42) (hl : l.length ≤ 64) : rowlockref14_Same.f 200 l l = some true := by
  unfold rowlockref14_Same.f
  rw [if_pos rfl]
  exact same_l0 l (by omega) 199 0 (by omega) (by omega)

theorem at_l0 (p : Int) (hp : 0 ≤ p ∧ p ≤ 64) (l : List S42) (hl : l.length ≤ 64) (hf : ∀ x ∈ l, 0 ≤ x.f1 ∧ x.f1 ≤ 1000 ∧ plc x.f0 = jumpB x.f0) :
    ∀ (n i : Nat) (acc : List S42), l.length - i ≤ n → i ≤ l.length → acc.length ≤ i → rowlockref22_At.l0 (n + 1) p l acc (i : Int) = some (acc ++ (l.drop i).map (shf p), 0) := by
  intro n
  induction n with
  | zero =>
    intro i acc h1 h2 h3
    unfold rowlockref22_At.l0
    rw [if_neg (by omega), List.drop_of_length_le (by omega)]
    simp
  | succ n ih =>
    intro i acc h1 h2 h3
    unfold rowlockref22_At.l0
    by_cases hi : (i : Int) < (l.length : Int)
    · have hi' : i < l.length := by omega
      have hm := hf l[i] (List.getElem_mem hi')
      rw [if_pos hi, if_pos (by omega), rd_at l i hi', place_eq, Option.bind_some, hm.2.2, w64 ((i : Int) + 1) (by omega) (by omega), List.drop_eq_getElem_cons hi']
      rw [if_pos (show acc.length < 5864062014805 by omega), if_pos (show acc.length < 5864062014805 by omega)]
      by_cases hj : jumpB l[i].f0 = true
      · rw [if_pos hj, w64 _ (by omega) (by omega), show ((i : Int) + 1) = ((i + 1 : Nat) : Int) from rfl, ih (i + 1) _ (by omega) (by omega) (by simp; omega)]
        rw [List.append_assoc, List.singleton_append, List.map_cons, show shf p l[i] = (⟨l[i].f0, l[i].f1 + p, l[i].f2⟩ : S42) from by unfold shf; rw [if_pos hj]]
      · rw [if_neg hj, show ((i : Int) + 1) = ((i + 1 : Nat) : Int) from rfl, ih (i + 1) _ (by omega) (by omega) (by simp; omega)]
        rw [List.append_assoc, List.singleton_append, List.map_cons, show shf p l[i] = (⟨l[i].f0, l[i].f1, l[i].f2⟩ : S42) from by unfold shf; rw [if_neg hj]]
    · rw [if_neg hi, List.drop_of_length_le (by omega)]
      simp

theorem at_blk (p : Int) (hp : 0 ≤ p ∧ p ≤ 64) (l : List S42) (hl : l.length ≤ 64) (hf : ∀ x ∈ l, 0 ≤ x.f1 ∧ x.f1 ≤ 1000 ∧ plc x.f0 = jumpB x.f0) : rowlockref22_At.f 200 p l = blk p l := by
  unfold rowlockref22_At.f blk
  rw [w64 _ (by omega) (by omega)]
  by_cases h : 64 < p + (l.length : Int)
  · rw [if_pos h, if_pos (by omega)]
  · rw [if_neg h, if_neg (by omega)]
    have := at_l0 p hp l hl hf 199 0 [] (by omega) (by omega) (by simp)
    simpa using this

theorem block_blk (p : Int) (hp : 0 ≤ p ∧ p ≤ 64) (l : List S42) (h0 : 0 < l.length) (hl : l.length ≤ 64) (hf : ∀ x ∈ l, 0 ≤ x.f0 ∧ x.f0 ≤ 255 ∧ 0 ≤ x.f1 ∧ x.f1 ≤ 1000) : locks_block.f p l = blk p l := by
  have hd : locks_block.dom p l = true := by
    unfold locks_block.dom
    rw [Bool.and_eq_true]
    exact ⟨decide_eq_true ⟨hp.1, hp.2, h0, hl⟩, List.all_eq_true.2 fun x hx => decide_eq_true (hf x hx)⟩
  unfold locks_block.f
  rw [if_pos hd]
  rfl

theorem blk_some (p : Int) (l : List S42) (hl : l.length ≤ 64) : ∃ r : List S42 × Int, blk p l = some r ∧ r.1.length ≤ 64 := by
  unfold blk
  split
  · exact ⟨_, rfl, by simp⟩
  · exact ⟨_, rfl, by simpa using hl⟩

def good (p v t : Int) : Prop := 0 ≤ p ∧ p ≤ 64 ∧ 0 ≤ v ∧ v < 12 ∧ 0 ≤ t ∧ t < 4
theorem may_ok {p v t : Int} (h : good p v t) : locks_may.f p v t = some true ∧ rowlockref22_may.f p v t = some 0 := by
  obtain ⟨h1, h2, h3, h4, h5, h6⟩ := h
  unfold locks_may.f rowlockref22_may.f
  constructor
  · rw [if_pos h1, if_pos h2, if_pos h3, if_pos h4, if_pos h5, decide_eq_true h6]
  · rw [if_neg (by omega), if_neg (by omega), if_neg (by omega), if_neg (by omega), if_neg (by omega), if_neg (by omega)]
theorem may_no {p v t : Int} (h : ¬ good p v t) : locks_may.f p v t = some false ∧ rowlockref22_may.f p v t = some 2 := by
  unfold good at h
  unfold locks_may.f rowlockref22_may.f
  constructor
  · repeat' split
    all_goals first | rfl | (rw [decide_eq_false (by omega)])
  · repeat' split
    all_goals first | rfl | (exfalso; omega)

def LLock (a1 a2 : Int) : List S42 := [⟨21, 6, 0⟩, ⟨4, a1, 0⟩, ⟨20, 4, 0⟩, ⟨26, 0, 0⟩, ⟨1, 0, intV (a2 + 1)⟩, ⟨5, a1, 0⟩, ⟨22, 0, 0⟩]
theorem Lock_ok (a0 a1 a2 : Int) (h : good a0 a1 a2) : locks_Lock.f a0 a1 a2 = blk a0 (LLock a1 a2) := by
  obtain ⟨h1, h2, h3, h4, h5, h6⟩ := h
  unfold locks_Lock.f
  rw [(may_ok ⟨h1, h2, h3, h4, h5, h6⟩).1]
  simp only [Option.bind_some, if_true, locks_with.f, locks_op.f, locks_number.f, value_Int.f]
  rw [w64 (a2 + 1) (by omega) (by omega)]
  rw [block_blk a0 ⟨h1, h2⟩ _ (by simp) (by simp) (by
    intro x hx
    simp only [List.mem_cons, List.not_mem_nil, or_false] at hx
    rcases hx with rfl | rfl | rfl | rfl | rfl | rfl | rfl <;> refine ⟨?_, ?_, ?_, ?_⟩ <;> dsimp only <;> omega)]
  obtain ⟨r, hr, _⟩ := blk_some a0 (LLock a1 a2) (by unfold LLock; simp)
  show (blk a0 (LLock a1 a2)).bind _ = _
  rw [hr]
  rfl
theorem Lock_no (a0 a1 a2 : Int) (h : ¬ good a0 a1 a2) : locks_Lock.f a0 a1 a2 = some ([], 2) := by
  unfold locks_Lock.f
  rw [(may_no h).1]
  rfl
theorem rLock_ok (a0 a1 a2 : Int) (h : good a0 a1 a2) : rowlockref22_Lock.f 200 a0 a1 a2 = blk a0 (LLock a1 a2) := by
  obtain ⟨h1, h2, h3, h4, h5, h6⟩ := h
  unfold rowlockref22_Lock.f
  rw [(may_ok ⟨h1, h2, h3, h4, h5, h6⟩).2]
  simp only [Option.bind_some, if_true, rowlockref22_O.f, rowlockref22_P.f, rowlockref01_Int.f]
  rw [w64 (1 + a2) (by omega) (by omega), Int.add_comm 1 a2]
  rw [at_blk a0 ⟨h1, h2⟩ _ (by simp) (by
    intro x hx
    simp only [List.mem_cons, List.not_mem_nil, or_false] at hx
    rcases hx with rfl | rfl | rfl | rfl | rfl | rfl | rfl <;> refine ⟨?_, ?_, ?_⟩ <;> first | rfl | (dsimp only; omega))]
  obtain ⟨r, hr, _⟩ := blk_some a0 (LLock a1 a2) (by unfold LLock; simp)
  show (blk a0 (LLock a1 a2)).bind _ = _
  rw [hr]
  rfl
theorem rLock_no (a0 a1 a2 : Int) (h : ¬ good a0 a1 a2) : rowlockref22_Lock.f 200 a0 a1 a2 = some ([], 2) := by
  unfold rowlockref22_Lock.f
  rw [(may_no h).2]
  rfl

def LUnlock (a1 a2 : Int) : List S42 := [⟨21, 10, 0⟩, ⟨4, a1, 0⟩, ⟨1, 0, intV (a2 + 1)⟩, ⟨14, 0, 0⟩, ⟨20, 9, 0⟩, ⟨1, 0, intV 0⟩, ⟨5, a1, 0⟩, ⟨1, 0, intV 1⟩, ⟨19, 10, 0⟩, ⟨1, 0, intV 0⟩, ⟨22, 0, 0⟩]
theorem Unlock_ok (a0 a1 a2 : Int) (h : good a0 a1 a2) : locks_Unlock.f a0 a1 a2 = blk a0 (LUnlock a1 a2) := by
  obtain ⟨h1, h2, h3, h4, h5, h6⟩ := h
  unfold locks_Unlock.f
  rw [(may_ok ⟨h1, h2, h3, h4, h5, h6⟩).1]
  simp only [Option.bind_some, if_true, locks_with.f, locks_op.f, locks_number.f, value_Int.f]
  rw [w64 (a2 + 1) (by omega) (by omega)]
  rw [block_blk a0 ⟨h1, h2⟩ _ (by simp) (by simp) (by
    intro x hx
    simp only [List.mem_cons, List.not_mem_nil, or_false] at hx
    rcases hx with rfl | rfl | rfl | rfl | rfl | rfl | rfl | rfl | rfl | rfl | rfl <;> refine ⟨?_, ?_, ?_, ?_⟩ <;> dsimp only <;> omega)]
  obtain ⟨r, hr, _⟩ := blk_some a0 (LUnlock a1 a2) (by unfold LUnlock; simp)
  show (blk a0 (LUnlock a1 a2)).bind _ = _
  rw [hr]
  rfl
theorem Unlock_no (a0 a1 a2 : Int) (h : ¬ good a0 a1 a2) : locks_Unlock.f a0 a1 a2 = some ([], 2) := by
  unfold locks_Unlock.f
  rw [(may_no h).1]
  rfl
theorem rUnlock_ok (a0 a1 a2 : Int) (h : good a0 a1 a2) : rowlockref22_Unlock.f 200 a0 a1 a2 = blk a0 (LUnlock a1 a2) := by
  obtain ⟨h1, h2, h3, h4, h5, h6⟩ := h
  unfold rowlockref22_Unlock.f
  rw [(may_ok ⟨h1, h2, h3, h4, h5, h6⟩).2]
  simp only [Option.bind_some, if_true, rowlockref22_O.f, rowlockref22_P.f, rowlockref01_Int.f]
  rw [w64 (1 + a2) (by omega) (by omega), Int.add_comm 1 a2]
  rw [at_blk a0 ⟨h1, h2⟩ _ (by simp) (by
    intro x hx
    simp only [List.mem_cons, List.not_mem_nil, or_false] at hx
    rcases hx with rfl | rfl | rfl | rfl | rfl | rfl | rfl | rfl | rfl | rfl | rfl <;> refine ⟨?_, ?_, ?_⟩ <;> first | rfl | (dsimp only; omega))]
  obtain ⟨r, hr, _⟩ := blk_some a0 (LUnlock a1 a2) (by unfold LUnlock; simp)
  show (blk a0 (LUnlock a1 a2)).bind _ = _
  rw [hr]
  rfl
theorem rUnlock_no (a0 a1 a2 : Int) (h : ¬ good a0 a1 a2) : rowlockref22_Unlock.f 200 a0 a1 a2 = some ([], 2) := by
  unfold rowlockref22_Unlock.f
  rw [(may_no h).2]
  rfl

def LUp (a1 a2 : Int) : List S42 := [⟨21, 5, 0⟩, ⟨4, a1, 0⟩, ⟨1, 0, intV 1⟩, ⟨8, 0, 0⟩, ⟨5, a1, 0⟩, ⟨22, 0, 0⟩]
theorem Up_ok (a0 a1 : Int) (h : good a0 a1 0) : locks_Up.f a0 a1 = blk a0 (LUp a1 0) := by
  obtain ⟨h1, h2, h3, h4, h5, h6⟩ := h
  unfold locks_Up.f
  rw [(may_ok ⟨h1, h2, h3, h4, h5, h6⟩).1]
  simp only [Option.bind_some, if_true, locks_with.f, locks_op.f, locks_number.f, value_Int.f]
  rw [block_blk a0 ⟨h1, h2⟩ _ (by simp) (by simp) (by
    intro x hx
    simp only [List.mem_cons, List.not_mem_nil, or_false] at hx
    rcases hx with rfl | rfl | rfl | rfl | rfl | rfl <;> refine ⟨?_, ?_, ?_, ?_⟩ <;> dsimp only <;> omega)]
  obtain ⟨r, hr, _⟩ := blk_some a0 (LUp a1 0) (by unfold LUp; simp)
  show (blk a0 (LUp a1 0)).bind _ = _
  rw [hr]
  rfl
theorem Up_no (a0 a1 : Int) (h : ¬ good a0 a1 0) : locks_Up.f a0 a1 = some ([], 2) := by
  unfold locks_Up.f
  rw [(may_no h).1]
  rfl

theorem live_ok : rowlocklaw22_live.f = some true := by
  unfold rowlocklaw22_live.f
  rw [Up_ok 0 3 (by unfold good; omega)]
  rfl

theorem law_of (r s : List S42 × Int) (h1 : r.1.length ≤ 64) (h2 : s.1.length ≤ 64) (a0 a1 a2 : Int) (e1 : locks_Lock.f a0 a1 a2 = some r) (e2 : rowlockref22_Lock.f 200 a0 a1 a2 = some r) (e3 : locks_Unlock.f a0 a1 a2 = some s) (e4 : rowlockref22_Unlock.f 200 a0 a1 a2 = some s) :
    rowlocklaw22_LocksBlocks.f 200 a0 a1 a2 = some true := by
  unfold rowlocklaw22_LocksBlocks.f
  rw [e1, e2, e3, e4, live_ok]
  simp only [Option.bind_some, if_true, same_f r.1 h1, same_f s.1 h2, beq_self_eq_true]

end Go.Proofs.Ytmfcfihpmollfaa.PureLocksBlocks
namespace Go.Proofs.Ytmfcfihpmollfaa.Pure
open Go.RowKit Go.Proofs.Ytmfcfihpmollfaa.PLocksBlocks Go.Proofs.Ytmfcfihpmollfaa.PureLocksBlocks
theorem LocksBlocks : rowlocklaw22_LocksBlocks.Pure := by
  intro a0 a1 a2 _ _ _
  refine ⟨200, ?_⟩
  by_cases h : good a0 a1 a2
  · obtain ⟨r, hr, hr'⟩ := blk_some a0 (LLock a1 a2) (by unfold LLock; simp)
    obtain ⟨s, hs, hs'⟩ := blk_some a0 (LUnlock a1 a2) (by unfold LUnlock; simp)
    exact law_of r s hr' hs' a0 a1 a2 ((Lock_ok a0 a1 a2 h).trans hr) ((rLock_ok a0 a1 a2 h).trans hr) ((Unlock_ok a0 a1 a2 h).trans hs) ((rUnlock_ok a0 a1 a2 h).trans hs)
  · exact law_of ([], 2) ([], 2) (by simp) (by simp) a0 a1 a2 (Lock_no a0 a1 a2 h) (rLock_no a0 a1 a2 h) (Unlock_no a0 a1 a2 h) (rUnlock_no a0 a1 a2 h)

end Go.Proofs.Ytmfcfihpmollfaa.Pure
