
/-
  rowlocklaw20.ObjectOwns: for every slice of calls and every size it returns true.
-/
import Derived.Test.YtbanfaboimachaaObj6
import Derived.Test.YtbanfaboimachaaCalls
import Derived.LoopTactic
namespace Go.Proofs.Ytbanfaboimachaa
open Go.RowKit
set_option linter.unusedSimpArgs false
set_option linter.unusedVariables false

theorem muDo_as {p a : Nat} {s k who v : Int} {av : Int} {ab : Bool} {ae s' : Int} (hv : W64 v) (hr : muDo k who v s = ((av, ab, ae), s')) (w : World) (H : muAt w p a s) :
    Calls Try.prog 34 #[.pointer (some ⟨p, 0, none⟩), .agg #[.int .u8 k, .int .i64 who, .int .u64 v]] w fun e w' => e = .returned (.agg #[.int .u64 av, .bool ab, .int .i64 ae]) ∧ muAt w' p a s' ∧ w.grownBy w' (some a) := by
  have h := muDo_any p a s k who v hv w H
  rw [hr] at h
  exact h
theorem seDo_as {p a : Nat} {s k who v : Int} {av : Int} {ab : Bool} {ae s' : Int} (hv : W64 v) (hr : seDo k who v s = ((av, ab, ae), s')) (w : World) (H : seAt w p a s) :
    Calls Try.prog 34 #[.pointer (some ⟨p, 0, none⟩), .agg #[.int .u8 k, .int .i64 who, .int .u64 v]] w fun e w' => e = .returned (.agg #[.int .u64 av, .bool ab, .int .i64 ae]) ∧ seAt w' p a s' ∧ w.grownBy w' (some a) := by
  have h := seDo_any p a s k who v hv w H
  rw [hr] at h
  exact h

/-- What becomes of the owner, by kind of call and answer. -/
theorem muDo_ways (k who v s av : Int) (ab : Bool) (ae s' : Int) (hr : muDo k who v s = ((av, ab, ae), s')) :
    (k = 1 ∧ av = 4607182418800017408 ∧ decide (0 ≤ s) = false ∧ s' = who) ∨ (k = 2 ∧ av = 4607182418800017408 ∧ s = who ∧ s' = -1) ∨
    ((av == 4607182418800017408) = false ∧ s' = s) := by
  unfold muDo muStep badB muTk aOne aErr aBlocks at hr
  cases h1 : (k == 1) <;> cases h2 : (k == 2) <;> cases h3 : decide (who < 0) <;> cases h4 : decide (4 ≤ who) <;> cases h5 : fitsB k v <;> cases h6 : (s == who) <;> cases h7 : decide (0 ≤ s) <;>
    simp [h1, h2, h3, h4, h5, h6, h7] at hr <;> obtain ⟨⟨rfl, rfl, rfl⟩, rfl⟩ := hr <;> simp_all
theorem seDo_ways (k who v s av : Int) (ab : Bool) (ae s' : Int) (h0 : 0 ≤ s) (h9 : s ≤ 99) (hr : seDo k who v s = ((av, ab, ae), s')) :
    (k = 4 ∧ av = 4607182418800017408 ∧ s < 99 ∧ s' = s + 1) ∨ (k = 3 ∧ av = 4607182418800017408 ∧ 0 < s ∧ s' = s - 1) ∨
    ((av == 4607182418800017408) = false ∧ s' = s) := by
  unfold seDo seStep badB seTk aOne aErr aBlocks at hr
  cases h1 : (k == 3) <;> cases h2 : (k == 4) <;> cases h3 : decide (who < 0) <;> cases h4 : decide (4 ≤ who) <;> cases h5 : fitsB k v <;> cases h6 : (s == 0) <;> cases h7 : decide (99 ≤ s) <;>
    simp [h1, h2, h3, h4, h5, h6, h7] at hr <;> obtain ⟨⟨rfl, rfl, rfl⟩, rfl⟩ := hr <;> simp_all <;> omega

theorem own_ways (k who v o n av bv : Int) (ab bb : Bool) (ae be o' n' : Int) (h0 : 0 ≤ n) (h9 : n ≤ 99) (hm : muDo k who v o = ((av, ab, ae), o')) (hs : seDo k who v n = ((bv, bb, be), n')) :
    (k = 1 ∧ av = 4607182418800017408 ∧ decide (0 ≤ o) = false ∧ who = o' ∧ n = n') ∨ (k = 1 ∧ (av == 4607182418800017408) = false ∧ o = o' ∧ n = n') ∨
    (k = 2 ∧ av = 4607182418800017408 ∧ who = o ∧ o' = -1 ∧ n = n') ∨ (k = 2 ∧ (av == 4607182418800017408) = false ∧ o = o' ∧ n = n') ∨
    (k = 3 ∧ bv = 4607182418800017408 ∧ o = o' ∧ n' = n - 1) ∨ (k = 3 ∧ (bv == 4607182418800017408) = false ∧ o = o' ∧ n = n') ∨
    (k = 4 ∧ bv = 4607182418800017408 ∧ o = o' ∧ n' = n + 1) ∨ (k = 4 ∧ (bv == 4607182418800017408) = false ∧ o = o' ∧ n = n') ∨
    ((k == 1) = false ∧ (k == 2) = false ∧ (k == 3) = false ∧ (k == 4) = false ∧ o = o' ∧ n = n') := by
  have M := muDo_ways k who v o av ab ae o' hm
  have S := seDo_ways k who v n bv bb be n' h0 h9 hs
  rcases M with ⟨m1, m2, m3, m4⟩ | ⟨m1, m2, m3, m4⟩ | ⟨m2, m4⟩ <;> rcases S with ⟨s1, s2, s3, s4⟩ | ⟨s1, s2, s3, s4⟩ | ⟨s2, s4⟩
  · omega
  · omega
  · exact .inl ⟨m1, m2, m3, m4.symm, s4.symm⟩
  · omega
  · omega
  · exact .inr (.inr (.inl ⟨m1, m2, m3.symm, m4, s4.symm⟩))
  · exact .inr (.inr (.inr (.inr (.inr (.inr (.inl ⟨s1, s2, m4.symm, s4⟩))))))
  · exact .inr (.inr (.inr (.inr (.inl ⟨s1, s2, m4.symm, s4⟩))))
  · by_cases k1 : k = 1
    · exact .inr (.inl ⟨k1, m2, m4.symm, s4.symm⟩)
    by_cases k2 : k = 2
    · exact .inr (.inr (.inr (.inl ⟨k2, m2, m4.symm, s4.symm⟩)))
    by_cases k3 : k = 3
    · exact .inr (.inr (.inr (.inr (.inr (.inl ⟨k3, s2, m4.symm, s4.symm⟩)))))
    by_cases k4 : k = 4
    · exact .inr (.inr (.inr (.inr (.inr (.inr (.inr (.inl ⟨k4, s2, m4.symm, s4.symm⟩)))))))
    exact .inr (.inr (.inr (.inr (.inr (.inr (.inr (.inr ⟨by simpa using k1, by simpa using k2, by simpa using k3, by simpa using k4, m4.symm, s4.symm⟩)))))))

theorem add_block_ad (a : Addr) (i : Nat) : (a.add i).block = a.block := by unfold Addr.add; split <;> rfl
def OwnRel (W : World) (p1 a1 p2 a2 : Nat) (o n : Int) (wr : World) : Prop := muAt wr p1 a1 o ∧ seAt wr p2 a2 n ∧ Below W.heap.size W wr

end Go.Proofs.Ytbanfaboimachaa
