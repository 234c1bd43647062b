/- What Check's 0 says of its arguments. -/
import Derived.Test.YtoohpdamndgdlaaQMake
import Derived.Test.YtoohpdamndgdlaaPx17
set_option linter.unusedVariables false
namespace Go.Proofs.Ytoohpdamndgdlaa.B
open Go.RowKit Go.Proofs.Ytoohpdamndgdlaa.P Go.Proofs.YtoohpdamndgdlaaW.PrintWords Go.Proofs.YtoohpdamndgdlaaW.PrintLast Go.Proofs.YtoohpdamndgdlaaW.PrintMore
theorem check_zero {k : Nat} {a : Int} {l : List Int} (h : bitset_Check.f k a l = some 0) : ∃ n : Nat, a = n ∧ n ≤ 65536 ∧ l.length = (n + 7) / 8 := by
  have h40 : ∀ (k : Nat), bitset_Check.j0 k a l true ≠ some 0 := fun k => by
    cases k with
    | zero => simp [bitset_Check.j0]
    | succ k =>
      simp only [bitset_Check.j0]
      rw [if_pos trivial]
      simp
  unfold bitset_Check.f at h
  by_cases h0 : a < 0
  · rw [if_pos h0] at h
    exact absurd h (h40 k)
  · rw [if_neg h0] at h
    by_cases h1 : a > 65536
    · rw [decide_eq_true h1] at h
      exact absurd h (h40 k)
    · rw [decide_eq_false h1] at h
      obtain ⟨n, rfl⟩ : ∃ n : Nat, a = n := ⟨a.toNat, by omega⟩
      refine ⟨n, rfl, by omega, ?_⟩
      cases k with
      | zero => simp [bitset_Check.j0] at h
      | succ k =>
        simp only [bitset_Check.j0] at h
        rw [if_neg (by decide), size_f n (by omega)] at h
        simp only [Option.bind_some] at h
        by_cases h2 : (l.length : Int) = (((n + 7) / 8 : Nat) : Int)
        · omega
        · rw [if_neg h2] at h
          simp at h
end Go.Proofs.Ytoohpdamndgdlaa.B
