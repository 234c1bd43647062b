/- What Make answers, and one step of a loop that sets bits, in plain words. -/
import Derived.Test.YtoohpdamndgdlaaBits
import Derived.Test.YtoohpdamndgdlaaPx3
set_option linter.unusedVariables false
set_option linter.unusedSimpArgs false
namespace Go.Proofs.Ytoohpdamndgdlaa.B
open Go.RowKit Go.Proofs.Ytoohpdamndgdlaa.P Go.Proofs.YtoohpdamndgdlaaW.PrintWords Go.Proofs.YtoohpdamndgdlaaW.PrintLast Go.Proofs.YtoohpdamndgdlaaW.PrintMore

theorem size_f (n : Nat) (h : n ≤ 65536) : bitset_size.f (n : Int) = some (((n + 7) / 8 : Nat) : Int) := by
  unfold bitset_size.f
  have e : wrap64 ((n : Int) + 7) = ((n + 7 : Nat) : Int) := by rw [w64 _ (by omega) (by omega)]; omega
  rw [e, quo8 _ (by omega)]
theorem make_ok (n : Nat) (h : n ≤ 65536) : bitset_Make.f (n : Int) = some (List.replicate ((n + 7) / 8) 0, 0) := by
  unfold bitset_Make.f
  rw [if_neg (by omega), if_neg (by omega), size_f n h]
  simp only [Option.bind_some]
  rw [if_pos (by omega), if_pos (by omega), Int.toNat_natCast]
theorem make_no (n : Int) (h : n < 0 ∨ 65536 < n) : bitset_Make.f n = some ([], 40) := by
  unfold bitset_Make.f
  by_cases h0 : n < 0
  · rw [if_pos h0]
  · rw [if_neg h0, if_pos (by omega)]
theorem isPacked_zero (n : Nat) : Packed (fun _ => false) n (List.replicate ((n + 7) / 8) 0) :=
  ⟨by simp, IsB.replicate _, fun i _ => by rw [gbit_replicate]; simp⟩
/-- The program's own spelling of 'the bit i set'. -/
theorem set_mask (xs : List Int) (i : Nat) (hi : i ≤ 65536) :
    xs.set (wrap64 (Int.tdiv (i : Int) 8)).toNat (Go.bits .or .u8 (rd xs (wrap64 (Int.tdiv (i : Int) 8))) (shr .u8 128 (Int.tmod (i : Int) 8))) = put1 xs i := by
  rw [quo8 i (by omega), rem8, shr_mask _ (Nat.mod_lt _ (by decide)), rd_nat, Int.toNat_natCast]
  rfl
theorem clear_mask (xs : List Int) (i : Nat) (hi : i ≤ 65536) :
    xs.set (wrap64 (Int.tdiv (i : Int) 8)).toNat (Go.bits .andNot .u8 (rd xs (wrap64 (Int.tdiv (i : Int) 8))) (shr .u8 128 (Int.tmod (i : Int) 8))) = put0 xs i := by
  rw [quo8 i (by omega), rem8, shr_mask _ (Nat.mod_lt _ (by decide)), rd_nat, Int.toNat_natCast]
  rfl
/-- The program's own spelling of 'is the bit i set?'. -/
theorem get_mask (xs : List Int) (hx : IsB xs) (i : Nat) (hi : i ≤ 65536) :
    (Go.bits .and .u8 (rd xs (wrap64 (Int.tdiv (i : Int) 8))) (shr .u8 128 (Int.tmod (i : Int) 8)) = 0) ↔ gbit xs i = false := by
  rw [quo8 i (by omega), rem8, shr_mask _ (Nat.mod_lt _ (by decide)), rd_nat]
  exact and_mask _ (hx.getD _) _ (Nat.mod_lt _ (by decide))
theorem tests_in (xs : List Int) (i : Nat) (hi : i ≤ 65536) (hl : i < 8 * xs.length) :
    0 ≤ wrap64 (Int.tdiv (i : Int) 8) ∧ wrap64 (Int.tdiv (i : Int) 8) < (xs.length : Int) ∧ 0 ≤ Int.tmod (i : Int) 8 := by
  rw [quo8 i (by omega), rem8]
  omega
end Go.Proofs.Ytoohpdamndgdlaa.B
