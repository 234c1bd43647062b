/- The call of bitset.masks: it answers the array of the eight masks, and what stood in memory stays. No condition. -/
import Derived.Test.YtoohpdamndgdlaaProg
import Derived.Test.YtoohpdamndgdlaaWWords
import Derived.Test.YtoohpdamndgdlaaWMore
import Derived.Below
import Derived.WalkKit
import Derived.KernelRfl
import Derived.OwnWalk
import Derived.Outline
namespace Go.Proofs.Ytoohpdamndgdlaa.P
open Go.RowKit Go.Proofs.YtoohpdamndgdlaaW.PrintWords Go.Proofs.YtoohpdamndgdlaaW.PrintMore

/-- The eight masks, as one value. -/
def maskV : Value := .agg #[.int .u8 128, .int .u8 64, .int .u8 32, .int .u8 16, .int .u8 8, .int .u8 4, .int .u8 2, .int .u8 1]

theorem masks_calls (w : World) : Calls Try.prog 58 #[] w fun e w' => e = .returned maskV ∧ Below w.heap.size w w' := by
  go_enter Try.func58, Try.ntmps58
  go_wp2
  refine bodyPost_ret (v := maskV) (by simp [results, Try.results58, go_sem, maskV]) rfl ⟨rfl, ?_⟩
  exact (Below.refl _ _).alloc (Nat.le_refl _) _

def MaskAt (j : Int) : Prop := ∀ w : World, (Instr.index 68 maskV (.int .i64 j)).run Try.prog w = .ok (.int .u8 (shr .u8 128 j)) w
theorem mask_at0 : MaskAt 0 := fun w => by kernel_rfl
theorem mask_at1 : MaskAt 1 := fun w => by kernel_rfl
theorem mask_at2 : MaskAt 2 := fun w => by kernel_rfl
theorem mask_at3 : MaskAt 3 := fun w => by kernel_rfl
theorem mask_at4 : MaskAt 4 := fun w => by kernel_rfl
theorem mask_at5 : MaskAt 5 := fun w => by kernel_rfl
theorem mask_at6 : MaskAt 6 := fun w => by kernel_rfl
theorem mask_at7 : MaskAt 7 := fun w => by kernel_rfl
theorem mask_at (j : Int) (h0 : 0 ≤ j) (h8 : j < 8) : MaskAt j := by
  have h : j = 0 ∨ j = 1 ∨ j = 2 ∨ j = 3 ∨ j = 4 ∨ j = 5 ∨ j = 6 ∨ j = 7 := by omega
  rcases h with rfl | rfl | rfl | rfl | rfl | rfl | rfl | rfl
  · exact mask_at0
  · exact mask_at1
  · exact mask_at2
  · exact mask_at3
  · exact mask_at4
  · exact mask_at5
  · exact mask_at6
  · exact mask_at7
theorem tmod8_lt (x : Int) : Int.tmod x 8 < 8 := Int.tmod_lt_of_pos x (by decide)
end Go.Proofs.Ytoohpdamndgdlaa.P
