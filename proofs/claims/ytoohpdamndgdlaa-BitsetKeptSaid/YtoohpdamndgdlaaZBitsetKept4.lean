-- Merged by a program of this session out of the texts Px62 of this claim's own.
import Derived.Test.YtoohpdamndgdlaaZBitsetKept3

-- Made by a program of this session (the print of the kit over a neighbour), for this claim.
namespace Go.Proofs.Ytoohpdamndgdlaa.P
open Go.RowKit Go.Proofs.YtoohpdamndgdlaaW.PrintWords Go.Proofs.YtoohpdamndgdlaaW.PrintLast Go.Proofs.YtoohpdamndgdlaaW.PrintMore
attribute [local go_sem] max2_int min2_int max_two min_two max_three min_three max_four min_four   -- for this text's walks alone
set_option linter.unusedVariables false
set_option linter.unusedSimpArgs false

/-! ### torrentlaw4_lists: function 53 -/
mutual
def torrentlaw4_lists.j0 : Nat → Int → List Int → List Int → List Int → List Int → List (S59) → List (S59) → List (S59) → Bool → Option (Bool)
  | 0, _, _, _, _, _, _, _, _, _ => none
  | k + 1, x0, x1, x7, x9, x11, x13, x15, x17, x96 => if x96 = true then (some false) else (if ([] : List Int).length + x9.length < 17592186044416 then (if ([] : List (S59)).length + x15.length < 8796093022208 then (torrentlaw4_lists.l0 k x0 x1 x7 x9 x11 x13 x15 x17 (([] : List Int) ++ x9) (([] : List (S59)) ++ x15) (x7.length : Int) 0) else (none)) else (none))
def torrentlaw4_lists.l0 : Nat → Int → List Int → List Int → List Int → List Int → List (S59) → List (S59) → List (S59) → List Int → List (S59) → Int → Int → Option (Bool)
  | 0, _, _, _, _, _, _, _, _, _, _, _, _ => none
  | k + 1, x0, x1, x7, x9, x11, x13, x15, x17, x19, x20, x21, x22 => if x22 < (x7.length : Int) then (if 0 ≤ x22 then (torrentlaw4_lists.l0 k x0 x1 (x7.set (x22 : Int).toNat (wrap64 ((-1) - x22))) x9 x11 x13 x15 x17 x19 x20 x21 (wrap64 (x22 + 1))) else (none)) else (torrentlaw4_lists.l1 k x0 x1 x7 x9 x11 x13 x15 x17 x19 x20 x21 0)
def torrentlaw4_lists.l1 : Nat → Int → List Int → List Int → List Int → List Int → List (S59) → List (S59) → List (S59) → List Int → List (S59) → Int → Int → Option (Bool)
  | 0, _, _, _, _, _, _, _, _, _, _, _, _ => none
  | k + 1, x0, x1, x7, x9, x11, x13, x15, x17, x19, x20, x21, x23 => if x23 < (x13.length : Int) then (if 0 ≤ x23 then ((some (x13.set (x23 : Int).toNat (⟨wrap64 ((-1) - x23), (rd_T59 x13 x23).f1⟩ : S59) : List (S59))).bind fun y700 => (torrentlaw4_lists.l1 k x0 x1 x7 x9 x11 (y700.set (x23 : Int).toNat (⟨(rd_T59 y700 x23).f0, (-5)⟩ : S59)) x15 x17 x19 x20 x21 (wrap64 (x23 + 1)))) else (none)) else (torrentlaw4_lists.l2 k x0 x1 x7 x9 x11 x13 x15 x17 x19 x20 x21 0)
def torrentlaw4_lists.l2 : Nat → Int → List Int → List Int → List Int → List Int → List (S59) → List (S59) → List (S59) → List Int → List (S59) → Int → Int → Option (Bool)
  | 0, _, _, _, _, _, _, _, _, _, _, _, _ => none
  | k + 1, x0, x1, x7, x9, x11, x13, x15, x17, x19, x20, x21, x24 => if x24 < 70 then (if x7.length < 17592186044416 then (if x13.length < 8796093022208 then (torrentlaw4_lists.l2 k x0 x1 (x7 ++ [wrap64 ((-100) - x24)]) x9 x11 (x13 ++ [(⟨wrap64 ((-100) - x24), 9⟩ : S59)]) x15 x17 x19 x20 x21 (wrap64 (x24 + 1))) else (none)) else (none)) else ((torrentlaw4_sameInts.f k x9 x19).bind fun t708 => (if t708 = true then ((torrentlaw4_sameRuns.f k x15 x20).bind fun t709 => (torrentlaw4_lists.j4 k x0 x1 x7 x11 x13 x17 x21 (!t709))) else (torrentlaw4_lists.j4 k x0 x1 x7 x11 x13 x17 x21 true)))
def torrentlaw4_lists.j4 : Nat → Int → List Int → List Int → List Int → List (S59) → List (S59) → Int → Bool → Option (Bool)
  | 0, _, _, _, _, _, _, _, _ => none
  | k + 1, x0, x1, x7, x11, x13, x17, x21, x156 => if x156 = true then (some false) else ((bitset_Ones.f k x0 x1).bind fun bt710 => ((bitset_Runs.f k x0 x1).bind fun bt714 => (if bt710.2 = 0 then (if bt714.2 = 0 then ((torrentlaw4_sameInts.f k bt710.1 x11).bind fun t718 => (if t718 = true then ((torrentlaw4_sameRuns.f k bt714.1 x17).bind fun t719 => (if t719 = true then (if (x7.length : Int) = (wrap64 (x21 + 70)) then (if (x11.length : Int) = x21 then (some ((x13.length : Int) == (wrap64 ((x17.length : Int) + 70)))) else (some false)) else (some false)) else (some false))) else (some false))) else (some false)) else (some false))))
end
def torrentlaw4_lists.f (k : Nat) (a0 : Int) (l1 : List Int) (l2 : List Int) : Option (Bool) := (bitset_Ones.f k a0 l1).bind fun bt667 => ((bitset_Ones.f k a0 l2).bind fun bt671 => ((bitset_Ones.f k a0 l1).bind fun bt675 => ((bitset_Runs.f k a0 l1).bind fun bt679 => ((bitset_Runs.f k a0 l2).bind fun bt683 => ((bitset_Runs.f k a0 l1).bind fun bt687 => (if bt667.2 = 0 then (if bt671.2 = 0 then (if bt675.2 = 0 then (if bt679.2 = 0 then (if bt683.2 = 0 then (if bt687.2 = 0 then ((torrentlaw4_sameInts.f k bt667.1 bt675.1).bind fun t691 => (if t691 = true then ((torrentlaw4_sameRuns.f k bt679.1 bt687.1).bind fun t692 => (torrentlaw4_lists.j0 k a0 l1 bt667.1 bt671.1 bt675.1 bt679.1 bt683.1 bt687.1 (!t692))) else (torrentlaw4_lists.j0 k a0 l1 bt667.1 bt671.1 bt675.1 bt679.1 bt683.1 bt687.1 true))) else (torrentlaw4_lists.j0 k a0 l1 bt667.1 bt671.1 bt675.1 bt679.1 bt683.1 bt687.1 true)) else (torrentlaw4_lists.j0 k a0 l1 bt667.1 bt671.1 bt675.1 bt679.1 bt683.1 bt687.1 true)) else (torrentlaw4_lists.j0 k a0 l1 bt667.1 bt671.1 bt675.1 bt679.1 bt683.1 bt687.1 true)) else (torrentlaw4_lists.j0 k a0 l1 bt667.1 bt671.1 bt675.1 bt679.1 bt683.1 bt687.1 true)) else (torrentlaw4_lists.j0 k a0 l1 bt667.1 bt671.1 bt675.1 bt679.1 bt683.1 bt687.1 true)) else (torrentlaw4_lists.j0 k a0 l1 bt667.1 bt671.1 bt675.1 bt679.1 bt683.1 bt687.1 true)))))))
set_option maxHeartbeats 8000000 in
set_option maxRecDepth 100000 in
theorem torrentlaw4_lists.calls (k : Nat) (a0 : Int) (A1 : Option Addr) (c1 : Nat) (l1 : List Int) (A2 : Option Addr) (c2 : Nat) (l2 : List Int) (r : Bool) (w : World) (hr1 : Kd.C (Kd.int .u8) w A1 l1.length l1) (hc1 : l1.length ≤ c1) (hr2 : Kd.C (Kd.int .u8) w A2 l2.length l2) (hc2 : l2.length ≤ c2) (h : torrentlaw4_lists.f k a0 l1 l2 = some r) :
    Calls Try.prog 53 #[.int .i64 a0, .slice A1 l1.length c1, .slice A2 l2.length c2] w fun e w' => e = .returned (.bool r) ∧ Below w.heap.size w w' := by
  have hu59 := Try.underlying59
  have HR1 := Aside0.mk hr1
  have HC1 := Aside0.mk hc1
  clear hr1 hc1
  have HR2 := Aside0.mk hr2
  have HC2 := Aside0.mk hc2
  clear hr2 hc2
  have HB := Aside0.mk (Below.refl w.heap.size w)
  have H : ((bitset_Ones.f k a0 l1).bind fun bt667 => ((bitset_Ones.f k a0 l2).bind fun bt671 => ((bitset_Ones.f k a0 l1).bind fun bt675 => ((bitset_Runs.f k a0 l1).bind fun bt679 => ((bitset_Runs.f k a0 l2).bind fun bt683 => ((bitset_Runs.f k a0 l1).bind fun bt687 => (if bt667.2 = 0 then (if bt671.2 = 0 then (if bt675.2 = 0 then (if bt679.2 = 0 then (if bt683.2 = 0 then (if bt687.2 = 0 then ((torrentlaw4_sameInts.f k bt667.1 bt675.1).bind fun t691 => (if t691 = true then ((torrentlaw4_sameRuns.f k bt679.1 bt687.1).bind fun t692 => (torrentlaw4_lists.j0 k a0 l1 bt667.1 bt671.1 bt675.1 bt679.1 bt683.1 bt687.1 (!t692))) else (torrentlaw4_lists.j0 k a0 l1 bt667.1 bt671.1 bt675.1 bt679.1 bt683.1 bt687.1 true))) else (torrentlaw4_lists.j0 k a0 l1 bt667.1 bt671.1 bt675.1 bt679.1 bt683.1 bt687.1 true)) else (torrentlaw4_lists.j0 k a0 l1 bt667.1 bt671.1 bt675.1 bt679.1 bt683.1 bt687.1 true)) else (torrentlaw4_lists.j0 k a0 l1 bt667.1 bt671.1 bt675.1 bt679.1 bt683.1 bt687.1 true)) else (torrentlaw4_lists.j0 k a0 l1 bt667.1 bt671.1 bt675.1 bt679.1 bt683.1 bt687.1 true)) else (torrentlaw4_lists.j0 k a0 l1 bt667.1 bt671.1 bt675.1 bt679.1 bt683.1 bt687.1 true)) else (torrentlaw4_lists.j0 k a0 l1 bt667.1 bt671.1 bt675.1 bt679.1 bt683.1 bt687.1 true)))))))) = some r := h
  clear h
  replace H := Option.bind_eq_some_iff.mp H
  obtain ⟨⟨t667, t668⟩, A40, H⟩ := H
  replace H : ((bitset_Ones.f k a0 l2).bind fun bt671 => ((bitset_Ones.f k a0 l1).bind fun bt675 => ((bitset_Runs.f k a0 l1).bind fun bt679 => ((bitset_Runs.f k a0 l2).bind fun bt683 => ((bitset_Runs.f k a0 l1).bind fun bt687 => (if t668 = 0 then (if bt671.2 = 0 then (if bt675.2 = 0 then (if bt679.2 = 0 then (if bt683.2 = 0 then (if bt687.2 = 0 then ((torrentlaw4_sameInts.f k t667 bt675.1).bind fun t691 => (if t691 = true then ((torrentlaw4_sameRuns.f k bt679.1 bt687.1).bind fun t692 => (torrentlaw4_lists.j0 k a0 l1 t667 bt671.1 bt675.1 bt679.1 bt683.1 bt687.1 (!t692))) else (torrentlaw4_lists.j0 k a0 l1 t667 bt671.1 bt675.1 bt679.1 bt683.1 bt687.1 true))) else (torrentlaw4_lists.j0 k a0 l1 t667 bt671.1 bt675.1 bt679.1 bt683.1 bt687.1 true)) else (torrentlaw4_lists.j0 k a0 l1 t667 bt671.1 bt675.1 bt679.1 bt683.1 bt687.1 true)) else (torrentlaw4_lists.j0 k a0 l1 t667 bt671.1 bt675.1 bt679.1 bt683.1 bt687.1 true)) else (torrentlaw4_lists.j0 k a0 l1 t667 bt671.1 bt675.1 bt679.1 bt683.1 bt687.1 true)) else (torrentlaw4_lists.j0 k a0 l1 t667 bt671.1 bt675.1 bt679.1 bt683.1 bt687.1 true)) else (torrentlaw4_lists.j0 k a0 l1 t667 bt671.1 bt675.1 bt679.1 bt683.1 bt687.1 true))))))) = some r := H
  have A4 := Aside0.mk A40
  clear A40
  replace H := Option.bind_eq_some_iff.mp H
  obtain ⟨⟨t671, t672⟩, A50, H⟩ := H
  replace H : ((bitset_Ones.f k a0 l1).bind fun bt675 => ((bitset_Runs.f k a0 l1).bind fun bt679 => ((bitset_Runs.f k a0 l2).bind fun bt683 => ((bitset_Runs.f k a0 l1).bind fun bt687 => (if t668 = 0 then (if t672 = 0 then (if bt675.2 = 0 then (if bt679.2 = 0 then (if bt683.2 = 0 then (if bt687.2 = 0 then ((torrentlaw4_sameInts.f k t667 bt675.1).bind fun t691 => (if t691 = true then ((torrentlaw4_sameRuns.f k bt679.1 bt687.1).bind fun t692 => (torrentlaw4_lists.j0 k a0 l1 t667 t671 bt675.1 bt679.1 bt683.1 bt687.1 (!t692))) else (torrentlaw4_lists.j0 k a0 l1 t667 t671 bt675.1 bt679.1 bt683.1 bt687.1 true))) else (torrentlaw4_lists.j0 k a0 l1 t667 t671 bt675.1 bt679.1 bt683.1 bt687.1 true)) else (torrentlaw4_lists.j0 k a0 l1 t667 t671 bt675.1 bt679.1 bt683.1 bt687.1 true)) else (torrentlaw4_lists.j0 k a0 l1 t667 t671 bt675.1 bt679.1 bt683.1 bt687.1 true)) else (torrentlaw4_lists.j0 k a0 l1 t667 t671 bt675.1 bt679.1 bt683.1 bt687.1 true)) else (torrentlaw4_lists.j0 k a0 l1 t667 t671 bt675.1 bt679.1 bt683.1 bt687.1 true)) else (torrentlaw4_lists.j0 k a0 l1 t667 t671 bt675.1 bt679.1 bt683.1 bt687.1 true)))))) = some r := H
  have A5 := Aside0.mk A50
  clear A50
  replace H := Option.bind_eq_some_iff.mp H
  obtain ⟨⟨t675, t676⟩, A60, H⟩ := H
  replace H : ((bitset_Runs.f k a0 l1).bind fun bt679 => ((bitset_Runs.f k a0 l2).bind fun bt683 => ((bitset_Runs.f k a0 l1).bind fun bt687 => (if t668 = 0 then (if t672 = 0 then (if t676 = 0 then (if bt679.2 = 0 then (if bt683.2 = 0 then (if bt687.2 = 0 then ((torrentlaw4_sameInts.f k t667 t675).bind fun t691 => (if t691 = true then ((torrentlaw4_sameRuns.f k bt679.1 bt687.1).bind fun t692 => (torrentlaw4_lists.j0 k a0 l1 t667 t671 t675 bt679.1 bt683.1 bt687.1 (!t692))) else (torrentlaw4_lists.j0 k a0 l1 t667 t671 t675 bt679.1 bt683.1 bt687.1 true))) else (torrentlaw4_lists.j0 k a0 l1 t667 t671 t675 bt679.1 bt683.1 bt687.1 true)) else (torrentlaw4_lists.j0 k a0 l1 t667 t671 t675 bt679.1 bt683.1 bt687.1 true)) else (torrentlaw4_lists.j0 k a0 l1 t667 t671 t675 bt679.1 bt683.1 bt687.1 true)) else (torrentlaw4_lists.j0 k a0 l1 t667 t671 t675 bt679.1 bt683.1 bt687.1 true)) else (torrentlaw4_lists.j0 k a0 l1 t667 t671 t675 bt679.1 bt683.1 bt687.1 true)) else (torrentlaw4_lists.j0 k a0 l1 t667 t671 t675 bt679.1 bt683.1 bt687.1 true))))) = some r := H
  have A6 := Aside0.mk A60
  clear A60
  replace H := Option.bind_eq_some_iff.mp H
  obtain ⟨⟨t679, t680⟩, A70, H⟩ := H
  replace H : ((bitset_Runs.f k a0 l2).bind fun bt683 => ((bitset_Runs.f k a0 l1).bind fun bt687 => (if t668 = 0 then (if t672 = 0 then (if t676 = 0 then (if t680 = 0 then (if bt683.2 = 0 then (if bt687.2 = 0 then ((torrentlaw4_sameInts.f k t667 t675).bind fun t691 => (if t691 = true then ((torrentlaw4_sameRuns.f k t679 bt687.1).bind fun t692 => (torrentlaw4_lists.j0 k a0 l1 t667 t671 t675 t679 bt683.1 bt687.1 (!t692))) else (torrentlaw4_lists.j0 k a0 l1 t667 t671 t675 t679 bt683.1 bt687.1 true))) else (torrentlaw4_lists.j0 k a0 l1 t667 t671 t675 t679 bt683.1 bt687.1 true)) else (torrentlaw4_lists.j0 k a0 l1 t667 t671 t675 t679 bt683.1 bt687.1 true)) else (torrentlaw4_lists.j0 k a0 l1 t667 t671 t675 t679 bt683.1 bt687.1 true)) else (torrentlaw4_lists.j0 k a0 l1 t667 t671 t675 t679 bt683.1 bt687.1 true)) else (torrentlaw4_lists.j0 k a0 l1 t667 t671 t675 t679 bt683.1 bt687.1 true)) else (torrentlaw4_lists.j0 k a0 l1 t667 t671 t675 t679 bt683.1 bt687.1 true)))) = some r := H
  have A7 := Aside0.mk A70
  clear A70
  replace H := Option.bind_eq_some_iff.mp H
  obtain ⟨⟨t683, t684⟩, A80, H⟩ := H
  replace H : ((bitset_Runs.f k a0 l1).bind fun bt687 => (if t668 = 0 then (if t672 = 0 then (if t676 = 0 then (if t680 = 0 then (if t684 = 0 then (if bt687.2 = 0 then ((torrentlaw4_sameInts.f k t667 t675).bind fun t691 => (if t691 = true then ((torrentlaw4_sameRuns.f k t679 bt687.1).bind fun t692 => (torrentlaw4_lists.j0 k a0 l1 t667 t671 t675 t679 t683 bt687.1 (!t692))) else (torrentlaw4_lists.j0 k a0 l1 t667 t671 t675 t679 t683 bt687.1 true))) else (torrentlaw4_lists.j0 k a0 l1 t667 t671 t675 t679 t683 bt687.1 true)) else (torrentlaw4_lists.j0 k a0 l1 t667 t671 t675 t679 t683 bt687.1 true)) else (torrentlaw4_lists.j0 k a0 l1 t667 t671 t675 t679 t683 bt687.1 true)) else (torrentlaw4_lists.j0 k a0 l1 t667 t671 t675 t679 t683 bt687.1 true)) else (torrentlaw4_lists.j0 k a0 l1 t667 t671 t675 t679 t683 bt687.1 true)) else (torrentlaw4_lists.j0 k a0 l1 t667 t671 t675 t679 t683 bt687.1 true))) = some r := H
  have A8 := Aside0.mk A80
  clear A80
  replace H := Option.bind_eq_some_iff.mp H
  obtain ⟨⟨t687, t688⟩, A90, H⟩ := H
  replace H : (if t668 = 0 then (if t672 = 0 then (if t676 = 0 then (if t680 = 0 then (if t684 = 0 then (if t688 = 0 then ((torrentlaw4_sameInts.f k t667 t675).bind fun t691 => (if t691 = true then ((torrentlaw4_sameRuns.f k t679 t687).bind fun t692 => (torrentlaw4_lists.j0 k a0 l1 t667 t671 t675 t679 t683 t687 (!t692))) else (torrentlaw4_lists.j0 k a0 l1 t667 t671 t675 t679 t683 t687 true))) else (torrentlaw4_lists.j0 k a0 l1 t667 t671 t675 t679 t683 t687 true)) else (torrentlaw4_lists.j0 k a0 l1 t667 t671 t675 t679 t683 t687 true)) else (torrentlaw4_lists.j0 k a0 l1 t667 t671 t675 t679 t683 t687 true)) else (torrentlaw4_lists.j0 k a0 l1 t667 t671 t675 t679 t683 t687 true)) else (torrentlaw4_lists.j0 k a0 l1 t667 t671 t675 t679 t683 t687 true)) else (torrentlaw4_lists.j0 k a0 l1 t667 t671 t675 t679 t683 t687 true)) = some r := H
  have A9 := Aside0.mk A90
  clear A90
  have HC10 := Aside0.mk H
  clear H
  go_enter Try.func53, Try.ntmps53
  go_upto_region 7 with (first | ((with_reducible refine gate_callee (f := 37) rfl ?_); refine goesL_ (some 30) rfl rfl Try.func37 (by kernel_rfl) rfl #[.int .i64 a0, .slice A1 l1.length c1] rfl (by (try simp only [List.map_toArray, List.map_cons, List.map_nil]); first | done | rfl) ?_; (with_reducible refine (bitset_Ones.calls k a0 _ _ l1 t667 t668 _ ?side1 ?side2 A4.out).mono ?_); (case side1 => exact HR1.out); (case side2 => exact HC1.out); rintro e w11 ⟨v669, rfl, ho0, hb⟩; refine ⟨_, rfl, ?_⟩; have n0_ := Aside0.mk (Kd.R_lower ho0 (below_size HB.out)); have n1_ := Aside0.mk (below_step HB.out hb); clear HB; have HO670 := n0_; have HB := n1_; clear n0_ n1_; (try clear hb); (try clear ho0)) | ((with_reducible refine gate_callee (f := 37) rfl ?_); refine goesL_ (some 36) rfl rfl Try.func37 (by kernel_rfl) rfl #[.int .i64 a0, .slice A2 l2.length c2] rfl (by (try simp only [List.map_toArray, List.map_cons, List.map_nil]); first | done | rfl) ?_; (with_reducible refine (bitset_Ones.calls k a0 _ _ l2 t671 t672 _ ?side1 ?side2 A5.out).mono ?_); (case side1 => exact (Kd.C_below HR2.out HB.out)); (case side2 => exact HC2.out); rintro e w12 ⟨v673, rfl, ho0, hb⟩; refine ⟨_, rfl, ?_⟩; have n0_ := Aside0.mk (Kd.R_elder' HO670.out (Kd.R_base ho0) hb); have n1_ := Aside0.mk (Kd.R_lower (Kd.R_new' ho0 (Kd.R_lt HO670.out)) (below_size HB.out)); have n2_ := Aside0.mk (below_step HB.out hb); clear HO670; clear HB; have HO670 := n0_; have HO674 := n1_; have HB := n2_; clear n0_ n1_ n2_; (try clear hb); (try clear ho0)) | ((with_reducible refine gate_callee (f := 37) rfl ?_); refine goesL_ (some 42) rfl rfl Try.func37 (by kernel_rfl) rfl #[.int .i64 a0, .slice A1 l1.length c1] rfl (by (try simp only [List.map_toArray, List.map_cons, List.map_nil]); first | done | rfl) ?_; (with_reducible refine (bitset_Ones.calls k a0 _ _ l1 t675 t676 _ ?side1 ?side2 A6.out).mono ?_); (case side1 => exact (Kd.C_below HR1.out HB.out)); (case side2 => exact HC1.out); rintro e w13 ⟨v677, rfl, ho0, hb⟩; refine ⟨_, rfl, ?_⟩; have n0_ := Aside0.mk (Kd.R_elder' HO670.out (Kd.R_base ho0) hb); have n1_ := Aside0.mk (Kd.R_elder' HO674.out (Kd.R_base ho0) hb); have n2_ := Aside0.mk (Kd.R_lower (Kd.R_new' (Kd.R_new' ho0 (Kd.R_lt HO670.out)) (Kd.R_lt HO674.out)) (below_size HB.out)); have n3_ := Aside0.mk (below_step HB.out hb); clear HO670; clear HO674; clear HB; have HO670 := n0_; have HO674 := n1_; have HO678 := n2_; have HB := n3_; clear n0_ n1_ n2_ n3_; (try clear hb); (try clear ho0)) | ((with_reducible refine gate_callee (f := 28) rfl ?_); refine goesL_ (some 48) rfl rfl Try.func28 (by kernel_rfl) rfl #[.int .i64 a0, .slice A1 l1.length c1] rfl (by (try simp only [List.map_toArray, List.map_cons, List.map_nil]); first | done | rfl) ?_; (with_reducible refine (bitset_Runs.calls k a0 _ _ l1 t679 t680 _ ?side1 ?side2 A7.out).mono ?_); (case side1 => exact (Kd.C_below HR1.out HB.out)); (case side2 => exact HC1.out); rintro e w14 ⟨v681, rfl, ho0, hb⟩; refine ⟨_, rfl, ?_⟩; have n0_ := Aside0.mk (Kd.R_below HO670.out hb); have n1_ := Aside0.mk (Kd.R_below HO674.out hb); have n2_ := Aside0.mk (Kd.R_below HO678.out hb); have n3_ := Aside0.mk (Kd.R_lower ho0 (below_size HB.out)); have n4_ := Aside0.mk (below_step HB.out hb); clear HO670; clear HO674; clear HO678; clear HB; have HO670 := n0_; have HO674 := n1_; have HO678 := n2_; have HO682 := n3_; have HB := n4_; clear n0_ n1_ n2_ n3_ n4_; (try clear hb); (try clear ho0)) | ((with_reducible refine gate_callee (f := 28) rfl ?_); refine goesL_ (some 54) rfl rfl Try.func28 (by kernel_rfl) rfl #[.int .i64 a0, .slice A2 l2.length c2] rfl (by (try simp only [List.map_toArray, List.map_cons, List.map_nil]); first | done | rfl) ?_; (with_reducible refine (bitset_Runs.calls k a0 _ _ l2 t683 t684 _ ?side1 ?side2 A8.out).mono ?_); (case side1 => exact (Kd.C_below HR2.out HB.out)); (case side2 => exact HC2.out); rintro e w15 ⟨v685, rfl, ho0, hb⟩; refine ⟨_, rfl, ?_⟩; have n0_ := Aside0.mk (Kd.R_below HO670.out hb); have n1_ := Aside0.mk (Kd.R_below HO674.out hb); have n2_ := Aside0.mk (Kd.R_below HO678.out hb); have n3_ := Aside0.mk (Kd.R_elder' HO682.out (Kd.R_base ho0) hb); have n4_ := Aside0.mk (Kd.R_lower (Kd.R_new' ho0 (Kd.R_lt HO682.out)) (below_size HB.out)); have n5_ := Aside0.mk (below_step HB.out hb); clear HO670; clear HO674; clear HO678; clear HO682; clear HB; have HO670 := n0_; have HO674 := n1_; have HO678 := n2_; have HO682 := n3_; have HO686 := n4_; have HB := n5_; clear n0_ n1_ n2_ n3_ n4_ n5_; (try clear hb); (try clear ho0)) | ((with_reducible refine gate_callee (f := 28) rfl ?_); refine goesL_ (some 60) rfl rfl Try.func28 (by kernel_rfl) rfl #[.int .i64 a0, .slice A1 l1.length c1] rfl (by (try simp only [List.map_toArray, List.map_cons, List.map_nil]); first | done | rfl) ?_; (with_reducible refine (bitset_Runs.calls k a0 _ _ l1 t687 t688 _ ?side1 ?side2 A9.out).mono ?_); (case side1 => exact (Kd.C_below HR1.out HB.out)); (case side2 => exact HC1.out); rintro e w16 ⟨v689, rfl, ho0, hb⟩; refine ⟨_, rfl, ?_⟩; have n0_ := Aside0.mk (Kd.R_below HO670.out hb); have n1_ := Aside0.mk (Kd.R_below HO674.out hb); have n2_ := Aside0.mk (Kd.R_below HO678.out hb); have n3_ := Aside0.mk (Kd.R_elder' HO682.out (Kd.R_base ho0) hb); have n4_ := Aside0.mk (Kd.R_elder' HO686.out (Kd.R_base ho0) hb); have n5_ := Aside0.mk (Kd.R_lower (Kd.R_new' (Kd.R_new' ho0 (Kd.R_lt HO682.out)) (Kd.R_lt HO686.out)) (below_size HB.out)); have n6_ := Aside0.mk (below_step HB.out hb); clear HO670; clear HO674; clear HO678; clear HO682; clear HO686; clear HB; have HO670 := n0_; have HO674 := n1_; have HO678 := n2_; have HO682 := n3_; have HO686 := n4_; have HO690 := n5_; have HB := n6_; clear n0_ n1_ n2_ n3_ n4_ n5_ n6_; (try clear hb); (try clear ho0)))
  (try simp only [Act.put, List.setIfInBounds_toArray, List.set_cons_zero, List.set_cons_succ])
  go_cut [96] (fun v96 wc => ∃ (kq : Nat) (x96_9 : Bool), v96 = .bool x96_9 ∧ Aside0 (torrentlaw4_lists.j0 kq a0 l1 t667 t671 t675 t679 t683 t687 x96_9 = some r) ∧ Aside0 (kq ≤ k) ∧ Aside0 (Kd.R (Kd.int .i64) 3 wc w.heap.size (fun k_ => some k_ ≠ (v673 : Value).ownBlock ∧ some k_ ≠ (v677 : Value).ownBlock) v669 t667) ∧ Aside0 (Kd.R (Kd.int .i64) 3 wc w.heap.size (fun k_ => some k_ ≠ (v669 : Value).ownBlock ∧ some k_ ≠ (v677 : Value).ownBlock) v673 t671) ∧ Aside0 (Kd.R (Kd.int .i64) 3 wc w.heap.size (fun k_ => some k_ ≠ (v669 : Value).ownBlock ∧ some k_ ≠ (v673 : Value).ownBlock) v677 t675) ∧ Aside0 (Kd.R k59 59 wc w.heap.size (fun k_ => some k_ ≠ (v685 : Value).ownBlock ∧ some k_ ≠ (v689 : Value).ownBlock) v681 t679) ∧ Aside0 (Kd.R k59 59 wc w.heap.size (fun k_ => some k_ ≠ (v681 : Value).ownBlock ∧ some k_ ≠ (v689 : Value).ownBlock) v685 t683) ∧ Aside0 (Kd.R k59 59 wc w.heap.size (fun k_ => some k_ ≠ (v681 : Value).ownBlock ∧ some k_ ≠ (v685 : Value).ownBlock) v689 t687) ∧ Aside0 (Below w.heap.size w wc))
  case first =>
    have H := HC10.out
    clear HC10
    by_cases c17 : t668 = 0
    · rw [if_pos c17] at H
      have c17b0 : (t668 == 0) = true := beq_iff_eq.mpr c17
      have c17b1 : (t668 != 0) = false := bne_eq_false_iff_eq.mpr c17
      clear c17
      (first | rw [c17b0] | (simp only [i64_w, i32_w]; rw [c17b0]) | skip)
      by_cases c18 : t672 = 0
      · rw [if_pos c18] at H
        have c18b0 : (t672 == 0) = true := beq_iff_eq.mpr c18
        have c18b1 : (t672 != 0) = false := bne_eq_false_iff_eq.mpr c18
        clear c18
        by_cases c19 : t676 = 0
        · rw [if_pos c19] at H
          have c19b0 : (t676 == 0) = true := beq_iff_eq.mpr c19
          have c19b1 : (t676 != 0) = false := bne_eq_false_iff_eq.mpr c19
          clear c19
          by_cases c20 : t680 = 0
          · rw [if_pos c20] at H
            have c20b0 : (t680 == 0) = true := beq_iff_eq.mpr c20
            have c20b1 : (t680 != 0) = false := bne_eq_false_iff_eq.mpr c20
            clear c20
            by_cases c21 : t684 = 0
            · rw [if_pos c21] at H
              have c21b0 : (t684 == 0) = true := beq_iff_eq.mpr c21
              have c21b1 : (t684 != 0) = false := bne_eq_false_iff_eq.mpr c21
              clear c21
              by_cases c22 : t688 = 0
              · rw [if_pos c22] at H
                have c22b0 : (t688 == 0) = true := beq_iff_eq.mpr c22
                have c22b1 : (t688 != 0) = false := bne_eq_false_iff_eq.mpr c22
                clear c22
                replace H := Option.bind_eq_some_iff.mp H
                obtain ⟨t691, A230, H⟩ := H
                replace H : (if t691 = true then ((torrentlaw4_sameRuns.f k t679 t687).bind fun t692 => (torrentlaw4_lists.j0 k a0 l1 t667 t671 t675 t679 t683 t687 (!t692))) else (torrentlaw4_lists.j0 k a0 l1 t667 t671 t675 t679 t683 t687 true)) = some r := H
                have A23 := Aside0.mk A230
                clear A230
                by_cases c24 : t691 = true
                · subst c24
                  have H1 : ((torrentlaw4_sameRuns.f k t679 t687).bind fun t692 => (torrentlaw4_lists.j0 k a0 l1 t667 t671 t675 t679 t683 t687 (!t692))) = some r := by rw [if_pos rfl] at H; exact H
                  clear H
                  have H := H1
                  clear H1
                  replace H := Option.bind_eq_some_iff.mp H
                  obtain ⟨t692, A250, H⟩ := H
                  replace H : (torrentlaw4_lists.j0 k a0 l1 t667 t671 t675 t679 t683 t687 (!t692)) = some r := H
                  have A25 := Aside0.mk A250
                  clear A250
                  have H' := Aside0.mk H
                  clear H
                  obtain ⟨Ao26, co26, eo26⟩ := Kd.R_slice HO670.out
                  subst eo26
                  obtain ⟨Ao27, co27, eo27⟩ := Kd.R_slice HO678.out
                  subst eo27
                  go_wp2_with (first | (go_at_call 22; (with_reducible refine (torrentlaw4_sameInts.calls k _ _ t667 _ _ t675 true _ ?side1 ?side2 ?side3 ?side4 A23.out).mono ?_); (case side1 => exact (Kd.R_reads' HO670.out).2.2); (case side2 => exact (Kd.R_reads' HO670.out).2.1); (case side3 => exact (Kd.R_reads' HO678.out).2.2); (case side4 => exact (Kd.R_reads' HO678.out).2.1); rintro e w' ⟨rfl, ⟨nd, rfl⟩⟩; obtain ⟨Ao28, co28, eo28⟩ := Kd.R_slice HO682.out; subst eo28; obtain ⟨Ao29, co29, eo29⟩ := Kd.R_slice HO690.out; subst eo29) | (go_at_call 30; (with_reducible refine (torrentlaw4_sameRuns.calls k _ _ t679 _ _ t687 t692 _ ?side1 ?side2 ?side3 ?side4 A25.out).mono ?_); (case side1 => exact (Kd.R_reads' HO682.out).2.2); (case side2 => exact (Kd.R_reads' HO682.out).2.1); (case side3 => exact (Kd.R_reads' HO690.out).2.2); (case side4 => exact (Kd.R_reads' HO690.out).2.1); rintro e w' ⟨rfl, ⟨nd, rfl⟩⟩))
                  go_meet
                  case rel => exact ⟨_, (!t692), (by first | rfl | (simp; done) | (simp [*]; done)), H', ⟨by first | omega | exact Nat.le_refl _⟩, ⟨by (with_reducible repeat (first | apply Kd.R_alloc | apply Kd.R_drewN | apply Kd.R_drew)); exact Kd.R_mono HO670.out (fun _ hk => ⟨hk.1.2, hk.2⟩)⟩, ⟨by (with_reducible repeat (first | apply Kd.R_alloc | apply Kd.R_drewN | apply Kd.R_drew)); exact Kd.R_mono HO674.out (fun _ hk => ⟨hk.1.2, hk.2⟩)⟩, ⟨by (with_reducible repeat (first | apply Kd.R_alloc | apply Kd.R_drewN | apply Kd.R_drew)); exact Kd.R_mono HO678.out (fun _ hk => ⟨hk.1.2, hk.2⟩)⟩, ⟨by (with_reducible repeat (first | apply Kd.R_alloc | apply Kd.R_drewN | apply Kd.R_drew)); exact Kd.R_mono HO682.out (fun _ hk => ⟨hk.1.2, hk.2⟩)⟩, ⟨by (with_reducible repeat (first | apply Kd.R_alloc | apply Kd.R_drewN | apply Kd.R_drew)); exact Kd.R_mono HO686.out (fun _ hk => ⟨hk.1.2, hk.2⟩)⟩, ⟨by (with_reducible repeat (first | apply Kd.R_alloc | apply Kd.R_drewN | apply Kd.R_drew)); exact Kd.R_mono HO690.out (fun _ hk => ⟨hk.1.2, hk.2⟩)⟩, ⟨by repeat (first | (with_reducible first | exact HB.out | apply below_alloc | apply pw_below_drewN | apply below_drew1) | exact HB.out)⟩⟩
                · replace c24 := Bool.eq_false_iff.mpr c24
                  subst c24
                  have H1 : (torrentlaw4_lists.j0 k a0 l1 t667 t671 t675 t679 t683 t687 true) = some r := by rw [if_neg (show ¬ (false = true) by decide)] at H; exact H
                  clear H
                  have H := H1
                  clear H1
                  have H' := Aside0.mk H
                  clear H
                  obtain ⟨Ao30, co30, eo30⟩ := Kd.R_slice HO670.out
                  subst eo30
                  obtain ⟨Ao31, co31, eo31⟩ := Kd.R_slice HO678.out
                  subst eo31
                  go_wp2_with (first | (go_at_call 22; (with_reducible refine (torrentlaw4_sameInts.calls k _ _ t667 _ _ t675 false _ ?side1 ?side2 ?side3 ?side4 A23.out).mono ?_); (case side1 => exact (Kd.R_reads' HO670.out).2.2); (case side2 => exact (Kd.R_reads' HO670.out).2.1); (case side3 => exact (Kd.R_reads' HO678.out).2.2); (case side4 => exact (Kd.R_reads' HO678.out).2.1); rintro e w' ⟨rfl, ⟨nd, rfl⟩⟩))
                  go_meet
                  case rel => exact ⟨_, (true), (by first | rfl | (simp; done) | (simp [*]; done)), H', ⟨by first | omega | exact Nat.le_refl _⟩, ⟨by (with_reducible repeat (first | apply Kd.R_alloc | apply Kd.R_drewN | apply Kd.R_drew)); exact Kd.R_mono HO670.out (fun _ hk => ⟨hk.1.2, hk.2⟩)⟩, ⟨by (with_reducible repeat (first | apply Kd.R_alloc | apply Kd.R_drewN | apply Kd.R_drew)); exact Kd.R_mono HO674.out (fun _ hk => ⟨hk.1.2, hk.2⟩)⟩, ⟨by (with_reducible repeat (first | apply Kd.R_alloc | apply Kd.R_drewN | apply Kd.R_drew)); exact Kd.R_mono HO678.out (fun _ hk => ⟨hk.1.2, hk.2⟩)⟩, ⟨by (with_reducible repeat (first | apply Kd.R_alloc | apply Kd.R_drewN | apply Kd.R_drew)); exact Kd.R_mono HO682.out (fun _ hk => ⟨hk.1.2, hk.2⟩)⟩, ⟨by (with_reducible repeat (first | apply Kd.R_alloc | apply Kd.R_drewN | apply Kd.R_drew)); exact Kd.R_mono HO686.out (fun _ hk => ⟨hk.1.2, hk.2⟩)⟩, ⟨by (with_reducible repeat (first | apply Kd.R_alloc | apply Kd.R_drewN | apply Kd.R_drew)); exact Kd.R_mono HO690.out (fun _ hk => ⟨hk.1.2, hk.2⟩)⟩, ⟨by repeat (first | (with_reducible first | exact HB.out | apply below_alloc | apply pw_below_drewN | apply below_drew1) | exact HB.out)⟩⟩
              · rw [if_neg c22] at H
                have c22b0 : (t688 == 0) = false := beq_eq_false_iff_ne.mpr c22
                have c22b1 : (t688 != 0) = true := bne_iff_ne.mpr c22
                have H' := Aside0.mk H
                clear H
                go_wp2
                go_meet
                case rel => exact ⟨_, (true), (by first | rfl | (simp; done) | (simp [*]; done)), H', ⟨by first | omega | exact Nat.le_refl _⟩, ⟨by (with_reducible repeat (first | apply Kd.R_alloc | apply Kd.R_drewN | apply Kd.R_drew)); exact Kd.R_mono HO670.out (fun _ hk => ⟨hk.1.2, hk.2⟩)⟩, ⟨by (with_reducible repeat (first | apply Kd.R_alloc | apply Kd.R_drewN | apply Kd.R_drew)); exact Kd.R_mono HO674.out (fun _ hk => ⟨hk.1.2, hk.2⟩)⟩, ⟨by (with_reducible repeat (first | apply Kd.R_alloc | apply Kd.R_drewN | apply Kd.R_drew)); exact Kd.R_mono HO678.out (fun _ hk => ⟨hk.1.2, hk.2⟩)⟩, ⟨by (with_reducible repeat (first | apply Kd.R_alloc | apply Kd.R_drewN | apply Kd.R_drew)); exact Kd.R_mono HO682.out (fun _ hk => ⟨hk.1.2, hk.2⟩)⟩, ⟨by (with_reducible repeat (first | apply Kd.R_alloc | apply Kd.R_drewN | apply Kd.R_drew)); exact Kd.R_mono HO686.out (fun _ hk => ⟨hk.1.2, hk.2⟩)⟩, ⟨by (with_reducible repeat (first | apply Kd.R_alloc | apply Kd.R_drewN | apply Kd.R_drew)); exact Kd.R_mono HO690.out (fun _ hk => ⟨hk.1.2, hk.2⟩)⟩, ⟨by repeat (first | (with_reducible first | exact HB.out | apply below_alloc | apply pw_below_drewN | apply below_drew1) | exact HB.out)⟩⟩
            · rw [if_neg c21] at H
              have c21b0 : (t684 == 0) = false := beq_eq_false_iff_ne.mpr c21
              have c21b1 : (t684 != 0) = true := bne_iff_ne.mpr c21
              have H' := Aside0.mk H
              clear H
              go_wp2
              go_meet
              case rel => exact ⟨_, (true), (by first | rfl | (simp; done) | (simp [*]; done)), H', ⟨by first | omega | exact Nat.le_refl _⟩, ⟨by (with_reducible repeat (first | apply Kd.R_alloc | apply Kd.R_drewN | apply Kd.R_drew)); exact Kd.R_mono HO670.out (fun _ hk => ⟨hk.1.2, hk.2⟩)⟩, ⟨by (with_reducible repeat (first | apply Kd.R_alloc | apply Kd.R_drewN | apply Kd.R_drew)); exact Kd.R_mono HO674.out (fun _ hk => ⟨hk.1.2, hk.2⟩)⟩, ⟨by (with_reducible repeat (first | apply Kd.R_alloc | apply Kd.R_drewN | apply Kd.R_drew)); exact Kd.R_mono HO678.out (fun _ hk => ⟨hk.1.2, hk.2⟩)⟩, ⟨by (with_reducible repeat (first | apply Kd.R_alloc | apply Kd.R_drewN | apply Kd.R_drew)); exact Kd.R_mono HO682.out (fun _ hk => ⟨hk.1.2, hk.2⟩)⟩, ⟨by (with_reducible repeat (first | apply Kd.R_alloc | apply Kd.R_drewN | apply Kd.R_drew)); exact Kd.R_mono HO686.out (fun _ hk => ⟨hk.1.2, hk.2⟩)⟩, ⟨by (with_reducible repeat (first | apply Kd.R_alloc | apply Kd.R_drewN | apply Kd.R_drew)); exact Kd.R_mono HO690.out (fun _ hk => ⟨hk.1.2, hk.2⟩)⟩, ⟨by repeat (first | (with_reducible first | exact HB.out | apply below_alloc | apply pw_below_drewN | apply below_drew1) | exact HB.out)⟩⟩
          · rw [if_neg c20] at H
            have c20b0 : (t680 == 0) = false := beq_eq_false_iff_ne.mpr c20
            have c20b1 : (t680 != 0) = true := bne_iff_ne.mpr c20
            have H' := Aside0.mk H
            clear H
            go_wp2
            go_meet
            case rel => exact ⟨_, (true), (by first | rfl | (simp; done) | (simp [*]; done)), H', ⟨by first | omega | exact Nat.le_refl _⟩, ⟨by (with_reducible repeat (first | apply Kd.R_alloc | apply Kd.R_drewN | apply Kd.R_drew)); exact Kd.R_mono HO670.out (fun _ hk => ⟨hk.1.2, hk.2⟩)⟩, ⟨by (with_reducible repeat (first | apply Kd.R_alloc | apply Kd.R_drewN | apply Kd.R_drew)); exact Kd.R_mono HO674.out (fun _ hk => ⟨hk.1.2, hk.2⟩)⟩, ⟨by (with_reducible repeat (first | apply Kd.R_alloc | apply Kd.R_drewN | apply Kd.R_drew)); exact Kd.R_mono HO678.out (fun _ hk => ⟨hk.1.2, hk.2⟩)⟩, ⟨by (with_reducible repeat (first | apply Kd.R_alloc | apply Kd.R_drewN | apply Kd.R_drew)); exact Kd.R_mono HO682.out (fun _ hk => ⟨hk.1.2, hk.2⟩)⟩, ⟨by (with_reducible repeat (first | apply Kd.R_alloc | apply Kd.R_drewN | apply Kd.R_drew)); exact Kd.R_mono HO686.out (fun _ hk => ⟨hk.1.2, hk.2⟩)⟩, ⟨by (with_reducible repeat (first | apply Kd.R_alloc | apply Kd.R_drewN | apply Kd.R_drew)); exact Kd.R_mono HO690.out (fun _ hk => ⟨hk.1.2, hk.2⟩)⟩, ⟨by repeat (first | (with_reducible first | exact HB.out | apply below_alloc | apply pw_below_drewN | apply below_drew1) | exact HB.out)⟩⟩
        · rw [if_neg c19] at H
          have c19b0 : (t676 == 0) = false := beq_eq_false_iff_ne.mpr c19
          have c19b1 : (t676 != 0) = true := bne_iff_ne.mpr c19
          have H' := Aside0.mk H
          clear H
          go_wp2
          go_meet
          case rel => exact ⟨_, (true), (by first | rfl | (simp; done) | (simp [*]; done)), H', ⟨by first | omega | exact Nat.le_refl _⟩, ⟨by (with_reducible repeat (first | apply Kd.R_alloc | apply Kd.R_drewN | apply Kd.R_drew)); exact Kd.R_mono HO670.out (fun _ hk => ⟨hk.1.2, hk.2⟩)⟩, ⟨by (with_reducible repeat (first | apply Kd.R_alloc | apply Kd.R_drewN | apply Kd.R_drew)); exact Kd.R_mono HO674.out (fun _ hk => ⟨hk.1.2, hk.2⟩)⟩, ⟨by (with_reducible repeat (first | apply Kd.R_alloc | apply Kd.R_drewN | apply Kd.R_drew)); exact Kd.R_mono HO678.out (fun _ hk => ⟨hk.1.2, hk.2⟩)⟩, ⟨by (with_reducible repeat (first | apply Kd.R_alloc | apply Kd.R_drewN | apply Kd.R_drew)); exact Kd.R_mono HO682.out (fun _ hk => ⟨hk.1.2, hk.2⟩)⟩, ⟨by (with_reducible repeat (first | apply Kd.R_alloc | apply Kd.R_drewN | apply Kd.R_drew)); exact Kd.R_mono HO686.out (fun _ hk => ⟨hk.1.2, hk.2⟩)⟩, ⟨by (with_reducible repeat (first | apply Kd.R_alloc | apply Kd.R_drewN | apply Kd.R_drew)); exact Kd.R_mono HO690.out (fun _ hk => ⟨hk.1.2, hk.2⟩)⟩, ⟨by repeat (first | (with_reducible first | exact HB.out | apply below_alloc | apply pw_below_drewN | apply below_drew1) | exact HB.out)⟩⟩
      · rw [if_neg c18] at H
        have c18b0 : (t672 == 0) = false := beq_eq_false_iff_ne.mpr c18
        have c18b1 : (t672 != 0) = true := bne_iff_ne.mpr c18
        have H' := Aside0.mk H
        clear H
        go_wp2
        go_meet
        case rel => exact ⟨_, (true), (by first | rfl | (simp; done) | (simp [*]; done)), H', ⟨by first | omega | exact Nat.le_refl _⟩, ⟨by (with_reducible repeat (first | apply Kd.R_alloc | apply Kd.R_drewN | apply Kd.R_drew)); exact Kd.R_mono HO670.out (fun _ hk => ⟨hk.1.2, hk.2⟩)⟩, ⟨by (with_reducible repeat (first | apply Kd.R_alloc | apply Kd.R_drewN | apply Kd.R_drew)); exact Kd.R_mono HO674.out (fun _ hk => ⟨hk.1.2, hk.2⟩)⟩, ⟨by (with_reducible repeat (first | apply Kd.R_alloc | apply Kd.R_drewN | apply Kd.R_drew)); exact Kd.R_mono HO678.out (fun _ hk => ⟨hk.1.2, hk.2⟩)⟩, ⟨by (with_reducible repeat (first | apply Kd.R_alloc | apply Kd.R_drewN | apply Kd.R_drew)); exact Kd.R_mono HO682.out (fun _ hk => ⟨hk.1.2, hk.2⟩)⟩, ⟨by (with_reducible repeat (first | apply Kd.R_alloc | apply Kd.R_drewN | apply Kd.R_drew)); exact Kd.R_mono HO686.out (fun _ hk => ⟨hk.1.2, hk.2⟩)⟩, ⟨by (with_reducible repeat (first | apply Kd.R_alloc | apply Kd.R_drewN | apply Kd.R_drew)); exact Kd.R_mono HO690.out (fun _ hk => ⟨hk.1.2, hk.2⟩)⟩, ⟨by repeat (first | (with_reducible first | exact HB.out | apply below_alloc | apply pw_below_drewN | apply below_drew1) | exact HB.out)⟩⟩
    · rw [if_neg c17] at H
      have c17b0 : (t668 == 0) = false := beq_eq_false_iff_ne.mpr c17
      have c17b1 : (t668 != 0) = true := bne_iff_ne.mpr c17
      (first | rw [c17b0] | (simp only [i64_w, i32_w]; rw [c17b0]) | skip)
      have H' := Aside0.mk H
      clear H
      go_wp2
      go_meet
      case rel => exact ⟨_, (true), (by first | rfl | (simp; done) | (simp [*]; done)), H', ⟨by first | omega | exact Nat.le_refl _⟩, ⟨by (with_reducible repeat (first | apply Kd.R_alloc | apply Kd.R_drewN | apply Kd.R_drew)); exact Kd.R_mono HO670.out (fun _ hk => ⟨hk.1.2, hk.2⟩)⟩, ⟨by (with_reducible repeat (first | apply Kd.R_alloc | apply Kd.R_drewN | apply Kd.R_drew)); exact Kd.R_mono HO674.out (fun _ hk => ⟨hk.1.2, hk.2⟩)⟩, ⟨by (with_reducible repeat (first | apply Kd.R_alloc | apply Kd.R_drewN | apply Kd.R_drew)); exact Kd.R_mono HO678.out (fun _ hk => ⟨hk.1.2, hk.2⟩)⟩, ⟨by (with_reducible repeat (first | apply Kd.R_alloc | apply Kd.R_drewN | apply Kd.R_drew)); exact Kd.R_mono HO682.out (fun _ hk => ⟨hk.1.2, hk.2⟩)⟩, ⟨by (with_reducible repeat (first | apply Kd.R_alloc | apply Kd.R_drewN | apply Kd.R_drew)); exact Kd.R_mono HO686.out (fun _ hk => ⟨hk.1.2, hk.2⟩)⟩, ⟨by (with_reducible repeat (first | apply Kd.R_alloc | apply Kd.R_drewN | apply Kd.R_drew)); exact Kd.R_mono HO690.out (fun _ hk => ⟨hk.1.2, hk.2⟩)⟩, ⟨by repeat (first | (with_reducible first | exact HB.out | apply below_alloc | apply pw_below_drewN | apply below_drew1) | exact HB.out)⟩⟩
  case rest =>
    clear HC10
    try clear c1
    try clear c2
    try clear p2
    try clear c3
    try clear c5
    try clear c17
    try clear c17b0
    try clear c17b1
    try clear c18
    try clear c18b0
    try clear c18b1
    try clear c19
    try clear c19b0
    try clear c19b1
    try clear c20
    try clear c20b0
    try clear c20b1
    try clear c21
    try clear c21b0
    try clear c21b1
    try clear c22
    try clear c22b0
    try clear c22b1
    try clear c24
    try clear c28
    obtain ⟨kq, x96_9, rfl, HA, HJ9, HO_7, HO_9, HO_11, HO_13, HO_15, HO_17, HB⟩ := hcut
    cases kq with
    | zero => exact absurd HA.out (by simp [torrentlaw4_lists.j0])
    | succ kj9 =>
      have H := HA.out
      clear HA
      simp only [torrentlaw4_lists.j0] at H
      by_cases c32 : x96_9 = true
      · subst c32
        have H1 : (some false) = some r := by rw [if_pos rfl] at H; exact H
        clear H
        have H := H1
        clear H1
        obtain rfl := Option.some.inj H
        go_wp2
        go_ret
        exact ⟨by first | rfl | (simp [errW_none, errW_some] <;> rfl) | (simp [*, errW_none, errW_some] <;> rfl), by repeat (first | (with_reducible first | exact HB.out | apply below_alloc | apply pw_below_drewN | apply below_drew1) | exact HB.out)⟩
      · replace c32 := Bool.eq_false_iff.mpr c32
        subst c32
        have H1 : (if ([] : List Int).length + t671.length < 17592186044416 then (if ([] : List (S59)).length + t683.length < 8796093022208 then (torrentlaw4_lists.l0 kj9 a0 l1 t667 t671 t675 t679 t683 t687 (([] : List Int) ++ t671) (([] : List (S59)) ++ t683) (t667.length : Int) 0) else (none)) else (none)) = some r := by rw [if_neg (show ¬ (false = true) by decide)] at H; exact H
        clear H
        have H := H1
        clear H1
        by_cases c33 : ([] : List Int).length + t671.length < 17592186044416
        · rw [if_pos c33] at H
          have LMc33 := Aside0.mk c33
          clear c33
          obtain ⟨y693, hy693⟩ : ∃ y_ : List Int, y_ = (([] : List Int) ++ t671) := ⟨_, rfl⟩
          replace H : (if ([] : List (S59)).length + t683.length < 8796093022208 then (torrentlaw4_lists.l0 kj9 a0 l1 t667 t671 t675 t679 t683 t687 y693 (([] : List (S59)) ++ t683) (t667.length : Int) 0) else (none)) = some r := by first | (rw [hy693]; with_reducible exact H) | (have H2_ := (Option.bind_some _ _).symm.trans H; rw [hy693]; with_reducible exact H2_) | (have H2_ := (Option.bind_some _ _).symm.trans H; with_reducible exact H2_) | with_reducible exact H | (rw [hy693]; exact H) | exact H
          have Ny693 := Aside0.mk hy693
          clear hy693
          by_cases c34 : ([] : List (S59)).length + t683.length < 8796093022208
          · rw [if_pos c34] at H
            have LMc34 := Aside0.mk c34
            clear c34
            obtain ⟨y696, hy696⟩ : ∃ y_ : List (S59), y_ = (([] : List (S59)) ++ t683) := ⟨_, rfl⟩
            replace H : (torrentlaw4_lists.l0 kj9 a0 l1 t667 t671 t675 t679 t683 t687 y693 y696 (t667.length : Int) 0) = some r := by first | (rw [hy696]; with_reducible exact H) | (have H2_ := (Option.bind_some _ _).symm.trans H; rw [hy696]; with_reducible exact H2_) | (have H2_ := (Option.bind_some _ _).symm.trans H; with_reducible exact H2_) | with_reducible exact H | (rw [hy696]; exact H) | exact H
            have Ny696 := Aside0.mk hy696
            clear hy696
            have H' := Aside0.mk H
            clear H
            obtain ⟨Ao36, co36, eo36⟩ := Kd.R_slice HO_9.out
            subst eo36
            go_wp2_with (first | ((with_reducible refine gate_builtin (b := .append) (xs := #[.tmp 97, .tmp 98]) rfl ?_); (try (refine gate_guard (by rfl) ?_; dsimp only)); at_builtin; refine Kd.R_append_rows (Kd.int .i64) (w0 := w) w.heap.size rfl (.tmp 97) (.tmp 98) 28 3 (.int .i64 0) 8 rfl Try.underlying28 info3 rfl (by decide) (by omega) (.slice none 0 0) ([] : List Int) t671 _ _ _ (fun k_ => some k_ ≠ (v669 : Value).ownBlock ∧ some k_ ≠ (.slice Ao36 t671.length co36 : Value).ownBlock ∧ some k_ ≠ (v677 : Value).ownBlock) (fun _ => False) rfl rfl ?aO ?aR (fun _ _ h => h) (fun _ h => h.elim) ?aF ?aB ?aS ?aL ?_; (case aR => exact (Kd.R_reads' HO_9.out).2.2); (case aB => exact HB.out); (case aF => exact (fun k_ hk => ⟨Kd.fresh' (Kd.R_lt HO_7.out) k_ hk, Kd.fresh' (Kd.R_lt HO_9.out) k_ hk, Kd.fresh' (Kd.R_lt HO_11.out) k_ hk⟩)); (case aO => exact ((Kd.R_nil _ _ _ _ (fun k_ => some k_ ≠ (v669 : Value).ownBlock ∧ some k_ ≠ (.slice Ao36 t671.length co36 : Value).ownBlock ∧ some k_ ≠ (v677 : Value).ownBlock)))); (case aS => exact (below_size HB.out)); (case aL => have := LMc33.out; omega); intro v694 w35 ho hb hg hat; rw [← Ny693.out] at ho; have n0_ := Aside0.mk (Kd.R_after (Kd.R_apart_nil HO_7.out) hg hat); have n1_ := Aside0.mk (Kd.R_after (Kd.R_apart_nil HO_9.out) hg hat); have n2_ := Aside0.mk (Kd.R_after (Kd.R_apart_nil HO_11.out) hg hat); have n3_ := Aside0.mk (Kd.R_grown HO_13.out hg (fun _ _ => by simp [Value.ownBlock])); have n4_ := Aside0.mk (Kd.R_grown HO_15.out hg (fun _ _ => by simp [Value.ownBlock])); have n5_ := Aside0.mk (Kd.R_grown HO_17.out hg (fun _ _ => by simp [Value.ownBlock])); have n6_ := Aside0.mk (hb); have n7_ := Aside0.mk (ho); clear HO_7; clear HO_9; clear HO_11; clear HO_13; clear HO_15; clear HO_17; clear HB; have HO_7 := n0_; have HO_9 := n1_; have HO_11 := n2_; have HO_13 := n3_; have HO_15 := n4_; have HO_17 := n5_; have HB := n6_; have HO695 := n7_; clear n0_ n1_ n2_ n3_ n4_ n5_ n6_ n7_; clear ho hb hg hat; obtain ⟨Ao38, co38, eo38⟩ := Kd.R_slice HO_15.out; subst eo38) | ((with_reducible refine gate_builtin (b := .append) (xs := #[.tmp 100, .tmp 101]) rfl ?_); (try (refine gate_guard (by rfl) ?_; dsimp only)); at_builtin; refine Kd.R_append_rows k59 (w0 := w) w.heap.size rfl (.tmp 100) (.tmp 101) 42 59 (.agg #[(.int .i64 0), (.int .i64 0)]) 16 rfl Try.underlying42 info59 rfl (by decide) (by omega) (.slice none 0 0) ([] : List (S59)) t683 _ _ _ (fun k_ => some k_ ≠ (v681 : Value).ownBlock ∧ some k_ ≠ (.slice Ao38 t683.length co38 : Value).ownBlock ∧ some k_ ≠ (v689 : Value).ownBlock) (fun _ => False) rfl rfl ?aO ?aR (fun _ _ h => h) (fun _ h => h.elim) ?aF ?aB ?aS ?aL ?_; (case aR => exact (Kd.R_reads' HO_15.out).2.2); (case aB => exact HB.out); (case aF => exact (fun k_ hk => ⟨Kd.fresh' (Kd.R_lt HO_13.out) k_ hk, Kd.fresh' (Kd.R_lt HO_15.out) k_ hk, Kd.fresh' (Kd.R_lt HO_17.out) k_ hk⟩)); (case aO => exact ((Kd.R_nil _ _ _ _ (fun k_ => some k_ ≠ (v681 : Value).ownBlock ∧ some k_ ≠ (.slice Ao38 t683.length co38 : Value).ownBlock ∧ some k_ ≠ (v689 : Value).ownBlock)))); (case aS => exact (below_size HB.out)); (case aL => have := LMc34.out; omega); intro v697 w37 ho hb hg hat; rw [← Ny696.out] at ho; have n0_ := Aside0.mk (Kd.R_grown HO_7.out hg (fun _ _ => by simp [Value.ownBlock])); have n1_ := Aside0.mk (Kd.R_grown HO_9.out hg (fun _ _ => by simp [Value.ownBlock])); have n2_ := Aside0.mk (Kd.R_grown HO_11.out hg (fun _ _ => by simp [Value.ownBlock])); have n3_ := Aside0.mk (Kd.R_after (Kd.R_apart_nil HO_13.out) hg hat); have n4_ := Aside0.mk (Kd.R_after (Kd.R_apart_nil HO_15.out) hg hat); have n5_ := Aside0.mk (Kd.R_after (Kd.R_apart_nil HO_17.out) hg hat); have n6_ := Aside0.mk (Kd.R_grown HO695.out hg (fun _ _ => by simp [Value.ownBlock])); have n7_ := Aside0.mk (hb); have n8_ := Aside0.mk (ho); clear HO_7; clear HO_9; clear HO_11; clear HO_13; clear HO_15; clear HO_17; clear HO695; clear HB; have HO_7 := n0_; have HO_9 := n1_; have HO_11 := n2_; have HO_13 := n3_; have HO_15 := n4_; have HO_17 := n5_; have HO695 := n6_; have HB := n7_; have HO698 := n8_; clear n0_ n1_ n2_ n3_ n4_ n5_ n6_ n7_ n8_; clear ho hb hg hat; obtain ⟨Ao39, co39, eo39⟩ := Kd.R_slice HO_7.out; subst eo39))
            go_loopg [22] kj9 (fun kq v22 w' => ∃ (x7_2 : List Int) (x22_2 : Int), v22 = .int .i64 x22_2 ∧ Aside0 (torrentlaw4_lists.l0 kq a0 l1 x7_2 t671 t675 t679 t683 t687 y693 y696 (t667.length : Int) x22_2 = some r) ∧ Aside0 (kq ≤ kj9) ∧ Aside0 (Kd.R (Kd.int .i64) 3 w' w.heap.size (fun k_ => some k_ ≠ ((.slice Ao36 t671.length co36) : Value).ownBlock ∧ some k_ ≠ (v677 : Value).ownBlock ∧ some k_ ≠ (v694 : Value).ownBlock) (.slice Ao39 t667.length co39) x7_2) ∧ Aside0 (Kd.R (Kd.int .i64) 3 w' w.heap.size (fun k_ => some k_ ≠ ((.slice Ao39 t667.length co39) : Value).ownBlock ∧ some k_ ≠ (v677 : Value).ownBlock ∧ some k_ ≠ (v694 : Value).ownBlock) (.slice Ao36 t671.length co36) t671) ∧ Aside0 (Kd.R (Kd.int .i64) 3 w' w.heap.size (fun k_ => some k_ ≠ ((.slice Ao39 t667.length co39) : Value).ownBlock ∧ some k_ ≠ ((.slice Ao36 t671.length co36) : Value).ownBlock ∧ some k_ ≠ (v694 : Value).ownBlock) v677 t675) ∧ Aside0 (Kd.R k59 59 w' w.heap.size (fun k_ => some k_ ≠ ((.slice Ao38 t683.length co38) : Value).ownBlock ∧ some k_ ≠ (v689 : Value).ownBlock ∧ some k_ ≠ (v697 : Value).ownBlock) v681 t679) ∧ Aside0 (Kd.R k59 59 w' w.heap.size (fun k_ => some k_ ≠ (v681 : Value).ownBlock ∧ some k_ ≠ (v689 : Value).ownBlock ∧ some k_ ≠ (v697 : Value).ownBlock) (.slice Ao38 t683.length co38) t683) ∧ Aside0 (Kd.R k59 59 w' w.heap.size (fun k_ => some k_ ≠ (v681 : Value).ownBlock ∧ some k_ ≠ ((.slice Ao38 t683.length co38) : Value).ownBlock ∧ some k_ ≠ (v697 : Value).ownBlock) v689 t687) ∧ Aside0 (Kd.R (Kd.int .i64) 3 w' w.heap.size (fun k_ => some k_ ≠ ((.slice Ao39 t667.length co39) : Value).ownBlock ∧ some k_ ≠ ((.slice Ao36 t671.length co36) : Value).ownBlock ∧ some k_ ≠ (v677 : Value).ownBlock) v694 y693) ∧ Aside0 (Kd.R k59 59 w' w.heap.size (fun k_ => some k_ ≠ (v681 : Value).ownBlock ∧ some k_ ≠ ((.slice Ao38 t683.length co38) : Value).ownBlock ∧ some k_ ≠ (v689 : Value).ownBlock) v697 y696) ∧ Aside0 (Below w.heap.size w w'))
            case atStart => exact ⟨(t667), (0), (by first | rfl | (simp; done) | (simp [*]; done)), H', ⟨Nat.le_refl _⟩, ⟨by (with_reducible repeat (first | apply Kd.R_alloc | apply Kd.R_drewN | apply Kd.R_drew)); exact Kd.R_mono HO_7.out (fun _ hk => ⟨hk.1.1, ⟨hk.1.2, hk.2⟩⟩)⟩, ⟨by (with_reducible repeat (first | apply Kd.R_alloc | apply Kd.R_drewN | apply Kd.R_drew)); exact Kd.R_mono HO_9.out (fun _ hk => ⟨hk.1.1, ⟨hk.1.2, hk.2⟩⟩)⟩, ⟨by (with_reducible repeat (first | apply Kd.R_alloc | apply Kd.R_drewN | apply Kd.R_drew)); exact Kd.R_mono HO_11.out (fun _ hk => ⟨hk.1.1, ⟨hk.1.2, hk.2⟩⟩)⟩, ⟨by (with_reducible repeat (first | apply Kd.R_alloc | apply Kd.R_drewN | apply Kd.R_drew)); exact Kd.R_mono HO_13.out (fun _ hk => ⟨hk.1.1, ⟨hk.1.2, hk.2⟩⟩)⟩, ⟨by (with_reducible repeat (first | apply Kd.R_alloc | apply Kd.R_drewN | apply Kd.R_drew)); exact Kd.R_mono HO_15.out (fun _ hk => ⟨hk.1.1, ⟨hk.1.2, hk.2⟩⟩)⟩, ⟨by (with_reducible repeat (first | apply Kd.R_alloc | apply Kd.R_drewN | apply Kd.R_drew)); exact Kd.R_mono HO_17.out (fun _ hk => ⟨hk.1.1, ⟨hk.1.2, hk.2⟩⟩)⟩, ⟨by (with_reducible repeat (first | apply Kd.R_alloc | apply Kd.R_drewN | apply Kd.R_drew)); exact HO695.out⟩, ⟨by (with_reducible repeat (first | apply Kd.R_alloc | apply Kd.R_drewN | apply Kd.R_drew)); exact HO698.out⟩, ⟨by repeat (first | (with_reducible first | exact HB.out | apply below_alloc | apply pw_below_drewN | apply below_drew1) | exact HB.out)⟩⟩
            case round =>
              clear H'
              try clear c1
              try clear c2
              try clear p2
              try clear c3
              try clear c5
              try clear c17
              try clear c17b0
              try clear c17b1
              try clear c18
              try clear c18b0
              try clear c18b1
              try clear c19
              try clear c19b0
              try clear c19b1
              try clear c20
              try clear c20b0
              try clear c20b1
              try clear c21
              try clear c21b0
              try clear c21b1
              try clear c22
              try clear c22b0
              try clear c22b1
              try clear c24
              try clear c28
              try clear c32
              try clear c33
              try clear c34
              try clear c37
              try clear p2
              obtain ⟨x7_2, x22_2, rfl, HA, HK2, HO_7, HO_9, HO_11, HO_13, HO_15, HO_17, HO_19, HO_20, HB⟩ := hrel
              have hl7_2 := (Kd.R_reads' HO_7.out).1
              rw [hl7_2] at HO_7
              (try simp only [hl7_2])
              (try simp only [hl7_2] at HO_9)
              (try simp only [hl7_2] at HO_11)
              (try simp only [hl7_2] at HO_13)
              (try simp only [hl7_2] at HO_15)
              (try simp only [hl7_2] at HO_17)
              (try simp only [hl7_2] at HO_19)
              (try simp only [hl7_2] at HO_20)
              cases gk with
              | zero => exact absurd HA.out (by simp [torrentlaw4_lists.l0])
              | succ k2 =>
                have H := HA.out
                clear HA
                simp only [torrentlaw4_lists.l0] at H
                by_cases c40 : x22_2 < (x7_2.length : Int)
                · rw [if_pos c40] at H
                  have c40b0 : decide (x22_2 < (x7_2.length : Int)) = true := decide_eq_true c40
                  clear c40
                  by_cases c41 : 0 ≤ x22_2
                  · rw [if_pos c41] at H
                    have c41b0 : decide (0 ≤ x22_2) = true := decide_eq_true c41
                    clear c41
                    obtain ⟨y699, hy699⟩ : ∃ y_ : List Int, y_ = (x7_2.set (x22_2 : Int).toNat (wrap64 ((-1) - x22_2))) := ⟨_, rfl⟩
                    replace H : (torrentlaw4_lists.l0 k2 a0 l1 y699 t671 t675 t679 t683 t687 y693 y696 (t667.length : Int) (wrap64 (x22_2 + 1))) = some r := by first | (rw [hy699]; with_reducible exact H) | (have H2_ := (Option.bind_some _ _).symm.trans H; rw [hy699]; with_reducible exact H2_) | (have H2_ := (Option.bind_some _ _).symm.trans H; with_reducible exact H2_) | with_reducible exact H | (rw [hy699]; exact H) | exact H
                    have Ny699 := Aside0.mk hy699
                    clear hy699
                    have H' := Aside0.mk H
                    clear H
                    have p42 : 0 ≤ (x22_2 : Int) := of_decide_eq_true (by first | (with_reducible assumption) | assumption)
                    have q42 : (x22_2 : Int) < ((x7_2.length : Int) : Int) := of_decide_eq_true (by first | (with_reducible assumption) | assumption)
                    obtain ⟨go42, co42, eo42, gb42, gl42, cl42, HG42⟩ := Kd.R_form HO_7.out (by omega)
                    (first | cases eo42 | (injection eo42 with ea_ en_ ec_; (first | subst ea_ | (injection ea_ with ea_; subst ea_)); subst ec_; clear en_))
                    have GB42 := Aside0.mk gb42
                    have GG42 := Aside0.mk HG42
                    clear gb42 gl42 HG42
                    obtain ⟨hx42_0, hf42_0⟩ := Kd.R_celln 0 HO_7.out (x22_2 : Int) p42 q42
                    replace p42 := eq_true p42
                    replace q42 := eq_true q42
                    have HP43 := Kd.R_putg HO_7.out (x22_2 : Int) (wrap64 ((-1) - x22_2))
                    go_wp2_with (first | ((with_reducible refine gate_store (t := 3) (p := 115) rfl ?_); refine store_event (t := 3) (p := 115) (v := ?vo_w44) (w1 := (wr.setCell ⟨go42, (x22_2 : Int).toNat, none⟩ (.int .i64 (wrap64 ((-1) - x22_2))))) ?hg ?ho ?hn ?hr ?_; (case ho => rfl); (case hg => rfl); (case hn => rfl); (case hr => first | (go_simp; done) | (go_simp; rfl)); intro w44 hw; have hg : wr.grownBy w44 (some go42) := (by rw [hw]; exact HP43.2); have hp_ : Kd.R (Kd.int .i64) 3 w44 w.heap.size (fun k_ => some k_ ≠ (.slice Ao36 t671.length co36 : Value).ownBlock ∧ some k_ ≠ (v677 : Value).ownBlock ∧ some k_ ≠ (v694 : Value).ownBlock) (.slice (some ⟨go42, 0, none⟩) x7_2.length co39) y699 := (by rw [hw, Ny699.out]; exact HP43.1); clear HP43; have n0_ := Aside0.mk (hp_); have n1_ := Aside0.mk (Kd.R_after (v := (.slice (some ⟨go42, 0, none⟩) x7_2.length co39)) (v1 := (.slice (some ⟨go42, 0, none⟩) x7_2.length co39)) (ok := (fun k_ => some k_ ≠ (v677 : Value).ownBlock ∧ some k_ ≠ (v694 : Value).ownBlock)) (by (with_reducible repeat (first | apply Kd.R_alloc | apply Kd.R_drewN | apply Kd.R_drew)); exact Kd.R_mono HO_9.out (fun _ hk => ⟨⟨hk.2.1, hk.2.2⟩, hk.1⟩)) hg (.inl rfl)); have n2_ := Aside0.mk (Kd.R_after (v := (.slice (some ⟨go42, 0, none⟩) x7_2.length co39)) (v1 := (.slice (some ⟨go42, 0, none⟩) x7_2.length co39)) (ok := (fun k_ => some k_ ≠ (.slice Ao36 t671.length co36 : Value).ownBlock ∧ some k_ ≠ (v694 : Value).ownBlock)) (by (with_reducible repeat (first | apply Kd.R_alloc | apply Kd.R_drewN | apply Kd.R_drew)); exact Kd.R_mono HO_11.out (fun _ hk => ⟨⟨hk.2.1, hk.2.2⟩, hk.1⟩)) hg (.inl rfl)); have n3_ := Aside0.mk (Kd.R_over' (v := (.slice (some ⟨go42, 0, none⟩) x7_2.length co39)) HO_13.out (Kd.R_typed HO_7.out) (by decide) hg); have n4_ := Aside0.mk (Kd.R_over' (v := (.slice (some ⟨go42, 0, none⟩) x7_2.length co39)) HO_15.out (Kd.R_typed HO_7.out) (by decide) hg); have n5_ := Aside0.mk (Kd.R_over' (v := (.slice (some ⟨go42, 0, none⟩) x7_2.length co39)) HO_17.out (Kd.R_typed HO_7.out) (by decide) hg); have n6_ := Aside0.mk (Kd.R_after (v := (.slice (some ⟨go42, 0, none⟩) x7_2.length co39)) (v1 := (.slice (some ⟨go42, 0, none⟩) x7_2.length co39)) (ok := (fun k_ => some k_ ≠ (.slice Ao36 t671.length co36 : Value).ownBlock ∧ some k_ ≠ (v677 : Value).ownBlock)) (by (with_reducible repeat (first | apply Kd.R_alloc | apply Kd.R_drewN | apply Kd.R_drew)); exact Kd.R_mono HO_19.out (fun _ hk => ⟨⟨hk.2.1, hk.2.2⟩, hk.1⟩)) hg (.inl rfl)); have n7_ := Aside0.mk (Kd.R_over' (v := (.slice (some ⟨go42, 0, none⟩) x7_2.length co39)) HO_20.out (Kd.R_typed HO_7.out) (by decide) hg); have n8_ := Aside0.mk ((by rw [hw]; exact below_set (HB.out) GB42.out : Below w.heap.size w w44)); clear HO_7; clear HO_9; clear HO_11; clear HO_13; clear HO_15; clear HO_17; clear HO_19; clear HO_20; clear HB; have HO_7 := n0_; have HO_9 := n1_; have HO_11 := n2_; have HO_13 := n3_; have HO_15 := n4_; have HO_17 := n5_; have HO_19 := n6_; have HO_20 := n7_; have HB := n8_; clear n0_ n1_ n2_ n3_ n4_ n5_ n6_ n7_ n8_; clear hg hw hp_))
                    (try simp only [← hl7_2])
                    go_roundg k2
                    case measure => have := HJ9.out; have := HK2.out; omega
                    case rel => exact ⟨(y699), (wrap64 (x22_2 + 1)), (by first | rfl | (simp; done) | (simp [*]; done)), H', ⟨by have := HJ9.out; have := HK2.out; omega⟩, ⟨by (try simp only [hl7_2]); (with_reducible repeat (first | apply Kd.R_alloc | apply Kd.R_drewN | apply Kd.R_drew)); exact HO_7.out⟩, ⟨by (try simp only [hl7_2]); (with_reducible repeat (first | apply Kd.R_alloc | apply Kd.R_drewN | apply Kd.R_drew)); exact Kd.R_mono HO_9.out (fun _ hk => ⟨hk.2, ⟨hk.1.1, hk.1.2⟩⟩)⟩, ⟨by (try simp only [hl7_2]); (with_reducible repeat (first | apply Kd.R_alloc | apply Kd.R_drewN | apply Kd.R_drew)); exact Kd.R_mono HO_11.out (fun _ hk => ⟨hk.2, ⟨hk.1.1, hk.1.2⟩⟩)⟩, ⟨by (try simp only [hl7_2]); (with_reducible repeat (first | apply Kd.R_alloc | apply Kd.R_drewN | apply Kd.R_drew)); exact HO_13.out⟩, ⟨by (try simp only [hl7_2]); (with_reducible repeat (first | apply Kd.R_alloc | apply Kd.R_drewN | apply Kd.R_drew)); exact HO_15.out⟩, ⟨by (try simp only [hl7_2]); (with_reducible repeat (first | apply Kd.R_alloc | apply Kd.R_drewN | apply Kd.R_drew)); exact HO_17.out⟩, ⟨by (try simp only [hl7_2]); (with_reducible repeat (first | apply Kd.R_alloc | apply Kd.R_drewN | apply Kd.R_drew)); exact Kd.R_mono HO_19.out (fun _ hk => ⟨hk.2, ⟨hk.1.1, hk.1.2⟩⟩)⟩, ⟨by (try simp only [hl7_2]); (with_reducible repeat (first | apply Kd.R_alloc | apply Kd.R_drewN | apply Kd.R_drew)); exact HO_20.out⟩, ⟨by repeat (first | (with_reducible first | exact HB.out | apply below_alloc | apply pw_below_drewN | apply below_drew1) | exact HB.out)⟩⟩
                  · rw [if_neg c41] at H
                    exact absurd H (by simp)
                · rw [if_neg c40] at H
                  have c40b0 : decide (x22_2 < (x7_2.length : Int)) = false := decide_eq_false c40
                  clear c40
                  have H' := Aside0.mk H
                  clear H
                  go_wp2
                  go_loopg [23] k2 (fun kq v23 w' => ∃ (x13_3 : List (S59)) (x23_3 : Int), v23 = .int .i64 x23_3 ∧ Aside0 (torrentlaw4_lists.l1 kq a0 l1 x7_2 t671 t675 x13_3 t683 t687 y693 y696 (t667.length : Int) x23_3 = some r) ∧ Aside0 (kq ≤ k2) ∧ Aside0 (Kd.R (Kd.int .i64) 3 w' w.heap.size (fun k_ => some k_ ≠ ((.slice Ao36 t671.length co36) : Value).ownBlock ∧ some k_ ≠ (v677 : Value).ownBlock ∧ some k_ ≠ (v694 : Value).ownBlock) (.slice Ao39 x7_2.length co39) x7_2) ∧ Aside0 (Kd.R (Kd.int .i64) 3 w' w.heap.size (fun k_ => some k_ ≠ ((.slice Ao39 x7_2.length co39) : Value).ownBlock ∧ some k_ ≠ (v677 : Value).ownBlock ∧ some k_ ≠ (v694 : Value).ownBlock) (.slice Ao36 t671.length co36) t671) ∧ Aside0 (Kd.R (Kd.int .i64) 3 w' w.heap.size (fun k_ => some k_ ≠ ((.slice Ao39 x7_2.length co39) : Value).ownBlock ∧ some k_ ≠ ((.slice Ao36 t671.length co36) : Value).ownBlock ∧ some k_ ≠ (v694 : Value).ownBlock) v677 t675) ∧ Aside0 (Kd.R k59 59 w' w.heap.size (fun k_ => some k_ ≠ ((.slice Ao38 t683.length co38) : Value).ownBlock ∧ some k_ ≠ (v689 : Value).ownBlock ∧ some k_ ≠ (v697 : Value).ownBlock) v681 x13_3) ∧ Aside0 (Kd.R k59 59 w' w.heap.size (fun k_ => some k_ ≠ (v681 : Value).ownBlock ∧ some k_ ≠ (v689 : Value).ownBlock ∧ some k_ ≠ (v697 : Value).ownBlock) (.slice Ao38 t683.length co38) t683) ∧ Aside0 (Kd.R k59 59 w' w.heap.size (fun k_ => some k_ ≠ (v681 : Value).ownBlock ∧ some k_ ≠ ((.slice Ao38 t683.length co38) : Value).ownBlock ∧ some k_ ≠ (v697 : Value).ownBlock) v689 t687) ∧ Aside0 (Kd.R (Kd.int .i64) 3 w' w.heap.size (fun k_ => some k_ ≠ ((.slice Ao39 x7_2.length co39) : Value).ownBlock ∧ some k_ ≠ ((.slice Ao36 t671.length co36) : Value).ownBlock ∧ some k_ ≠ (v677 : Value).ownBlock) v694 y693) ∧ Aside0 (Kd.R k59 59 w' w.heap.size (fun k_ => some k_ ≠ (v681 : Value).ownBlock ∧ some k_ ≠ ((.slice Ao38 t683.length co38) : Value).ownBlock ∧ some k_ ≠ (v689 : Value).ownBlock) v697 y696) ∧ Aside0 (Below w.heap.size w w'))
                  case atStart => exact ⟨(t679), (0), (by first | rfl | (simp; done) | (simp [*]; done)), H', ⟨Nat.le_refl _⟩, ⟨by (try simp only [hl7_2]); (with_reducible repeat (first | apply Kd.R_alloc | apply Kd.R_drewN | apply Kd.R_drew)); exact HO_7.out⟩, ⟨by (try simp only [hl7_2]); (with_reducible repeat (first | apply Kd.R_alloc | apply Kd.R_drewN | apply Kd.R_drew)); exact HO_9.out⟩, ⟨by (try simp only [hl7_2]); (with_reducible repeat (first | apply Kd.R_alloc | apply Kd.R_drewN | apply Kd.R_drew)); exact HO_11.out⟩, ⟨by (try simp only [hl7_2]); (with_reducible repeat (first | apply Kd.R_alloc | apply Kd.R_drewN | apply Kd.R_drew)); exact HO_13.out⟩, ⟨by (try simp only [hl7_2]); (with_reducible repeat (first | apply Kd.R_alloc | apply Kd.R_drewN | apply Kd.R_drew)); exact HO_15.out⟩, ⟨by (try simp only [hl7_2]); (with_reducible repeat (first | apply Kd.R_alloc | apply Kd.R_drewN | apply Kd.R_drew)); exact HO_17.out⟩, ⟨by (try simp only [hl7_2]); (with_reducible repeat (first | apply Kd.R_alloc | apply Kd.R_drewN | apply Kd.R_drew)); exact HO_19.out⟩, ⟨by (try simp only [hl7_2]); (with_reducible repeat (first | apply Kd.R_alloc | apply Kd.R_drewN | apply Kd.R_drew)); exact HO_20.out⟩, ⟨by repeat (first | (with_reducible first | exact HB.out | apply below_alloc | apply pw_below_drewN | apply below_drew1) | exact HB.out)⟩⟩
                  case round =>
                    clear H'
                    try clear c1
                    try clear c2
                    try clear p2
                    try clear c3
                    try clear c4
                    try clear p4
                    try clear q4
                    try clear hx4
                    try clear hf4
                    try clear c5
                    try clear p6
                    try clear c17
                    try clear c17b0
                    try clear c17b1
                    try clear c18
                    try clear c18b0
                    try clear c18b1
                    try clear c19
                    try clear c19b0
                    try clear c19b1
                    try clear c20
                    try clear c20b0
                    try clear c20b1
                    try clear c21
                    try clear c21b0
                    try clear c21b1
                    try clear c22
                    try clear c22b0
                    try clear c22b1
                    try clear c24
                    try clear c28
                    try clear c32
                    try clear c33
                    try clear c34
                    try clear c37
                    try clear c40
                    try clear c40b0
                    try clear c41
                    try clear c41b0
                    try clear p42
                    try clear q42
                    try clear hx42
                    try clear hf42
                    try clear hx42_0
                    try clear p2
                    try clear p42
                    try clear q42
                    obtain ⟨x13_3, x23_3, rfl, HA, HK3, HO_7, HO_9, HO_11, HO_13, HO_15, HO_17, HO_19, HO_20, HB⟩ := hrel
                    cases gk with
                    | zero => exact absurd HA.out (by simp [torrentlaw4_lists.l1])
                    | succ k3 =>
                      have H := HA.out
                      clear HA
                      simp only [torrentlaw4_lists.l1] at H
                      by_cases c45 : x23_3 < (x13_3.length : Int)
                      · rw [if_pos c45] at H
                        have c45b0 : decide (x23_3 < (x13_3.length : Int)) = true := decide_eq_true c45
                        clear c45
                        by_cases c46 : 0 ≤ x23_3
                        · rw [if_pos c46] at H
                          have c46b0 : decide (0 ≤ x23_3) = true := decide_eq_true c46
                          clear c46
                          obtain ⟨y700, hy700⟩ : ∃ y_ : List (S59), y_ = (x13_3.set (x23_3 : Int).toNat (⟨wrap64 ((-1) - x23_3), (rd_T59 x13_3 x23_3).f1⟩ : S59)) := ⟨_, rfl⟩
                          replace H : (torrentlaw4_lists.l1 k3 a0 l1 x7_2 t671 t675 (y700.set (x23_3 : Int).toNat (⟨(rd_T59 y700 x23_3).f0, (-5)⟩ : S59)) t683 t687 y693 y696 (t667.length : Int) (wrap64 (x23_3 + 1))) = some r := by first | (rw [hy700]; with_reducible exact H) | (have H2_ := (Option.bind_some _ _).symm.trans H; rw [hy700]; with_reducible exact H2_) | (have H2_ := (Option.bind_some _ _).symm.trans H; with_reducible exact H2_) | with_reducible exact H | (rw [hy700]; exact H) | exact H
                          have Ny700 := Aside0.mk hy700
                          clear hy700
                          obtain ⟨y701, hy701⟩ : ∃ y_ : List (S59), y_ = (y700.set (x23_3 : Int).toNat (⟨(rd_T59 y700 x23_3).f0, (-5)⟩ : S59)) := ⟨_, rfl⟩
                          replace H : (torrentlaw4_lists.l1 k3 a0 l1 x7_2 t671 t675 y701 t683 t687 y693 y696 (t667.length : Int) (wrap64 (x23_3 + 1))) = some r := by first | (rw [hy701]; with_reducible exact H) | (have H2_ := (Option.bind_some _ _).symm.trans H; rw [hy701]; with_reducible exact H2_) | (have H2_ := (Option.bind_some _ _).symm.trans H; with_reducible exact H2_) | with_reducible exact H | (rw [hy701]; exact H) | exact H
                          have Ny701 := Aside0.mk hy701
                          clear hy701
                          have H' := Aside0.mk H
                          clear H
                          obtain ⟨Ao49, co49, eo49⟩ := Kd.R_slice HO_13.out
                          subst eo49
                          have p47 : 0 ≤ (x23_3 : Int) := of_decide_eq_true (by first | (with_reducible assumption) | assumption)
                          have q47 : (x23_3 : Int) < ((x13_3.length : Int) : Int) := of_decide_eq_true (by first | (with_reducible assumption) | assumption)
                          obtain ⟨go47, co47, eo47, gb47, gl47, cl47, HG47⟩ := Kd.R_form HO_13.out (by omega)
                          (first | cases eo47 | (injection eo47 with ea_ en_ ec_; (first | subst ea_ | (injection ea_ with ea_; subst ea_)); subst ec_; clear en_))
                          have GB47 := Aside0.mk gb47
                          have GG47 := Aside0.mk HG47
                          clear gb47 gl47 HG47
                          obtain ⟨ce47, hcl47, hM47, hcc47, hfr47⟩ := Kd.R_elem HO_13.out z59 (x23_3 : Int) p47 q47
                          obtain rfl := k59_openM hM47
                          have hx47_0 : wr.cell? ⟨go47, (x23_3 : Int).toNat * 2, none⟩ = some (.int .i64 ((rd_T59 x13_3 x23_3).f0)) := hcc47 0 _ rfl
                          have hx47_1 : wr.cell? ⟨go47, (x23_3 : Int).toNat * 2 + 1, none⟩ = some (.int .i64 ((rd_T59 x13_3 x23_3).f1)) := hcc47 1 _ rfl
                          have hf47_0 : wr.frozen? ⟨go47, (x23_3 : Int).toNat * 2, none⟩ = false := hfr47 0
                          have hf47_1 : wr.frozen? ⟨go47, (x23_3 : Int).toNat * 2 + 1, none⟩ = false := hfr47 1
                          clear hcl47 hcc47 hfr47 hM47
                          replace p47 := eq_true p47
                          replace q47 := eq_true q47
                          have HX50 := Aside0.mk (show Kd.R k59 59 wr w.heap.size (fun k_ => some k_ ≠ (.slice Ao38 t683.length co38 : Value).ownBlock ∧ some k_ ≠ (v689 : Value).ownBlock ∧ some k_ ≠ (v697 : Value).ownBlock) (.slice (some ⟨go47, 0, none⟩) x13_3.length co49) x13_3 from HO_13.out)
                          obtain ⟨ce50, hcl50, hM50, hcc50, hfr50⟩ := Kd.R_elem HX50.out z59 (x23_3 : Int) (of_decide_eq_true (by first | (with_reducible assumption) | assumption)) (by have h_ : (x23_3 : Int) < ((x13_3.length : Int) : Int) := of_decide_eq_true (by first | (with_reducible assumption) | assumption); first | exact h_ | (have e_ := (Kd.R_reads' HO_13.out).1; omega) | simpa using h_)
                          obtain rfl := k59_openM hM50
                          have HP50 := Kd.R_seg HX50.out (x23_3 : Int) (of_decide_eq_true (by first | (with_reducible assumption) | assumption)) (by have h_ : (x23_3 : Int) < ((x13_3.length : Int) : Int) := of_decide_eq_true (by first | (with_reducible assumption) | assumption); first | exact h_ | (have e_ := (Kd.R_reads' HO_13.out).1; omega) | simpa using h_) (seg := [.int .i64 (wrap64 ((-1) - x23_3))]) (j := 0) hcl50 hcc50 (show 1 ≤ 2 from by decide) (x' := (⟨wrap64 ((-1) - x23_3), (rd_T59 x13_3 x23_3).f1⟩ : S59)) (k59_mkM _ _ _ (⟨wrap64 ((-1) - x23_3), (rd_T59 x13_3 x23_3).f1⟩ : S59) ) (fun _ hk => hk)
                          have hx50_0 := hcc50 0 _ rfl
                          (try simp only [show (k59).sz = 2 from rfl, Nat.mul_one, Nat.add_zero] at hx50_0)
                          have hf50_0 := hfr50 0
                          (try simp only [show (k59).sz = 2 from rfl, Nat.mul_one, Nat.add_zero] at hf50_0)
                          clear hcl50 hcc50 hfr50 hM50
                          go_wp2_with (first | ((with_reducible refine gate_store (t := 3) (p := 127) rfl ?_); refine store_event (t := 3) (p := 127) (v := ?vo_w51) (w1 := (wr.setCell ⟨go47, (x23_3 : Int).toNat * 2, none⟩ (.int .i64 (wrap64 ((-1) - x23_3))))) ?hg ?ho ?hn ?hr ?_; (case ho => rfl); (case hg => rfl); (case hn => rfl); (case hr => first | (go_simp; done) | (go_simp; rfl)); intro w51 hw; have hg : wr.grownBy w51 (some go47) := (by rw [hw]; exact HP50.2); have hp_ : Kd.R k59 59 w51 w.heap.size (fun k_ => some k_ ≠ (.slice Ao38 t683.length co38 : Value).ownBlock ∧ some k_ ≠ (v689 : Value).ownBlock ∧ some k_ ≠ (v697 : Value).ownBlock) (.slice (some ⟨go47, 0, none⟩) x13_3.length co49) y700 := (by rw [hw, Ny700.out]; exact HP50.1); clear HP50; have n0_ := Aside0.mk (Kd.R_over' (v := (.slice (some ⟨go47, 0, none⟩) x13_3.length co49)) HO_7.out (Kd.R_typed HO_13.out) (by decide) hg); have n1_ := Aside0.mk (Kd.R_over' (v := (.slice (some ⟨go47, 0, none⟩) x13_3.length co49)) HO_9.out (Kd.R_typed HO_13.out) (by decide) hg); have n2_ := Aside0.mk (Kd.R_over' (v := (.slice (some ⟨go47, 0, none⟩) x13_3.length co49)) HO_11.out (Kd.R_typed HO_13.out) (by decide) hg); have n3_ := Aside0.mk (hp_); have n4_ := Aside0.mk (Kd.R_after (v := (.slice (some ⟨go47, 0, none⟩) x13_3.length co49)) (v1 := (.slice (some ⟨go47, 0, none⟩) x13_3.length co49)) (ok := (fun k_ => some k_ ≠ (v689 : Value).ownBlock ∧ some k_ ≠ (v697 : Value).ownBlock)) (by (with_reducible repeat (first | apply Kd.R_alloc | apply Kd.R_drewN | apply Kd.R_drew)); exact Kd.R_mono HO_15.out (fun _ hk => ⟨⟨hk.2.1, hk.2.2⟩, hk.1⟩)) hg (.inl rfl)); have n5_ := Aside0.mk (Kd.R_after (v := (.slice (some ⟨go47, 0, none⟩) x13_3.length co49)) (v1 := (.slice (some ⟨go47, 0, none⟩) x13_3.length co49)) (ok := (fun k_ => some k_ ≠ (.slice Ao38 t683.length co38 : Value).ownBlock ∧ some k_ ≠ (v697 : Value).ownBlock)) (by (with_reducible repeat (first | apply Kd.R_alloc | apply Kd.R_drewN | apply Kd.R_drew)); exact Kd.R_mono HO_17.out (fun _ hk => ⟨⟨hk.2.1, hk.2.2⟩, hk.1⟩)) hg (.inl rfl)); have n6_ := Aside0.mk (Kd.R_over' (v := (.slice (some ⟨go47, 0, none⟩) x13_3.length co49)) HO_19.out (Kd.R_typed HO_13.out) (by decide) hg); have n7_ := Aside0.mk (Kd.R_after (v := (.slice (some ⟨go47, 0, none⟩) x13_3.length co49)) (v1 := (.slice (some ⟨go47, 0, none⟩) x13_3.length co49)) (ok := (fun k_ => some k_ ≠ (.slice Ao38 t683.length co38 : Value).ownBlock ∧ some k_ ≠ (v689 : Value).ownBlock)) (by (with_reducible repeat (first | apply Kd.R_alloc | apply Kd.R_drewN | apply Kd.R_drew)); exact Kd.R_mono HO_20.out (fun _ hk => ⟨⟨hk.2.1, hk.2.2⟩, hk.1⟩)) hg (.inl rfl)); have n8_ := Aside0.mk ((by rw [hw]; exact below_set (HB.out) GB47.out : Below w.heap.size w w51)); clear HO_7; clear HO_9; clear HO_11; clear HO_13; clear HO_15; clear HO_17; clear HO_19; clear HO_20; clear HB; have HO_7 := n0_; have HO_9 := n1_; have HO_11 := n2_; have HO_13 := n3_; have HO_15 := n4_; have HO_17 := n5_; have HO_19 := n6_; have HO_20 := n7_; have HB := n8_; clear n0_ n1_ n2_ n3_ n4_ n5_ n6_ n7_ n8_; clear hg hw hp_; have p48 : 0 ≤ (x23_3 : Int) := of_decide_eq_true (by first | (with_reducible assumption) | assumption); have q48 : (x23_3 : Int) < ((x13_3.length : Int) : Int) := of_decide_eq_true (by first | (with_reducible assumption) | assumption); obtain ⟨ce48, hcl48, hM48, hcc48, hfr48⟩ := Kd.R_elem HO_13.out z59 (x23_3 : Int) p48 q48; obtain rfl := k59_openM hM48; have hx48_0 : w51.cell? ⟨go47, (x23_3 : Int).toNat * 2, none⟩ = some (.int .i64 ((rd_T59 y700 x23_3).f0)) := hcc48 0 _ rfl; have hx48_1 : w51.cell? ⟨go47, (x23_3 : Int).toNat * 2 + 1, none⟩ = some (.int .i64 ((rd_T59 y700 x23_3).f1)) := hcc48 1 _ rfl; have hf48_0 : w51.frozen? ⟨go47, (x23_3 : Int).toNat * 2, none⟩ = false := hfr48 0; have hf48_1 : w51.frozen? ⟨go47, (x23_3 : Int).toNat * 2 + 1, none⟩ = false := hfr48 1; clear hcl48 hcc48 hfr48 hM48; replace p48 := eq_true p48; replace q48 := eq_true q48; have HX52 := Aside0.mk (show Kd.R k59 59 w51 w.heap.size (fun k_ => some k_ ≠ (.slice Ao38 t683.length co38 : Value).ownBlock ∧ some k_ ≠ (v689 : Value).ownBlock ∧ some k_ ≠ (v697 : Value).ownBlock) (.slice (some ⟨go47, 0, none⟩) x13_3.length co49) y700 from HO_13.out); obtain ⟨ce52, hcl52, hM52, hcc52, hfr52⟩ := Kd.R_elem HX52.out z59 (x23_3 : Int) (of_decide_eq_true (by first | (with_reducible assumption) | assumption)) (by have h_ : (x23_3 : Int) < ((x13_3.length : Int) : Int) := of_decide_eq_true (by first | (with_reducible assumption) | assumption); first | exact h_ | (have e_ := (Kd.R_reads' HO_13.out).1; omega) | simpa using h_); obtain rfl := k59_openM hM52; have HP52 := Kd.R_seg HX52.out (x23_3 : Int) (of_decide_eq_true (by first | (with_reducible assumption) | assumption)) (by have h_ : (x23_3 : Int) < ((x13_3.length : Int) : Int) := of_decide_eq_true (by first | (with_reducible assumption) | assumption); first | exact h_ | (have e_ := (Kd.R_reads' HO_13.out).1; omega) | simpa using h_) (seg := [.int .i64 (-5)]) (j := 1) hcl52 hcc52 (show 2 ≤ 2 from by decide) (x' := (⟨(rd_T59 y700 x23_3).f0, (-5)⟩ : S59)) (k59_mkM _ _ _ (⟨(rd_T59 y700 x23_3).f0, (-5)⟩ : S59) ) (fun _ hk => hk); have hx52_1 := hcc52 1 _ rfl; (try simp only [show (k59).sz = 2 from rfl, Nat.mul_one, Nat.add_zero] at hx52_1); have hf52_1 := hfr52 1; (try simp only [show (k59).sz = 2 from rfl, Nat.mul_one, Nat.add_zero] at hf52_1); clear hcl52 hcc52 hfr52 hM52) | ((with_reducible refine gate_store (t := 3) (p := 131) rfl ?_); refine store_event (t := 3) (p := 131) (v := ?vo_w53) (w1 := (w51.setCell ⟨go47, (x23_3 : Int).toNat * 2 + 1, none⟩ (.int .i64 (-5)))) ?hg ?ho ?hn ?hr ?_; (case ho => rfl); (case hg => rfl); (case hn => rfl); (case hr => first | (go_simp; done) | (go_simp; rfl)); intro w53 hw; have hg : w51.grownBy w53 (some go47) := (by rw [hw]; exact HP52.2); have hp_ : Kd.R k59 59 w53 w.heap.size (fun k_ => some k_ ≠ (.slice Ao38 t683.length co38 : Value).ownBlock ∧ some k_ ≠ (v689 : Value).ownBlock ∧ some k_ ≠ (v697 : Value).ownBlock) (.slice (some ⟨go47, 0, none⟩) x13_3.length co49) y701 := (by rw [hw, Ny701.out]; exact HP52.1); clear HP52; have n0_ := Aside0.mk (Kd.R_over' (v := (.slice (some ⟨go47, 0, none⟩) x13_3.length co49)) HO_7.out (Kd.R_typed HO_13.out) (by decide) hg); have n1_ := Aside0.mk (Kd.R_over' (v := (.slice (some ⟨go47, 0, none⟩) x13_3.length co49)) HO_9.out (Kd.R_typed HO_13.out) (by decide) hg); have n2_ := Aside0.mk (Kd.R_over' (v := (.slice (some ⟨go47, 0, none⟩) x13_3.length co49)) HO_11.out (Kd.R_typed HO_13.out) (by decide) hg); have n3_ := Aside0.mk (hp_); have n4_ := Aside0.mk (Kd.R_after (v := (.slice (some ⟨go47, 0, none⟩) x13_3.length co49)) (v1 := (.slice (some ⟨go47, 0, none⟩) x13_3.length co49)) (ok := (fun k_ => some k_ ≠ (v689 : Value).ownBlock ∧ some k_ ≠ (v697 : Value).ownBlock)) HO_15.out hg (.inl rfl)); have n5_ := Aside0.mk (Kd.R_after (v := (.slice (some ⟨go47, 0, none⟩) x13_3.length co49)) (v1 := (.slice (some ⟨go47, 0, none⟩) x13_3.length co49)) (ok := (fun k_ => some k_ ≠ (.slice Ao38 t683.length co38 : Value).ownBlock ∧ some k_ ≠ (v697 : Value).ownBlock)) HO_17.out hg (.inl rfl)); have n6_ := Aside0.mk (Kd.R_over' (v := (.slice (some ⟨go47, 0, none⟩) x13_3.length co49)) HO_19.out (Kd.R_typed HO_13.out) (by decide) hg); have n7_ := Aside0.mk (Kd.R_after (v := (.slice (some ⟨go47, 0, none⟩) x13_3.length co49)) (v1 := (.slice (some ⟨go47, 0, none⟩) x13_3.length co49)) (ok := (fun k_ => some k_ ≠ (.slice Ao38 t683.length co38 : Value).ownBlock ∧ some k_ ≠ (v689 : Value).ownBlock)) HO_20.out hg (.inl rfl)); have n8_ := Aside0.mk ((by rw [hw]; exact below_set (HB.out) GB47.out : Below w.heap.size w w53)); clear HO_7; clear HO_9; clear HO_11; clear HO_13; clear HO_15; clear HO_17; clear HO_19; clear HO_20; clear HB; have HO_7 := n0_; have HO_9 := n1_; have HO_11 := n2_; have HO_13 := n3_; have HO_15 := n4_; have HO_17 := n5_; have HO_19 := n6_; have HO_20 := n7_; have HB := n8_; clear n0_ n1_ n2_ n3_ n4_ n5_ n6_ n7_ n8_; clear hg hw hp_))
                          go_roundg k3
                          case measure => have := HJ9.out; have := HK2.out; have := HK3.out; omega
                          case rel => exact ⟨(y701), (wrap64 (x23_3 + 1)), (by first | rfl | (simp; done) | (simp [*]; done)), H', ⟨by have := HJ9.out; have := HK2.out; have := HK3.out; omega⟩, ⟨by (try simp only [hl7_2]); (with_reducible repeat (first | apply Kd.R_alloc | apply Kd.R_drewN | apply Kd.R_drew)); exact HO_7.out⟩, ⟨by (try simp only [hl7_2]); (with_reducible repeat (first | apply Kd.R_alloc | apply Kd.R_drewN | apply Kd.R_drew)); exact HO_9.out⟩, ⟨by (try simp only [hl7_2]); (with_reducible repeat (first | apply Kd.R_alloc | apply Kd.R_drewN | apply Kd.R_drew)); exact HO_11.out⟩, ⟨by (try simp only [hl7_2]); (with_reducible repeat (first | apply Kd.R_alloc | apply Kd.R_drewN | apply Kd.R_drew)); exact HO_13.out⟩, ⟨by (try simp only [hl7_2]); (with_reducible repeat (first | apply Kd.R_alloc | apply Kd.R_drewN | apply Kd.R_drew)); exact Kd.R_mono HO_15.out (fun _ hk => ⟨hk.2, ⟨hk.1.1, hk.1.2⟩⟩)⟩, ⟨by (try simp only [hl7_2]); (with_reducible repeat (first | apply Kd.R_alloc | apply Kd.R_drewN | apply Kd.R_drew)); exact Kd.R_mono HO_17.out (fun _ hk => ⟨hk.2, ⟨hk.1.1, hk.1.2⟩⟩)⟩, ⟨by (try simp only [hl7_2]); (with_reducible repeat (first | apply Kd.R_alloc | apply Kd.R_drewN | apply Kd.R_drew)); exact HO_19.out⟩, ⟨by (try simp only [hl7_2]); (with_reducible repeat (first | apply Kd.R_alloc | apply Kd.R_drewN | apply Kd.R_drew)); exact Kd.R_mono HO_20.out (fun _ hk => ⟨hk.2, ⟨hk.1.1, hk.1.2⟩⟩)⟩, ⟨by repeat (first | (with_reducible first | exact HB.out | apply below_alloc | apply pw_below_drewN | apply below_drew1) | exact HB.out)⟩⟩
                        · rw [if_neg c46] at H
                          exact absurd H (by simp)
                      · rw [if_neg c45] at H
                        have c45b0 : decide (x23_3 < (x13_3.length : Int)) = false := decide_eq_false c45
                        clear c45
                        have H' := Aside0.mk H
                        clear H
                        obtain ⟨Ao54, co54, eo54⟩ := Kd.R_slice HO_13.out
                        subst eo54
                        go_wp2
                        go_loopg [7, 13, 24] k3 (fun kq v7 v13 v24 w' => ∃ (x7_4 : List Int) (x13_4 : List (S59)) (x24_4 : Int), v24 = .int .i64 x24_4 ∧ Aside0 (torrentlaw4_lists.l2 kq a0 l1 x7_4 t671 t675 x13_4 t683 t687 y693 y696 (t667.length : Int) x24_4 = some r) ∧ Aside0 (kq ≤ k3) ∧ Aside0 (Kd.R (Kd.int .i64) 3 w' w.heap.size (fun k_ => some k_ ≠ ((.slice Ao36 t671.length co36) : Value).ownBlock ∧ some k_ ≠ (v677 : Value).ownBlock ∧ some k_ ≠ (v694 : Value).ownBlock) v7 x7_4) ∧ Aside0 (Kd.R (Kd.int .i64) 3 w' w.heap.size (fun k_ => some k_ ≠ (v7 : Value).ownBlock ∧ some k_ ≠ (v677 : Value).ownBlock ∧ some k_ ≠ (v694 : Value).ownBlock) (.slice Ao36 t671.length co36) t671) ∧ Aside0 (Kd.R (Kd.int .i64) 3 w' w.heap.size (fun k_ => some k_ ≠ (v7 : Value).ownBlock ∧ some k_ ≠ ((.slice Ao36 t671.length co36) : Value).ownBlock ∧ some k_ ≠ (v694 : Value).ownBlock) v677 t675) ∧ Aside0 (Kd.R k59 59 w' w.heap.size (fun k_ => some k_ ≠ ((.slice Ao38 t683.length co38) : Value).ownBlock ∧ some k_ ≠ (v689 : Value).ownBlock ∧ some k_ ≠ (v697 : Value).ownBlock) v13 x13_4) ∧ Aside0 (Kd.R k59 59 w' w.heap.size (fun k_ => some k_ ≠ (v13 : Value).ownBlock ∧ some k_ ≠ (v689 : Value).ownBlock ∧ some k_ ≠ (v697 : Value).ownBlock) (.slice Ao38 t683.length co38) t683) ∧ Aside0 (Kd.R k59 59 w' w.heap.size (fun k_ => some k_ ≠ (v13 : Value).ownBlock ∧ some k_ ≠ ((.slice Ao38 t683.length co38) : Value).ownBlock ∧ some k_ ≠ (v697 : Value).ownBlock) v689 t687) ∧ Aside0 (Kd.R (Kd.int .i64) 3 w' w.heap.size (fun k_ => some k_ ≠ (v7 : Value).ownBlock ∧ some k_ ≠ ((.slice Ao36 t671.length co36) : Value).ownBlock ∧ some k_ ≠ (v677 : Value).ownBlock) v694 y693) ∧ Aside0 (Kd.R k59 59 w' w.heap.size (fun k_ => some k_ ≠ (v13 : Value).ownBlock ∧ some k_ ≠ ((.slice Ao38 t683.length co38) : Value).ownBlock ∧ some k_ ≠ (v689 : Value).ownBlock) v697 y696) ∧ Aside0 (Below w.heap.size w w'))
                        case atStart => exact ⟨(x7_2), (x13_3), (0), (by first | rfl | (simp; done) | (simp [*]; done)), H', ⟨Nat.le_refl _⟩, ⟨by (try simp only [hl7_2]); (with_reducible repeat (first | apply Kd.R_alloc | apply Kd.R_drewN | apply Kd.R_drew)); exact HO_7.out⟩, ⟨by (try simp only [hl7_2]); (with_reducible repeat (first | apply Kd.R_alloc | apply Kd.R_drewN | apply Kd.R_drew)); exact HO_9.out⟩, ⟨by (try simp only [hl7_2]); (with_reducible repeat (first | apply Kd.R_alloc | apply Kd.R_drewN | apply Kd.R_drew)); exact HO_11.out⟩, ⟨by (try simp only [hl7_2]); (with_reducible repeat (first | apply Kd.R_alloc | apply Kd.R_drewN | apply Kd.R_drew)); exact HO_13.out⟩, ⟨by (try simp only [hl7_2]); (with_reducible repeat (first | apply Kd.R_alloc | apply Kd.R_drewN | apply Kd.R_drew)); exact HO_15.out⟩, ⟨by (try simp only [hl7_2]); (with_reducible repeat (first | apply Kd.R_alloc | apply Kd.R_drewN | apply Kd.R_drew)); exact HO_17.out⟩, ⟨by (try simp only [hl7_2]); (with_reducible repeat (first | apply Kd.R_alloc | apply Kd.R_drewN | apply Kd.R_drew)); exact HO_19.out⟩, ⟨by (try simp only [hl7_2]); (with_reducible repeat (first | apply Kd.R_alloc | apply Kd.R_drewN | apply Kd.R_drew)); exact HO_20.out⟩, ⟨by repeat (first | (with_reducible first | exact HB.out | apply below_alloc | apply pw_below_drewN | apply below_drew1) | exact HB.out)⟩⟩
                        case round =>
                          clear H'
                          try clear c1
                          try clear c2
                          try clear p2
                          try clear c3
                          try clear c4
                          try clear p4
                          try clear q4
                          try clear hx4
                          try clear hf4
                          try clear c5
                          try clear hx5
                          try clear hf5
                          try clear p6
                          try clear c17
                          try clear c17b0
                          try clear c17b1
                          try clear c18
                          try clear c18b0
                          try clear c18b1
                          try clear c19
                          try clear c19b0
                          try clear c19b1
                          try clear c20
                          try clear c20b0
                          try clear c20b1
                          try clear c21
                          try clear c21b0
                          try clear c21b1
                          try clear c22
                          try clear c22b0
                          try clear c22b1
                          try clear c24
                          try clear c28
                          try clear c32
                          try clear c33
                          try clear c34
                          try clear c37
                          try clear c40
                          try clear c40b0
                          try clear c41
                          try clear c41b0
                          try clear p42
                          try clear q42
                          try clear hx42
                          try clear hf42
                          try clear c45
                          try clear c45b0
                          try clear c46
                          try clear c46b0
                          try clear c47
                          try clear p47
                          try clear q47
                          try clear hx47
                          try clear hf47
                          try clear c48
                          try clear p48
                          try clear q48
                          try clear hx48
                          try clear hf48
                          try clear c50
                          try clear hx50
                          try clear hf50
                          try clear c52
                          try clear hx52
                          try clear hf52
                          try clear c53
                          try clear hx42_0
                          try clear hx47_0
                          try clear hx47_1
                          try clear hx48_0
                          try clear hx48_1
                          try clear hx50_0
                          try clear hx52_1
                          try clear p2
                          try clear p4
                          try clear p42
                          try clear p47
                          try clear p48
                          try clear p6
                          try clear q4
                          try clear q42
                          try clear q47
                          try clear q48
                          obtain ⟨x7_4, x13_4, x24_4, rfl, HA, HK4, HO_7, HO_9, HO_11, HO_13, HO_15, HO_17, HO_19, HO_20, HB⟩ := hrel
                          cases gk with
                          | zero => exact absurd HA.out (by simp [torrentlaw4_lists.l2])
                          | succ k4 =>
                            have H := HA.out
                            clear HA
                            simp only [torrentlaw4_lists.l2] at H
                            by_cases c55 : x24_4 < 70
                            · rw [if_pos c55] at H
                              have c55b0 : decide (x24_4 < 70) = true := decide_eq_true c55
                              clear c55
                              by_cases c56 : x7_4.length < 17592186044416
                              · rw [if_pos c56] at H
                                have LMc56 := Aside0.mk c56
                                clear c56
                                obtain ⟨y702, hy702⟩ : ∃ y_ : List Int, y_ = (x7_4 ++ [wrap64 ((-100) - x24_4)]) := ⟨_, rfl⟩
                                replace H : (if x13_4.length < 8796093022208 then (torrentlaw4_lists.l2 k4 a0 l1 y702 t671 t675 (x13_4 ++ [(⟨wrap64 ((-100) - x24_4), 9⟩ : S59)]) t683 t687 y693 y696 (t667.length : Int) (wrap64 (x24_4 + 1))) else (none)) = some r := by first | (rw [hy702]; with_reducible exact H) | (have H2_ := (Option.bind_some _ _).symm.trans H; rw [hy702]; with_reducible exact H2_) | (have H2_ := (Option.bind_some _ _).symm.trans H; with_reducible exact H2_) | with_reducible exact H | (rw [hy702]; exact H) | exact H
                                have Ny702 := Aside0.mk hy702
                                clear hy702
                                by_cases c57 : x13_4.length < 8796093022208
                                · rw [if_pos c57] at H
                                  have LMc57 := Aside0.mk c57
                                  clear c57
                                  obtain ⟨y705, hy705⟩ : ∃ y_ : List (S59), y_ = (x13_4 ++ [(⟨wrap64 ((-100) - x24_4), 9⟩ : S59)]) := ⟨_, rfl⟩
                                  replace H : (torrentlaw4_lists.l2 k4 a0 l1 y702 t671 t675 y705 t683 t687 y693 y696 (t667.length : Int) (wrap64 (x24_4 + 1))) = some r := by first | (rw [hy705]; with_reducible exact H) | (have H2_ := (Option.bind_some _ _).symm.trans H; rw [hy705]; with_reducible exact H2_) | (have H2_ := (Option.bind_some _ _).symm.trans H; with_reducible exact H2_) | with_reducible exact H | (rw [hy705]; exact H) | exact H
                                  have Ny705 := Aside0.mk hy705
                                  clear hy705
                                  have H' := Aside0.mk H
                                  clear H
                                  go_wp2_with (first | ((with_reducible refine gate_builtin (b := .append) (xs := #[.tmp 136, .tmp 139]) rfl ?_); (try (refine gate_guard (by rfl) ?_; dsimp only)); at_builtin; refine Kd.R_append (Kd.int .i64) (w0 := w) w.heap.size rfl (.tmp 136) (.tmp 139) 28 3 (.int .i64 0) 8 rfl Try.underlying28 info3 rfl (by decide) (by omega) u7 x7_4 (wrap64 ((-100) - x24_4)) [.int .i64 (wrap64 ((-100) - x24_4))] (fun k_ => some k_ ≠ (.slice Ao36 t671.length co36 : Value).ownBlock ∧ some k_ ≠ (v677 : Value).ownBlock ∧ some k_ ≠ (v694 : Value).ownBlock) (fun _ => False) rfl rfl ?aP (fun _ hk => hk.elim) ?aF ?aO ?aB ?aS ?aL ?_; (case aP => exact rfl); (case aB => exact HB.out); (case aF => exact (fun k_ hk => ⟨Kd.fresh' (Kd.R_lt HO_9.out) k_ hk, Kd.fresh' (Kd.R_lt HO_11.out) k_ hk, Kd.fresh' (Kd.R_lt HO_19.out) k_ hk⟩)); (case aO => exact HO_7.out); (case aS => exact (below_size HB.out)); (case aL => have := LMc56.out; omega); intro v703 w58 ho hb hg hat; rw [← Ny702.out] at ho; have n0_ := Aside0.mk (Kd.R_after (ok := (fun k_ => some k_ ≠ (v677 : Value).ownBlock ∧ some k_ ≠ (v694 : Value).ownBlock)) (by (with_reducible repeat (first | apply Kd.R_alloc | apply Kd.R_drewN | apply Kd.R_drew)); exact Kd.R_mono HO_9.out (fun _ hk => ⟨⟨hk.2.1, hk.2.2⟩, hk.1⟩)) hg hat); have n1_ := Aside0.mk (Kd.R_after (ok := (fun k_ => some k_ ≠ (.slice Ao36 t671.length co36 : Value).ownBlock ∧ some k_ ≠ (v694 : Value).ownBlock)) (by (with_reducible repeat (first | apply Kd.R_alloc | apply Kd.R_drewN | apply Kd.R_drew)); exact Kd.R_mono HO_11.out (fun _ hk => ⟨⟨hk.2.1, hk.2.2⟩, hk.1⟩)) hg hat); have n2_ := Aside0.mk (Kd.R_over' HO_13.out (Kd.R_typed HO_7.out) (by decide) hg); have n3_ := Aside0.mk (Kd.R_over' HO_15.out (Kd.R_typed HO_7.out) (by decide) hg); have n4_ := Aside0.mk (Kd.R_over' HO_17.out (Kd.R_typed HO_7.out) (by decide) hg); have n5_ := Aside0.mk (Kd.R_after (ok := (fun k_ => some k_ ≠ (.slice Ao36 t671.length co36 : Value).ownBlock ∧ some k_ ≠ (v677 : Value).ownBlock)) (by (with_reducible repeat (first | apply Kd.R_alloc | apply Kd.R_drewN | apply Kd.R_drew)); exact Kd.R_mono HO_19.out (fun _ hk => ⟨⟨hk.2.1, hk.2.2⟩, hk.1⟩)) hg hat); have n6_ := Aside0.mk (Kd.R_over' HO_20.out (Kd.R_typed HO_7.out) (by decide) hg); have n7_ := Aside0.mk (hb); have n8_ := Aside0.mk (ho); clear HO_9; clear HO_11; clear HO_13; clear HO_15; clear HO_17; clear HO_19; clear HO_20; clear HB; clear HO_7; have HO_9 := n0_; have HO_11 := n1_; have HO_13 := n2_; have HO_15 := n3_; have HO_17 := n4_; have HO_19 := n5_; have HO_20 := n6_; have HB := n7_; have HO704 := n8_; clear n0_ n1_ n2_ n3_ n4_ n5_ n6_ n7_ n8_; clear ho hb hg hat) | ((with_reducible refine gate_builtin (b := .append) (xs := #[.tmp 141, .tmp 145]) rfl ?_); (try (refine gate_guard (by rfl) ?_; dsimp only)); at_builtin; refine Kd.R_append k59 (w0 := w) w.heap.size rfl (.tmp 141) (.tmp 145) 42 59 (.agg #[(.int .i64 0), (.int .i64 0)]) 16 rfl Try.underlying42 info59 rfl (by decide) (by omega) u13 x13_4 (⟨wrap64 ((-100) - x24_4), 9⟩ : S59) [.int .i64 (wrap64 ((-100) - x24_4)), .int .i64 9] (fun k_ => some k_ ≠ (.slice Ao38 t683.length co38 : Value).ownBlock ∧ some k_ ≠ (v689 : Value).ownBlock ∧ some k_ ≠ (v697 : Value).ownBlock) (fun _ => False) rfl rfl ?aP (fun _ hk => hk.elim) ?aF ?aO ?aB ?aS ?aL ?_; (case aP => exact k59_mkM _ _ _ (⟨wrap64 ((-100) - x24_4), 9⟩ : S59)); (case aB => exact HB.out); (case aF => exact (fun k_ hk => ⟨Kd.fresh' (Kd.R_lt HO_15.out) k_ hk, Kd.fresh' (Kd.R_lt HO_17.out) k_ hk, Kd.fresh' (Kd.R_lt HO_20.out) k_ hk⟩)); (case aO => exact HO_13.out); (case aS => exact (below_size HB.out)); (case aL => have := LMc57.out; omega); intro v706 w59 ho hb hg hat; rw [← Ny705.out] at ho; have n0_ := Aside0.mk (Kd.R_over' HO_9.out (Kd.R_typed HO_13.out) (by decide) hg); have n1_ := Aside0.mk (Kd.R_over' HO_11.out (Kd.R_typed HO_13.out) (by decide) hg); have n2_ := Aside0.mk (Kd.R_after (ok := (fun k_ => some k_ ≠ (v689 : Value).ownBlock ∧ some k_ ≠ (v697 : Value).ownBlock)) (by (with_reducible repeat (first | apply Kd.R_alloc | apply Kd.R_drewN | apply Kd.R_drew)); exact Kd.R_mono HO_15.out (fun _ hk => ⟨⟨hk.2.1, hk.2.2⟩, hk.1⟩)) hg hat); have n3_ := Aside0.mk (Kd.R_after (ok := (fun k_ => some k_ ≠ (.slice Ao38 t683.length co38 : Value).ownBlock ∧ some k_ ≠ (v697 : Value).ownBlock)) (by (with_reducible repeat (first | apply Kd.R_alloc | apply Kd.R_drewN | apply Kd.R_drew)); exact Kd.R_mono HO_17.out (fun _ hk => ⟨⟨hk.2.1, hk.2.2⟩, hk.1⟩)) hg hat); have n4_ := Aside0.mk (Kd.R_over' HO_19.out (Kd.R_typed HO_13.out) (by decide) hg); have n5_ := Aside0.mk (Kd.R_after (ok := (fun k_ => some k_ ≠ (.slice Ao38 t683.length co38 : Value).ownBlock ∧ some k_ ≠ (v689 : Value).ownBlock)) (by (with_reducible repeat (first | apply Kd.R_alloc | apply Kd.R_drewN | apply Kd.R_drew)); exact Kd.R_mono HO_20.out (fun _ hk => ⟨⟨hk.2.1, hk.2.2⟩, hk.1⟩)) hg hat); have n6_ := Aside0.mk (Kd.R_over' HO704.out (Kd.R_typed HO_13.out) (by decide) hg); have n7_ := Aside0.mk (hb); have n8_ := Aside0.mk (ho); clear HO_9; clear HO_11; clear HO_15; clear HO_17; clear HO_19; clear HO_20; clear HO704; clear HB; clear HO_13; have HO_9 := n0_; have HO_11 := n1_; have HO_15 := n2_; have HO_17 := n3_; have HO_19 := n4_; have HO_20 := n5_; have HO704 := n6_; have HB := n7_; have HO707 := n8_; clear n0_ n1_ n2_ n3_ n4_ n5_ n6_ n7_ n8_; clear ho hb hg hat))
                                  go_roundg k4
                                  case measure => have := HJ9.out; have := HK2.out; have := HK3.out; have := HK4.out; omega
                                  case rel => exact ⟨(y702), (y705), (wrap64 (x24_4 + 1)), (by first | rfl | (simp; done) | (simp [*]; done)), H', ⟨by have := HJ9.out; have := HK2.out; have := HK3.out; have := HK4.out; omega⟩, ⟨by (try simp only [hl7_2]); (with_reducible repeat (first | apply Kd.R_alloc | apply Kd.R_drewN | apply Kd.R_drew)); exact HO704.out⟩, ⟨by (try simp only [hl7_2]); (with_reducible repeat (first | apply Kd.R_alloc | apply Kd.R_drewN | apply Kd.R_drew)); exact Kd.R_mono HO_9.out (fun _ hk => ⟨hk.2, ⟨hk.1.1, hk.1.2⟩⟩)⟩, ⟨by (try simp only [hl7_2]); (with_reducible repeat (first | apply Kd.R_alloc | apply Kd.R_drewN | apply Kd.R_drew)); exact Kd.R_mono HO_11.out (fun _ hk => ⟨hk.2, ⟨hk.1.1, hk.1.2⟩⟩)⟩, ⟨by (try simp only [hl7_2]); (with_reducible repeat (first | apply Kd.R_alloc | apply Kd.R_drewN | apply Kd.R_drew)); exact HO707.out⟩, ⟨by (try simp only [hl7_2]); (with_reducible repeat (first | apply Kd.R_alloc | apply Kd.R_drewN | apply Kd.R_drew)); exact Kd.R_mono HO_15.out (fun _ hk => ⟨hk.2, ⟨hk.1.1, hk.1.2⟩⟩)⟩, ⟨by (try simp only [hl7_2]); (with_reducible repeat (first | apply Kd.R_alloc | apply Kd.R_drewN | apply Kd.R_drew)); exact Kd.R_mono HO_17.out (fun _ hk => ⟨hk.2, ⟨hk.1.1, hk.1.2⟩⟩)⟩, ⟨by (try simp only [hl7_2]); (with_reducible repeat (first | apply Kd.R_alloc | apply Kd.R_drewN | apply Kd.R_drew)); exact Kd.R_mono HO_19.out (fun _ hk => ⟨hk.2, ⟨hk.1.1, hk.1.2⟩⟩)⟩, ⟨by (try simp only [hl7_2]); (with_reducible repeat (first | apply Kd.R_alloc | apply Kd.R_drewN | apply Kd.R_drew)); exact Kd.R_mono HO_20.out (fun _ hk => ⟨hk.2, ⟨hk.1.1, hk.1.2⟩⟩)⟩, ⟨by repeat (first | (with_reducible first | exact HB.out | apply below_alloc | apply pw_below_drewN | apply below_drew1) | exact HB.out)⟩⟩
                                · rw [if_neg c57] at H
                                  exact absurd H (by simp)
                              · rw [if_neg c56] at H
                                exact absurd H (by simp)
                            · rw [if_neg c55] at H
                              have c55b0 : decide (x24_4 < 70) = false := decide_eq_false c55
                              clear c55
                              have HC60 := Aside0.mk H
                              clear H
                              go_upto_region 28 with (fail)
                              go_cut [156] (fun v156 wc => ∃ (kq : Nat) (x156_59 : Bool), v156 = .bool x156_59 ∧ Aside0 (torrentlaw4_lists.j4 kq a0 l1 x7_4 t675 x13_4 t687 (t667.length : Int) x156_59 = some r) ∧ Aside0 (kq ≤ k4) ∧ Aside0 (Kd.R (Kd.int .i64) 3 wc w.heap.size (fun k_ => some k_ ≠ (v677 : Value).ownBlock) u7 x7_4) ∧ Aside0 (Kd.R (Kd.int .i64) 3 wc w.heap.size (fun k_ => some k_ ≠ (u7 : Value).ownBlock) v677 t675) ∧ Aside0 (Kd.R k59 59 wc w.heap.size (fun k_ => some k_ ≠ (v689 : Value).ownBlock) u13 x13_4) ∧ Aside0 (Kd.R k59 59 wc w.heap.size (fun k_ => some k_ ≠ (u13 : Value).ownBlock) v689 t687) ∧ Aside0 (Below w.heap.size w wc))
                              case first =>
                                have H := HC60.out
                                clear HC60
                                replace H := Option.bind_eq_some_iff.mp H
                                obtain ⟨t708, A610, H⟩ := H
                                replace H : (if t708 = true then ((torrentlaw4_sameRuns.f k4 t683 y696).bind fun t709 => (torrentlaw4_lists.j4 k4 a0 l1 x7_4 t675 x13_4 t687 (t667.length : Int) (!t709))) else (torrentlaw4_lists.j4 k4 a0 l1 x7_4 t675 x13_4 t687 (t667.length : Int) true)) = some r := H
                                have A61 := Aside0.mk A610
                                clear A610
                                by_cases c62 : t708 = true
                                · subst c62
                                  have H1 : ((torrentlaw4_sameRuns.f k4 t683 y696).bind fun t709 => (torrentlaw4_lists.j4 k4 a0 l1 x7_4 t675 x13_4 t687 (t667.length : Int) (!t709))) = some r := by rw [if_pos rfl] at H; exact H
                                  clear H
                                  have H := H1
                                  clear H1
                                  replace H := Option.bind_eq_some_iff.mp H
                                  obtain ⟨t709, A630, H⟩ := H
                                  replace H : (torrentlaw4_lists.j4 k4 a0 l1 x7_4 t675 x13_4 t687 (t667.length : Int) (!t709)) = some r := H
                                  have A63 := Aside0.mk A630
                                  clear A630
                                  have H' := Aside0.mk H
                                  clear H
                                  obtain ⟨Ao64, co64, eo64⟩ := Kd.R_slice HO_19.out
                                  subst eo64
                                  go_wp2_with (first | ((with_reducible refine gate_callee (f := 22) rfl ?_); refine goesL_ (some 149) rfl rfl Try.func22 (by kernel_rfl) rfl #[.slice Ao36 t671.length co36, .slice Ao64 y693.length co64] rfl (by (try simp only [List.map_toArray, List.map_cons, List.map_nil]); first | done | rfl) ?_; (with_reducible refine (torrentlaw4_sameInts.calls k4 _ _ t671 _ _ y693 true _ ?side1 ?side2 ?side3 ?side4 A61.out).mono ?_); (case side1 => exact (Kd.R_reads' HO_9.out).2.2); (case side2 => exact (Kd.R_reads' HO_9.out).2.1); (case side3 => exact (Kd.R_reads' HO_19.out).2.2); (case side4 => exact (Kd.R_reads' HO_19.out).2.1); rintro e w' ⟨rfl, ⟨nd, rfl⟩⟩; refine ⟨_, rfl, ?_⟩; obtain ⟨Ao65, co65, eo65⟩ := Kd.R_slice HO_20.out; subst eo65) | (go_at_call 30; (with_reducible refine (torrentlaw4_sameRuns.calls k4 _ _ t683 _ _ y696 t709 _ ?side1 ?side2 ?side3 ?side4 A63.out).mono ?_); (case side1 => exact (Kd.R_reads' HO_15.out).2.2); (case side2 => exact (Kd.R_reads' HO_15.out).2.1); (case side3 => exact (Kd.R_reads' HO_20.out).2.2); (case side4 => exact (Kd.R_reads' HO_20.out).2.1); rintro e w' ⟨rfl, ⟨nd, rfl⟩⟩))
                                  go_meet
                                  case rel => exact ⟨_, (!t709), (by first | rfl | (simp; done) | (simp [*]; done)), H', ⟨by have := HJ9.out; have := HK2.out; have := HK3.out; have := HK4.out; first | omega | exact Nat.le_refl _⟩, ⟨by (try simp only [hl7_2]); (with_reducible repeat (first | apply Kd.R_alloc | apply Kd.R_drewN | apply Kd.R_drew)); exact Kd.R_mono HO_7.out (fun _ hk => hk.2.1)⟩, ⟨by (try simp only [hl7_2]); (with_reducible repeat (first | apply Kd.R_alloc | apply Kd.R_drewN | apply Kd.R_drew)); exact Kd.R_mono HO_11.out (fun _ hk => hk.1)⟩, ⟨by (try simp only [hl7_2]); (with_reducible repeat (first | apply Kd.R_alloc | apply Kd.R_drewN | apply Kd.R_drew)); exact Kd.R_mono HO_13.out (fun _ hk => hk.2.1)⟩, ⟨by (try simp only [hl7_2]); (with_reducible repeat (first | apply Kd.R_alloc | apply Kd.R_drewN | apply Kd.R_drew)); exact Kd.R_mono HO_17.out (fun _ hk => hk.1)⟩, ⟨by repeat (first | (with_reducible first | exact HB.out | apply below_alloc | apply pw_below_drewN | apply below_drew1) | exact HB.out)⟩⟩
                                · replace c62 := Bool.eq_false_iff.mpr c62
                                  subst c62
                                  have H1 : (torrentlaw4_lists.j4 k4 a0 l1 x7_4 t675 x13_4 t687 (t667.length : Int) true) = some r := by rw [if_neg (show ¬ (false = true) by decide)] at H; exact H
                                  clear H
                                  have H := H1
                                  clear H1
                                  have H' := Aside0.mk H
                                  clear H
                                  obtain ⟨Ao66, co66, eo66⟩ := Kd.R_slice HO_19.out
                                  subst eo66
                                  go_wp2_with (first | ((with_reducible refine gate_callee (f := 22) rfl ?_); refine goesL_ (some 149) rfl rfl Try.func22 (by kernel_rfl) rfl #[.slice Ao36 t671.length co36, .slice Ao66 y693.length co66] rfl (by (try simp only [List.map_toArray, List.map_cons, List.map_nil]); first | done | rfl) ?_; (with_reducible refine (torrentlaw4_sameInts.calls k4 _ _ t671 _ _ y693 false _ ?side1 ?side2 ?side3 ?side4 A61.out).mono ?_); (case side1 => exact (Kd.R_reads' HO_9.out).2.2); (case side2 => exact (Kd.R_reads' HO_9.out).2.1); (case side3 => exact (Kd.R_reads' HO_19.out).2.2); (case side4 => exact (Kd.R_reads' HO_19.out).2.1); rintro e w' ⟨rfl, ⟨nd, rfl⟩⟩; refine ⟨_, rfl, ?_⟩))
                                  go_meet
                                  case rel => exact ⟨_, (true), (by first | rfl | (simp; done) | (simp [*]; done)), H', ⟨by have := HJ9.out; have := HK2.out; have := HK3.out; have := HK4.out; first | omega | exact Nat.le_refl _⟩, ⟨by (try simp only [hl7_2]); (with_reducible repeat (first | apply Kd.R_alloc | apply Kd.R_drewN | apply Kd.R_drew)); exact Kd.R_mono HO_7.out (fun _ hk => hk.2.1)⟩, ⟨by (try simp only [hl7_2]); (with_reducible repeat (first | apply Kd.R_alloc | apply Kd.R_drewN | apply Kd.R_drew)); exact Kd.R_mono HO_11.out (fun _ hk => hk.1)⟩, ⟨by (try simp only [hl7_2]); (with_reducible repeat (first | apply Kd.R_alloc | apply Kd.R_drewN | apply Kd.R_drew)); exact Kd.R_mono HO_13.out (fun _ hk => hk.2.1)⟩, ⟨by (try simp only [hl7_2]); (with_reducible repeat (first | apply Kd.R_alloc | apply Kd.R_drewN | apply Kd.R_drew)); exact Kd.R_mono HO_17.out (fun _ hk => hk.1)⟩, ⟨by repeat (first | (with_reducible first | exact HB.out | apply below_alloc | apply pw_below_drewN | apply below_drew1) | exact HB.out)⟩⟩
                              case rest =>
                                clear HC60
                                try clear c1
                                try clear c2
                                try clear p2
                                try clear c3
                                try clear c4
                                try clear p4
                                try clear q4
                                try clear hx4
                                try clear hf4
                                try clear c5
                                try clear hx5
                                try clear hf5
                                try clear c6
                                try clear p6
                                try clear c17
                                try clear c17b0
                                try clear c17b1
                                try clear c18
                                try clear c18b0
                                try clear c18b1
                                try clear c19
                                try clear c19b0
                                try clear c19b1
                                try clear c20
                                try clear c20b0
                                try clear c20b1
                                try clear c21
                                try clear c21b0
                                try clear c21b1
                                try clear c22
                                try clear c22b0
                                try clear c22b1
                                try clear c24
                                try clear c28
                                try clear c32
                                try clear c33
                                try clear c34
                                try clear c37
                                try clear c40
                                try clear c40b0
                                try clear c41
                                try clear c41b0
                                try clear p42
                                try clear q42
                                try clear hx42
                                try clear hf42
                                try clear c45
                                try clear c45b0
                                try clear c46
                                try clear c46b0
                                try clear c47
                                try clear p47
                                try clear q47
                                try clear hx47
                                try clear hf47
                                try clear c48
                                try clear p48
                                try clear q48
                                try clear hx48
                                try clear hf48
                                try clear c50
                                try clear hx50
                                try clear hf50
                                try clear c52
                                try clear hx52
                                try clear hf52
                                try clear c53
                                try clear c55
                                try clear c55b0
                                try clear c56
                                try clear c57
                                try clear c62
                                try clear p64
                                try clear hx42_0
                                try clear hx47_0
                                try clear hx47_1
                                try clear hx48_0
                                try clear hx48_1
                                try clear hx50_0
                                try clear hx52_1
                                try clear p2
                                try clear p4
                                try clear p42
                                try clear p47
                                try clear p48
                                try clear p6
                                try clear q4
                                try clear q42
                                try clear q47
                                try clear q48
                                obtain ⟨kq, x156_59, rfl, HA, HJ59, HO_7, HO_11, HO_13, HO_17, HB⟩ := hcut
                                cases kq with
                                | zero => exact absurd HA.out (by simp [torrentlaw4_lists.j4])
                                | succ kj59 =>
                                  have H := HA.out
                                  clear HA
                                  simp only [torrentlaw4_lists.j4] at H
                                  by_cases c67 : x156_59 = true
                                  · subst c67
                                    have H1 : (some false) = some r := by rw [if_pos rfl] at H; exact H
                                    clear H
                                    have H := H1
                                    clear H1
                                    obtain rfl := Option.some.inj H
                                    go_wp2
                                    go_ret
                                    exact ⟨by first | rfl | (simp [errW_none, errW_some] <;> rfl) | (simp [*, errW_none, errW_some] <;> rfl), by repeat (first | (with_reducible first | exact HB.out | apply below_alloc | apply pw_below_drewN | apply below_drew1) | exact HB.out)⟩
                                  · replace c67 := Bool.eq_false_iff.mpr c67
                                    subst c67
                                    have H1 : ((bitset_Ones.f kj59 a0 l1).bind fun bt710 => ((bitset_Runs.f kj59 a0 l1).bind fun bt714 => (if bt710.2 = 0 then (if bt714.2 = 0 then ((torrentlaw4_sameInts.f kj59 bt710.1 t675).bind fun t718 => (if t718 = true then ((torrentlaw4_sameRuns.f kj59 bt714.1 t687).bind fun t719 => (if t719 = true then (if (x7_4.length : Int) = (wrap64 ((t667.length : Int) + 70)) then (if (t675.length : Int) = (t667.length : Int) then (some ((x13_4.length : Int) == (wrap64 ((t687.length : Int) + 70)))) else (some false)) else (some false)) else (some false))) else (some false))) else (some false)) else (some false)))) = some r := by rw [if_neg (show ¬ (false = true) by decide)] at H; exact H
                                    clear H
                                    have H := H1
                                    clear H1
                                    replace H := Option.bind_eq_some_iff.mp H
                                    obtain ⟨⟨t710, t711⟩, A680, H⟩ := H
                                    replace H : ((bitset_Runs.f kj59 a0 l1).bind fun bt714 => (if t711 = 0 then (if bt714.2 = 0 then ((torrentlaw4_sameInts.f kj59 t710 t675).bind fun t718 => (if t718 = true then ((torrentlaw4_sameRuns.f kj59 bt714.1 t687).bind fun t719 => (if t719 = true then (if (x7_4.length : Int) = (wrap64 ((t667.length : Int) + 70)) then (if (t675.length : Int) = (t667.length : Int) then (some ((x13_4.length : Int) == (wrap64 ((t687.length : Int) + 70)))) else (some false)) else (some false)) else (some false))) else (some false))) else (some false)) else (some false))) = some r := H
                                    have A68 := Aside0.mk A680
                                    clear A680
                                    replace H := Option.bind_eq_some_iff.mp H
                                    obtain ⟨⟨t714, t715⟩, A690, H⟩ := H
                                    replace H : (if t711 = 0 then (if t715 = 0 then ((torrentlaw4_sameInts.f kj59 t710 t675).bind fun t718 => (if t718 = true then ((torrentlaw4_sameRuns.f kj59 t714 t687).bind fun t719 => (if t719 = true then (if (x7_4.length : Int) = (wrap64 ((t667.length : Int) + 70)) then (if (t675.length : Int) = (t667.length : Int) then (some ((x13_4.length : Int) == (wrap64 ((t687.length : Int) + 70)))) else (some false)) else (some false)) else (some false))) else (some false))) else (some false)) else (some false)) = some r := H
                                    have A69 := Aside0.mk A690
                                    clear A690
                                    by_cases c70 : t711 = 0
                                    · rw [if_pos c70] at H
                                      have c70b0 : (t711 == 0) = true := beq_iff_eq.mpr c70
                                      have c70b1 : (t711 != 0) = false := bne_eq_false_iff_eq.mpr c70
                                      clear c70
                                      by_cases c71 : t715 = 0
                                      · rw [if_pos c71] at H
                                        have c71b0 : (t715 == 0) = true := beq_iff_eq.mpr c71
                                        have c71b1 : (t715 != 0) = false := bne_eq_false_iff_eq.mpr c71
                                        clear c71
                                        replace H := Option.bind_eq_some_iff.mp H
                                        obtain ⟨t718, A720, H⟩ := H
                                        replace H : (if t718 = true then ((torrentlaw4_sameRuns.f kj59 t714 t687).bind fun t719 => (if t719 = true then (if (x7_4.length : Int) = (wrap64 ((t667.length : Int) + 70)) then (if (t675.length : Int) = (t667.length : Int) then (some ((x13_4.length : Int) == (wrap64 ((t687.length : Int) + 70)))) else (some false)) else (some false)) else (some false))) else (some false)) = some r := H
                                        have A72 := Aside0.mk A720
                                        clear A720
                                        by_cases c73 : t718 = true
                                        · subst c73
                                          have H1 : ((torrentlaw4_sameRuns.f kj59 t714 t687).bind fun t719 => (if t719 = true then (if (x7_4.length : Int) = (wrap64 ((t667.length : Int) + 70)) then (if (t675.length : Int) = (t667.length : Int) then (some ((x13_4.length : Int) == (wrap64 ((t687.length : Int) + 70)))) else (some false)) else (some false)) else (some false))) = some r := by rw [if_pos rfl] at H; exact H
                                          clear H
                                          have H := H1
                                          clear H1
                                          replace H := Option.bind_eq_some_iff.mp H
                                          obtain ⟨t719, A740, H⟩ := H
                                          replace H : (if t719 = true then (if (x7_4.length : Int) = (wrap64 ((t667.length : Int) + 70)) then (if (t675.length : Int) = (t667.length : Int) then (some ((x13_4.length : Int) == (wrap64 ((t687.length : Int) + 70)))) else (some false)) else (some false)) else (some false)) = some r := H
                                          have A74 := Aside0.mk A740
                                          clear A740
                                          by_cases c75 : t719 = true
                                          · subst c75
                                            have H1 : (if (x7_4.length : Int) = (wrap64 ((t667.length : Int) + 70)) then (if (t675.length : Int) = (t667.length : Int) then (some ((x13_4.length : Int) == (wrap64 ((t687.length : Int) + 70)))) else (some false)) else (some false)) = some r := by rw [if_pos rfl] at H; exact H
                                            clear H
                                            have H := H1
                                            clear H1
                                            by_cases c76 : (x7_4.length : Int) = (wrap64 ((t667.length : Int) + 70))
                                            · rw [if_pos c76] at H
                                              have c76b0 : ((x7_4.length : Int) == (wrap64 ((t667.length : Int) + 70))) = true := beq_iff_eq.mpr c76
                                              have c76b1 : ((x7_4.length : Int) != (wrap64 ((t667.length : Int) + 70))) = false := bne_eq_false_iff_eq.mpr c76
                                              clear c76
                                              by_cases c77 : (t675.length : Int) = (t667.length : Int)
                                              · rw [if_pos c77] at H
                                                have c77b0 : ((t675.length : Int) == (t667.length : Int)) = true := beq_iff_eq.mpr c77
                                                have c77b1 : ((t675.length : Int) != (t667.length : Int)) = false := bne_eq_false_iff_eq.mpr c77
                                                have c77b2 : (t675.length == t667.length) = true := by first | simpa using c77 | (simp at c77 ⊢; omega)
                                                clear c77
                                                obtain rfl := Option.some.inj H
                                                (try rw [hl7_2] at c76b0); (try rw [hl7_2] at c76b1); (try rw [hl7_2] at c77b0); (try rw [hl7_2] at c77b1); (try rw [hl7_2] at c77b2)
                                                go_wp2_with (first | ((with_reducible refine gate_callee (f := 37) rfl ?_); refine goesL_ (some 160) rfl rfl Try.func37 (by kernel_rfl) rfl #[.int .i64 a0, .slice A1 l1.length c1] rfl (by (try simp only [List.map_toArray, List.map_cons, List.map_nil]); first | done | rfl) ?_; (with_reducible refine (bitset_Ones.calls kj59 a0 _ _ l1 t710 t711 _ ?side1 ?side2 A68.out).mono ?_); (case side1 => exact (Kd.C_below HR1.out HB.out)); (case side2 => exact HC1.out); rintro e w78 ⟨v712, rfl, ho0, hb⟩; refine ⟨_, rfl, ?_⟩; have n0_ := Aside0.mk (Kd.R_elder' HO_7.out (Kd.R_base ho0) hb); have n1_ := Aside0.mk (Kd.R_elder' HO_11.out (Kd.R_base ho0) hb); have n2_ := Aside0.mk (Kd.R_below HO_13.out hb); have n3_ := Aside0.mk (Kd.R_below HO_17.out hb); have n4_ := Aside0.mk (Kd.R_lower (Kd.R_new' (Kd.R_new' ho0 (Kd.R_lt HO_7.out)) (Kd.R_lt HO_11.out)) (below_size HB.out)); have n5_ := Aside0.mk (below_step HB.out hb); clear HO_7; clear HO_11; clear HO_13; clear HO_17; clear HB; have HO_7 := n0_; have HO_11 := n1_; have HO_13 := n2_; have HO_17 := n3_; have HO713 := n4_; have HB := n5_; clear n0_ n1_ n2_ n3_ n4_ n5_; (try clear hb); (try clear ho0)) | ((with_reducible refine gate_callee (f := 28) rfl ?_); refine goesL_ (some 166) rfl rfl Try.func28 (by kernel_rfl) rfl #[.int .i64 a0, .slice A1 l1.length c1] rfl (by (try simp only [List.map_toArray, List.map_cons, List.map_nil]); first | done | rfl) ?_; (with_reducible refine (bitset_Runs.calls kj59 a0 _ _ l1 t714 t715 _ ?side1 ?side2 A69.out).mono ?_); (case side1 => exact (Kd.C_below HR1.out HB.out)); (case side2 => exact HC1.out); rintro e w79 ⟨v716, rfl, ho0, hb⟩; refine ⟨_, rfl, ?_⟩; have n0_ := Aside0.mk (Kd.R_below HO_7.out hb); have n1_ := Aside0.mk (Kd.R_below HO_11.out hb); have n2_ := Aside0.mk (Kd.R_elder' HO_13.out (Kd.R_base ho0) hb); have n3_ := Aside0.mk (Kd.R_elder' HO_17.out (Kd.R_base ho0) hb); have n4_ := Aside0.mk (Kd.R_below HO713.out hb); have n5_ := Aside0.mk (Kd.R_lower (Kd.R_new' (Kd.R_new' ho0 (Kd.R_lt HO_13.out)) (Kd.R_lt HO_17.out)) (below_size HB.out)); have n6_ := Aside0.mk (below_step HB.out hb); clear HO_7; clear HO_11; clear HO_13; clear HO_17; clear HO713; clear HB; have HO_7 := n0_; have HO_11 := n1_; have HO_13 := n2_; have HO_17 := n3_; have HO713 := n4_; have HO717 := n5_; have HB := n6_; clear n0_ n1_ n2_ n3_ n4_ n5_ n6_; (try clear hb); (try clear ho0); obtain ⟨Ao80, co80, eo80⟩ := Kd.R_slice HO713.out; subst eo80; obtain ⟨Ao81, co81, eo81⟩ := Kd.R_slice HO_11.out; subst eo81) | (go_at_call 22; (with_reducible refine (torrentlaw4_sameInts.calls kj59 _ _ t710 _ _ t675 true _ ?side1 ?side2 ?side3 ?side4 A72.out).mono ?_); (case side1 => exact (Kd.R_reads' HO713.out).2.2); (case side2 => exact (Kd.R_reads' HO713.out).2.1); (case side3 => exact (Kd.R_reads' HO_11.out).2.2); (case side4 => exact (Kd.R_reads' HO_11.out).2.1); rintro e w' ⟨rfl, ⟨nd, rfl⟩⟩; obtain ⟨Ao82, co82, eo82⟩ := Kd.R_slice HO717.out; subst eo82; obtain ⟨Ao83, co83, eo83⟩ := Kd.R_slice HO_17.out; subst eo83) | (go_at_call 30; (with_reducible refine (torrentlaw4_sameRuns.calls kj59 _ _ t714 _ _ t687 true _ ?side1 ?side2 ?side3 ?side4 A74.out).mono ?_); (case side1 => exact (Kd.R_reads' HO717.out).2.2); (case side2 => exact (Kd.R_reads' HO717.out).2.1); (case side3 => exact (Kd.R_reads' HO_17.out).2.2); (case side4 => exact (Kd.R_reads' HO_17.out).2.1); rintro e w' ⟨rfl, ⟨nd, rfl⟩⟩; obtain ⟨Ao84, co84, eo84⟩ := Kd.R_slice HO_7.out; subst eo84; obtain ⟨Ao85, co85, eo85⟩ := Kd.R_slice HO_13.out; subst eo85))
                                                go_ret
                                                exact ⟨by first | rfl | (simp [errW_none, errW_some] <;> rfl) | (simp [*, errW_none, errW_some] <;> rfl), by repeat (first | (with_reducible first | exact HB.out | apply below_alloc | apply pw_below_drewN | apply below_drew1) | exact HB.out)⟩
                                              · rw [if_neg c77] at H
                                                have c77b0 : ((t675.length : Int) == (t667.length : Int)) = false := beq_eq_false_iff_ne.mpr c77
                                                have c77b1 : ((t675.length : Int) != (t667.length : Int)) = true := bne_iff_ne.mpr c77
                                                have c77b2 : (t675.length == t667.length) = false := by first | simpa using c77 | (simp at c77 ⊢; omega)
                                                obtain rfl := Option.some.inj H
                                                (try rw [hl7_2] at c76b0); (try rw [hl7_2] at c76b1); (try rw [hl7_2] at c77b0); (try rw [hl7_2] at c77b1); (try rw [hl7_2] at c77b2)
                                                go_wp2_with (first | ((with_reducible refine gate_callee (f := 37) rfl ?_); refine goesL_ (some 160) rfl rfl Try.func37 (by kernel_rfl) rfl #[.int .i64 a0, .slice A1 l1.length c1] rfl (by (try simp only [List.map_toArray, List.map_cons, List.map_nil]); first | done | rfl) ?_; (with_reducible refine (bitset_Ones.calls kj59 a0 _ _ l1 t710 t711 _ ?side1 ?side2 A68.out).mono ?_); (case side1 => exact (Kd.C_below HR1.out HB.out)); (case side2 => exact HC1.out); rintro e w86 ⟨v712, rfl, ho0, hb⟩; refine ⟨_, rfl, ?_⟩; have n0_ := Aside0.mk (Kd.R_elder' HO_7.out (Kd.R_base ho0) hb); have n1_ := Aside0.mk (Kd.R_elder' HO_11.out (Kd.R_base ho0) hb); have n2_ := Aside0.mk (Kd.R_below HO_13.out hb); have n3_ := Aside0.mk (Kd.R_below HO_17.out hb); have n4_ := Aside0.mk (Kd.R_lower (Kd.R_new' (Kd.R_new' ho0 (Kd.R_lt HO_7.out)) (Kd.R_lt HO_11.out)) (below_size HB.out)); have n5_ := Aside0.mk (below_step HB.out hb); clear HO_7; clear HO_11; clear HO_13; clear HO_17; clear HB; have HO_7 := n0_; have HO_11 := n1_; have HO_13 := n2_; have HO_17 := n3_; have HO713 := n4_; have HB := n5_; clear n0_ n1_ n2_ n3_ n4_ n5_; (try clear hb); (try clear ho0)) | ((with_reducible refine gate_callee (f := 28) rfl ?_); refine goesL_ (some 166) rfl rfl Try.func28 (by kernel_rfl) rfl #[.int .i64 a0, .slice A1 l1.length c1] rfl (by (try simp only [List.map_toArray, List.map_cons, List.map_nil]); first | done | rfl) ?_; (with_reducible refine (bitset_Runs.calls kj59 a0 _ _ l1 t714 t715 _ ?side1 ?side2 A69.out).mono ?_); (case side1 => exact (Kd.C_below HR1.out HB.out)); (case side2 => exact HC1.out); rintro e w87 ⟨v716, rfl, ho0, hb⟩; refine ⟨_, rfl, ?_⟩; have n0_ := Aside0.mk (Kd.R_below HO_7.out hb); have n1_ := Aside0.mk (Kd.R_below HO_11.out hb); have n2_ := Aside0.mk (Kd.R_elder' HO_13.out (Kd.R_base ho0) hb); have n3_ := Aside0.mk (Kd.R_elder' HO_17.out (Kd.R_base ho0) hb); have n4_ := Aside0.mk (Kd.R_below HO713.out hb); have n5_ := Aside0.mk (Kd.R_lower (Kd.R_new' (Kd.R_new' ho0 (Kd.R_lt HO_13.out)) (Kd.R_lt HO_17.out)) (below_size HB.out)); have n6_ := Aside0.mk (below_step HB.out hb); clear HO_7; clear HO_11; clear HO_13; clear HO_17; clear HO713; clear HB; have HO_7 := n0_; have HO_11 := n1_; have HO_13 := n2_; have HO_17 := n3_; have HO713 := n4_; have HO717 := n5_; have HB := n6_; clear n0_ n1_ n2_ n3_ n4_ n5_ n6_; (try clear hb); (try clear ho0); obtain ⟨Ao88, co88, eo88⟩ := Kd.R_slice HO713.out; subst eo88; obtain ⟨Ao89, co89, eo89⟩ := Kd.R_slice HO_11.out; subst eo89) | (go_at_call 22; (with_reducible refine (torrentlaw4_sameInts.calls kj59 _ _ t710 _ _ t675 true _ ?side1 ?side2 ?side3 ?side4 A72.out).mono ?_); (case side1 => exact (Kd.R_reads' HO713.out).2.2); (case side2 => exact (Kd.R_reads' HO713.out).2.1); (case side3 => exact (Kd.R_reads' HO_11.out).2.2); (case side4 => exact (Kd.R_reads' HO_11.out).2.1); rintro e w' ⟨rfl, ⟨nd, rfl⟩⟩; obtain ⟨Ao90, co90, eo90⟩ := Kd.R_slice HO717.out; subst eo90; obtain ⟨Ao91, co91, eo91⟩ := Kd.R_slice HO_17.out; subst eo91) | (go_at_call 30; (with_reducible refine (torrentlaw4_sameRuns.calls kj59 _ _ t714 _ _ t687 true _ ?side1 ?side2 ?side3 ?side4 A74.out).mono ?_); (case side1 => exact (Kd.R_reads' HO717.out).2.2); (case side2 => exact (Kd.R_reads' HO717.out).2.1); (case side3 => exact (Kd.R_reads' HO_17.out).2.2); (case side4 => exact (Kd.R_reads' HO_17.out).2.1); rintro e w' ⟨rfl, ⟨nd, rfl⟩⟩; obtain ⟨Ao92, co92, eo92⟩ := Kd.R_slice HO_7.out; subst eo92))
                                                go_ret
                                                exact ⟨by first | rfl | (simp [errW_none, errW_some] <;> rfl) | (simp [*, errW_none, errW_some] <;> rfl), by repeat (first | (with_reducible first | exact HB.out | apply below_alloc | apply pw_below_drewN | apply below_drew1) | exact HB.out)⟩
                                            · rw [if_neg c76] at H
                                              have c76b0 : ((x7_4.length : Int) == (wrap64 ((t667.length : Int) + 70))) = false := beq_eq_false_iff_ne.mpr c76
                                              have c76b1 : ((x7_4.length : Int) != (wrap64 ((t667.length : Int) + 70))) = true := bne_iff_ne.mpr c76
                                              obtain rfl := Option.some.inj H
                                              (try rw [hl7_2] at c76b0); (try rw [hl7_2] at c76b1); (try rw [hl7_2] at c77b0); (try rw [hl7_2] at c77b1); (try rw [hl7_2] at c77b2)
                                              go_wp2_with (first | ((with_reducible refine gate_callee (f := 37) rfl ?_); refine goesL_ (some 160) rfl rfl Try.func37 (by kernel_rfl) rfl #[.int .i64 a0, .slice A1 l1.length c1] rfl (by (try simp only [List.map_toArray, List.map_cons, List.map_nil]); first | done | rfl) ?_; (with_reducible refine (bitset_Ones.calls kj59 a0 _ _ l1 t710 t711 _ ?side1 ?side2 A68.out).mono ?_); (case side1 => exact (Kd.C_below HR1.out HB.out)); (case side2 => exact HC1.out); rintro e w93 ⟨v712, rfl, ho0, hb⟩; refine ⟨_, rfl, ?_⟩; have n0_ := Aside0.mk (Kd.R_elder' HO_7.out (Kd.R_base ho0) hb); have n1_ := Aside0.mk (Kd.R_elder' HO_11.out (Kd.R_base ho0) hb); have n2_ := Aside0.mk (Kd.R_below HO_13.out hb); have n3_ := Aside0.mk (Kd.R_below HO_17.out hb); have n4_ := Aside0.mk (Kd.R_lower (Kd.R_new' (Kd.R_new' ho0 (Kd.R_lt HO_7.out)) (Kd.R_lt HO_11.out)) (below_size HB.out)); have n5_ := Aside0.mk (below_step HB.out hb); clear HO_7; clear HO_11; clear HO_13; clear HO_17; clear HB; have HO_7 := n0_; have HO_11 := n1_; have HO_13 := n2_; have HO_17 := n3_; have HO713 := n4_; have HB := n5_; clear n0_ n1_ n2_ n3_ n4_ n5_; (try clear hb); (try clear ho0)) | ((with_reducible refine gate_callee (f := 28) rfl ?_); refine goesL_ (some 166) rfl rfl Try.func28 (by kernel_rfl) rfl #[.int .i64 a0, .slice A1 l1.length c1] rfl (by (try simp only [List.map_toArray, List.map_cons, List.map_nil]); first | done | rfl) ?_; (with_reducible refine (bitset_Runs.calls kj59 a0 _ _ l1 t714 t715 _ ?side1 ?side2 A69.out).mono ?_); (case side1 => exact (Kd.C_below HR1.out HB.out)); (case side2 => exact HC1.out); rintro e w94 ⟨v716, rfl, ho0, hb⟩; refine ⟨_, rfl, ?_⟩; have n0_ := Aside0.mk (Kd.R_below HO_7.out hb); have n1_ := Aside0.mk (Kd.R_below HO_11.out hb); have n2_ := Aside0.mk (Kd.R_elder' HO_13.out (Kd.R_base ho0) hb); have n3_ := Aside0.mk (Kd.R_elder' HO_17.out (Kd.R_base ho0) hb); have n4_ := Aside0.mk (Kd.R_below HO713.out hb); have n5_ := Aside0.mk (Kd.R_lower (Kd.R_new' (Kd.R_new' ho0 (Kd.R_lt HO_13.out)) (Kd.R_lt HO_17.out)) (below_size HB.out)); have n6_ := Aside0.mk (below_step HB.out hb); clear HO_7; clear HO_11; clear HO_13; clear HO_17; clear HO713; clear HB; have HO_7 := n0_; have HO_11 := n1_; have HO_13 := n2_; have HO_17 := n3_; have HO713 := n4_; have HO717 := n5_; have HB := n6_; clear n0_ n1_ n2_ n3_ n4_ n5_ n6_; (try clear hb); (try clear ho0); obtain ⟨Ao95, co95, eo95⟩ := Kd.R_slice HO713.out; subst eo95; obtain ⟨Ao96, co96, eo96⟩ := Kd.R_slice HO_11.out; subst eo96) | (go_at_call 22; (with_reducible refine (torrentlaw4_sameInts.calls kj59 _ _ t710 _ _ t675 true _ ?side1 ?side2 ?side3 ?side4 A72.out).mono ?_); (case side1 => exact (Kd.R_reads' HO713.out).2.2); (case side2 => exact (Kd.R_reads' HO713.out).2.1); (case side3 => exact (Kd.R_reads' HO_11.out).2.2); (case side4 => exact (Kd.R_reads' HO_11.out).2.1); rintro e w' ⟨rfl, ⟨nd, rfl⟩⟩; obtain ⟨Ao97, co97, eo97⟩ := Kd.R_slice HO717.out; subst eo97; obtain ⟨Ao98, co98, eo98⟩ := Kd.R_slice HO_17.out; subst eo98) | (go_at_call 30; (with_reducible refine (torrentlaw4_sameRuns.calls kj59 _ _ t714 _ _ t687 true _ ?side1 ?side2 ?side3 ?side4 A74.out).mono ?_); (case side1 => exact (Kd.R_reads' HO717.out).2.2); (case side2 => exact (Kd.R_reads' HO717.out).2.1); (case side3 => exact (Kd.R_reads' HO_17.out).2.2); (case side4 => exact (Kd.R_reads' HO_17.out).2.1); rintro e w' ⟨rfl, ⟨nd, rfl⟩⟩; obtain ⟨Ao99, co99, eo99⟩ := Kd.R_slice HO_7.out; subst eo99))
                                              go_ret
                                              exact ⟨by first | rfl | (simp [errW_none, errW_some] <;> rfl) | (simp [*, errW_none, errW_some] <;> rfl), by repeat (first | (with_reducible first | exact HB.out | apply below_alloc | apply pw_below_drewN | apply below_drew1) | exact HB.out)⟩
                                          · replace c75 := Bool.eq_false_iff.mpr c75
                                            subst c75
                                            have H1 : (some false) = some r := by rw [if_neg (show ¬ (false = true) by decide)] at H; exact H
                                            clear H
                                            have H := H1
                                            clear H1
                                            obtain rfl := Option.some.inj H
                                            (try rw [hl7_2] at c76b0); (try rw [hl7_2] at c76b1); (try rw [hl7_2] at c77b0); (try rw [hl7_2] at c77b1); (try rw [hl7_2] at c77b2)
                                            go_wp2_with (first | ((with_reducible refine gate_callee (f := 37) rfl ?_); refine goesL_ (some 160) rfl rfl Try.func37 (by kernel_rfl) rfl #[.int .i64 a0, .slice A1 l1.length c1] rfl (by (try simp only [List.map_toArray, List.map_cons, List.map_nil]); first | done | rfl) ?_; (with_reducible refine (bitset_Ones.calls kj59 a0 _ _ l1 t710 t711 _ ?side1 ?side2 A68.out).mono ?_); (case side1 => exact (Kd.C_below HR1.out HB.out)); (case side2 => exact HC1.out); rintro e w100 ⟨v712, rfl, ho0, hb⟩; refine ⟨_, rfl, ?_⟩; have n0_ := Aside0.mk (Kd.R_elder' HO_7.out (Kd.R_base ho0) hb); have n1_ := Aside0.mk (Kd.R_elder' HO_11.out (Kd.R_base ho0) hb); have n2_ := Aside0.mk (Kd.R_below HO_13.out hb); have n3_ := Aside0.mk (Kd.R_below HO_17.out hb); have n4_ := Aside0.mk (Kd.R_lower (Kd.R_new' (Kd.R_new' ho0 (Kd.R_lt HO_7.out)) (Kd.R_lt HO_11.out)) (below_size HB.out)); have n5_ := Aside0.mk (below_step HB.out hb); clear HO_7; clear HO_11; clear HO_13; clear HO_17; clear HB; have HO_7 := n0_; have HO_11 := n1_; have HO_13 := n2_; have HO_17 := n3_; have HO713 := n4_; have HB := n5_; clear n0_ n1_ n2_ n3_ n4_ n5_; (try clear hb); (try clear ho0)) | ((with_reducible refine gate_callee (f := 28) rfl ?_); refine goesL_ (some 166) rfl rfl Try.func28 (by kernel_rfl) rfl #[.int .i64 a0, .slice A1 l1.length c1] rfl (by (try simp only [List.map_toArray, List.map_cons, List.map_nil]); first | done | rfl) ?_; (with_reducible refine (bitset_Runs.calls kj59 a0 _ _ l1 t714 t715 _ ?side1 ?side2 A69.out).mono ?_); (case side1 => exact (Kd.C_below HR1.out HB.out)); (case side2 => exact HC1.out); rintro e w101 ⟨v716, rfl, ho0, hb⟩; refine ⟨_, rfl, ?_⟩; have n0_ := Aside0.mk (Kd.R_below HO_7.out hb); have n1_ := Aside0.mk (Kd.R_below HO_11.out hb); have n2_ := Aside0.mk (Kd.R_elder' HO_13.out (Kd.R_base ho0) hb); have n3_ := Aside0.mk (Kd.R_elder' HO_17.out (Kd.R_base ho0) hb); have n4_ := Aside0.mk (Kd.R_below HO713.out hb); have n5_ := Aside0.mk (Kd.R_lower (Kd.R_new' (Kd.R_new' ho0 (Kd.R_lt HO_13.out)) (Kd.R_lt HO_17.out)) (below_size HB.out)); have n6_ := Aside0.mk (below_step HB.out hb); clear HO_7; clear HO_11; clear HO_13; clear HO_17; clear HO713; clear HB; have HO_7 := n0_; have HO_11 := n1_; have HO_13 := n2_; have HO_17 := n3_; have HO713 := n4_; have HO717 := n5_; have HB := n6_; clear n0_ n1_ n2_ n3_ n4_ n5_ n6_; (try clear hb); (try clear ho0); obtain ⟨Ao102, co102, eo102⟩ := Kd.R_slice HO713.out; subst eo102; obtain ⟨Ao103, co103, eo103⟩ := Kd.R_slice HO_11.out; subst eo103) | (go_at_call 22; (with_reducible refine (torrentlaw4_sameInts.calls kj59 _ _ t710 _ _ t675 true _ ?side1 ?side2 ?side3 ?side4 A72.out).mono ?_); (case side1 => exact (Kd.R_reads' HO713.out).2.2); (case side2 => exact (Kd.R_reads' HO713.out).2.1); (case side3 => exact (Kd.R_reads' HO_11.out).2.2); (case side4 => exact (Kd.R_reads' HO_11.out).2.1); rintro e w' ⟨rfl, ⟨nd, rfl⟩⟩; obtain ⟨Ao104, co104, eo104⟩ := Kd.R_slice HO717.out; subst eo104; obtain ⟨Ao105, co105, eo105⟩ := Kd.R_slice HO_17.out; subst eo105) | (go_at_call 30; (with_reducible refine (torrentlaw4_sameRuns.calls kj59 _ _ t714 _ _ t687 false _ ?side1 ?side2 ?side3 ?side4 A74.out).mono ?_); (case side1 => exact (Kd.R_reads' HO717.out).2.2); (case side2 => exact (Kd.R_reads' HO717.out).2.1); (case side3 => exact (Kd.R_reads' HO_17.out).2.2); (case side4 => exact (Kd.R_reads' HO_17.out).2.1); rintro e w' ⟨rfl, ⟨nd, rfl⟩⟩))
                                            go_ret
                                            exact ⟨by first | rfl | (simp [errW_none, errW_some] <;> rfl) | (simp [*, errW_none, errW_some] <;> rfl), by repeat (first | (with_reducible first | exact HB.out | apply below_alloc | apply pw_below_drewN | apply below_drew1) | exact HB.out)⟩
                                        · replace c73 := Bool.eq_false_iff.mpr c73
                                          subst c73
                                          have H1 : (some false) = some r := by rw [if_neg (show ¬ (false = true) by decide)] at H; exact H
                                          clear H
                                          have H := H1
                                          clear H1
                                          obtain rfl := Option.some.inj H
                                          (try rw [hl7_2] at c76b0); (try rw [hl7_2] at c76b1); (try rw [hl7_2] at c77b0); (try rw [hl7_2] at c77b1); (try rw [hl7_2] at c77b2)
                                          go_wp2_with (first | ((with_reducible refine gate_callee (f := 37) rfl ?_); refine goesL_ (some 160) rfl rfl Try.func37 (by kernel_rfl) rfl #[.int .i64 a0, .slice A1 l1.length c1] rfl (by (try simp only [List.map_toArray, List.map_cons, List.map_nil]); first | done | rfl) ?_; (with_reducible refine (bitset_Ones.calls kj59 a0 _ _ l1 t710 t711 _ ?side1 ?side2 A68.out).mono ?_); (case side1 => exact (Kd.C_below HR1.out HB.out)); (case side2 => exact HC1.out); rintro e w106 ⟨v712, rfl, ho0, hb⟩; refine ⟨_, rfl, ?_⟩; have n0_ := Aside0.mk (Kd.R_elder' HO_7.out (Kd.R_base ho0) hb); have n1_ := Aside0.mk (Kd.R_elder' HO_11.out (Kd.R_base ho0) hb); have n2_ := Aside0.mk (Kd.R_below HO_13.out hb); have n3_ := Aside0.mk (Kd.R_below HO_17.out hb); have n4_ := Aside0.mk (Kd.R_lower (Kd.R_new' (Kd.R_new' ho0 (Kd.R_lt HO_7.out)) (Kd.R_lt HO_11.out)) (below_size HB.out)); have n5_ := Aside0.mk (below_step HB.out hb); clear HO_7; clear HO_11; clear HO_13; clear HO_17; clear HB; have HO_7 := n0_; have HO_11 := n1_; have HO_13 := n2_; have HO_17 := n3_; have HO713 := n4_; have HB := n5_; clear n0_ n1_ n2_ n3_ n4_ n5_; (try clear hb); (try clear ho0)) | ((with_reducible refine gate_callee (f := 28) rfl ?_); refine goesL_ (some 166) rfl rfl Try.func28 (by kernel_rfl) rfl #[.int .i64 a0, .slice A1 l1.length c1] rfl (by (try simp only [List.map_toArray, List.map_cons, List.map_nil]); first | done | rfl) ?_; (with_reducible refine (bitset_Runs.calls kj59 a0 _ _ l1 t714 t715 _ ?side1 ?side2 A69.out).mono ?_); (case side1 => exact (Kd.C_below HR1.out HB.out)); (case side2 => exact HC1.out); rintro e w107 ⟨v716, rfl, ho0, hb⟩; refine ⟨_, rfl, ?_⟩; have n0_ := Aside0.mk (Kd.R_below HO_7.out hb); have n1_ := Aside0.mk (Kd.R_below HO_11.out hb); have n2_ := Aside0.mk (Kd.R_elder' HO_13.out (Kd.R_base ho0) hb); have n3_ := Aside0.mk (Kd.R_elder' HO_17.out (Kd.R_base ho0) hb); have n4_ := Aside0.mk (Kd.R_below HO713.out hb); have n5_ := Aside0.mk (Kd.R_lower (Kd.R_new' (Kd.R_new' ho0 (Kd.R_lt HO_13.out)) (Kd.R_lt HO_17.out)) (below_size HB.out)); have n6_ := Aside0.mk (below_step HB.out hb); clear HO_7; clear HO_11; clear HO_13; clear HO_17; clear HO713; clear HB; have HO_7 := n0_; have HO_11 := n1_; have HO_13 := n2_; have HO_17 := n3_; have HO713 := n4_; have HO717 := n5_; have HB := n6_; clear n0_ n1_ n2_ n3_ n4_ n5_ n6_; (try clear hb); (try clear ho0); obtain ⟨Ao108, co108, eo108⟩ := Kd.R_slice HO713.out; subst eo108; obtain ⟨Ao109, co109, eo109⟩ := Kd.R_slice HO_11.out; subst eo109) | (go_at_call 22; (with_reducible refine (torrentlaw4_sameInts.calls kj59 _ _ t710 _ _ t675 false _ ?side1 ?side2 ?side3 ?side4 A72.out).mono ?_); (case side1 => exact (Kd.R_reads' HO713.out).2.2); (case side2 => exact (Kd.R_reads' HO713.out).2.1); (case side3 => exact (Kd.R_reads' HO_11.out).2.2); (case side4 => exact (Kd.R_reads' HO_11.out).2.1); rintro e w' ⟨rfl, ⟨nd, rfl⟩⟩))
                                          go_ret
                                          exact ⟨by first | rfl | (simp [errW_none, errW_some] <;> rfl) | (simp [*, errW_none, errW_some] <;> rfl), by repeat (first | (with_reducible first | exact HB.out | apply below_alloc | apply pw_below_drewN | apply below_drew1) | exact HB.out)⟩
                                      · rw [if_neg c71] at H
                                        have c71b0 : (t715 == 0) = false := beq_eq_false_iff_ne.mpr c71
                                        have c71b1 : (t715 != 0) = true := bne_iff_ne.mpr c71
                                        obtain rfl := Option.some.inj H
                                        (try rw [hl7_2] at c76b0); (try rw [hl7_2] at c76b1); (try rw [hl7_2] at c77b0); (try rw [hl7_2] at c77b1); (try rw [hl7_2] at c77b2)
                                        go_wp2_with (first | ((with_reducible refine gate_callee (f := 37) rfl ?_); refine goesL_ (some 160) rfl rfl Try.func37 (by kernel_rfl) rfl #[.int .i64 a0, .slice A1 l1.length c1] rfl (by (try simp only [List.map_toArray, List.map_cons, List.map_nil]); first | done | rfl) ?_; (with_reducible refine (bitset_Ones.calls kj59 a0 _ _ l1 t710 t711 _ ?side1 ?side2 A68.out).mono ?_); (case side1 => exact (Kd.C_below HR1.out HB.out)); (case side2 => exact HC1.out); rintro e w110 ⟨v712, rfl, ho0, hb⟩; refine ⟨_, rfl, ?_⟩; have n0_ := Aside0.mk (Kd.R_elder' HO_7.out (Kd.R_base ho0) hb); have n1_ := Aside0.mk (Kd.R_elder' HO_11.out (Kd.R_base ho0) hb); have n2_ := Aside0.mk (Kd.R_below HO_13.out hb); have n3_ := Aside0.mk (Kd.R_below HO_17.out hb); have n4_ := Aside0.mk (Kd.R_lower (Kd.R_new' (Kd.R_new' ho0 (Kd.R_lt HO_7.out)) (Kd.R_lt HO_11.out)) (below_size HB.out)); have n5_ := Aside0.mk (below_step HB.out hb); clear HO_7; clear HO_11; clear HO_13; clear HO_17; clear HB; have HO_7 := n0_; have HO_11 := n1_; have HO_13 := n2_; have HO_17 := n3_; have HO713 := n4_; have HB := n5_; clear n0_ n1_ n2_ n3_ n4_ n5_; (try clear hb); (try clear ho0)) | ((with_reducible refine gate_callee (f := 28) rfl ?_); refine goesL_ (some 166) rfl rfl Try.func28 (by kernel_rfl) rfl #[.int .i64 a0, .slice A1 l1.length c1] rfl (by (try simp only [List.map_toArray, List.map_cons, List.map_nil]); first | done | rfl) ?_; (with_reducible refine (bitset_Runs.calls kj59 a0 _ _ l1 t714 t715 _ ?side1 ?side2 A69.out).mono ?_); (case side1 => exact (Kd.C_below HR1.out HB.out)); (case side2 => exact HC1.out); rintro e w111 ⟨v716, rfl, ho0, hb⟩; refine ⟨_, rfl, ?_⟩; have n0_ := Aside0.mk (Kd.R_below HO_7.out hb); have n1_ := Aside0.mk (Kd.R_below HO_11.out hb); have n2_ := Aside0.mk (Kd.R_elder' HO_13.out (Kd.R_base ho0) hb); have n3_ := Aside0.mk (Kd.R_elder' HO_17.out (Kd.R_base ho0) hb); have n4_ := Aside0.mk (Kd.R_below HO713.out hb); have n5_ := Aside0.mk (Kd.R_lower (Kd.R_new' (Kd.R_new' ho0 (Kd.R_lt HO_13.out)) (Kd.R_lt HO_17.out)) (below_size HB.out)); have n6_ := Aside0.mk (below_step HB.out hb); clear HO_7; clear HO_11; clear HO_13; clear HO_17; clear HO713; clear HB; have HO_7 := n0_; have HO_11 := n1_; have HO_13 := n2_; have HO_17 := n3_; have HO713 := n4_; have HO717 := n5_; have HB := n6_; clear n0_ n1_ n2_ n3_ n4_ n5_ n6_; (try clear hb); (try clear ho0)))
                                        go_ret
                                        exact ⟨by first | rfl | (simp [errW_none, errW_some] <;> rfl) | (simp [*, errW_none, errW_some] <;> rfl), by repeat (first | (with_reducible first | exact HB.out | apply below_alloc | apply pw_below_drewN | apply below_drew1) | exact HB.out)⟩
                                    · rw [if_neg c70] at H
                                      have c70b0 : (t711 == 0) = false := beq_eq_false_iff_ne.mpr c70
                                      have c70b1 : (t711 != 0) = true := bne_iff_ne.mpr c70
                                      obtain rfl := Option.some.inj H
                                      (try rw [hl7_2] at c76b0); (try rw [hl7_2] at c76b1); (try rw [hl7_2] at c77b0); (try rw [hl7_2] at c77b1); (try rw [hl7_2] at c77b2)
                                      go_wp2_with (first | ((with_reducible refine gate_callee (f := 37) rfl ?_); refine goesL_ (some 160) rfl rfl Try.func37 (by kernel_rfl) rfl #[.int .i64 a0, .slice A1 l1.length c1] rfl (by (try simp only [List.map_toArray, List.map_cons, List.map_nil]); first | done | rfl) ?_; (with_reducible refine (bitset_Ones.calls kj59 a0 _ _ l1 t710 t711 _ ?side1 ?side2 A68.out).mono ?_); (case side1 => exact (Kd.C_below HR1.out HB.out)); (case side2 => exact HC1.out); rintro e w112 ⟨v712, rfl, ho0, hb⟩; refine ⟨_, rfl, ?_⟩; have n0_ := Aside0.mk (Kd.R_elder' HO_7.out (Kd.R_base ho0) hb); have n1_ := Aside0.mk (Kd.R_elder' HO_11.out (Kd.R_base ho0) hb); have n2_ := Aside0.mk (Kd.R_below HO_13.out hb); have n3_ := Aside0.mk (Kd.R_below HO_17.out hb); have n4_ := Aside0.mk (Kd.R_lower (Kd.R_new' (Kd.R_new' ho0 (Kd.R_lt HO_7.out)) (Kd.R_lt HO_11.out)) (below_size HB.out)); have n5_ := Aside0.mk (below_step HB.out hb); clear HO_7; clear HO_11; clear HO_13; clear HO_17; clear HB; have HO_7 := n0_; have HO_11 := n1_; have HO_13 := n2_; have HO_17 := n3_; have HO713 := n4_; have HB := n5_; clear n0_ n1_ n2_ n3_ n4_ n5_; (try clear hb); (try clear ho0)) | ((with_reducible refine gate_callee (f := 28) rfl ?_); refine goesL_ (some 166) rfl rfl Try.func28 (by kernel_rfl) rfl #[.int .i64 a0, .slice A1 l1.length c1] rfl (by (try simp only [List.map_toArray, List.map_cons, List.map_nil]); first | done | rfl) ?_; (with_reducible refine (bitset_Runs.calls kj59 a0 _ _ l1 t714 t715 _ ?side1 ?side2 A69.out).mono ?_); (case side1 => exact (Kd.C_below HR1.out HB.out)); (case side2 => exact HC1.out); rintro e w113 ⟨v716, rfl, ho0, hb⟩; refine ⟨_, rfl, ?_⟩; have n0_ := Aside0.mk (Kd.R_below HO_7.out hb); have n1_ := Aside0.mk (Kd.R_below HO_11.out hb); have n2_ := Aside0.mk (Kd.R_elder' HO_13.out (Kd.R_base ho0) hb); have n3_ := Aside0.mk (Kd.R_elder' HO_17.out (Kd.R_base ho0) hb); have n4_ := Aside0.mk (Kd.R_below HO713.out hb); have n5_ := Aside0.mk (Kd.R_lower (Kd.R_new' (Kd.R_new' ho0 (Kd.R_lt HO_13.out)) (Kd.R_lt HO_17.out)) (below_size HB.out)); have n6_ := Aside0.mk (below_step HB.out hb); clear HO_7; clear HO_11; clear HO_13; clear HO_17; clear HO713; clear HB; have HO_7 := n0_; have HO_11 := n1_; have HO_13 := n2_; have HO_17 := n3_; have HO713 := n4_; have HO717 := n5_; have HB := n6_; clear n0_ n1_ n2_ n3_ n4_ n5_ n6_; (try clear hb); (try clear ho0)))
                                      go_ret
                                      exact ⟨by first | rfl | (simp [errW_none, errW_some] <;> rfl) | (simp [*, errW_none, errW_some] <;> rfl), by repeat (first | (with_reducible first | exact HB.out | apply below_alloc | apply pw_below_drewN | apply below_drew1) | exact HB.out)⟩
          · rw [if_neg c34] at H
            exact absurd H (by simp)
        · rw [if_neg c33] at H
          exact absurd H (by simp)

end Go.Proofs.Ytoohpdamndgdlaa.P

