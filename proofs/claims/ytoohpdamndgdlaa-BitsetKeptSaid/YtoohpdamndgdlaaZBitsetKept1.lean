-- Merged by a program of this session out of the texts Px48, Px50, Px52, HWalk, HWalk1, HCount, Px36, Px29, Px30, Px32, Px55 of this claim's own.
import Derived.Test.YtoohpdamndgdlaaZBitsetKept0
import Derived.RangeFuncBox
import Derived.RangeFuncLeaves
import Derived.RangeFuncBound
import Derived.RangeFuncCalls
import Derived.WalkKit
import Derived.OwnWalkIn
import Derived.TacticsInMore
import Derived.LoopNIn
import Derived.LoopIn
import Derived.Outline
import Derived.Lib.Hide
import Derived.Shelf.RegionOpen
import Derived.WalkSpells
import Derived.RangeFuncWrites
import Derived.Maps.AppendAt

-- Made by a program of this session (the print of the kit over a neighbour), for this claim.
namespace Go.Proofs.Ytoohpdamndgdlaa.P
open Go.RowKit Go.Proofs.YtoohpdamndgdlaaW.PrintWords Go.Proofs.YtoohpdamndgdlaaW.PrintLast Go.Proofs.YtoohpdamndgdlaaW.PrintMore
attribute [local go_sem] max2_int min2_int max_two min_two max_three min_three max_four min_four   -- for this text's walks alone
set_option linter.unusedVariables false
set_option linter.unusedSimpArgs false

/-! ### bitset_Minus: function 42 -/
def bitset_Minus.l0 : Nat → List Int → List Int → List Int → Int → Int → Option (List Int × Int)
  | 0, _, _, _, _, _ => none
  | k + 1, x1, x2, x9, x22, x23 => if x23 < x22 then (if 0 ≤ x23 then (if x23 < (x1.length : Int) then (if x23 < (x2.length : Int) then (if x23 < (x9.length : Int) then (bitset_Minus.l0 k x1 x2 (x9.set (x23 : Int).toNat (Go.bits .andNot .u8 (rd x1 x23) (rd x2 x23))) x22 (wrap64 (x23 + 1))) else (none)) else (none)) else (none)) else (none)) else (some (x9, 0))
def bitset_Minus.f (k : Nat) (a0 : Int) (l1 : List Int) (l2 : List Int) : Option (List Int × Int) := (bitset_both.f k a0 l1 l2).bind fun t398 => (if t398 = 0 then (if 0 ≤ (l1.length : Int) then (if ((l1.length : Int) : Int).toNat ≤ 281474976710656 then ((some (List.replicate ((l1.length : Int) : Int).toNat 0 : List Int)).bind fun y399 => (bitset_Minus.l0 k l1 l2 y399 (y399.length : Int) 0)) else (none)) else (none)) else (some (([] : List Int), t398)))
set_option maxHeartbeats 4000000 in
set_option maxRecDepth 100000 in
theorem bitset_Minus.merge (k : Nat) (a0 : Int) (A1 : Option Addr) (c1 : Nat) (l1 : List Int) (A2 : Option Addr) (c2 : Nat) (l2 : List Int) (r1 : List Int) (r2 : Int) (w : World) (hr1 : Kd.C (Kd.int .u8) w A1 l1.length l1) (hc1 : l1.length ≤ c1) (hr2 : Kd.C (Kd.int .u8) w A2 l2.length l2) (hc2 : l2.length ≤ c2) (h : bitset_Minus.f k a0 l1 l2 = some (r1, r2)) :
    Calls Try.prog 64 #[.int .i64 a0, .slice A1 l1.length c1, .slice A2 l2.length c2, .func (.func 68) #[] #[]] w fun e w' => ∃ v0_ : Value, e = .returned (.tuple #[v0_, .int .i64 r2]) ∧ Kd.R (Kd.int .u8) 5 w' w.heap.size (fun _ => True) v0_ r1 ∧ Below w.heap.size w w' := by
  have HR1 := Aside0.mk hr1
  have HC1 := Aside0.mk hc1
  clear hr1 hc1
  have HR2 := Aside0.mk hr2
  have HC2 := Aside0.mk hc2
  clear hr2 hc2
  have HB := Aside0.mk (Below.refl w.heap.size w)
  have H : ((bitset_both.f k a0 l1 l2).bind fun t398 => (if t398 = 0 then (if 0 ≤ (l1.length : Int) then (if ((l1.length : Int) : Int).toNat ≤ 281474976710656 then ((some (List.replicate ((l1.length : Int) : Int).toNat 0 : List Int)).bind fun y399 => (bitset_Minus.l0 k l1 l2 y399 (y399.length : Int) 0)) else (none)) else (none)) else (some (([] : List Int), t398)))) = some (r1, r2) := h
  clear h
  replace H := Option.bind_eq_some_iff.mp H
  obtain ⟨t398, A40, H⟩ := H
  replace H : (if t398 = 0 then (if 0 ≤ (l1.length : Int) then (if ((l1.length : Int) : Int).toNat ≤ 281474976710656 then ((some (List.replicate ((l1.length : Int) : Int).toNat 0 : List Int)).bind fun y399 => (bitset_Minus.l0 k l1 l2 y399 (y399.length : Int) 0)) else (none)) else (none)) else (some (([] : List Int), t398))) = some (r1, r2) := H
  have A4 := Aside0.mk A40
  clear A40
  by_cases c5 : t398 = 0
  · rw [if_pos c5] at H
    have c5b0 : (t398 == 0) = true := beq_iff_eq.mpr c5
    have c5b1 : (t398 != 0) = false := bne_eq_false_iff_eq.mpr c5
    clear c5
    by_cases c6 : 0 ≤ (l1.length : Int)
    · rw [if_pos c6] at H
      have c6b0 := eq_true c6
      have c6b1 : decide (0 ≤ (l1.length : Int)) = true := decide_eq_true c6
      clear c6
      by_cases c7 : ((l1.length : Int) : Int).toNat ≤ 281474976710656
      · rw [if_pos c7] at H
        have c7b0 := eq_true c7
        have c7b1 : decide (((l1.length : Int) : Int).toNat ≤ 281474976710656) = true := decide_eq_true c7
        clear c7
        obtain ⟨y399, hy399⟩ : ∃ y_ : List Int, y_ = (List.replicate ((l1.length : Int) : Int).toNat 0) := ⟨_, rfl⟩
        replace H : (bitset_Minus.l0 k l1 l2 y399 (y399.length : Int) 0) = some (r1, r2) := by first | (rw [hy399]; with_reducible exact H) | (have H2_ := (Option.bind_some _ _).symm.trans H; rw [hy399]; with_reducible exact H2_) | (have H2_ := (Option.bind_some _ _).symm.trans H; with_reducible exact H2_) | with_reducible exact H | (rw [hy399]; exact H) | exact H
        have Ny399 := Aside0.mk hy399
        clear hy399
        have H' := Aside0.mk H
        clear H
        go_enter Try.func64, Try.ntmps64
        go_wp2_with (first | ((with_reducible refine gate_callee (f := 69) rfl ?_); refine goesL_ (some 16) rfl rfl Try.func69 (by kernel_rfl) rfl #[.int .i64 a0, .slice A1 l1.length c1, .slice A2 l2.length c2] rfl (by (try simp only [List.map_toArray, List.map_cons, List.map_nil]); first | done | rfl) ?_; (with_reducible refine (bitset_both.calls k a0 _ _ l1 _ _ l2 t398 _ ?side1 ?side2 ?side3 ?side4 A4.out).mono ?_); (case side1 => repeat (first | exact HR1.out | (with_reducible refine Kd.C_alloc ?_ _) | (with_reducible refine Kd.C_drewN ?_ _) | (with_reducible refine Kd.C_drew ?_))); (case side2 => exact HC1.out); (case side3 => repeat (first | exact HR2.out | (with_reducible refine Kd.C_alloc ?_ _) | (with_reducible refine Kd.C_drewN ?_ _) | (with_reducible refine Kd.C_drew ?_))); (case side4 => exact HC2.out); rintro e w' ⟨rfl, ⟨nd, rfl⟩⟩; refine ⟨_, rfl, ?_⟩) | ((with_reducible refine gate_dst (N := 22) rfl ?_); refine Kd.R_make (Kd.int .u8) _ 5 rfl (N := 22) rfl 22 _ _ rfl (l1.length : Int) rfl rfl Try.underlying22 (.int .u8 0) 1 info5 rfl (by decide) (by omega) 0 (ok := fun _ => True) (okp := fun _ => True) rfl (fun _ hk => hk) trivial (of_decide_eq_true (by first | (with_reducible assumption) | assumption)) (Nat.le_trans (Nat.mul_le_mul_right _ (of_decide_eq_true (by first | (with_reducible assumption) | assumption) : (l1.length : Int).toNat ≤ 281474976710656)) (by omega)) (Below.refl _ _) (Nat.le_refl _) ?_; intro v400 w8 ho9 hb hg_ hnew_; clear hg_ hnew_; (first | rw [← Ny399.out] at ho9 | (simp only [Int.reduceToNat] at ho9; rw [← Ny399.out] at ho9)); have n0_ := Aside0.mk (Kd.R_lower ho9 (below_size (by repeat (first | (with_reducible first | exact HB.out | apply below_alloc | apply pw_below_drewN | apply below_drew1) | exact HB.out)))); have n1_ := Aside0.mk (below_step (by repeat (first | (with_reducible first | exact HB.out | apply below_alloc | apply pw_below_drewN | apply below_drew1) | exact HB.out)) hb); clear HB; have HO401 := n0_; have HB := n1_; clear n0_ n1_; clear hb ho9; obtain ⟨Ao10, co10, eo10⟩ := Kd.R_slice HO401.out; subst eo10))
        go_loopg [25] k (fun kq v23 w' => ∃ (x9_1 : List Int) (x23_1 : Int), v23 = .int .i64 x23_1 ∧ Aside0 (bitset_Minus.l0 kq l1 l2 x9_1 (y399.length : Int) x23_1 = some (r1, r2)) ∧ Aside0 (kq ≤ k) ∧ Aside0 (Kd.R (Kd.int .u8) 5 w' w.heap.size (fun _ => True) (.slice Ao10 y399.length co10) x9_1) ∧ Aside0 (Below w.heap.size w w'))
        case atStart => exact ⟨(y399), (0), (by first | rfl | (simp; done) | (simp [*]; done)), H', ⟨Nat.le_refl _⟩, ⟨by (with_reducible repeat (first | apply Kd.R_alloc | apply Kd.R_drewN | apply Kd.R_drew)); exact HO401.out⟩, ⟨by repeat (first | (with_reducible first | exact HB.out | apply below_alloc | apply pw_below_drewN | apply below_drew1) | exact HB.out)⟩⟩
        case round =>
          clear H'
          try clear c1
          try clear c2
          try clear p2
          try clear c4
          try clear c5
          try clear c5b0
          try clear c5b1
          try clear c6
          try clear c6b0
          try clear c6b1
          try clear c7
          try clear c7b0
          try clear c7b1
          obtain ⟨x9_1, x23_1, rfl, HA, HK1, HO_9, HB⟩ := hrel
          have hl9_1 := (Kd.R_reads' HO_9.out).1
          rw [hl9_1] at HO_9
          (try simp only [hl9_1])
          cases gk with
          | zero => exact absurd HA.out (by simp [bitset_Minus.l0])
          | succ k1 =>
            have H := HA.out
            clear HA
            simp only [bitset_Minus.l0] at H
            by_cases c11 : x23_1 < (y399.length : Int)
            · rw [if_pos c11] at H
              have c11b0 : decide (x23_1 < (y399.length : Int)) = true := decide_eq_true c11
              clear c11
              by_cases c12 : 0 ≤ x23_1
              · rw [if_pos c12] at H
                have c12b0 : decide (0 ≤ x23_1) = true := decide_eq_true c12
                clear c12
                by_cases c13 : x23_1 < (l1.length : Int)
                · rw [if_pos c13] at H
                  have c13b0 : decide (x23_1 < (l1.length : Int)) = true := decide_eq_true c13
                  clear c13
                  by_cases c14 : x23_1 < (l2.length : Int)
                  · rw [if_pos c14] at H
                    have c14b0 : decide (x23_1 < (l2.length : Int)) = true := decide_eq_true c14
                    clear c14
                    by_cases c15 : x23_1 < (x9_1.length : Int)
                    · rw [if_pos c15] at H
                      have c15b0 : decide (x23_1 < (x9_1.length : Int)) = true := decide_eq_true c15
                      clear c15
                      obtain ⟨y404, hy404⟩ : ∃ y_ : List Int, y_ = (x9_1.set (x23_1 : Int).toNat (Go.bits .andNot .u8 (rd l1 x23_1) (rd l2 x23_1))) := ⟨_, rfl⟩
                      replace H : (bitset_Minus.l0 k1 l1 l2 y404 (y399.length : Int) (wrap64 (x23_1 + 1))) = some (r1, r2) := by first | (rw [hy404]; with_reducible exact H) | (have H2_ := (Option.bind_some _ _).symm.trans H; rw [hy404]; with_reducible exact H2_) | (have H2_ := (Option.bind_some _ _).symm.trans H; with_reducible exact H2_) | with_reducible exact H | (rw [hy404]; exact H) | exact H
                      have Ny404 := Aside0.mk hy404
                      clear hy404
                      have H' := Aside0.mk H
                      clear H
                      try go_wp2
                      have n0_ := Aside0.mk (Kd.R_drew HO_9.out)
                      have n1_ := Aside0.mk (below_drew1 HB.out)
                      clear HO_9
                      clear HB
                      have HO_9 := n0_
                      have HB := n1_
                      clear n0_ n1_
                      have p402 : 0 ≤ (x23_1 : Int) := of_decide_eq_true (by first | (with_reducible assumption) | assumption)
                      have q402 : x23_1 < (l1.length : Int) := of_decide_eq_true (by first | (with_reducible assumption) | assumption)
                      obtain ⟨ad402, e402, hx402_0⟩ := Kd.at_int HR1.out x23_1 p402 q402
                      have hw402_0 := hx402_0
                      cases e402
                      replace hx402_0 := (HB.out.cell (World.block_lt_of_cell? w _ hx402_0)).trans hx402_0
                      replace p402 := eq_true p402
                      replace q402 := eq_true q402
                      have p403 : 0 ≤ (x23_1 : Int) := of_decide_eq_true (by first | (with_reducible assumption) | assumption)
                      have q403 : x23_1 < (l2.length : Int) := of_decide_eq_true (by first | (with_reducible assumption) | assumption)
                      obtain ⟨ad403, e403, hx403_0⟩ := Kd.at_int HR2.out x23_1 p403 q403
                      have hw403_0 := hx403_0
                      cases e403
                      replace hx403_0 := (HB.out.cell (World.block_lt_of_cell? w _ hx403_0)).trans hx403_0
                      replace p403 := eq_true p403
                      replace q403 := eq_true q403
                      have p16 : 0 ≤ (x23_1 : Int) := of_decide_eq_true (by first | (with_reducible assumption) | assumption)
                      have q16 : (x23_1 : Int) < ((x9_1.length : Int) : Int) := of_decide_eq_true (by first | (with_reducible assumption) | assumption)
                      obtain ⟨go16, co16, eo16, gb16, gl16, cl16, HG16⟩ := Kd.R_form HO_9.out (by omega)
                      (first | cases eo16 | (injection eo16 with ea_ en_ ec_; (first | subst ea_ | (injection ea_ with ea_; subst ea_)); subst ec_; clear en_))
                      have GB16 := Aside0.mk gb16
                      have GG16 := Aside0.mk HG16
                      clear gb16 gl16 HG16
                      obtain ⟨hx16_0, hf16_0⟩ := Kd.R_celln 0 HO_9.out (x23_1 : Int) p16 q16
                      replace p16 := eq_true p16
                      replace q16 := eq_true q16
                      have HP18 := Kd.R_putn HO_9.out (x23_1 : Int) (Go.bits .andNot .u8 (rd l1 x23_1) (rd l2 x23_1))
                      rw [← Ny404.out] at HP18
                      have HQ18 := Aside0.mk HP18
                      clear HP18
                      refine start_ (n := 14) (S := fun w' => w'.cell? (ad402.add (x23_1).toNat) = some (.int .u8 (rd l1 x23_1)) ∧ w'.cell? (ad403.add (x23_1).toNat) = some (.int .u8 (rd l2 x23_1))) (ds := [13]) #[false, false, false, false, false, false, false, false, false, false, false, false, false, false] (by kernel_rfl) rfl rfl ⟨((HB.out.cell (World.block_lt_of_cell? w _ hw402_0)).trans hw402_0), ((HB.out.cell (World.block_lt_of_cell? w _ hw403_0)).trans hw403_0)⟩ (fun hHeld => ?_)
                      generalize wr.drew = w17 at HO_9 HB GG16 HQ18 hf16_0 hx16_0 hx402_0 hx403_0 hHeld ⊢
                      refine pure_ (i := 0) (N := some 28) (v := ?_) (a' := ?_) #[true, false, false, false, false, false, false, false, false, false, false, false, false, false] rfl rfl (by kernel_rfl) (fun _ _ _ h => h) (Or.inl ⟨by rfl, ?_⟩) ?_ ?_
                      rotate_left
                      · intro w'
                        go_simp
                        with_reducible rfl
                      rotate_left
                      · simp only [Act.put, List.setIfInBounds_toArray, List.set_cons_zero, List.set_cons_succ, i64_w, i32_w]
                        rfl
                      refine pure_ (i := 1) (N := some 29) (v := ?_) (a' := ?_) #[true, true, false, false, false, false, false, false, false, false, false, false, false, false] rfl rfl (by kernel_rfl) (fun _ _ _ h => h) (Or.inl ⟨by rfl, ?_⟩) ?_ ?_
                      rotate_left
                      · intro w'
                        go_simp
                        with_reducible rfl
                      rotate_left
                      · simp only [Act.put, List.setIfInBounds_toArray, List.set_cons_zero, List.set_cons_succ, i64_w, i32_w]
                        rfl
                      refine pure_ (i := 2) (N := some 30) (v := ?_) (a' := ?_) #[true, true, true, false, false, false, false, false, false, false, false, false, false, false] rfl rfl (by kernel_rfl) (fun _ _ _ h => h) (Or.inl ⟨by rfl, ?_⟩) ?_ ?_
                      rotate_left
                      · intro w'
                        go_simp
                        with_reducible rfl
                      rotate_left
                      · simp only [Act.put, List.setIfInBounds_toArray, List.set_cons_zero, List.set_cons_succ, i64_w, i32_w]
                        rfl
                      refine pure_ (i := 3) (N := some 31) (v := ?_) (a' := ?_) #[true, true, true, true, false, false, false, false, false, false, false, false, false, false] rfl rfl (by kernel_rfl) (fun _ _ _ h => h) (Or.inl ⟨by rfl, ?_⟩) ?_ ?_
                      rotate_left
                      · intro w'
                        go_simp
                        with_reducible rfl
                      rotate_left
                      · simp only [Act.put, List.setIfInBounds_toArray, List.set_cons_zero, List.set_cons_succ, i64_w, i32_w]
                        rfl
                      refine pure_ (i := 4) (N := some 32) (v := ?_) (a' := ?_) #[true, true, true, true, true, false, false, false, false, false, false, false, false, false] rfl rfl (by kernel_rfl) (fun _ _ _ h => h) (Or.inl ⟨by rfl, ?_⟩) ?_ ?_
                      rotate_left
                      · intro w'
                        go_simp
                        with_reducible rfl
                      rotate_left
                      · simp only [Act.put, List.setIfInBounds_toArray, List.set_cons_zero, List.set_cons_succ, i64_w, i32_w]
                        rfl
                      refine pure_ (i := 5) (N := some 33) (v := ?_) (a' := ?_) #[true, true, true, true, true, true, false, false, false, false, false, false, false, false] rfl rfl (by kernel_rfl) (fun _ _ _ h => h) (Or.inl ⟨by rfl, ?_⟩) ?_ ?_
                      rotate_left
                      · intro w'
                        go_simp
                        with_reducible rfl
                      rotate_left
                      · simp only [Act.put, List.setIfInBounds_toArray, List.set_cons_zero, List.set_cons_succ, i64_w, i32_w]
                        rfl
                      refine pure_ (i := 7) (N := some 35) (v := ?_) (a' := ?_) #[true, true, true, true, true, true, false, true, false, false, false, false, false, false] rfl rfl (by kernel_rfl) (fun _ _ _ h => h) (Or.inl ⟨by rfl, ?_⟩) ?_ ?_
                      rotate_left
                      · intro w'
                        go_simp
                        with_reducible rfl
                      rotate_left
                      · simp only [Act.put, List.setIfInBounds_toArray, List.set_cons_zero, List.set_cons_succ, i64_w, i32_w]
                        rfl
                      refine pure_ (i := 8) (N := some 36) (v := ?_) (a' := ?_) #[true, true, true, true, true, true, false, true, true, false, false, false, false, false] rfl rfl (by kernel_rfl) (fun _ _ _ h => h) (Or.inl ⟨by rfl, ?_⟩) ?_ ?_
                      rotate_left
                      · intro w'
                        go_simp
                        with_reducible rfl
                      rotate_left
                      · simp only [Act.put, List.setIfInBounds_toArray, List.set_cons_zero, List.set_cons_succ, i64_w, i32_w]
                        rfl
                      refine pure_ (i := 9) (N := some 37) (v := ?_) (a' := ?_) #[true, true, true, true, true, true, false, true, true, true, false, false, false, false] rfl rfl (by kernel_rfl) (fun _ _ _ h => h) (Or.inl ⟨by rfl, ?_⟩) ?_ ?_
                      rotate_left
                      · intro w'
                        go_simp
                        with_reducible rfl
                      rotate_left
                      · simp only [Act.put, List.setIfInBounds_toArray, List.set_cons_zero, List.set_cons_succ, i64_w, i32_w]
                        rfl
                      refine take_ (i := 6) (N := some 34) (v := ?_) (a' := ?_) #[true, true, true, true, true, true, true, true, true, true, false, false, false, false] rfl rfl (by kernel_rfl) (fun _ _ _ h => h) (Or.inl ⟨by rfl, ?_⟩) hHeld ?_ ?_
                      rotate_left
                      · rintro w' ⟨s0, s1⟩
                        go_simp
                        with_reducible rfl
                      rotate_left
                      · simp only [Act.put, List.setIfInBounds_toArray, List.set_cons_zero, List.set_cons_succ, i64_w, i32_w]
                        rfl
                      refine take_ (i := 10) (N := some 38) (v := ?_) (a' := ?_) #[true, true, true, true, true, true, true, true, true, true, true, false, false, false] rfl rfl (by kernel_rfl) (fun _ _ _ h => h) (Or.inl ⟨by rfl, ?_⟩) hHeld ?_ ?_
                      rotate_left
                      · rintro w' ⟨s0, s1⟩
                        go_simp
                        with_reducible rfl
                      rotate_left
                      · simp only [Act.put, List.setIfInBounds_toArray, List.set_cons_zero, List.set_cons_succ, i64_w, i32_w]
                        rfl
                      refine one_ (i := 11) (N := some 39) #[true, true, true, true, true, true, true, true, true, true, true, true, false, false] rfl rfl (by kernel_rfl) (by decide) (fun K hK => ?_)
                      refine goes_val Try.func68 (by kernel_rfl) rfl #[.int .u8 (rd l1 x23_1), .int .u8 (rd l2 x23_1)] (by rfl) rfl rfl (by rfl) (by (try simp only [List.map_toArray, List.map_cons, List.map_nil]); first | done | rfl) ?_
                      with_reducible refine (minus_calls (rd l1 x23_1) (rd l2 x23_1) _).mono ?_
                      rintro e wq ⟨rfl, rfl⟩
                      refine ⟨_, rfl, ?_⟩
                      refine hK.out _ _ hHeld (fun hHeld => ?_)
                      clear hK K
                      refine norm_ (a' := ?_) ?_ ?_
                      rotate_left
                      · show Act.put _ (some 39) _ = _
                        simp only [Act.put, List.setIfInBounds_toArray, List.set_cons_zero, List.set_cons_succ, i64_w, i32_w]
                        rfl
                      refine pure_ (i := 12) (N := some 40) (v := ?_) (a' := ?_) #[true, true, true, true, true, true, true, true, true, true, true, true, true, false] rfl rfl (by kernel_rfl) (fun _ _ _ h => h) (Or.inl ⟨by rfl, ?_⟩) ?_ ?_
                      rotate_left
                      · intro w'
                        go_simp
                        with_reducible rfl
                      rotate_left
                      · simp only [Act.put, List.setIfInBounds_toArray, List.set_cons_zero, List.set_cons_succ, i64_w, i32_w]
                        rfl
                      refine last_ (i := 13) (N := none) #[true, true, true, true, true, true, true, true, true, true, true, true, true, true] rfl rfl (by kernel_rfl) (by decide) (fun K hK => ?_)
                      refine skip_ (w1 := ?_) (by rfl) rfl ?_ ?_
                      rotate_left
                      · go_simp
                        rfl
                      refine hK.out _ _ ?_
                      clear hK K
                      refine done_ (by kernel_rfl) ?_
                      try go_wp2
                      (try simp only [← hl9_1])
                      go_roundg k1
                      case measure => have := HK1.out; omega
                      case rel => exact ⟨(y404), (wrap64 (x23_1 + 1)), (by first | rfl | (simp; done) | (simp [*]; done)), H', ⟨by have := HK1.out; omega⟩, ⟨by (try simp only [hl9_1]); (with_reducible repeat (first | apply Kd.R_alloc | apply Kd.R_drewN | apply Kd.R_drew)); exact HQ18.out⟩, ⟨by repeat (first | (with_reducible first | exact HB.out | apply below_alloc | apply pw_below_drewN | apply below_drew1 | refine below_set ?_ GB16.out) | exact HB.out)⟩⟩
                    · rw [if_neg c15] at H
                      exact absurd H (by simp)
                  · rw [if_neg c14] at H
                    exact absurd H (by simp)
                · rw [if_neg c13] at H
                  exact absurd H (by simp)
              · rw [if_neg c12] at H
                exact absurd H (by simp)
            · rw [if_neg c11] at H
              have c11b0 : decide (x23_1 < (y399.length : Int)) = false := decide_eq_false c11
              rw [hl9_1] at c11b0
              clear c11
              simp only [Option.some.injEq, Prod.mk.injEq] at H
              obtain ⟨rfl, rfl⟩ := H
              go_wp2
              go_ret2
              exact ⟨_, by first | rfl | (simp [errW_none, errW_some] <;> rfl) | (simp [*, errW_none, errW_some] <;> rfl), by (with_reducible repeat (first | apply Kd.R_alloc | apply Kd.R_drewN | apply Kd.R_drew)); exact HO_9.out, by repeat (first | (with_reducible first | exact HB.out | apply below_alloc | apply pw_below_drewN | apply below_drew1) | exact HB.out)⟩
      · rw [if_neg c7] at H
        exact absurd H (by simp)
    · rw [if_neg c6] at H
      exact absurd H (by simp)
  · rw [if_neg c5] at H
    have c5b0 : (t398 == 0) = false := beq_eq_false_iff_ne.mpr c5
    have c5b1 : (t398 != 0) = true := bne_iff_ne.mpr c5
    simp only [Option.some.injEq, Prod.mk.injEq] at H
    obtain ⟨rfl, rfl⟩ := H
    go_enter Try.func64, Try.ntmps64
    go_wp2_with (first | ((with_reducible refine gate_callee (f := 69) rfl ?_); refine goesL_ (some 16) rfl rfl Try.func69 (by kernel_rfl) rfl #[.int .i64 a0, .slice A1 l1.length c1, .slice A2 l2.length c2] rfl (by (try simp only [List.map_toArray, List.map_cons, List.map_nil]); first | done | rfl) ?_; (with_reducible refine (bitset_both.calls k a0 _ _ l1 _ _ l2 t398 _ ?side1 ?side2 ?side3 ?side4 A4.out).mono ?_); (case side1 => repeat (first | exact HR1.out | (with_reducible refine Kd.C_alloc ?_ _) | (with_reducible refine Kd.C_drewN ?_ _) | (with_reducible refine Kd.C_drew ?_))); (case side2 => exact HC1.out); (case side3 => repeat (first | exact HR2.out | (with_reducible refine Kd.C_alloc ?_ _) | (with_reducible refine Kd.C_drewN ?_ _) | (with_reducible refine Kd.C_drew ?_))); (case side4 => exact HC2.out); rintro e w' ⟨rfl, ⟨nd, rfl⟩⟩; refine ⟨_, rfl, ?_⟩))
    go_ret2
    exact ⟨_, by first | rfl | (simp [errW_none, errW_some] <;> rfl) | (simp [*, errW_none, errW_some] <;> rfl), by first | exact Kd.R_nil _ _ _ _ _ | exact Kd.N_nil _ _ _ _ _ | exact Kd.V_nil _ _ _ _ _ | exact Kd.Q_nil _ _ _ _ _ | exact Kd.S_nil _ _ _ _ _, by repeat (first | (with_reducible first | exact HB.out | apply below_alloc | apply pw_below_drewN | apply below_drew1) | exact HB.out)⟩

set_option maxHeartbeats 4000000 in
set_option maxRecDepth 100000 in
theorem bitset_Minus.calls (k : Nat) (a0 : Int) (A1 : Option Addr) (c1 : Nat) (l1 : List Int) (A2 : Option Addr) (c2 : Nat) (l2 : List Int) (r1 : List Int) (r2 : Int) (w : World) (hr1 : Kd.C (Kd.int .u8) w A1 l1.length l1) (hc1 : l1.length ≤ c1) (hr2 : Kd.C (Kd.int .u8) w A2 l2.length l2) (hc2 : l2.length ≤ c2) (h : bitset_Minus.f k a0 l1 l2 = some (r1, r2)) :
    Calls Try.prog 42 #[.int .i64 a0, .slice A1 l1.length c1, .slice A2 l2.length c2] w fun e w' => ∃ v0_ : Value, e = .returned (.tuple #[v0_, .int .i64 r2]) ∧ Kd.R (Kd.int .u8) 5 w' w.heap.size (fun _ => True) v0_ r1 ∧ Below w.heap.size w w' := by
  go_enter Try.func42, Try.ntmps42
  go_wp2_with ((with_reducible refine gate_callee (f := 64) rfl ?_); refine goesL_ (some 11) rfl rfl Try.func64 (by kernel_rfl) rfl #[.int .i64 a0, .slice A1 l1.length c1, .slice A2 l2.length c2, .func (.func 68) #[] #[]] rfl (by (try simp only [List.map_toArray, List.map_cons, List.map_nil]); first | done | rfl) ?_; (with_reducible refine (bitset_Minus.merge k a0 A1 c1 l1 A2 c2 l2 r1 r2 _ hr1 hc1 hr2 hc2 h).mono ?_); rintro e w4 ⟨v4, rfl, ho, hb⟩; refine ⟨_, rfl, ?_⟩; have HO := Aside0.mk ho; have HB := Aside0.mk hb; clear ho hb)
  go_ret2
  exact ⟨_, rfl, HO.out, HB.out⟩

end Go.Proofs.Ytoohpdamndgdlaa.P


-- Made by a program of this session (the print of the kit over a neighbour), for this claim.
namespace Go.Proofs.Ytoohpdamndgdlaa.P
open Go.RowKit Go.Proofs.YtoohpdamndgdlaaW.PrintWords Go.Proofs.YtoohpdamndgdlaaW.PrintLast Go.Proofs.YtoohpdamndgdlaaW.PrintMore
attribute [local go_sem] max2_int min2_int max_two min_two max_three min_three max_four min_four   -- for this text's walks alone
set_option linter.unusedVariables false
set_option linter.unusedSimpArgs false

/-! ### bitset_Not: function 44 -/
def bitset_Not.f (k : Nat) (a0 : Int) (l1 : List Int) : Option (List Int × Int) := (bitset_Check.f k a0 l1).bind fun t409 => (if t409 = 0 then ((bitset_Full.f k a0).bind fun bt410 => ((bitset_Minus.f k a0 bt410.1 l1).bind fun bt414 => (some (bt414.1, bt414.2)))) else (some (([] : List Int), t409)))
set_option maxHeartbeats 8000000 in
set_option maxRecDepth 100000 in
theorem bitset_Not.calls (k : Nat) (a0 : Int) (A1 : Option Addr) (c1 : Nat) (l1 : List Int) (r1 : List Int) (r2 : Int) (w : World) (hr1 : Kd.C (Kd.int .u8) w A1 l1.length l1) (hc1 : l1.length ≤ c1) (h : bitset_Not.f k a0 l1 = some (r1, r2)) :
    Calls Try.prog 44 #[.int .i64 a0, .slice A1 l1.length c1] w fun e w' => ∃ v0_ : Value, e = .returned (.tuple #[v0_, .int .i64 r2]) ∧ Kd.R (Kd.int .u8) 5 w' w.heap.size (fun _ => True) v0_ r1 ∧ Below w.heap.size w w' := by
  have HR1 := Aside0.mk hr1
  have HC1 := Aside0.mk hc1
  clear hr1 hc1
  have HB := Aside0.mk (Below.refl w.heap.size w)
  have H : ((bitset_Check.f k a0 l1).bind fun t409 => (if t409 = 0 then ((bitset_Full.f k a0).bind fun bt410 => ((bitset_Minus.f k a0 bt410.1 l1).bind fun bt414 => (some (bt414.1, bt414.2)))) else (some (([] : List Int), t409)))) = some (r1, r2) := h
  clear h
  replace H := Option.bind_eq_some_iff.mp H
  obtain ⟨t409, A30, H⟩ := H
  replace H : (if t409 = 0 then ((bitset_Full.f k a0).bind fun bt410 => ((bitset_Minus.f k a0 bt410.1 l1).bind fun bt414 => (some (bt414.1, bt414.2)))) else (some (([] : List Int), t409))) = some (r1, r2) := H
  have A3 := Aside0.mk A30
  clear A30
  by_cases c4 : t409 = 0
  · rw [if_pos c4] at H
    have c4b0 : (t409 == 0) = true := beq_iff_eq.mpr c4
    have c4b1 : (t409 != 0) = false := bne_eq_false_iff_eq.mpr c4
    clear c4
    replace H := Option.bind_eq_some_iff.mp H
    obtain ⟨⟨t410, t411⟩, A50, H⟩ := H
    replace H : ((bitset_Minus.f k a0 t410 l1).bind fun bt414 => (some (bt414.1, bt414.2))) = some (r1, r2) := H
    have A5 := Aside0.mk A50
    clear A50
    replace H := Option.bind_eq_some_iff.mp H
    obtain ⟨⟨t414, t415⟩, A60, H⟩ := H
    replace H : (some (t414, t415)) = some (r1, r2) := H
    have A6 := Aside0.mk A60
    clear A60
    simp only [Option.some.injEq, Prod.mk.injEq] at H
    obtain ⟨rfl, rfl⟩ := H
    go_enter Try.func44, Try.ntmps44
    go_wp2_with (first | ((with_reducible refine gate_callee (f := 48) rfl ?_); refine goesL_ (some 11) rfl rfl Try.func48 (by kernel_rfl) rfl #[.int .i64 a0, .slice A1 l1.length c1] rfl (by (try simp only [List.map_toArray, List.map_cons, List.map_nil]); first | done | rfl) ?_; (with_reducible refine (bitset_Check.calls k a0 _ _ l1 t409 _ ?side1 ?side2 A3.out).mono ?_); (case side1 => repeat (first | exact HR1.out | (with_reducible refine Kd.C_alloc ?_ _) | (with_reducible refine Kd.C_drewN ?_ _) | (with_reducible refine Kd.C_drew ?_))); (case side2 => exact HC1.out); rintro e w' ⟨rfl, ⟨nd, rfl⟩⟩; refine ⟨_, rfl, ?_⟩) | ((with_reducible refine gate_callee (f := 18) rfl ?_); refine goesL_ (some 17) rfl rfl Try.func18 (by kernel_rfl) rfl #[.int .i64 a0] rfl (by (try simp only [List.map_toArray, List.map_cons, List.map_nil]); first | done | rfl) ?_; (with_reducible refine (bitset_Full.calls k a0 t410 t411 _ A5.out).mono ?_); rintro e w7 ⟨v412, rfl, ho0, hb⟩; refine ⟨_, rfl, ?_⟩; have n0_ := Aside0.mk (Kd.R_lower ho0 (below_size (by repeat (first | (with_reducible first | exact HB.out | apply below_alloc | apply pw_below_drewN | apply below_drew1) | exact HB.out)))); have n1_ := Aside0.mk (below_step (by repeat (first | (with_reducible first | exact HB.out | apply below_alloc | apply pw_below_drewN | apply below_drew1) | exact HB.out)) hb); clear HB; have HO413 := n0_; have HB := n1_; clear n0_ n1_; (try clear hb); (try clear ho0); obtain ⟨Ao8, co8, eo8⟩ := Kd.R_slice HO413.out; subst eo8) | ((with_reducible refine gate_callee (f := 42) rfl ?_); refine goesL_ (some 23) rfl rfl Try.func42 (by kernel_rfl) rfl #[.int .i64 a0, .slice Ao8 t410.length co8, .slice A1 l1.length c1] rfl (by (try simp only [List.map_toArray, List.map_cons, List.map_nil]); first | done | rfl) ?_; (with_reducible refine (bitset_Minus.calls k a0 _ _ t410 _ _ l1 t414 t415 _ ?side1 ?side2 ?side3 ?side4 A6.out).mono ?_); (case side1 => repeat (first | exact (Kd.R_reads' HO413.out).2.2 | (with_reducible refine Kd.C_alloc ?_ _) | (with_reducible refine Kd.C_drewN ?_ _) | (with_reducible refine Kd.C_drew ?_))); (case side2 => exact (Kd.R_reads' HO413.out).2.1); (case side3 => repeat (first | exact (Kd.C_below HR1.out HB.out) | (with_reducible refine Kd.C_alloc ?_ _) | (with_reducible refine Kd.C_drewN ?_ _) | (with_reducible refine Kd.C_drew ?_))); (case side4 => exact HC1.out); rintro e w9 ⟨v416, rfl, ho0, hb⟩; refine ⟨_, rfl, ?_⟩; have n0_ := Aside0.mk (Kd.R_elder' (by (with_reducible repeat (first | apply Kd.R_alloc | apply Kd.R_drewN | apply Kd.R_drew)); exact HO413.out) (Kd.R_base ho0) hb); have n1_ := Aside0.mk (Kd.R_lower (Kd.R_new' ho0 (Kd.R_lt (by (with_reducible repeat (first | apply Kd.R_alloc | apply Kd.R_drewN | apply Kd.R_drew)); exact HO413.out))) (below_size (by repeat (first | (with_reducible first | exact HB.out | apply below_alloc | apply pw_below_drewN | apply below_drew1) | exact HB.out)))); have n2_ := Aside0.mk (below_step (by repeat (first | (with_reducible first | exact HB.out | apply below_alloc | apply pw_below_drewN | apply below_drew1) | exact HB.out)) hb); clear HO413; clear HB; have HO413 := n0_; have HO417 := n1_; have HB := n2_; clear n0_ n1_ n2_; (try clear hb); (try clear ho0)))
    go_ret2
    exact ⟨_, by first | rfl | (simp [errW_none, errW_some] <;> rfl) | (simp [*, errW_none, errW_some] <;> rfl), by (with_reducible repeat (first | apply Kd.R_alloc | apply Kd.R_drewN | apply Kd.R_drew)); exact Kd.R_mono HO417.out (fun _ hk => trivial), by repeat (first | (with_reducible first | exact HB.out | apply below_alloc | apply pw_below_drewN | apply below_drew1) | exact HB.out)⟩
  · rw [if_neg c4] at H
    have c4b0 : (t409 == 0) = false := beq_eq_false_iff_ne.mpr c4
    have c4b1 : (t409 != 0) = true := bne_iff_ne.mpr c4
    simp only [Option.some.injEq, Prod.mk.injEq] at H
    obtain ⟨rfl, rfl⟩ := H
    go_enter Try.func44, Try.ntmps44
    go_wp2_with (first | ((with_reducible refine gate_callee (f := 48) rfl ?_); refine goesL_ (some 11) rfl rfl Try.func48 (by kernel_rfl) rfl #[.int .i64 a0, .slice A1 l1.length c1] rfl (by (try simp only [List.map_toArray, List.map_cons, List.map_nil]); first | done | rfl) ?_; (with_reducible refine (bitset_Check.calls k a0 _ _ l1 t409 _ ?side1 ?side2 A3.out).mono ?_); (case side1 => repeat (first | exact HR1.out | (with_reducible refine Kd.C_alloc ?_ _) | (with_reducible refine Kd.C_drewN ?_ _) | (with_reducible refine Kd.C_drew ?_))); (case side2 => exact HC1.out); rintro e w' ⟨rfl, ⟨nd, rfl⟩⟩; refine ⟨_, rfl, ?_⟩))
    go_ret2
    exact ⟨_, by first | rfl | (simp [errW_none, errW_some] <;> rfl) | (simp [*, errW_none, errW_some] <;> rfl), by first | exact Kd.R_nil _ _ _ _ _ | exact Kd.N_nil _ _ _ _ _ | exact Kd.V_nil _ _ _ _ _ | exact Kd.Q_nil _ _ _ _ _ | exact Kd.S_nil _ _ _ _ _, by repeat (first | (with_reducible first | exact HB.out | apply below_alloc | apply pw_below_drewN | apply below_drew1) | exact HB.out)⟩

end Go.Proofs.Ytoohpdamndgdlaa.P


-- Made by a program of this session (the print of the kit over a neighbour), for this claim.
namespace Go.Proofs.Ytoohpdamndgdlaa.P
open Go.RowKit Go.Proofs.YtoohpdamndgdlaaW.PrintWords Go.Proofs.YtoohpdamndgdlaaW.PrintLast Go.Proofs.YtoohpdamndgdlaaW.PrintMore
attribute [local go_sem] max2_int min2_int max_two min_two max_three min_three max_four min_four   -- for this text's walks alone
set_option linter.unusedVariables false
set_option linter.unusedSimpArgs false

/-! ### bitset_Covers: function 46 -/
def bitset_Covers.l0 : Nat → List Int → List Int → Int → Int → Option (Bool × Int)
  | 0, _, _, _, _ => none
  | k + 1, x1, x2, x18, x19 => if x19 < x18 then (if 0 ≤ x19 then (if x19 < (x2.length : Int) then (if x19 < (x1.length : Int) then (if (Go.bits .andNot .u8 (rd x2 x19) (rd x1 x19)) = 0 then (bitset_Covers.l0 k x1 x2 x18 (wrap64 (x19 + 1))) else (some (false, 0))) else (none)) else (none)) else (none)) else (some (true, 0))
def bitset_Covers.f (k : Nat) (a0 : Int) (l1 : List Int) (l2 : List Int) : Option (Bool × Int) := (bitset_both.f k a0 l1 l2).bind fun t429 => (if t429 = 0 then (bitset_Covers.l0 k l1 l2 (l2.length : Int) 0) else (some (false, t429)))
set_option maxHeartbeats 8000000 in
set_option maxRecDepth 100000 in
theorem bitset_Covers.calls (k : Nat) (a0 : Int) (A1 : Option Addr) (c1 : Nat) (l1 : List Int) (A2 : Option Addr) (c2 : Nat) (l2 : List Int) (r1 : Bool) (r2 : Int) (w : World) (hr1 : Kd.C (Kd.int .u8) w A1 l1.length l1) (hc1 : l1.length ≤ c1) (hr2 : Kd.C (Kd.int .u8) w A2 l2.length l2) (hc2 : l2.length ≤ c2) (h : bitset_Covers.f k a0 l1 l2 = some (r1, r2)) :
    Calls Try.prog 46 #[.int .i64 a0, .slice A1 l1.length c1, .slice A2 l2.length c2] w fun e w' => e = .returned (.tuple #[.bool r1, .int .i64 r2]) ∧ Drawn0 w w' := by
  have HR1 := Aside0.mk hr1
  have HC1 := Aside0.mk hc1
  clear hr1 hc1
  have HR2 := Aside0.mk hr2
  have HC2 := Aside0.mk hc2
  clear hr2 hc2
  have H : ((bitset_both.f k a0 l1 l2).bind fun t429 => (if t429 = 0 then (bitset_Covers.l0 k l1 l2 (l2.length : Int) 0) else (some (false, t429)))) = some (r1, r2) := h
  clear h
  replace H := Option.bind_eq_some_iff.mp H
  obtain ⟨t429, A40, H⟩ := H
  replace H : (if t429 = 0 then (bitset_Covers.l0 k l1 l2 (l2.length : Int) 0) else (some (false, t429))) = some (r1, r2) := H
  have A4 := Aside0.mk A40
  clear A40
  by_cases c5 : t429 = 0
  · rw [if_pos c5] at H
    have c5b0 : (t429 == 0) = true := beq_iff_eq.mpr c5
    have c5b1 : (t429 != 0) = false := bne_eq_false_iff_eq.mpr c5
    clear c5
    have H' := Aside0.mk H
    clear H
    go_enter Try.func46, Try.ntmps46
    go_wp2_with (first | (go_at_call 69; (with_reducible refine (bitset_both.calls k a0 _ _ l1 _ _ l2 t429 _ ?side1 ?side2 ?side3 ?side4 A4.out).mono ?_); (case side1 => exact HR1.out); (case side2 => exact HC1.out); (case side3 => exact HR2.out); (case side4 => exact HC2.out); rintro e w' ⟨rfl, ⟨nd, rfl⟩⟩; (try first | exact ⟨rfl, _, World.drewN_drewN _ _ _⟩ | exact ⟨rfl, _, Eq.trans (World.drewN_drewN _ _ _) (congrArg (World.drewN _) (Nat.add_assoc _ _ _))⟩)))
    repeat (go_quiet (first | (go_at_call 69; (with_reducible refine (bitset_both.calls k a0 _ _ l1 _ _ l2 t429 _ ?side1 ?side2 ?side3 ?side4 A4.out).mono ?_); (case side1 => exact HR1.out); (case side2 => exact HC1.out); (case side3 => exact HR2.out); (case side4 => exact HC2.out); rintro e w' ⟨rfl, ⟨nd, rfl⟩⟩; (try first | exact ⟨rfl, _, World.drewN_drewN _ _ _⟩ | exact ⟨rfl, _, Eq.trans (World.drewN_drewN _ _ _) (congrArg (World.drewN _) (Nat.add_assoc _ _ _))⟩))); try go_wp2_with (first | (go_at_call 69; (with_reducible refine (bitset_both.calls k a0 _ _ l1 _ _ l2 t429 _ ?side1 ?side2 ?side3 ?side4 A4.out).mono ?_); (case side1 => exact HR1.out); (case side2 => exact HC1.out); (case side3 => exact HR2.out); (case side4 => exact HC2.out); rintro e w' ⟨rfl, ⟨nd, rfl⟩⟩; (try first | exact ⟨rfl, _, World.drewN_drewN _ _ _⟩ | exact ⟨rfl, _, Eq.trans (World.drewN_drewN _ _ _) (congrArg (World.drewN _) (Nat.add_assoc _ _ _))⟩))))
    go_loopg [19] k (fun kq v19 w' => ∃ (x19_1 : Int), v19 = .int .i64 x19_1 ∧ Aside0 (bitset_Covers.l0 kq l1 l2 (l2.length : Int) x19_1 = some (r1, r2)) ∧ Aside0 (kq ≤ k) ∧ Drawn0 w w')
    case atStart => exact ⟨(0), (by first | rfl | (simp; done) | (simp [*]; done)), H', ⟨Nat.le_refl _⟩, by repeat (first | exact Drawn0.refl _ | apply Drawn0.step)⟩
    case round =>
      clear H'
      try clear c1
      try clear c2
      try clear p2
      try clear c4
      try clear c5
      try clear c5b0
      try clear c5b1
      obtain ⟨x19_1, rfl, HA, HK1, ⟨m1, rfl⟩⟩ := hrel
      cases gk with
      | zero => exact absurd HA.out (by simp [bitset_Covers.l0])
      | succ k1 =>
        have H := HA.out
        clear HA
        simp only [bitset_Covers.l0] at H
        by_cases c6 : x19_1 < (l2.length : Int)
        · rw [if_pos c6] at H
          have c6b0 : decide (x19_1 < (l2.length : Int)) = true := decide_eq_true c6
          clear c6
          by_cases c7 : 0 ≤ x19_1
          · rw [if_pos c7] at H
            have c7b0 : decide (0 ≤ x19_1) = true := decide_eq_true c7
            clear c7
            by_cases c8 : x19_1 < (l2.length : Int)
            · rw [if_pos c8] at H
              have c8b0 : decide (x19_1 < (l2.length : Int)) = true := decide_eq_true c8
              clear c8
              by_cases c9 : x19_1 < (l1.length : Int)
              · rw [if_pos c9] at H
                have c9b0 : decide (x19_1 < (l1.length : Int)) = true := decide_eq_true c9
                clear c9
                by_cases c10 : (Go.bits .andNot .u8 (rd l2 x19_1) (rd l1 x19_1)) = 0
                · rw [if_pos c10] at H
                  have c10b0 : ((Go.bits .andNot .u8 (rd l2 x19_1) (rd l1 x19_1)) == 0) = true := beq_iff_eq.mpr c10
                  have c10b1 : ((Go.bits .andNot .u8 (rd l2 x19_1) (rd l1 x19_1)) != 0) = false := bne_eq_false_iff_eq.mpr c10
                  clear c10
                  have H' := Aside0.mk H
                  clear H
                  have p430 : 0 ≤ (x19_1 : Int) := of_decide_eq_true (by first | (with_reducible assumption) | assumption)
                  have q430 : x19_1 < (l2.length : Int) := of_decide_eq_true (by first | (with_reducible assumption) | assumption)
                  obtain ⟨ad430, e430, hx430_0⟩ := Kd.at_int HR2.out x19_1 p430 q430
                  cases e430
                  replace p430 := eq_true p430
                  replace q430 := eq_true q430
                  have p431 : 0 ≤ (x19_1 : Int) := of_decide_eq_true (by first | (with_reducible assumption) | assumption)
                  have q431 : x19_1 < (l1.length : Int) := of_decide_eq_true (by first | (with_reducible assumption) | assumption)
                  obtain ⟨ad431, e431, hx431_0⟩ := Kd.at_int HR1.out x19_1 p431 q431
                  cases e431
                  replace p431 := eq_true p431
                  replace q431 := eq_true q431
                  go_wp2
                  repeat (go_quiet (fail); try go_wp2)
                  go_roundg k1
                  case measure => have := HK1.out; omega
                  case rel => exact ⟨(wrap64 (x19_1 + 1)), (by first | rfl | (simp; done) | (simp [*]; done)), H', ⟨by have := HK1.out; omega⟩, by repeat (first | exact Drawn0.refl _ | apply Drawn0.step)⟩
                · rw [if_neg c10] at H
                  have c10b0 : ((Go.bits .andNot .u8 (rd l2 x19_1) (rd l1 x19_1)) == 0) = false := beq_eq_false_iff_ne.mpr c10
                  have c10b1 : ((Go.bits .andNot .u8 (rd l2 x19_1) (rd l1 x19_1)) != 0) = true := bne_iff_ne.mpr c10
                  simp only [Option.some.injEq, Prod.mk.injEq] at H
                  obtain ⟨rfl, rfl⟩ := H
                  have p430 : 0 ≤ (x19_1 : Int) := of_decide_eq_true (by first | (with_reducible assumption) | assumption)
                  have q430 : x19_1 < (l2.length : Int) := of_decide_eq_true (by first | (with_reducible assumption) | assumption)
                  obtain ⟨ad430, e430, hx430_0⟩ := Kd.at_int HR2.out x19_1 p430 q430
                  cases e430
                  replace p430 := eq_true p430
                  replace q430 := eq_true q430
                  have p431 : 0 ≤ (x19_1 : Int) := of_decide_eq_true (by first | (with_reducible assumption) | assumption)
                  have q431 : x19_1 < (l1.length : Int) := of_decide_eq_true (by first | (with_reducible assumption) | assumption)
                  obtain ⟨ad431, e431, hx431_0⟩ := Kd.at_int HR1.out x19_1 p431 q431
                  cases e431
                  replace p431 := eq_true p431
                  replace q431 := eq_true q431
                  go_wp2
                  repeat (go_quiet (fail); try go_wp2)
                  go_ret2
                  exact ⟨by first | rfl | (simp; done) | (simp [*]; done), by repeat (first | exact Drawn0.refl _ | apply Drawn0.step)⟩
              · rw [if_neg c9] at H
                exact absurd H (by simp)
            · rw [if_neg c8] at H
              exact absurd H (by simp)
          · rw [if_neg c7] at H
            exact absurd H (by simp)
        · rw [if_neg c6] at H
          have c6b0 : decide (x19_1 < (l2.length : Int)) = false := decide_eq_false c6
          clear c6
          simp only [Option.some.injEq, Prod.mk.injEq] at H
          obtain ⟨rfl, rfl⟩ := H
          go_wp2
          repeat (go_quiet (fail); try go_wp2)
          go_ret2
          exact ⟨by first | rfl | (simp; done) | (simp [*]; done), by repeat (first | exact Drawn0.refl _ | apply Drawn0.step)⟩
  · rw [if_neg c5] at H
    have c5b0 : (t429 == 0) = false := beq_eq_false_iff_ne.mpr c5
    have c5b1 : (t429 != 0) = true := bne_iff_ne.mpr c5
    simp only [Option.some.injEq, Prod.mk.injEq] at H
    obtain ⟨rfl, rfl⟩ := H
    go_enter Try.func46, Try.ntmps46
    go_wp2_with (first | (go_at_call 69; (with_reducible refine (bitset_both.calls k a0 _ _ l1 _ _ l2 t429 _ ?side1 ?side2 ?side3 ?side4 A4.out).mono ?_); (case side1 => exact HR1.out); (case side2 => exact HC1.out); (case side3 => exact HR2.out); (case side4 => exact HC2.out); rintro e w' ⟨rfl, ⟨nd, rfl⟩⟩; (try first | exact ⟨rfl, _, World.drewN_drewN _ _ _⟩ | exact ⟨rfl, _, Eq.trans (World.drewN_drewN _ _ _) (congrArg (World.drewN _) (Nat.add_assoc _ _ _))⟩)))
    repeat (go_quiet (first | (go_at_call 69; (with_reducible refine (bitset_both.calls k a0 _ _ l1 _ _ l2 t429 _ ?side1 ?side2 ?side3 ?side4 A4.out).mono ?_); (case side1 => exact HR1.out); (case side2 => exact HC1.out); (case side3 => exact HR2.out); (case side4 => exact HC2.out); rintro e w' ⟨rfl, ⟨nd, rfl⟩⟩; (try first | exact ⟨rfl, _, World.drewN_drewN _ _ _⟩ | exact ⟨rfl, _, Eq.trans (World.drewN_drewN _ _ _) (congrArg (World.drewN _) (Nat.add_assoc _ _ _))⟩))); try go_wp2_with (first | (go_at_call 69; (with_reducible refine (bitset_both.calls k a0 _ _ l1 _ _ l2 t429 _ ?side1 ?side2 ?side3 ?side4 A4.out).mono ?_); (case side1 => exact HR1.out); (case side2 => exact HC1.out); (case side3 => exact HR2.out); (case side4 => exact HC2.out); rintro e w' ⟨rfl, ⟨nd, rfl⟩⟩; (try first | exact ⟨rfl, _, World.drewN_drewN _ _ _⟩ | exact ⟨rfl, _, Eq.trans (World.drewN_drewN _ _ _) (congrArg (World.drewN _) (Nat.add_assoc _ _ _))⟩))))
    go_ret2
    exact ⟨by first | rfl | (simp; done) | (simp [*]; done), by repeat (first | exact Drawn0.refl _ | apply Drawn0.step)⟩

end Go.Proofs.Ytoohpdamndgdlaa.P


/- bitset.Walk's iterator: it yields the places of the set bits, rising, and stops where a round says 'no more'. Conditions: at most 65536 bits, the bytes reach. -/
namespace Go.Proofs.Ytoohpdamndgdlaa.P
open Go.RowKit Go.Proofs.YtoohpdamndgdlaaW.PrintWords Go.Proofs.YtoohpdamndgdlaaW.PrintMore Go.Proofs.Ytoohpdamndgdlaa.B
attribute [local go_sem] Oper.semAt_some

/-- Is the bit set, as the program asks it? (Whatever numbers the list holds.) -/
def hit (xs : List Int) (k : Nat) : Bool := Go.bits .and .u8 (xs.getD (k / 8) 0) (mk8 (k % 8)) != 0
/-- The places below k of the set bits. -/
def onesTo (xs : List Int) (k : Nat) : List Int := ((List.range k).filter (hit xs)).map (fun i : Nat => (i : Int))
theorem onesTo_hit {xs : List Int} {k : Nat} (h : hit xs k = true) : onesTo xs (k + 1) = onesTo xs k ++ [(k : Int)] := by simp [onesTo, List.range_succ, h]
theorem onesTo_miss {xs : List Int} {k : Nat} (h : hit xs k = false) : onesTo xs (k + 1) = onesTo xs k := by simp [onesTo, List.range_succ, h]
theorem onesTo_length (xs : List Int) (k : Nat) : (onesTo xs k).length ≤ k := by
  unfold onesTo
  rw [List.length_map]
  exact Nat.le_trans (List.length_filter_le _ _) (by simp)
theorem onesTo_prefix (xs : List Int) {j k : Nat} (h : j ≤ k) : onesTo xs j <+: onesTo xs k := by
  obtain ⟨d, rfl⟩ := Nat.exists_eq_add_of_le h
  induction d with
  | zero => exact List.prefix_refl _
  | succ d ih =>
    refine (ih (by omega)).trans ?_
    cases hb : hit xs (j + d) with
    | true => rw [← Nat.add_assoc, onesTo_hit hb]; exact List.prefix_append _ _
    | false => rw [← Nat.add_assoc, onesTo_miss hb]; exact List.prefix_refl _
theorem onesTo_length_lt (xs : List Int) {k n : Nat} (h : k < n) (hb : hit xs k = true) : (onesTo xs k).length < (onesTo xs n).length := by
  have := (onesTo_prefix xs (show k + 1 ≤ n by omega)).length_le
  rw [onesTo_hit hb, List.length_append] at this
  simp at this
  omega

/-- The blocks from lo on, below hi, are as they were. -/
def Keeps (lo hi : Nat) (W W' : World) : Prop := ∀ b, lo ≤ b → b < hi → W'.heap[b]? = W.heap[b]?
theorem Keeps.refl (lo hi : Nat) (W : World) : Keeps lo hi W W := fun _ _ _ => rfl
theorem Keeps.trans {lo hi : Nat} {A B C : World} (h : Keeps lo hi A B) (k : Keeps lo hi B C) : Keeps lo hi A C := fun b h1 h2 => (k b h1 h2).trans (h b h1 h2)
theorem Keeps.of_below {lo hi B : Nat} {W W' : World} (h : Below B W W') (hB : hi ≤ B) : Keeps lo hi W W' := fun b _ h2 => h.block b (by omega)
theorem Keeps.drew (lo hi : Nat) (W : World) : Keeps lo hi W W.drew := fun _ _ _ => rfl
theorem Keeps.cell {lo hi : Nat} {W W' : World} (h : Keeps lo hi W W') {b o : Nat} (h1 : lo ≤ b) (h2 : b < hi) : W'.cell? ⟨b, o, none⟩ = W.cell? ⟨b, o, none⟩ := by
  simp only [World.cell?, h b h1 h2]
theorem Keeps.size {lo hi : Nat} {W W' : World} (h : Keeps lo hi W W') (hl : lo < hi) (hs : hi ≤ W.heap.size) : hi ≤ W'.heap.size := by
  have e := h (hi - 1) (by omega) (by omega)
  rw [Array.getElem?_eq_getElem (show hi - 1 < W.heap.size by omega)] at e
  have := (Array.getElem?_eq_some_iff.1 e).1
  omega
theorem Keeps.putObj (lo hi : Nat) (W : World) (l : Nat) (o : Obj) (h : hi ≤ l) : Keeps lo hi W (W.putObj l o) := fun b _ h2 => World.putObj_heap_other (by omega)

set_option maxRecDepth 100000 in
set_option maxHeartbeats 4000000 in
theorem walk2_in (m : Nat) (hm : 1 ≤ m) (l Bn Bo lo hi g cap n : Nat) (xs : List Int) (hn : n ≤ 65536) (hlen : n ≤ 8 * xs.length) (J Jx : List Int → World → Prop)
    (hJ : ∀ s W W', J s W → W.grownBy W' none → J s W')
    (hY : ∀ pre x W, J pre W → pre.length < (onesTo xs n).length → YieldAt Fence.wide (m - 1) Try.prog l #[.int .i64 x] W fun e W' =>
      (e = .returned (.bool true) ∧ J (pre ++ [x]) W' ∧ Keeps lo hi W W') ∨ (e = .returned (.bool false) ∧ Jx (pre ++ [x]) W'))
    (W : World) (hn0 : hi ≤ W.heap.size) (hBo : lo ≤ Bo ∧ Bo < hi) (hg : 0 < n → lo ≤ g ∧ g < hi) (hcn : W.cell? ⟨Bn, 0, none⟩ = some (.int .i64 n)) (hco : 0 < n → W.cell? ⟨Bo, 0, none⟩ = some (.slice (some ⟨g, 0, none⟩) xs.length cap))
    (hc : 0 < n → ∀ j, j < xs.length → W.cell? ⟨g, j, none⟩ = some (.int .u8 (xs.getD j 0))) (h0 : J [] W) :
    CallsIn Fence.wide m Try.prog 62 #[.func (.yield l) #[] #[], .pointer (some ⟨Bn, 0, none⟩), .pointer (some ⟨Bo, 0, none⟩)] W fun e W' => (∃ v, e = .returned v) ∧
      ((∃ ys, ys = onesTo xs n ∧ J ys W') ∨ (∃ pre, pre <+: onesTo xs n ∧ Jx pre W')) := by
  refine callsIn_of_wp Try.func62 rfl trivial ?_ rfl
  simp only [Try.ntmps62, List.size_toArray, List.length_cons, List.length_nil, Nat.reduceAdd, Nat.reduceSub, Array.replicate_succ, Array.replicate_zero, List.push_toArray, List.append_toArray, List.nil_append, List.cons_append]
  gi_wp2
  gi_loopw [6] (fun i wr => ∃ k : Nat, k ≤ n ∧ i = .int .i64 k ∧ J (onesTo xs k) wr ∧ Keeps lo hi W wr)
    (fun i _ => n - (intOf i).toNat)
  case atStart => exact ⟨0, Nat.zero_le _, rfl, by simpa [onesTo] using h0, Keeps.refl _ _ _⟩
  case round =>
    obtain ⟨k, hk, rfl, hJs, hnx⟩ := hrel
    by_cases hlt : k < n
    · have hco1 : wr.cell? ⟨Bo, 0, none⟩ = some (.slice (some ⟨g, 0, none⟩) xs.length cap) := (hnx.cell hBo.1 hBo.2).trans (hco (by omega))
      obtain ⟨y, hy⟩ : ∃ y : Int, xs.getD (k / 8) 0 = y := ⟨_, rfl⟩
      have hc1 : wr.cell? ⟨g, k / 8, none⟩ = some (.int .u8 y) := by rw [← hy]; exact (hnx.cell (hg (by omega)).1 (hg (by omega)).2).trans (hc (by omega) (k / 8) (by omega))
      have hand : (Go.bits .and .u8 (xs.getD (k / 8) 0) (mk8 (k % 8)) != 0) = hit xs k := rfl
      rw [hy] at hand
      have HY := Lib.hid hy
      clear hy hc hcn hco h0
      have hmk : ∀ W1 : World, (Instr.index 68 maskV (.int .i64 ((k : Int) % 8))).run Try.prog W1 = .ok (.int .u8 (mk8 (k % 8))) W1 := by
        have e : (k : Int) % 8 = ((k % 8 : Nat) : Int) := by omega
        rw [e, ← shr_mask _ (Nat.mod_lt _ (by decide))]
        exact mask_at _ (by omega) (by omega)
      have hq1 : IntKind.i64.wrap ((k : Int) / 8) = (k : Int) / 8 := by rw [IntWalk.i64_left, w64 _ (by omega) (by omega)]
      have hq3 : (0 : Int) ≤ (k : Int) / 8 := by omega
      have hq4 : (k : Int) / 8 < (xs.length : Int) := by omega
      have hq5 : ((k : Int) / 8).toNat = k / 8 := by omega
      have hmk2 : ∀ W1 : World, (Instr.index 68 maskV (.int .i64 (Int.tmod (k : Int) 8))).run Try.prog W1 = .ok (.int .u8 (mk8 (k % 8))) W1 := by
        intro W1
        rw [show Int.tmod (k : Int) 8 = (k : Int) % 8 from Int.tmod_eq_emod_of_nonneg (by omega)]
        exact hmk W1
      have HS := Lib.hid (hnx.size (by omega) hn0)
      have hlo : Bo < wr.heap.size := World.block_lt_of_cell? wr ⟨Bo, 0, none⟩ hco1
      have hlg : g < wr.heap.size := World.block_lt_of_cell? wr ⟨g, k / 8, none⟩ hc1
      have hJd : J (onesTo xs k) wr.drew := hJ _ _ _ hJs ⟨rfl, rfl, rfl, Nat.le_refl _, fun _ _ _ => rfl⟩
      have hmo : Try.prog.follows .mixedOrders = true := by kernel_rfl
      clear hg
      cases hb : hit xs k with
      | true =>
        rw [hb] at hand
        have HB := Lib.hid hb
        clear hb
        have HT := Lib.hid (onesTo_length_lt xs hlt HB.out)
        gi_wp2
        gi_region_with_o (first | (refine ⟨trivial, ?_⟩; gi_at_call 58; refine (callsIn_wide.2 (masks_calls _)).mono ?_; rintro e w1 ⟨rfl, hb1⟩; have hco2 := (hb1.cell (p := ⟨Bo, 0, none⟩) hlo).trans hco1; have hc2 := (hb1.cell (p := ⟨g, k / 8, none⟩) hlg).trans hc1; have hJ1 := hJ _ _ _ hJd (grown_of_below hb1 none); obtain ⟨fn, tmps, assign, body, hy, hR⟩ := hY _ (k : Int) w1 hJ1 HT.out; have HR2 := hR.mono (R' := fun e W' => ∃ b : Bool, e = .returned (.bool b) ∧ ((b = true ∧ J (onesTo xs k ++ [(k : Int)]) W' ∧ Keeps lo hi w1 W') ∨ (b = false ∧ Jx (onesTo xs k ++ [(k : Int)]) W'))) (fun e W' h => h.elim (fun h => ⟨true, h.1, .inl ⟨rfl, h.2⟩⟩) (fun h => ⟨false, h.1, .inr ⟨rfl, h.2⟩⟩))) | (refine HR2.mono ?_; rintro e W3 ⟨b, rfl, hd⟩))
        all_goals
          have hB1 : Keeps lo hi W w1 := hnx.trans ((Keeps.drew lo hi wr).trans (Keeps.of_below hb1 HS.out))
          rcases hd with ⟨rfl, hJ3, hk3⟩ | ⟨rfl, hJx3⟩
          · gi_wp2
            go_roundw
            case rel => exact ⟨k + 1, by omega, by go_num, by rw [onesTo_hit HB.out]; exact hJ3, hB1.trans hk3⟩
            case measure => simp [intOf]; omega
          · gi_wp2
            refine bodyPost_ret (results_none rfl _ _ _) rfl ?_
            exact ⟨⟨_, rfl⟩, .inr ⟨_, by rw [← onesTo_hit HB.out]; exact onesTo_prefix xs (by omega), hJx3⟩⟩
      | false =>
        rw [hb] at hand
        have HB := Lib.hid hb
        clear hb
        gi_wp2
        first | (gi_region_with_o (first | (refine ⟨trivial, ?_⟩; gi_at_call 58; refine (callsIn_wide.2 (masks_calls _)).mono ?_; rintro e w1 ⟨rfl, hb1⟩; have hco2 := (hb1.cell (p := ⟨Bo, 0, none⟩) hlo).trans hco1; have hc2 := (hb1.cell (p := ⟨g, k / 8, none⟩) hlg).trans hc1; have hJ1 := hJ _ _ _ hJd (grown_of_below hb1 none)) | (refine ⟨fun _ h => (by cases h), ?_⟩; gi_wp2))) | (fail "no")
        all_goals
          have hB1 : Keeps lo hi W w1 := hnx.trans ((Keeps.drew lo hi wr).trans (Keeps.of_below hb1 HS.out))
          gi_wp2
          go_roundw
          case rel => exact ⟨k + 1, by omega, by go_num, by rw [onesTo_miss HB.out]; exact hJ1, hB1⟩
          case measure => simp [intOf]; omega
    · obtain rfl : k = n := by omega
      gi_wp2
      go_end0
      exact ⟨⟨_, rfl⟩, .inl ⟨_, rfl, hJs⟩⟩
end Go.Proofs.Ytoohpdamndgdlaa.P


/- The call of bitset.Walk: what it hands back, where Check is content and where it is not. Condition: at most 8192 bytes. -/
set_option linter.unusedVariables false
namespace Go.Proofs.Ytoohpdamndgdlaa.P
open Go.RowKit Go.Proofs.YtoohpdamndgdlaaW.PrintWords Go.Proofs.YtoohpdamndgdlaaW.PrintLast Go.Proofs.YtoohpdamndgdlaaW.PrintMore Go.Proofs.Ytoohpdamndgdlaa.B

/-- What Walk hands back, where Check is content. -/
def WalkGives (n : Int) (l1 : List Int) (w : World) (e : Ending) (w' : World) : Prop :=
  ∃ Bn Bo v, e = .returned (.func (.func 62) #[] #[.pointer (some ⟨Bn, 0, none⟩), .pointer (some ⟨Bo, 0, none⟩)]) ∧ (w.heap.size ≤ Bn ∧ Bn < w'.heap.size) ∧ (w.heap.size ≤ Bo ∧ Bo < w'.heap.size) ∧ w'.cell? ⟨Bn, 0, none⟩ = some (.int .i64 n) ∧ w'.cell? ⟨Bo, 0, none⟩ = some v ∧ Kd.R (Kd.int .u8) 5 w' w.heap.size (fun _ => True) v l1 ∧ Below w.heap.size w w'

set_option maxRecDepth 100000 in
set_option maxHeartbeats 4000000 in
theorem walk_ok (k : Nat) (a0 : Int) (A1 : Option Addr) (c1 : Nat) (l1 : List Int) (w : World) (hr1 : Kd.C (Kd.int .u8) w A1 l1.length l1) (hc1 : l1.length ≤ c1) (h : bitset_Check.f k a0 l1 = some 0) (hl : l1.length ≤ 8192) :
    Calls Try.prog 25 #[.int .i64 a0, .slice A1 l1.length c1] w (WalkGives a0 l1 w) := by
  have HR1 := Aside0.mk hr1
  have HC1 := Aside0.mk hc1
  have HK := Aside0.mk h
  have HL := Aside0.mk hl
  clear hr1 hc1 h hl
  have HB := Aside0.mk ((Below.refl w.heap.size w).alloc (Nat.le_refl _) (.cells #[.int .i64 a0] 3))
  go_enter Try.func25, Try.ntmps25
  go_wp2_with (first | ((with_reducible refine gate_callee (f := 48) rfl ?_); refine goesL_ (some 8) rfl rfl Try.func48 (by kernel_rfl) rfl #[.int .i64 a0, .slice A1 l1.length c1] rfl (by (try simp only [List.map_toArray, List.map_cons, List.map_nil]); first | done | rfl) ?_; (with_reducible refine (bitset_Check.calls k a0 _ _ l1 0 _ ?side1 ?side2 HK.out).mono ?_); (case side1 => repeat (first | exact HR1.out | (with_reducible refine Kd.C_alloc ?_ _) | (with_reducible refine Kd.C_drewN ?_ _) | (with_reducible refine Kd.C_drew ?_))); (case side2 => exact HC1.out); rintro e w' ⟨rfl, ⟨nd, rfl⟩⟩; refine ⟨_, rfl, ?_⟩) | ((with_reducible refine gate_builtin (b := .append) (xs := #[.const (.slice none 0 0), .tmp 10]) rfl ?_); at_builtin; go_must (refine Kd.R_append_rows (Kd.int .u8) (w0 := w) w.heap.size rfl (.const (.slice none 0 0)) (.tmp 10) 22 5 (.int .u8 0) 1 rfl Try.underlying22 info5 rfl (by decide) (by omega) (.slice none 0 0) ([] : List Int) l1 _ _ _ (fun _ => True) (fun _ => False) rfl rfl ?aO ?aR (fun _ _ h => h) (fun _ h => h.elim) ?aF ?aB ?aS ?aL ?_; (case aR => exact (Kd.C_drewN (Kd.C_alloc HR1.out _) _)); (case aB => exact (by repeat (first | (with_reducible first | exact HB.out | apply below_alloc | apply pw_below_drewN | apply below_drew1) | exact HB.out))); (case aF => exact (fun _ _ => trivial)); (case aO => exact ((Kd.R_nil _ _ _ _ (fun _ => True)))); (case aS => exact (below_size (by repeat (first | (with_reducible first | exact HB.out | apply below_alloc | apply pw_below_drewN | apply below_drew1) | exact HB.out)))); (case aL => have := HL.out; show (0 + l1.length) * 1 ≤ _; omega); intro v1 w1 ho hb hg hat; obtain ⟨Av, cv, ev⟩ := Kd.R_slice ho; subst ev; have HO := Aside0.mk ho; have HB2 := Aside0.mk hb; have HG := Aside0.mk hg; clear HB; clear ho hb hg hat)))
  refine bodyPost_ret (v := .func (.func 62) #[] #[.pointer (some ⟨w.heap.size, 0, none⟩), .pointer (some ⟨w1.heap.size, 0, none⟩)]) (by simp [results, Try.results25, go_sem]) rfl ?_
  have hbs := HB2.out.size
  have hlt : w.heap.size < w1.heap.size := by
    have := HG.out.size
    simp at this
    omega
  have hb0 : Boxed ((w.alloc (.cells #[.int .i64 a0] 3)).drewN nd) w.heap.size 3 (.int .i64 a0) := Boxed.new w 3 (.int .i64 a0)
  have hbn : Boxed w1 w.heap.size 3 (.int .i64 a0) := hb0.kept HG.out (by simp [Value.ownBlock])
  refine ⟨_, _, _, rfl, ⟨Nat.le_refl _, by simp; omega⟩, ⟨hbs, by simp⟩, (hbn.alloc _).cell, (Boxed.new w1 22 _).cell, Kd.R_alloc HO.out _, HB2.out.alloc hbs _⟩

set_option maxRecDepth 100000 in
set_option maxHeartbeats 4000000 in
theorem walk_no (k : Nat) (a0 : Int) (A1 : Option Addr) (c1 : Nat) (l1 : List Int) (w : World) (r : Int) (hr1 : Kd.C (Kd.int .u8) w A1 l1.length l1) (hc1 : l1.length ≤ c1) (h : bitset_Check.f k a0 l1 = some r) (hr : (r == 0) = false) :
    Calls Try.prog 25 #[.int .i64 a0, .slice A1 l1.length c1] w fun e w' => e = .returned (.func (.func 61) #[] #[]) ∧ Below w.heap.size w w' := by
  have HR1 := Aside0.mk hr1
  have HC1 := Aside0.mk hc1
  have HK := Aside0.mk h
  have hr2 : (r != 0) = true := by simpa using hr
  clear hr1 hc1 h
  have HB := Aside0.mk ((Below.refl w.heap.size w).alloc (Nat.le_refl _) (.cells #[.int .i64 a0] 3))
  go_enter Try.func25, Try.ntmps25
  go_wp2_with ((with_reducible refine gate_callee (f := 48) rfl ?_); refine goesL_ (some 8) rfl rfl Try.func48 (by kernel_rfl) rfl #[.int .i64 a0, .slice A1 l1.length c1] rfl (by (try simp only [List.map_toArray, List.map_cons, List.map_nil]); first | done | rfl) ?_; (with_reducible refine (bitset_Check.calls k a0 _ _ l1 r _ ?side1 ?side2 HK.out).mono ?_); (case side1 => repeat (first | exact HR1.out | (with_reducible refine Kd.C_alloc ?_ _) | (with_reducible refine Kd.C_drewN ?_ _) | (with_reducible refine Kd.C_drew ?_))); (case side2 => exact HC1.out); rintro e w' ⟨rfl, ⟨nd, rfl⟩⟩; refine ⟨_, rfl, ?_⟩)
  go_ret
  exact ⟨rfl, pw_below_drewN HB.out _⟩

/-- Walk's function where there is nothing. -/
theorem walk1_in (m : Nat) (l : Nat) (W : World) : CallsIn Fence.wide m Try.prog 61 #[.func (.yield l) #[] #[]] W fun e W' => (∃ v, e = .returned v) ∧ W = W' := by
  refine callsIn_wide.2 ?_
  go_enter Try.func61, Try.ntmps61
  go_wp2
  go_end0
  exact ⟨⟨_, rfl⟩, rfl⟩

/-- What a loop over a walk asks. -/
def Seq (gf : Nat) (lb : Array Value) (lo hi : Nat) (L : List Int) (w : World) : Prop :=
  ∀ m, 1 ≤ m → SeqStopsK Fence.wide m Try.prog gf lb (fun x : Int => #[Value.int .i64 x]) (Keeps lo hi) (fun ys => ys = L) (fun pre => pre <+: L) L.length w
theorem seq_no (lo hi : Nat) (w : World) : Seq 61 #[] lo hi [] w := fun m _ l J Jx W _ _ _ _ h0 =>
  (walk1_in m l W).mono fun e W' h => ⟨h.1, .inl ⟨[], rfl, h.2 ▸ h0⟩⟩
theorem seq_ok {n : Nat} {l1 : List Int} {w w' : World} {Bn Bo : Nat} {v : Value} (hn : n ≤ 65536) (hlen : n ≤ 8 * l1.length) (h1 : w.heap.size ≤ Bn ∧ Bn < w'.heap.size) (h2 : w.heap.size ≤ Bo ∧ Bo < w'.heap.size) (h3 : w'.cell? ⟨Bn, 0, none⟩ = some (.int .i64 n)) (h4 : w'.cell? ⟨Bo, 0, none⟩ = some v) (hR : Kd.R (Kd.int .u8) 5 w' w.heap.size (fun _ => True) v l1) :
    Seq 62 #[.pointer (some ⟨Bn, 0, none⟩), .pointer (some ⟨Bo, 0, none⟩)] w.heap.size w'.heap.size (onesTo l1 n) w' := fun m hm l J Jx W hW hJ hJx hY h0 => by
  have cell : ∀ b o, b < w'.heap.size → W.cell? ⟨b, o, none⟩ = w'.cell? ⟨b, o, none⟩ := fun b o hb => hW.cell (p := ⟨b, o, none⟩) hb
  have hJ' : ∀ s A B, J s A → A.grownBy B none → J s B := fun s A B hs hg => hJ s A B none hs hg (fun r e => by cases e)
  rcases Nat.eq_zero_or_pos l1.length with hz | hz
  · exact walk2_in m hm l Bn Bo w.heap.size w'.heap.size 0 0 n l1 hn hlen J Jx hJ' hY W hW.size h2 (fun h => by omega) (by rw [cell _ _ h1.2]; exact h3) (fun h => by omega) (fun h => by omega) h0
  · obtain ⟨g, cap, rfl, hg1, hg2, _⟩ := Kd.R_form hR hz
    refine walk2_in m hm l Bn Bo w.heap.size w'.heap.size g cap n l1 hn hlen J Jx hJ' hY W hW.size h2 (fun _ => ⟨hg1, hg2⟩) (by rw [cell _ _ h1.2]; exact h3) (fun _ => by rw [cell _ _ h2.2]; exact h4) (fun _ j hj => ?_) h0
    have := (Kd.R_celln 0 hR (j : Int) (by omega) (by omega)).1
    rw [Int.toNat_natCast] at this
    rw [cell _ _ hg2, this]
    rfl

/-- The program's own spelling of a bit's test. -/
theorem hit_is (xs : List Int) (i : Nat) (hi : i ≤ 65536) : (Go.bits .and .u8 (rd xs (wrap64 (Int.tdiv (i : Int) 8))) (shr .u8 128 (Int.tmod (i : Int) 8)) = 0) ↔ hit xs i = false := by
  rw [quo8 i (by omega), rem8, shr_mask _ (Nat.mod_lt _ (by decide)), rd_nat]
  unfold hit
  rw [bne_eq_false_iff_eq]
/-- What Walk hands back, either way: a function that yields L. -/
def WalkSays (L : List Int) (w : World) (e : Ending) (w' : World) : Prop :=
  ∃ gf lb, e = .returned (.func (.func gf) #[] lb) ∧ (∀ args W, (callFunc gf args).run Try.prog W = .ok (.enter gf args) W) ∧ Below w.heap.size w w' ∧ Seq gf lb w.heap.size w'.heap.size L w'
/-- What comes of a walk: the places of the set bits, or nothing. -/
def walked (r : Int) (a0 : Int) (l1 : List Int) : List Int := if r = 0 then onesTo l1 a0.toNat else []
theorem walk_says (k : Nat) (a0 : Int) (A1 : Option Addr) (c1 : Nat) (l1 : List Int) (w : World) (r : Int) (hr1 : Kd.C (Kd.int .u8) w A1 l1.length l1) (hc1 : l1.length ≤ c1) (h : bitset_Check.f k a0 l1 = some r) :
    Calls Try.prog 25 #[.int .i64 a0, .slice A1 l1.length c1] w (WalkSays (walked r a0 l1) w) := by
  by_cases hr : r = 0
  · subst hr
    obtain ⟨n, rfl, hn, hl⟩ := check_zero h
    refine (walk_ok k n A1 c1 l1 w hr1 hc1 h (by omega)).mono ?_
    rintro e w' ⟨Bn, Bo, v, rfl, h1, h2, h3, h4, hR, hB⟩
    refine ⟨62, _, rfl, enters_of Try.func62 (by kernel_rfl) rfl, hB, ?_⟩
    unfold walked
    rw [if_pos rfl, Int.toNat_natCast]
    exact seq_ok hn (by omega) h1 h2 h3 h4 hR
  · refine (walk_no k a0 A1 c1 l1 w r hr1 hc1 h (beq_eq_false_iff_ne.mpr hr)).mono ?_
    rintro e w' ⟨rfl, hB⟩
    refine ⟨61, #[], rfl, enters_of Try.func61 (by kernel_rfl) rfl, hB, ?_⟩
    unfold walked
    rw [if_neg hr]
    exact seq_no _ _ _
end Go.Proofs.Ytoohpdamndgdlaa.P


/- bitset.Count, a loop over Walk: how many places the walk yields, and Check's answer. No condition. -/
set_option linter.unusedVariables false
namespace Go.Proofs.Ytoohpdamndgdlaa.P
open Go.RowKit Go.Proofs.YtoohpdamndgdlaaW.PrintWords Go.Proofs.YtoohpdamndgdlaaW.PrintLast Go.Proofs.YtoohpdamndgdlaaW.PrintMore Go.Proofs.Ytoohpdamndgdlaa.B
attribute [local go_sem] Oper.semAt_some
set_option maxRecDepth 100000 in
set_option maxHeartbeats 4000000 in
theorem count_in (k : Nat) (a0 : Int) (A1 : Option Addr) (c1 : Nat) (l1 : List Int) (w : World) (r : Int) (hr1 : Kd.C (Kd.int .u8) w A1 l1.length l1) (hc1 : l1.length ≤ c1) (h : bitset_Check.f k a0 l1 = some r) (hL : (walked r a0 l1).length ≤ 65536) :
    CallsIn Fence.wide 3 Try.prog 35 #[.int .i64 a0, .slice A1 l1.length c1] w fun e w' => e = .returned (.tuple #[.int .i64 ((walked r a0 l1).length : Int), .int .i64 r]) ∧ Below w.heap.size w w' := by
  have HR1 := Aside0.mk hr1
  have HC1 := Aside0.mk hc1
  have HK := Aside0.mk h
  have HL := Aside0.mk hL
  clear hr1 hc1 h hL
  refine callsIn_of_wp_marks Try.func35 rfl trivial ?_ rfl
  simp only [Try.ntmps35, List.size_toArray, List.length_cons, List.length_nil, Nat.reduceAdd, Nat.reduceSub, Array.replicate_succ, Array.replicate_zero, List.push_toArray, List.append_toArray, List.nil_append, List.cons_append]
  gi_wp2_with (refine ⟨trivial, ?_⟩; gi_at_call 25; refine (callsIn_wide.2 (walk_says k a0 A1 c1 l1 _ r (Kd.C_alloc HR1.out _) HC1.out HK.out)).mono ?_; rintro e w1 ⟨gf, lb, rfl, heg, hB1, hseq⟩; have HEG := Aside0.mk heg; have HB1 := Aside0.mk hB1; have HSQ := Aside0.mk hseq; clear heg hB1 hseq)
  have hlo : (w.alloc (.cells #[.int .i64 0] 3)).heap.size = w.heap.size + 1 := by simp
  rw [hlo] at HSQ
  have hB0 := below_step ((Below.refl w.heap.size w).alloc (Nat.le_refl _) _) HB1.out
  have hv0 : Boxed w1 w.heap.size 3 (.int .i64 0) := (HB1.out.block w.heap.size (by simp)).trans (Boxed.new w 3 _)
  have hlt1 : w.heap.size < w1.heap.size := hv0.lt
  refine wpIn_rangeFunc_ownG rfl (by decide) (gf := gf) (lb := lb) rfl trivial HEG.out (HSQ.out (3 - 1) (by decide)) (fun h k => h.trans k) (fun W l o o' hl _ _ _ => Keeps.putObj _ _ W l o' hl) (Below.refl _ _) (fun _ => rfl)
    (fun pre W => Boxed W w.heap.size 3 (.int .i64 (pre.length : Int)) ∧ Below w.heap.size w W)
    (fun _ _ _ => False)
    (OwnFrom.and (fun s A B row hs hg hr => hs.kept hg (fun e => by have := (hr _ e.symm).1; omega)) (ownFrom_below (Nat.le_refl _) (by omega)))
    (fun _ _ _ _ _ hs _ _ => hs)
    ⟨hv0, hB0⟩
    (fun x => { tmps := #[.int .i64 a0, .slice A1 l1.length c1, undef, undef, .int .i64 0, .int .i64 0, .pointer (some ⟨w.heap.size, 0, none⟩), .int .i64 a0, .slice A1 l1.length c1, .func (.func gf) #[] lb, .int .i64 x, undef, undef, undef, undef, undef, undef], defers := [] }) ?assign ?body ?done ?stop
  case assign =>
    intro l x W K hK
    gi_wp2
    first | exact hK | simpa using hK
  case body =>
    rintro l pre x W ⟨hv, hB⟩ hlt
    have hc := hv.cell
    have hf := hv.frozen
    have hp : pre.length < 65536 := by have := HL.out; omega
    gi_wp2
    have hset := hv.set (.int .i64 ((pre.length : Int) + 1))
    refine ⟨(KeepsOthers.setCell _ _ _).from _, fun b h1 h2 => Below.heap_setCell _ _ _ _ (by simp; omega), ?_, hB.setCell (Nat.le_refl _) _⟩
    rw [List.length_append]
    exact hset
  case done =>
    rintro D ys W hD rfl ⟨hv, hB⟩ hK
    have hc := hv.cell
    have hmo : Try.prog.follows .mixedOrders = true := by kernel_rfl
    have HBW := Aside0.mk hB
    have HKD := Aside0.mk hK
    clear hK hB
    gi_wp2
    first | (gi_region_with_o (refine ⟨trivial, ?_⟩; gi_at_call 48; refine (callsIn_wide.2 (bitset_Check.calls k a0 _ _ l1 r _ (Kd.C_drew (Kd.C_below HR1.out HBW.out)) HC1.out HK.out)).mono ?_; rintro e w2 ⟨rfl, ⟨nd, rfl⟩⟩)) | (fail "no")
    all_goals
      have hb9 : Below w.heap.size w (W.drewN (1 + nd)) := pw_below_drewN HBW.out _
      have hk9 : (W.drewN (1 + nd)).heap[D]? = some (.deferred (some [])) := HKD.out
      gi_wp2
      refine ⟨by simp, .inl ⟨_, _, rfl, run_takeDeferred hk9, ?_⟩⟩
      exact ⟨_, results_tmp2 (show Try.f35.results = #[.tmp 4, .tmp 5] from rfl) _ _ _, rfl, hb9.trans (belowK_b (w := w) (Nat.le_refl _) _ D _ _ (by omega) hk9 rfl rfl)⟩
  case stop =>
    rintro D c pre W _ _ h _
    exact h.elim
end Go.Proofs.Ytoohpdamndgdlaa.P


-- Made by a program of this session (the print of the kit over a neighbour), for this claim.
namespace Go.Proofs.Ytoohpdamndgdlaa.P
open Go.RowKit Go.Proofs.YtoohpdamndgdlaaW.PrintWords Go.Proofs.YtoohpdamndgdlaaW.PrintLast Go.Proofs.YtoohpdamndgdlaaW.PrintMore
attribute [local go_sem] max2_int min2_int max_two min_two max_three min_three max_four min_four   -- for this text's walks alone
set_option linter.unusedVariables false
set_option linter.unusedSimpArgs false

/-! ### bitset_Count: function 35 -/
def bitset_Count.l0 : Nat → Int → List Int → Int → Int → Option (Int × Int)
  | 0, _, _, _, _ => none
  | k + 1, x0, x1, x7, x8 => if x8 < x0 then (if 0 ≤ (wrap64 (Int.tdiv x8 8)) then (if (wrap64 (Int.tdiv x8 8)) < (x1.length : Int) then (if 0 ≤ (Int.tmod x8 8) then (if (Go.bits .and .u8 (rd x1 (wrap64 (Int.tdiv x8 8))) (shr .u8 128 (Int.tmod x8 8))) = 0 then (bitset_Count.l0 k x0 x1 x7 (wrap64 (x8 + 1))) else (bitset_Count.l0 k x0 x1 (wrap64 (x7 + 1)) (wrap64 (x8 + 1)))) else (none)) else (none)) else (none)) else (some (x7, 0))
def bitset_Count.f (k : Nat) (a0 : Int) (l1 : List Int) : Option (Int × Int) := (bitset_Check.f k a0 l1).bind fun t309 => (if t309 = 0 then (bitset_Count.l0 k a0 l1 0 0) else (some (0, t309)))
open Go.Proofs.Ytoohpdamndgdlaa.B in
theorem bitset_Count.told_l (n : Nat) (hn : n ≤ 65536) (l : List Int) (hl : n ≤ 8 * l.length) : ∀ (k i : Nat) (r1 r2 : Int), i ≤ n → bitset_Count.l0 k (n : Int) l ((onesTo l i).length : Int) (i : Int) = some (r1, r2) → r1 = ((onesTo l n).length : Int) ∧ r2 = 0
  | 0, _, _, _, _, h => by simp [bitset_Count.l0] at h
  | k + 1, i, r1, r2, hi, h => by
    simp only [bitset_Count.l0] at h
    by_cases hlt : i < n
    · obtain ⟨g1, g2, g3⟩ := tests_in l i (by omega) (by omega)
      have hin := onesTo_length l i
      rw [if_pos (by omega), if_pos g1, if_pos g2, if_pos g3, inc i (by omega)] at h
      cases hb : hit l i with
      | false =>
        rw [if_pos ((hit_is l i (by omega)).2 hb), ← onesTo_miss hb] at h
        exact bitset_Count.told_l n hn l hl k (i + 1) r1 r2 (by omega) h
      | true =>
        rw [if_neg (fun h0 => by rw [(hit_is l i (by omega)).1 h0] at hb; cases hb), inc _ (by omega)] at h
        have e : (onesTo l (i + 1)).length = (onesTo l i).length + 1 := by rw [onesTo_hit hb, List.length_append]; rfl
        rw [← e] at h
        exact bitset_Count.told_l n hn l hl k (i + 1) r1 r2 (by omega) h
    · obtain rfl : i = n := by omega
      rw [if_neg (by omega)] at h
      simp only [Option.some.injEq, Prod.mk.injEq] at h
      exact ⟨h.1.symm, h.2.symm⟩
open Go.Proofs.Ytoohpdamndgdlaa.B in
theorem bitset_Count.told {k : Nat} {a0 : Int} {l : List Int} {r1 r2 : Int} (h : bitset_Count.f k a0 l = some (r1, r2)) : bitset_Check.f k a0 l = some r2 ∧ r1 = ((walked r2 a0 l).length : Int) ∧ (walked r2 a0 l).length ≤ 65536 := by
  unfold bitset_Count.f at h
  obtain ⟨t, ht, h⟩ := Option.bind_eq_some_iff.mp h
  by_cases h0 : t = 0
  · subst h0
    rw [if_pos rfl] at h
    obtain ⟨n, rfl, hn, hl⟩ := check_zero ht
    obtain ⟨rfl, rfl⟩ := bitset_Count.told_l n hn l (by omega) k 0 r1 r2 (by omega) h
    refine ⟨ht, ?_, ?_⟩
    · unfold walked
      rw [if_pos rfl, Int.toNat_natCast]
    · unfold walked
      rw [if_pos rfl, Int.toNat_natCast]
      exact Nat.le_trans (onesTo_length l n) hn
  · rw [if_neg h0] at h
    simp only [Option.some.injEq, Prod.mk.injEq] at h
    obtain ⟨rfl, rfl⟩ := h
    refine ⟨ht, ?_, ?_⟩
    · unfold walked
      rw [if_neg h0]
      rfl
    · unfold walked
      rw [if_neg h0]
      simp
set_option maxHeartbeats 4000000 in
set_option maxRecDepth 100000 in
theorem bitset_Count.calls (k : Nat) (a0 : Int) (A1 : Option Addr) (c1 : Nat) (l1 : List Int) (r1 : Int) (r2 : Int) (w : World) (hr1 : Kd.C (Kd.int .u8) w A1 l1.length l1) (hc1 : l1.length ≤ c1) (h : bitset_Count.f k a0 l1 = some (r1, r2)) :
    Calls Try.prog 35 #[.int .i64 a0, .slice A1 l1.length c1] w fun e w' => e = .returned (.tuple #[.int .i64 r1, .int .i64 r2]) ∧ Below w.heap.size w w' := by
  obtain ⟨h1, rfl, h3⟩ := bitset_Count.told h
  exact callsIn_wide.1 (count_in k a0 A1 c1 l1 w r2 hr1 hc1 h1 h3)

end Go.Proofs.Ytoohpdamndgdlaa.P


-- Made by a program of this session (the print of the kit over a neighbour), for this claim.
namespace Go.Proofs.Ytoohpdamndgdlaa.P
open Go.RowKit Go.Proofs.YtoohpdamndgdlaaW.PrintWords Go.Proofs.YtoohpdamndgdlaaW.PrintLast Go.Proofs.YtoohpdamndgdlaaW.PrintMore
attribute [local go_sem] max2_int min2_int max_two min_two max_three min_three max_four min_four   -- for this text's walks alone
set_option linter.unusedVariables false
set_option linter.unusedSimpArgs false

/-! ### bitset_at: function 63 -/
def bitset_at.f (k : Nat) (a0 : Int) (l1 : List Int) (a2 : Int) : Option (Int) := (bitset_Check.f k a0 l1).bind fun t255 => (if t255 = 0 then (if a2 < 0 then (some 43) else (if a2 ≥ a0 then (some 43) else (some 0))) else (some t255))
set_option maxHeartbeats 8000000 in
set_option maxRecDepth 100000 in
theorem bitset_at.calls (k : Nat) (a0 : Int) (A1 : Option Addr) (c1 : Nat) (l1 : List Int) (a2 : Int) (r : Int) (w : World) (hr1 : Kd.C (Kd.int .u8) w A1 l1.length l1) (hc1 : l1.length ≤ c1) (h : bitset_at.f k a0 l1 a2 = some r) :
    Calls Try.prog 63 #[.int .i64 a0, .slice A1 l1.length c1, .int .i64 a2] w fun e w' => e = .returned (.int .i64 r) ∧ Drawn0 w w' := by
  have HR1 := Aside0.mk hr1
  have HC1 := Aside0.mk hc1
  clear hr1 hc1
  have H : ((bitset_Check.f k a0 l1).bind fun t255 => (if t255 = 0 then (if a2 < 0 then (some 43) else (if a2 ≥ a0 then (some 43) else (some 0))) else (some t255))) = some r := h
  clear h
  replace H := Option.bind_eq_some_iff.mp H
  obtain ⟨t255, A40, H⟩ := H
  replace H : (if t255 = 0 then (if a2 < 0 then (some 43) else (if a2 ≥ a0 then (some 43) else (some 0))) else (some t255)) = some r := H
  have A4 := Aside0.mk A40
  clear A40
  by_cases c5 : t255 = 0
  · rw [if_pos c5] at H
    have c5b0 : (t255 == 0) = true := beq_iff_eq.mpr c5
    have c5b1 : (t255 != 0) = false := bne_eq_false_iff_eq.mpr c5
    clear c5
    by_cases c6 : a2 < 0
    · rw [if_pos c6] at H
      have c6b0 : decide (a2 < 0) = true := decide_eq_true c6
      clear c6
      obtain rfl := Option.some.inj H
      go_enter Try.func63, Try.ntmps63
      go_wp2_with (first | ((with_reducible refine gate_callee (f := 48) rfl ?_); refine goesL_ (some 10) rfl rfl Try.func48 (by kernel_rfl) rfl #[.int .i64 a0, .slice A1 l1.length c1] rfl (by (try simp only [List.map_toArray, List.map_cons, List.map_nil]); first | done | rfl) ?_; (with_reducible refine (bitset_Check.calls k a0 _ _ l1 t255 _ ?side1 ?side2 A4.out).mono ?_); (case side1 => exact HR1.out); (case side2 => exact HC1.out); rintro e w' ⟨rfl, ⟨nd, rfl⟩⟩; refine ⟨_, rfl, ?_⟩))
      go_ret
      exact ⟨by first | rfl | (simp; done) | (simp [*]; done), by repeat (first | exact Drawn0.refl _ | apply Drawn0.step)⟩
    · rw [if_neg c6] at H
      have c6b0 : decide (a2 < 0) = false := decide_eq_false c6
      clear c6
      by_cases c7 : a2 ≥ a0
      · rw [if_pos c7] at H
        have c7b0 : decide (a0 ≤ a2) = true := decide_eq_true c7
        clear c7
        obtain rfl := Option.some.inj H
        go_enter Try.func63, Try.ntmps63
        go_wp2_with (first | ((with_reducible refine gate_callee (f := 48) rfl ?_); refine goesL_ (some 10) rfl rfl Try.func48 (by kernel_rfl) rfl #[.int .i64 a0, .slice A1 l1.length c1] rfl (by (try simp only [List.map_toArray, List.map_cons, List.map_nil]); first | done | rfl) ?_; (with_reducible refine (bitset_Check.calls k a0 _ _ l1 t255 _ ?side1 ?side2 A4.out).mono ?_); (case side1 => exact HR1.out); (case side2 => exact HC1.out); rintro e w' ⟨rfl, ⟨nd, rfl⟩⟩; refine ⟨_, rfl, ?_⟩))
        go_ret
        exact ⟨by first | rfl | (simp; done) | (simp [*]; done), by repeat (first | exact Drawn0.refl _ | apply Drawn0.step)⟩
      · rw [if_neg c7] at H
        have c7b0 : decide (a0 ≤ a2) = false := decide_eq_false c7
        clear c7
        obtain rfl := Option.some.inj H
        go_enter Try.func63, Try.ntmps63
        go_wp2_with (first | ((with_reducible refine gate_callee (f := 48) rfl ?_); refine goesL_ (some 10) rfl rfl Try.func48 (by kernel_rfl) rfl #[.int .i64 a0, .slice A1 l1.length c1] rfl (by (try simp only [List.map_toArray, List.map_cons, List.map_nil]); first | done | rfl) ?_; (with_reducible refine (bitset_Check.calls k a0 _ _ l1 t255 _ ?side1 ?side2 A4.out).mono ?_); (case side1 => exact HR1.out); (case side2 => exact HC1.out); rintro e w' ⟨rfl, ⟨nd, rfl⟩⟩; refine ⟨_, rfl, ?_⟩))
        go_ret
        exact ⟨by first | rfl | (simp; done) | (simp [*]; done), by repeat (first | exact Drawn0.refl _ | apply Drawn0.step)⟩
  · rw [if_neg c5] at H
    have c5b0 : (t255 == 0) = false := beq_eq_false_iff_ne.mpr c5
    have c5b1 : (t255 != 0) = true := bne_iff_ne.mpr c5
    obtain rfl := Option.some.inj H
    go_enter Try.func63, Try.ntmps63
    go_wp2_with (first | ((with_reducible refine gate_callee (f := 48) rfl ?_); refine goesL_ (some 10) rfl rfl Try.func48 (by kernel_rfl) rfl #[.int .i64 a0, .slice A1 l1.length c1] rfl (by (try simp only [List.map_toArray, List.map_cons, List.map_nil]); first | done | rfl) ?_; (with_reducible refine (bitset_Check.calls k a0 _ _ l1 t255 _ ?side1 ?side2 A4.out).mono ?_); (case side1 => exact HR1.out); (case side2 => exact HC1.out); rintro e w' ⟨rfl, ⟨nd, rfl⟩⟩; refine ⟨_, rfl, ?_⟩))
    go_ret
    exact ⟨by first | rfl | (simp; done) | (simp [*]; done), by repeat (first | exact Drawn0.refl _ | apply Drawn0.step)⟩

end Go.Proofs.Ytoohpdamndgdlaa.P


-- Made by a program of this session (the print of the kit over a neighbour), for this claim.
namespace Go.Proofs.Ytoohpdamndgdlaa.P
open Go.RowKit Go.Proofs.YtoohpdamndgdlaaW.PrintWords Go.Proofs.YtoohpdamndgdlaaW.PrintLast Go.Proofs.YtoohpdamndgdlaaW.PrintMore
attribute [local go_sem] max2_int min2_int max_two min_two max_three min_three max_four min_four   -- for this text's walks alone
set_option linter.unusedVariables false
set_option linter.unusedSimpArgs false

/-! ### bitset_Get: function 31 -/
def bitset_Get.f (k : Nat) (a0 : Int) (l1 : List Int) (a2 : Int) : Option (Bool × Int) := (bitset_at.f k a0 l1 a2).bind fun t256 => (if t256 = 0 then (if 0 ≤ (wrap64 (Int.tdiv a2 8)) then (if (wrap64 (Int.tdiv a2 8)) < (l1.length : Int) then (if 0 ≤ (Int.tmod a2 8) then (some (((Go.bits .and .u8 (rd l1 (wrap64 (Int.tdiv a2 8))) (shr .u8 128 (Int.tmod a2 8))) != 0), 0)) else (none)) else (none)) else (none)) else (some (false, t256)))
set_option maxHeartbeats 4000000 in
set_option maxRecDepth 100000 in
theorem bitset_Get.calls (k : Nat) (a0 : Int) (A1 : Option Addr) (c1 : Nat) (l1 : List Int) (a2 : Int) (r1 : Bool) (r2 : Int) (w : World) (hr1 : Kd.C (Kd.int .u8) w A1 l1.length l1) (hc1 : l1.length ≤ c1) (h : bitset_Get.f k a0 l1 a2 = some (r1, r2)) :
    Calls Try.prog 31 #[.int .i64 a0, .slice A1 l1.length c1, .int .i64 a2] w fun e w' => e = .returned (.tuple #[.bool r1, .int .i64 r2]) ∧ Below w.heap.size w w' := by
  have HR1 := Aside0.mk hr1
  have HC1 := Aside0.mk hc1
  clear hr1 hc1
  have HB := Aside0.mk (Below.refl w.heap.size w)
  have H : ((bitset_at.f k a0 l1 a2).bind fun t256 => (if t256 = 0 then (if 0 ≤ (wrap64 (Int.tdiv a2 8)) then (if (wrap64 (Int.tdiv a2 8)) < (l1.length : Int) then (if 0 ≤ (Int.tmod a2 8) then (some (((Go.bits .and .u8 (rd l1 (wrap64 (Int.tdiv a2 8))) (shr .u8 128 (Int.tmod a2 8))) != 0), 0)) else (none)) else (none)) else (none)) else (some (false, t256)))) = some (r1, r2) := h
  clear h
  replace H := Option.bind_eq_some_iff.mp H
  obtain ⟨t256, A40, H⟩ := H
  replace H : (if t256 = 0 then (if 0 ≤ (wrap64 (Int.tdiv a2 8)) then (if (wrap64 (Int.tdiv a2 8)) < (l1.length : Int) then (if 0 ≤ (Int.tmod a2 8) then (some (((Go.bits .and .u8 (rd l1 (wrap64 (Int.tdiv a2 8))) (shr .u8 128 (Int.tmod a2 8))) != 0), 0)) else (none)) else (none)) else (none)) else (some (false, t256))) = some (r1, r2) := H
  have A4 := Aside0.mk A40
  clear A40
  by_cases c5 : t256 = 0
  · rw [if_pos c5] at H
    have c5b0 : (t256 == 0) = true := beq_iff_eq.mpr c5
    have c5b1 : (t256 != 0) = false := bne_eq_false_iff_eq.mpr c5
    clear c5
    obtain ⟨ji6, hji6⟩ : ∃ j_ : Int, (wrap64 (Int.tdiv a2 8)) = j_ := ⟨_, rfl⟩
    replace H : (if 0 ≤ (ji6) then (if (ji6) < (l1.length : Int) then (if 0 ≤ (Int.tmod a2 8) then (some (((Go.bits .and .u8 (rd l1 (ji6)) (shr .u8 128 (Int.tmod a2 8))) != 0), 0)) else (none)) else (none)) else (none)) = some (r1, r2) := by first | (rw [hji6] at H; exact H) | (simp only [hji6] at H ⊢; exact H)
    (try rw [hji6] at A4)
    have hji6w : (IntKind.i64.wrap (Int.tdiv a2 8)) = ji6 := (i64_w _).trans hji6
    by_cases c7 : 0 ≤ (ji6)
    · rw [if_pos c7] at H
      have c7b0 : decide (0 ≤ (ji6)) = true := decide_eq_true c7
      clear c7
      by_cases c8 : (ji6) < (l1.length : Int)
      · rw [if_pos c8] at H
        have c8b0 : decide ((ji6) < (l1.length : Int)) = true := decide_eq_true c8
        clear c8
        obtain ⟨ji9, hji9⟩ : ∃ j_ : Int, (Int.tmod a2 8) = j_ := ⟨_, rfl⟩
        replace H : (if 0 ≤ (ji9) then (some (((Go.bits .and .u8 (rd l1 (ji6)) (shr .u8 128 (ji9))) != 0), 0)) else (none)) = some (r1, r2) := by first | (rw [hji9] at H; exact H) | (simp only [hji9] at H ⊢; exact H)
        (try rw [hji9] at A4)
        by_cases c10 : 0 ≤ (ji9)
        · rw [if_pos c10] at H
          have c10b0 := eq_true c10
          have c10b1 : decide (0 ≤ (ji9)) = true := decide_eq_true c10
          clear c10
          obtain ⟨ji11, hji11⟩ : ∃ j_ : Int, (shr .u8 128 (ji9)) = j_ := ⟨_, rfl⟩
          replace H : (some (((Go.bits .and .u8 (rd l1 (ji6)) (ji11)) != 0), 0)) = some (r1, r2) := by first | (rw [hji11] at H; exact H) | (simp only [hji11] at H ⊢; exact H)
          (try rw [hji11] at A4)
          have hji11_ : (128 / 2 ^ min (ji9).toNat 8) = ji11 := hji11
          have hji11z : (ji9) ≤ 8 → (128 / 2 ^ (ji9).toNat) = ji11 := shr_small hji11
          simp only [Option.some.injEq, Prod.mk.injEq] at H
          obtain ⟨rfl, rfl⟩ := H
          go_enter Try.func31, Try.ntmps31
          go_wp2_with (first | (go_at_call 63; (with_reducible refine (bitset_at.calls k a0 _ _ l1 a2 t256 _ ?side1 ?side2 A4.out).mono ?_); (case side1 => exact HR1.out); (case side2 => exact HC1.out); rintro e w' ⟨rfl, ⟨nd, rfl⟩⟩; (try first | exact ⟨rfl, _, World.drewN_drewN _ _ _⟩ | exact ⟨rfl, _, Eq.trans (World.drewN_drewN _ _ _) (congrArg (World.drewN _) (Nat.add_assoc _ _ _))⟩); have p257 : 0 ≤ ((ji6) : Int) := of_decide_eq_true (by first | (with_reducible assumption) | assumption); have q257 : (ji6) < (l1.length : Int) := of_decide_eq_true (by first | (with_reducible assumption) | assumption); obtain ⟨ad257, e257, hx257_0⟩ := Kd.at_int HR1.out (ji6) p257 q257; cases e257; replace p257 := eq_true p257; replace q257 := eq_true q257))
          have hmk : ∀ W : World, (Instr.index 68 maskV (.int .i64 (ji9))).run Try.prog W = .ok (.int .u8 (ji11)) W := by rw [← hji11]; exact mask_at (ji9) (of_decide_eq_true c10b1) (hji9 ▸ tmod8_lt _)
          refine start_ (n := 13) (S := fun w' => w'.cell? (ad257.add (ji6).toNat) = some (.int .u8 (rd l1 ji6))) (ds := []) #[false, false, false, false, false, false, false, false, false, false, false, false, false] (by kernel_rfl) rfl rfl (hx257_0) (fun hHeld => ?_)
          refine pure_ (i := 0) (N := some 16) (v := ?_) (a' := ?_) #[true, false, false, false, false, false, false, false, false, false, false, false, false] rfl rfl (by kernel_rfl) (fun _ _ _ h => h) (Or.inl ⟨by rfl, ?_⟩) ?_ ?_
          rotate_left
          · intro w'
            go_simp
            with_reducible rfl
          rotate_left
          · simp only [Act.put, List.setIfInBounds_toArray, List.set_cons_zero, List.set_cons_succ, i64_w, i32_w]
            rfl
          refine pure_ (i := 1) (N := some 17) (v := ?_) (a' := ?_) #[true, true, false, false, false, false, false, false, false, false, false, false, false] rfl rfl (by kernel_rfl) (fun _ _ _ h => h) (Or.inl ⟨by rfl, ?_⟩) ?_ ?_
          rotate_left
          · intro w'
            go_simp
            with_reducible rfl
          rotate_left
          · simp only [Act.put, List.setIfInBounds_toArray, List.set_cons_zero, List.set_cons_succ, i64_w, i32_w]
            rfl
          refine pure_ (i := 2) (N := some 18) (v := ?_) (a' := ?_) #[true, true, true, false, false, false, false, false, false, false, false, false, false] rfl rfl (by kernel_rfl) (fun _ _ _ h => h) (Or.inl ⟨by rfl, ?_⟩) ?_ ?_
          rotate_left
          · intro w'
            go_simp
            with_reducible rfl
          rotate_left
          · simp only [Act.put, List.setIfInBounds_toArray, List.set_cons_zero, List.set_cons_succ, i64_w, i32_w]
            rfl
          refine pure_ (i := 3) (N := some 19) (v := ?_) (a' := ?_) #[true, true, true, true, false, false, false, false, false, false, false, false, false] rfl rfl (by kernel_rfl) (fun _ _ _ h => h) (Or.inl ⟨by rfl, ?_⟩) ?_ ?_
          rotate_left
          · intro w'
            go_simp
            with_reducible rfl
          rotate_left
          · simp only [Act.put, List.setIfInBounds_toArray, List.set_cons_zero, List.set_cons_succ, i64_w, i32_w]
            rfl
          refine pure_ (i := 6) (N := some 22) (v := ?_) (a' := ?_) #[true, true, true, true, false, false, true, false, false, false, false, false, false] rfl rfl (by kernel_rfl) (fun _ _ _ h => h) (Or.inl ⟨by rfl, ?_⟩) ?_ ?_
          rotate_left
          · intro w'
            go_simp
            with_reducible rfl
          rotate_left
          · simp only [Act.put, List.setIfInBounds_toArray, List.set_cons_zero, List.set_cons_succ, i64_w, i32_w]
            rfl
          refine pure_ (i := 7) (N := some 23) (v := ?_) (a' := ?_) #[true, true, true, true, false, false, true, true, false, false, false, false, false] rfl rfl (by kernel_rfl) (fun _ _ _ h => h) (Or.inl ⟨by rfl, ?_⟩) ?_ ?_
          rotate_left
          · intro w'
            go_simp
            with_reducible rfl
          rotate_left
          · simp only [Act.put, List.setIfInBounds_toArray, List.set_cons_zero, List.set_cons_succ, i64_w, i32_w]
            rfl
          refine take_ (i := 4) (N := some 20) (v := ?_) (a' := ?_) #[true, true, true, true, true, false, true, true, false, false, false, false, false] rfl rfl (by kernel_rfl) (fun _ _ _ h => h) (Or.inl ⟨by rfl, ?_⟩) hHeld ?_ ?_
          rotate_left
          · intro w' s0
            go_simp
            with_reducible rfl
          rotate_left
          · simp only [Act.put, List.setIfInBounds_toArray, List.set_cons_zero, List.set_cons_succ, i64_w, i32_w]
            rfl
          refine one_ (i := 5) (N := some 21) #[true, true, true, true, true, true, true, true, false, false, false, false, false] rfl rfl (by kernel_rfl) (by decide) (fun K hK => ?_)
          refine goes_ Try.func58 (by kernel_rfl) rfl #[] (by rfl) rfl rfl (by (try simp only [List.map_toArray, List.map_cons, List.map_nil]); first | done | rfl) ?_
          with_reducible refine (masks_calls _).mono ?_
          rintro e wm ⟨rfl, hbm⟩
          refine ⟨_, rfl, ?_⟩
          have hHx := (hbm.cell (World.block_lt_of_cell? _ _ hHeld)).trans hHeld
          have n1_ := Aside0.mk (below_step (below_drew1 (pw_below_drewN HB.out _)) hbm)
          clear HB
          have HB := n1_
          clear n1_ hbm
          refine hK.out _ _ (hHx) (fun hHeld => ?_)
          clear hK K hHx
          refine norm_ (a' := ?_) ?_ ?_
          rotate_left
          · show Act.put _ (some 21) _ = _
            simp only [Act.put, List.setIfInBounds_toArray, List.set_cons_zero, List.set_cons_succ, i64_w, i32_w]
            rfl
          refine pure_ (i := 8) (N := some 24) (v := ?_) (a' := ?_) #[true, true, true, true, true, true, true, true, true, false, false, false, false] rfl rfl (by kernel_rfl) (fun _ _ _ h => h) (Or.inl ⟨by rfl, ?_⟩) ?_ ?_
          rotate_left
          · intro w'
            go_simp
            with_reducible rfl
          rotate_left
          · simp only [Act.put, List.setIfInBounds_toArray, List.set_cons_zero, List.set_cons_succ, i64_w, i32_w]
            rfl
          refine pure_ (i := 9) (N := some 25) (v := ?_) (a' := ?_) #[true, true, true, true, true, true, true, true, true, true, false, false, false] rfl rfl (by kernel_rfl) (fun _ _ _ h => h) (Or.inl ⟨by rfl, ?_⟩) ?_ ?_
          rotate_left
          · intro w'
            go_simp
            with_reducible rfl
          rotate_left
          · simp only [Act.put, List.setIfInBounds_toArray, List.set_cons_zero, List.set_cons_succ, i64_w, i32_w]
            rfl
          refine pure_ (i := 10) (N := some 26) (v := ?_) (a' := ?_) #[true, true, true, true, true, true, true, true, true, true, true, false, false] rfl rfl (by kernel_rfl) (fun _ _ _ h => h) (Or.inl ⟨by rfl, ?_⟩) ?_ ?_
          rotate_left
          · intro w'
            go_simp
            with_reducible rfl
          rotate_left
          · simp only [Act.put, List.setIfInBounds_toArray, List.set_cons_zero, List.set_cons_succ, i64_w, i32_w]
            rfl
          refine pure_ (i := 11) (N := some 6) (v := ?_) (a' := ?_) #[true, true, true, true, true, true, true, true, true, true, true, true, false] rfl rfl (by kernel_rfl) (fun _ _ _ h => h) (Or.inl ⟨by rfl, ?_⟩) ?_ ?_
          rotate_left
          · intro w'
            go_simp
            with_reducible rfl
          rotate_left
          · simp only [Act.put, List.setIfInBounds_toArray, List.set_cons_zero, List.set_cons_succ, i64_w, i32_w]
            rfl
          refine pure_ (i := 12) (N := some 7) (v := ?_) (a' := ?_) #[true, true, true, true, true, true, true, true, true, true, true, true, true] rfl rfl (by kernel_rfl) (fun _ _ _ h => h) (Or.inl ⟨by rfl, ?_⟩) ?_ ?_
          rotate_left
          · intro w'
            go_simp
            with_reducible rfl
          rotate_left
          · simp only [Act.put, List.setIfInBounds_toArray, List.set_cons_zero, List.set_cons_succ, i64_w, i32_w]
            rfl
          refine done_ (by kernel_rfl) ?_
          go_wp2
          go_ret2
          exact ⟨by first | rfl | (simp [errW_none, errW_some] <;> rfl) | (simp only [← hji6, ← hji9, ← hji11]; first | rfl | (simp [errW_none, errW_some] <;> rfl)) | (simp [*, errW_none, errW_some] <;> rfl), by repeat (first | (with_reducible first | exact HB.out | apply below_alloc | apply pw_below_drewN | apply below_drew1) | exact HB.out)⟩
        · rw [if_neg c10] at H
          exact absurd H (by simp)
      · rw [if_neg c8] at H
        exact absurd H (by simp)
    · rw [if_neg c7] at H
      exact absurd H (by simp)
  · rw [if_neg c5] at H
    have c5b0 : (t256 == 0) = false := beq_eq_false_iff_ne.mpr c5
    have c5b1 : (t256 != 0) = true := bne_iff_ne.mpr c5
    simp only [Option.some.injEq, Prod.mk.injEq] at H
    obtain ⟨rfl, rfl⟩ := H
    go_enter Try.func31, Try.ntmps31
    go_wp2_with (first | (go_at_call 63; (with_reducible refine (bitset_at.calls k a0 _ _ l1 a2 t256 _ ?side1 ?side2 A4.out).mono ?_); (case side1 => exact HR1.out); (case side2 => exact HC1.out); rintro e w' ⟨rfl, ⟨nd, rfl⟩⟩; (try first | exact ⟨rfl, _, World.drewN_drewN _ _ _⟩ | exact ⟨rfl, _, Eq.trans (World.drewN_drewN _ _ _) (congrArg (World.drewN _) (Nat.add_assoc _ _ _))⟩)))
    go_ret2
    exact ⟨by first | rfl | (simp [errW_none, errW_some] <;> rfl) | (simp [*, errW_none, errW_some] <;> rfl), by repeat (first | (with_reducible first | exact HB.out | apply below_alloc | apply pw_below_drewN | apply below_drew1) | exact HB.out)⟩

end Go.Proofs.Ytoohpdamndgdlaa.P


-- Made by a program of this session (the print of the kit over a neighbour), for this claim.
namespace Go.Proofs.Ytoohpdamndgdlaa.P
open Go.RowKit Go.Proofs.YtoohpdamndgdlaaW.PrintWords Go.Proofs.YtoohpdamndgdlaaW.PrintLast Go.Proofs.YtoohpdamndgdlaaW.PrintMore
attribute [local go_sem] max2_int min2_int max_two min_two max_three min_three max_four min_four   -- for this text's walks alone
set_option linter.unusedVariables false
set_option linter.unusedSimpArgs false

/-! ### bitset_Put: function 33 -/
def bitset_Put.f (k : Nat) (a0 : Int) (l1 : List Int) (a2 : Int) (a3 : Bool) : Option (List Int × Int) := (bitset_at.f k a0 l1 a2).bind fun t263 => (if t263 = 0 then (if ([] : List Int).length + l1.length < 140737488355328 then ((some (([] : List Int) ++ l1 : List Int)).bind fun y264 => (if a3 = true then (if 0 ≤ (wrap64 (Int.tdiv a2 8)) then (if (wrap64 (Int.tdiv a2 8)) < (y264.length : Int) then (if 0 ≤ (Int.tmod a2 8) then (some ((y264.set ((wrap64 (Int.tdiv a2 8)) : Int).toNat (Go.bits .or .u8 (rd y264 (wrap64 (Int.tdiv a2 8))) (shr .u8 128 (Int.tmod a2 8)))), 0)) else (none)) else (none)) else (none)) else (if 0 ≤ (wrap64 (Int.tdiv a2 8)) then (if (wrap64 (Int.tdiv a2 8)) < (y264.length : Int) then (if 0 ≤ (Int.tmod a2 8) then (some ((y264.set ((wrap64 (Int.tdiv a2 8)) : Int).toNat (Go.bits .andNot .u8 (rd y264 (wrap64 (Int.tdiv a2 8))) (shr .u8 128 (Int.tmod a2 8)))), 0)) else (none)) else (none)) else (none)))) else (none)) else (some (([] : List Int), t263)))
set_option maxHeartbeats 4000000 in
set_option maxRecDepth 100000 in
theorem bitset_Put.calls (k : Nat) (a0 : Int) (A1 : Option Addr) (c1 : Nat) (l1 : List Int) (a2 : Int) (a3 : Bool) (r1 : List Int) (r2 : Int) (w : World) (hr1 : Kd.C (Kd.int .u8) w A1 l1.length l1) (hc1 : l1.length ≤ c1) (h : bitset_Put.f k a0 l1 a2 a3 = some (r1, r2)) :
    Calls Try.prog 33 #[.int .i64 a0, .slice A1 l1.length c1, .int .i64 a2, .bool a3] w fun e w' => ∃ v0_ : Value, e = .returned (.tuple #[v0_, .int .i64 r2]) ∧ Kd.R (Kd.int .u8) 5 w' w.heap.size (fun _ => True) v0_ r1 ∧ Below w.heap.size w w' := by
  have HR1 := Aside0.mk hr1
  have HC1 := Aside0.mk hc1
  clear hr1 hc1
  have HB := Aside0.mk (Below.refl w.heap.size w)
  have H : ((bitset_at.f k a0 l1 a2).bind fun t263 => (if t263 = 0 then (if ([] : List Int).length + l1.length < 140737488355328 then ((some (([] : List Int) ++ l1 : List Int)).bind fun y264 => (if a3 = true then (if 0 ≤ (wrap64 (Int.tdiv a2 8)) then (if (wrap64 (Int.tdiv a2 8)) < (y264.length : Int) then (if 0 ≤ (Int.tmod a2 8) then (some ((y264.set ((wrap64 (Int.tdiv a2 8)) : Int).toNat (Go.bits .or .u8 (rd y264 (wrap64 (Int.tdiv a2 8))) (shr .u8 128 (Int.tmod a2 8)))), 0)) else (none)) else (none)) else (none)) else (if 0 ≤ (wrap64 (Int.tdiv a2 8)) then (if (wrap64 (Int.tdiv a2 8)) < (y264.length : Int) then (if 0 ≤ (Int.tmod a2 8) then (some ((y264.set ((wrap64 (Int.tdiv a2 8)) : Int).toNat (Go.bits .andNot .u8 (rd y264 (wrap64 (Int.tdiv a2 8))) (shr .u8 128 (Int.tmod a2 8)))), 0)) else (none)) else (none)) else (none)))) else (none)) else (some (([] : List Int), t263)))) = some (r1, r2) := h
  clear h
  replace H := Option.bind_eq_some_iff.mp H
  obtain ⟨t263, A50, H⟩ := H
  replace H : (if t263 = 0 then (if ([] : List Int).length + l1.length < 140737488355328 then ((some (([] : List Int) ++ l1 : List Int)).bind fun y264 => (if a3 = true then (if 0 ≤ (wrap64 (Int.tdiv a2 8)) then (if (wrap64 (Int.tdiv a2 8)) < (y264.length : Int) then (if 0 ≤ (Int.tmod a2 8) then (some ((y264.set ((wrap64 (Int.tdiv a2 8)) : Int).toNat (Go.bits .or .u8 (rd y264 (wrap64 (Int.tdiv a2 8))) (shr .u8 128 (Int.tmod a2 8)))), 0)) else (none)) else (none)) else (none)) else (if 0 ≤ (wrap64 (Int.tdiv a2 8)) then (if (wrap64 (Int.tdiv a2 8)) < (y264.length : Int) then (if 0 ≤ (Int.tmod a2 8) then (some ((y264.set ((wrap64 (Int.tdiv a2 8)) : Int).toNat (Go.bits .andNot .u8 (rd y264 (wrap64 (Int.tdiv a2 8))) (shr .u8 128 (Int.tmod a2 8)))), 0)) else (none)) else (none)) else (none)))) else (none)) else (some (([] : List Int), t263))) = some (r1, r2) := H
  have A5 := Aside0.mk A50
  clear A50
  by_cases c6 : t263 = 0
  · rw [if_pos c6] at H
    have c6b0 : (t263 == 0) = true := beq_iff_eq.mpr c6
    have c6b1 : (t263 != 0) = false := bne_eq_false_iff_eq.mpr c6
    clear c6
    by_cases c7 : ([] : List Int).length + l1.length < 140737488355328
    · rw [if_pos c7] at H
      have LMc7 := Aside0.mk c7
      clear c7
      obtain ⟨y264, hy264⟩ : ∃ y_ : List Int, y_ = (([] : List Int) ++ l1) := ⟨_, rfl⟩
      replace H : (if a3 = true then (if 0 ≤ (wrap64 (Int.tdiv a2 8)) then (if (wrap64 (Int.tdiv a2 8)) < (y264.length : Int) then (if 0 ≤ (Int.tmod a2 8) then (some ((y264.set ((wrap64 (Int.tdiv a2 8)) : Int).toNat (Go.bits .or .u8 (rd y264 (wrap64 (Int.tdiv a2 8))) (shr .u8 128 (Int.tmod a2 8)))), 0)) else (none)) else (none)) else (none)) else (if 0 ≤ (wrap64 (Int.tdiv a2 8)) then (if (wrap64 (Int.tdiv a2 8)) < (y264.length : Int) then (if 0 ≤ (Int.tmod a2 8) then (some ((y264.set ((wrap64 (Int.tdiv a2 8)) : Int).toNat (Go.bits .andNot .u8 (rd y264 (wrap64 (Int.tdiv a2 8))) (shr .u8 128 (Int.tmod a2 8)))), 0)) else (none)) else (none)) else (none))) = some (r1, r2) := by first | (rw [hy264]; with_reducible exact H) | (have H2_ := (Option.bind_some _ _).symm.trans H; rw [hy264]; with_reducible exact H2_) | (have H2_ := (Option.bind_some _ _).symm.trans H; with_reducible exact H2_) | with_reducible exact H | (rw [hy264]; exact H) | exact H
      have Ny264 := Aside0.mk hy264
      clear hy264
      by_cases c8 : a3 = true
      · subst c8
        have H1 : (if 0 ≤ (wrap64 (Int.tdiv a2 8)) then (if (wrap64 (Int.tdiv a2 8)) < (y264.length : Int) then (if 0 ≤ (Int.tmod a2 8) then (some ((y264.set ((wrap64 (Int.tdiv a2 8)) : Int).toNat (Go.bits .or .u8 (rd y264 (wrap64 (Int.tdiv a2 8))) (shr .u8 128 (Int.tmod a2 8)))), 0)) else (none)) else (none)) else (none)) = some (r1, r2) := by rw [if_pos rfl] at H; exact H
        clear H
        have H := H1
        clear H1
        obtain ⟨ji9, hji9⟩ : ∃ j_ : Int, (wrap64 (Int.tdiv a2 8)) = j_ := ⟨_, rfl⟩
        replace H : (if 0 ≤ (ji9) then (if (ji9) < (y264.length : Int) then (if 0 ≤ (Int.tmod a2 8) then (some ((y264.set ((ji9) : Int).toNat (Go.bits .or .u8 (rd y264 (ji9)) (shr .u8 128 (Int.tmod a2 8)))), 0)) else (none)) else (none)) else (none)) = some (r1, r2) := by first | (rw [hji9] at H; exact H) | (simp only [hji9] at H ⊢; exact H)
        (try rw [hji9] at A5)
        have hji9w : (IntKind.i64.wrap (Int.tdiv a2 8)) = ji9 := (i64_w _).trans hji9
        by_cases c10 : 0 ≤ (ji9)
        · rw [if_pos c10] at H
          have c10b0 : decide (0 ≤ (ji9)) = true := decide_eq_true c10
          clear c10
          by_cases c11 : (ji9) < (y264.length : Int)
          · rw [if_pos c11] at H
            have c11b0 : decide ((ji9) < (y264.length : Int)) = true := decide_eq_true c11
            clear c11
            obtain ⟨ji12, hji12⟩ : ∃ j_ : Int, (Int.tmod a2 8) = j_ := ⟨_, rfl⟩
            replace H : (if 0 ≤ (ji12) then (some ((y264.set ((ji9) : Int).toNat (Go.bits .or .u8 (rd y264 (ji9)) (shr .u8 128 (ji12)))), 0)) else (none)) = some (r1, r2) := by first | (rw [hji12] at H; exact H) | (simp only [hji12] at H ⊢; exact H)
            (try rw [hji12] at A5)
            by_cases c13 : 0 ≤ (ji12)
            · rw [if_pos c13] at H
              have c13b0 := eq_true c13
              have c13b1 : decide (0 ≤ (ji12)) = true := decide_eq_true c13
              clear c13
              obtain ⟨ji14, hji14⟩ : ∃ j_ : Int, (shr .u8 128 (ji12)) = j_ := ⟨_, rfl⟩
              replace H : (some ((y264.set ((ji9) : Int).toNat (Go.bits .or .u8 (rd y264 (ji9)) (ji14))), 0)) = some (r1, r2) := by first | (rw [hji14] at H; exact H) | (simp only [hji14] at H ⊢; exact H)
              (try rw [hji14] at A5)
              have hji14_ : (128 / 2 ^ min (ji12).toNat 8) = ji14 := hji14
              have hji14z : (ji12) ≤ 8 → (128 / 2 ^ (ji12).toNat) = ji14 := shr_small hji14
              obtain ⟨y268, hy268⟩ : ∃ y_ : List Int, y_ = (y264.set ((ji9) : Int).toNat (Go.bits .or .u8 (rd y264 (ji9)) (ji14))) := ⟨_, rfl⟩
              replace H : (some (y268, 0)) = some (r1, r2) := by first | (rw [hy268]; with_reducible exact H) | (have H2_ := (Option.bind_some _ _).symm.trans H; rw [hy268]; with_reducible exact H2_) | (have H2_ := (Option.bind_some _ _).symm.trans H; with_reducible exact H2_) | with_reducible exact H | (rw [hy268]; exact H) | exact H
              have Ny268 := Aside0.mk hy268
              clear hy268
              simp only [Option.some.injEq, Prod.mk.injEq] at H
              obtain ⟨rfl, rfl⟩ := H
              go_enter Try.func33, Try.ntmps33
              try go_wp2_with (first | ((with_reducible refine gate_callee (f := 63) rfl ?_); refine goesL_ (some 15) rfl rfl Try.func63 (by kernel_rfl) rfl #[.int .i64 a0, .slice A1 l1.length c1, .int .i64 a2] rfl (by (try simp only [List.map_toArray, List.map_cons, List.map_nil]); first | done | rfl) ?_; (with_reducible refine (bitset_at.calls k a0 _ _ l1 a2 t263 _ ?side1 ?side2 A5.out).mono ?_); (case side1 => repeat (first | exact HR1.out | (with_reducible refine Kd.C_alloc ?_ _) | (with_reducible refine Kd.C_drewN ?_ _) | (with_reducible refine Kd.C_drew ?_))); (case side2 => exact HC1.out); rintro e w' ⟨rfl, ⟨nd, rfl⟩⟩; refine ⟨_, rfl, ?_⟩) | ((with_reducible refine gate_builtin (b := .append) (xs := #[.const (.slice none 0 0), .tmp 19]) rfl ?_); at_builtin; refine Kd.R_append_rows (Kd.int .u8) (w0 := w) w.heap.size rfl (.const (.slice none 0 0)) (.tmp 19) 22 5 (.int .u8 0) 1 rfl Try.underlying22 info5 rfl (by decide) (by omega) (.slice none 0 0) ([] : List Int) l1 _ _ _ (fun _ => True) (fun _ => False) rfl rfl ?aO ?aR (fun _ _ h => h) (fun _ h => h.elim) ?aF ?aB ?aS ?aL ?_; (case aR => repeat (first | exact HR1.out | (with_reducible refine Kd.C_alloc ?_ _) | (with_reducible refine Kd.C_drewN ?_ _) | (with_reducible refine Kd.C_drew ?_))); (case aB => exact (by repeat (first | (with_reducible first | exact HB.out | apply below_alloc | apply pw_below_drewN | apply below_drew1) | exact HB.out))); (case aF => exact (fun _ _ => trivial)); (case aO => exact ((Kd.R_nil _ _ _ _ (fun _ => True)))); (case aS => exact (below_size (by repeat (first | (with_reducible first | exact HB.out | apply below_alloc | apply pw_below_drewN | apply below_drew1) | exact HB.out)))); (case aL => have := LMc7.out; omega); intro v265 w16 ho hb hg hat; rw [← Ny264.out] at ho; have n0_ := Aside0.mk (hb); have n1_ := Aside0.mk (ho); clear HB; have HB := n0_; have HO266 := n1_; clear n0_ n1_; clear ho hb hg hat))
              have n0_ := Aside0.mk (Kd.R_drew HO266.out)
              have n1_ := Aside0.mk (below_drew1 HB.out)
              clear HO266
              clear HB
              have HO266 := n0_
              have HB := n1_
              clear n0_ n1_
              obtain ⟨Ao18, co18, eo18⟩ := Kd.R_slice HO266.out
              (first | subst eo18 | (injection eo18 with f1_ f2_ f3_; have f4_ := f1_.symm; have f5_ := f3_.symm; clear f1_ f2_ f3_; subst f4_; subst f5_))
              have p267 : 0 ≤ ((ji9) : Int) := of_decide_eq_true (by first | (with_reducible assumption) | assumption)
              have q267 : (ji9) < (y264.length : Int) := of_decide_eq_true (by first | (with_reducible assumption) | assumption)
              obtain ⟨ad267, e267, hx267_0⟩ := Kd.at_int (Kd.R_reads' HO266.out).2.2 (ji9) p267 q267
              cases e267
              replace p267 := eq_true p267
              replace q267 := eq_true q267
              have hmk : ∀ W : World, (Instr.index 68 maskV (.int .i64 (ji12))).run Try.prog W = .ok (.int .u8 (ji14)) W := by rw [← hji14]; exact mask_at (ji12) (of_decide_eq_true c13b1) (hji12 ▸ tmod8_lt _)
              refine start_ (n := 12) (S := fun w' => w'.cell? (ad267.add ((ji9)).toNat) = some (.int .u8 (rd y264 (ji9)))) (ds := [11]) #[false, false, false, false, false, false, false, false, false, false, false, false] (by kernel_rfl) rfl rfl (hx267_0) (fun hHeld => ?_)
              generalize w16.drew = w17 at HO266 HB hx267_0 hHeld ⊢
              refine pure_ (i := 0) (N := some 22) (v := ?_) (a' := ?_) #[true, false, false, false, false, false, false, false, false, false, false, false] rfl rfl (by kernel_rfl) (fun _ _ _ h => h) (Or.inl ⟨by rfl, ?_⟩) ?_ ?_
              rotate_left
              · intro w'
                go_simp
                with_reducible rfl
              rotate_left
              · simp only [Act.put, List.setIfInBounds_toArray, List.set_cons_zero, List.set_cons_succ, i64_w, i32_w]
                rfl
              refine pure_ (i := 1) (N := some 23) (v := ?_) (a' := ?_) #[true, true, false, false, false, false, false, false, false, false, false, false] rfl rfl (by kernel_rfl) (fun _ _ _ h => h) (Or.inl ⟨by rfl, ?_⟩) ?_ ?_
              rotate_left
              · intro w'
                go_simp
                with_reducible rfl
              rotate_left
              · simp only [Act.put, List.setIfInBounds_toArray, List.set_cons_zero, List.set_cons_succ, i64_w, i32_w]
                rfl
              refine pure_ (i := 2) (N := some 24) (v := ?_) (a' := ?_) #[true, true, true, false, false, false, false, false, false, false, false, false] rfl rfl (by kernel_rfl) (fun _ _ _ h => h) (Or.inl ⟨by rfl, ?_⟩) ?_ ?_
              rotate_left
              · intro w'
                go_simp
                with_reducible rfl
              rotate_left
              · simp only [Act.put, List.setIfInBounds_toArray, List.set_cons_zero, List.set_cons_succ, i64_w, i32_w]
                rfl
              refine pure_ (i := 3) (N := some 25) (v := ?_) (a' := ?_) #[true, true, true, true, false, false, false, false, false, false, false, false] rfl rfl (by kernel_rfl) (fun _ _ _ h => h) (Or.inl ⟨by rfl, ?_⟩) ?_ ?_
              rotate_left
              · intro w'
                go_simp
                with_reducible rfl
              rotate_left
              · simp only [Act.put, List.setIfInBounds_toArray, List.set_cons_zero, List.set_cons_succ, i64_w, i32_w]
                rfl
              refine pure_ (i := 6) (N := some 28) (v := ?_) (a' := ?_) #[true, true, true, true, false, false, true, false, false, false, false, false] rfl rfl (by kernel_rfl) (fun _ _ _ h => h) (Or.inl ⟨by rfl, ?_⟩) ?_ ?_
              rotate_left
              · intro w'
                go_simp
                with_reducible rfl
              rotate_left
              · simp only [Act.put, List.setIfInBounds_toArray, List.set_cons_zero, List.set_cons_succ, i64_w, i32_w]
                rfl
              refine pure_ (i := 7) (N := some 29) (v := ?_) (a' := ?_) #[true, true, true, true, false, false, true, true, false, false, false, false] rfl rfl (by kernel_rfl) (fun _ _ _ h => h) (Or.inl ⟨by rfl, ?_⟩) ?_ ?_
              rotate_left
              · intro w'
                go_simp
                with_reducible rfl
              rotate_left
              · simp only [Act.put, List.setIfInBounds_toArray, List.set_cons_zero, List.set_cons_succ, i64_w, i32_w]
                rfl
              refine take_ (i := 4) (N := some 26) (v := ?_) (a' := ?_) #[true, true, true, true, true, false, true, true, false, false, false, false] rfl rfl (by kernel_rfl) (fun _ _ _ h => h) (Or.inl ⟨by rfl, ?_⟩) hHeld ?_ ?_
              rotate_left
              · intro w' s0
                go_simp
                with_reducible rfl
              rotate_left
              · simp only [Act.put, List.setIfInBounds_toArray, List.set_cons_zero, List.set_cons_succ, i64_w, i32_w]
                rfl
              refine one_ (i := 5) (N := some 27) #[true, true, true, true, true, true, true, true, false, false, false, false] rfl rfl (by kernel_rfl) (by decide) (fun K hK => ?_)
              refine goes_ Try.func58 (by kernel_rfl) rfl #[] (by rfl) rfl rfl (by (try simp only [List.map_toArray, List.map_cons, List.map_nil]); first | done | rfl) ?_
              with_reducible refine (masks_calls _).mono ?_
              rintro e wm ⟨rfl, hbm⟩
              refine ⟨_, rfl, ?_⟩
              have n0_ := Aside0.mk (Kd.R_below HO266.out hbm)
              have n1_ := Aside0.mk (below_step HB.out hbm)
              have n2_ := (hbm.cell (World.block_lt_of_cell? _ _ hx267_0)).trans hx267_0
              clear HO266 HB hx267_0
              have HO266 := n0_
              have HB := n1_
              have hx267_0 := n2_
              have hHx := Aside0.mk n2_
              clear n0_ n1_ n2_ hbm
              have p15 : 0 ≤ ((ji9) : Int) := of_decide_eq_true (by first | (with_reducible assumption) | assumption)
              have q15 : ((ji9) : Int) < ((y264.length : Int) : Int) := of_decide_eq_true (by first | (with_reducible assumption) | assumption)
              obtain ⟨go15, co15, eo15, gb15, gl15, cl15, HG15⟩ := Kd.R_form HO266.out (by omega)
              (first | cases eo15 | (injection eo15 with ea_ en_ ec_; (first | subst ea_ | (injection ea_ with ea_; subst ea_)); subst ec_; clear en_))
              have GB15 := Aside0.mk gb15
              have GG15 := Aside0.mk HG15
              clear gb15 gl15 HG15
              (first | simp only [add_plain] at hx267_0 | skip)
              obtain ⟨hx15_0, hf15_0⟩ := Kd.R_celln 0 HO266.out ((ji9) : Int) p15 q15
              replace p15 := eq_true p15
              replace q15 := eq_true q15
              have HP19 := Kd.R_putn HO266.out ((ji9) : Int) (Go.bits .or .u8 (rd y264 (ji9)) (ji14))
              rw [← Ny268.out] at HP19
              have HQ19 := Aside0.mk HP19
              clear HP19
              refine hK.out _ _ (hHx.out) (fun hHeld => ?_)
              clear hK K
              refine norm_ (a' := ?_) ?_ ?_
              rotate_left
              · show Act.put _ (some 27) _ = _
                simp only [Act.put, List.setIfInBounds_toArray, List.set_cons_zero, List.set_cons_succ, i64_w, i32_w]
                rfl
              refine pure_ (i := 8) (N := some 30) (v := ?_) (a' := ?_) #[true, true, true, true, true, true, true, true, true, false, false, false] rfl rfl (by kernel_rfl) (fun _ _ _ h => h) (Or.inl ⟨by rfl, ?_⟩) ?_ ?_
              rotate_left
              · intro w'
                go_simp
                with_reducible rfl
              rotate_left
              · simp only [Act.put, List.setIfInBounds_toArray, List.set_cons_zero, List.set_cons_succ, i64_w, i32_w]
                rfl
              refine pure_ (i := 9) (N := some 31) (v := ?_) (a' := ?_) #[true, true, true, true, true, true, true, true, true, true, false, false] rfl rfl (by kernel_rfl) (fun _ _ _ h => h) (Or.inl ⟨by rfl, ?_⟩) ?_ ?_
              rotate_left
              · intro w'
                go_simp
                with_reducible rfl
              rotate_left
              · simp only [Act.put, List.setIfInBounds_toArray, List.set_cons_zero, List.set_cons_succ, i64_w, i32_w]
                rfl
              refine pure_ (i := 10) (N := some 32) (v := ?_) (a' := ?_) #[true, true, true, true, true, true, true, true, true, true, true, false] rfl rfl (by kernel_rfl) (fun _ _ _ h => h) (Or.inl ⟨by rfl, ?_⟩) ?_ ?_
              rotate_left
              · intro w'
                go_simp
                with_reducible rfl
              rotate_left
              · simp only [Act.put, List.setIfInBounds_toArray, List.set_cons_zero, List.set_cons_succ, i64_w, i32_w]
                rfl
              refine last_ (i := 11) (N := none) #[true, true, true, true, true, true, true, true, true, true, true, true] rfl rfl (by kernel_rfl) (by decide) (fun K hK => ?_)
              refine skip_ (w1 := ?_) (by rfl) rfl ?_ ?_
              rotate_left
              · go_simp
                rfl
              refine hK.out _ _ ?_
              clear hK K
              refine done_ (by kernel_rfl) ?_
              try go_wp2
              go_ret2
              exact ⟨_, by first | rfl | (simp [errW_none, errW_some] <;> rfl) | (simp only [← hji9, ← hji12, ← hji14]; first | rfl | (simp [errW_none, errW_some] <;> rfl)) | (simp [*, errW_none, errW_some] <;> rfl), by (with_reducible repeat (first | apply Kd.R_alloc | apply Kd.R_drewN | apply Kd.R_drew)); exact HQ19.out, by repeat (first | (with_reducible first | exact HB.out | apply below_alloc | apply pw_below_drewN | apply below_drew1 | refine below_set ?_ GB15.out) | exact HB.out)⟩
            · rw [if_neg c13] at H
              exact absurd H (by simp)
          · rw [if_neg c11] at H
            exact absurd H (by simp)
        · rw [if_neg c10] at H
          exact absurd H (by simp)
      · replace c8 := Bool.eq_false_iff.mpr c8
        subst c8
        have H1 : (if 0 ≤ (wrap64 (Int.tdiv a2 8)) then (if (wrap64 (Int.tdiv a2 8)) < (y264.length : Int) then (if 0 ≤ (Int.tmod a2 8) then (some ((y264.set ((wrap64 (Int.tdiv a2 8)) : Int).toNat (Go.bits .andNot .u8 (rd y264 (wrap64 (Int.tdiv a2 8))) (shr .u8 128 (Int.tmod a2 8)))), 0)) else (none)) else (none)) else (none)) = some (r1, r2) := by rw [if_neg (show ¬ (false = true) by decide)] at H; exact H
        clear H
        have H := H1
        clear H1
        obtain ⟨ji20, hji20⟩ : ∃ j_ : Int, (wrap64 (Int.tdiv a2 8)) = j_ := ⟨_, rfl⟩
        replace H : (if 0 ≤ (ji20) then (if (ji20) < (y264.length : Int) then (if 0 ≤ (Int.tmod a2 8) then (some ((y264.set ((ji20) : Int).toNat (Go.bits .andNot .u8 (rd y264 (ji20)) (shr .u8 128 (Int.tmod a2 8)))), 0)) else (none)) else (none)) else (none)) = some (r1, r2) := by first | (rw [hji20] at H; exact H) | (simp only [hji20] at H ⊢; exact H)
        (try rw [hji20] at A5)
        have hji20w : (IntKind.i64.wrap (Int.tdiv a2 8)) = ji20 := (i64_w _).trans hji20
        by_cases c21 : 0 ≤ (ji20)
        · rw [if_pos c21] at H
          have c21b0 : decide (0 ≤ (ji20)) = true := decide_eq_true c21
          clear c21
          by_cases c22 : (ji20) < (y264.length : Int)
          · rw [if_pos c22] at H
            have c22b0 : decide ((ji20) < (y264.length : Int)) = true := decide_eq_true c22
            clear c22
            obtain ⟨ji23, hji23⟩ : ∃ j_ : Int, (Int.tmod a2 8) = j_ := ⟨_, rfl⟩
            replace H : (if 0 ≤ (ji23) then (some ((y264.set ((ji20) : Int).toNat (Go.bits .andNot .u8 (rd y264 (ji20)) (shr .u8 128 (ji23)))), 0)) else (none)) = some (r1, r2) := by first | (rw [hji23] at H; exact H) | (simp only [hji23] at H ⊢; exact H)
            (try rw [hji23] at A5)
            by_cases c24 : 0 ≤ (ji23)
            · rw [if_pos c24] at H
              have c24b0 := eq_true c24
              have c24b1 : decide (0 ≤ (ji23)) = true := decide_eq_true c24
              clear c24
              obtain ⟨ji25, hji25⟩ : ∃ j_ : Int, (shr .u8 128 (ji23)) = j_ := ⟨_, rfl⟩
              replace H : (some ((y264.set ((ji20) : Int).toNat (Go.bits .andNot .u8 (rd y264 (ji20)) (ji25))), 0)) = some (r1, r2) := by first | (rw [hji25] at H; exact H) | (simp only [hji25] at H ⊢; exact H)
              (try rw [hji25] at A5)
              have hji25_ : (128 / 2 ^ min (ji23).toNat 8) = ji25 := hji25
              have hji25z : (ji23) ≤ 8 → (128 / 2 ^ (ji23).toNat) = ji25 := shr_small hji25
              obtain ⟨y270, hy270⟩ : ∃ y_ : List Int, y_ = (y264.set ((ji20) : Int).toNat (Go.bits .andNot .u8 (rd y264 (ji20)) (ji25))) := ⟨_, rfl⟩
              replace H : (some (y270, 0)) = some (r1, r2) := by first | (rw [hy270]; with_reducible exact H) | (have H2_ := (Option.bind_some _ _).symm.trans H; rw [hy270]; with_reducible exact H2_) | (have H2_ := (Option.bind_some _ _).symm.trans H; with_reducible exact H2_) | with_reducible exact H | (rw [hy270]; exact H) | exact H
              have Ny270 := Aside0.mk hy270
              clear hy270
              simp only [Option.some.injEq, Prod.mk.injEq] at H
              obtain ⟨rfl, rfl⟩ := H
              go_enter Try.func33, Try.ntmps33
              try go_wp2_with (first | ((with_reducible refine gate_callee (f := 63) rfl ?_); refine goesL_ (some 15) rfl rfl Try.func63 (by kernel_rfl) rfl #[.int .i64 a0, .slice A1 l1.length c1, .int .i64 a2] rfl (by (try simp only [List.map_toArray, List.map_cons, List.map_nil]); first | done | rfl) ?_; (with_reducible refine (bitset_at.calls k a0 _ _ l1 a2 t263 _ ?side1 ?side2 A5.out).mono ?_); (case side1 => repeat (first | exact HR1.out | (with_reducible refine Kd.C_alloc ?_ _) | (with_reducible refine Kd.C_drewN ?_ _) | (with_reducible refine Kd.C_drew ?_))); (case side2 => exact HC1.out); rintro e w' ⟨rfl, ⟨nd, rfl⟩⟩; refine ⟨_, rfl, ?_⟩) | ((with_reducible refine gate_builtin (b := .append) (xs := #[.const (.slice none 0 0), .tmp 19]) rfl ?_); at_builtin; refine Kd.R_append_rows (Kd.int .u8) (w0 := w) w.heap.size rfl (.const (.slice none 0 0)) (.tmp 19) 22 5 (.int .u8 0) 1 rfl Try.underlying22 info5 rfl (by decide) (by omega) (.slice none 0 0) ([] : List Int) l1 _ _ _ (fun _ => True) (fun _ => False) rfl rfl ?aO ?aR (fun _ _ h => h) (fun _ h => h.elim) ?aF ?aB ?aS ?aL ?_; (case aR => repeat (first | exact HR1.out | (with_reducible refine Kd.C_alloc ?_ _) | (with_reducible refine Kd.C_drewN ?_ _) | (with_reducible refine Kd.C_drew ?_))); (case aB => exact (by repeat (first | (with_reducible first | exact HB.out | apply below_alloc | apply pw_below_drewN | apply below_drew1) | exact HB.out))); (case aF => exact (fun _ _ => trivial)); (case aO => exact ((Kd.R_nil _ _ _ _ (fun _ => True)))); (case aS => exact (below_size (by repeat (first | (with_reducible first | exact HB.out | apply below_alloc | apply pw_below_drewN | apply below_drew1) | exact HB.out)))); (case aL => have := LMc7.out; omega); intro v265 w27 ho hb hg hat; rw [← Ny264.out] at ho; have n0_ := Aside0.mk (hb); have n1_ := Aside0.mk (ho); clear HB; have HB := n0_; have HO266 := n1_; clear n0_ n1_; clear ho hb hg hat))
              have n0_ := Aside0.mk (Kd.R_drew HO266.out)
              have n1_ := Aside0.mk (below_drew1 HB.out)
              clear HO266
              clear HB
              have HO266 := n0_
              have HB := n1_
              clear n0_ n1_
              obtain ⟨Ao29, co29, eo29⟩ := Kd.R_slice HO266.out
              (first | subst eo29 | (injection eo29 with f1_ f2_ f3_; have f4_ := f1_.symm; have f5_ := f3_.symm; clear f1_ f2_ f3_; subst f4_; subst f5_))
              have p269 : 0 ≤ ((ji20) : Int) := of_decide_eq_true (by first | (with_reducible assumption) | assumption)
              have q269 : (ji20) < (y264.length : Int) := of_decide_eq_true (by first | (with_reducible assumption) | assumption)
              obtain ⟨ad269, e269, hx269_0⟩ := Kd.at_int (Kd.R_reads' HO266.out).2.2 (ji20) p269 q269
              cases e269
              replace p269 := eq_true p269
              replace q269 := eq_true q269
              have hmk : ∀ W : World, (Instr.index 68 maskV (.int .i64 (ji23))).run Try.prog W = .ok (.int .u8 (ji25)) W := by rw [← hji25]; exact mask_at (ji23) (of_decide_eq_true c24b1) (hji23 ▸ tmod8_lt _)
              refine start_ (n := 12) (S := fun w' => w'.cell? (ad269.add ((ji20)).toNat) = some (.int .u8 (rd y264 (ji20)))) (ds := [11]) #[false, false, false, false, false, false, false, false, false, false, false, false] (by kernel_rfl) rfl rfl (hx269_0) (fun hHeld => ?_)
              generalize w27.drew = w28 at HO266 HB hx269_0 hHeld ⊢
              refine pure_ (i := 0) (N := some 33) (v := ?_) (a' := ?_) #[true, false, false, false, false, false, false, false, false, false, false, false] rfl rfl (by kernel_rfl) (fun _ _ _ h => h) (Or.inl ⟨by rfl, ?_⟩) ?_ ?_
              rotate_left
              · intro w'
                go_simp
                with_reducible rfl
              rotate_left
              · simp only [Act.put, List.setIfInBounds_toArray, List.set_cons_zero, List.set_cons_succ, i64_w, i32_w]
                rfl
              refine pure_ (i := 1) (N := some 34) (v := ?_) (a' := ?_) #[true, true, false, false, false, false, false, false, false, false, false, false] rfl rfl (by kernel_rfl) (fun _ _ _ h => h) (Or.inl ⟨by rfl, ?_⟩) ?_ ?_
              rotate_left
              · intro w'
                go_simp
                with_reducible rfl
              rotate_left
              · simp only [Act.put, List.setIfInBounds_toArray, List.set_cons_zero, List.set_cons_succ, i64_w, i32_w]
                rfl
              refine pure_ (i := 2) (N := some 35) (v := ?_) (a' := ?_) #[true, true, true, false, false, false, false, false, false, false, false, false] rfl rfl (by kernel_rfl) (fun _ _ _ h => h) (Or.inl ⟨by rfl, ?_⟩) ?_ ?_
              rotate_left
              · intro w'
                go_simp
                with_reducible rfl
              rotate_left
              · simp only [Act.put, List.setIfInBounds_toArray, List.set_cons_zero, List.set_cons_succ, i64_w, i32_w]
                rfl
              refine pure_ (i := 3) (N := some 36) (v := ?_) (a' := ?_) #[true, true, true, true, false, false, false, false, false, false, false, false] rfl rfl (by kernel_rfl) (fun _ _ _ h => h) (Or.inl ⟨by rfl, ?_⟩) ?_ ?_
              rotate_left
              · intro w'
                go_simp
                with_reducible rfl
              rotate_left
              · simp only [Act.put, List.setIfInBounds_toArray, List.set_cons_zero, List.set_cons_succ, i64_w, i32_w]
                rfl
              refine pure_ (i := 6) (N := some 39) (v := ?_) (a' := ?_) #[true, true, true, true, false, false, true, false, false, false, false, false] rfl rfl (by kernel_rfl) (fun _ _ _ h => h) (Or.inl ⟨by rfl, ?_⟩) ?_ ?_
              rotate_left
              · intro w'
                go_simp
                with_reducible rfl
              rotate_left
              · simp only [Act.put, List.setIfInBounds_toArray, List.set_cons_zero, List.set_cons_succ, i64_w, i32_w]
                rfl
              refine pure_ (i := 7) (N := some 40) (v := ?_) (a' := ?_) #[true, true, true, true, false, false, true, true, false, false, false, false] rfl rfl (by kernel_rfl) (fun _ _ _ h => h) (Or.inl ⟨by rfl, ?_⟩) ?_ ?_
              rotate_left
              · intro w'
                go_simp
                with_reducible rfl
              rotate_left
              · simp only [Act.put, List.setIfInBounds_toArray, List.set_cons_zero, List.set_cons_succ, i64_w, i32_w]
                rfl
              refine take_ (i := 4) (N := some 37) (v := ?_) (a' := ?_) #[true, true, true, true, true, false, true, true, false, false, false, false] rfl rfl (by kernel_rfl) (fun _ _ _ h => h) (Or.inl ⟨by rfl, ?_⟩) hHeld ?_ ?_
              rotate_left
              · intro w' s0
                go_simp
                with_reducible rfl
              rotate_left
              · simp only [Act.put, List.setIfInBounds_toArray, List.set_cons_zero, List.set_cons_succ, i64_w, i32_w]
                rfl
              refine one_ (i := 5) (N := some 38) #[true, true, true, true, true, true, true, true, false, false, false, false] rfl rfl (by kernel_rfl) (by decide) (fun K hK => ?_)
              refine goes_ Try.func58 (by kernel_rfl) rfl #[] (by rfl) rfl rfl (by (try simp only [List.map_toArray, List.map_cons, List.map_nil]); first | done | rfl) ?_
              with_reducible refine (masks_calls _).mono ?_
              rintro e wm ⟨rfl, hbm⟩
              refine ⟨_, rfl, ?_⟩
              have n0_ := Aside0.mk (Kd.R_below HO266.out hbm)
              have n1_ := Aside0.mk (below_step HB.out hbm)
              have n2_ := (hbm.cell (World.block_lt_of_cell? _ _ hx269_0)).trans hx269_0
              clear HO266 HB hx269_0
              have HO266 := n0_
              have HB := n1_
              have hx269_0 := n2_
              have hHx := Aside0.mk n2_
              clear n0_ n1_ n2_ hbm
              have p26 : 0 ≤ ((ji20) : Int) := of_decide_eq_true (by first | (with_reducible assumption) | assumption)
              have q26 : ((ji20) : Int) < ((y264.length : Int) : Int) := of_decide_eq_true (by first | (with_reducible assumption) | assumption)
              obtain ⟨go26, co26, eo26, gb26, gl26, cl26, HG26⟩ := Kd.R_form HO266.out (by omega)
              (first | cases eo26 | (injection eo26 with ea_ en_ ec_; (first | subst ea_ | (injection ea_ with ea_; subst ea_)); subst ec_; clear en_))
              have GB26 := Aside0.mk gb26
              have GG26 := Aside0.mk HG26
              clear gb26 gl26 HG26
              (first | simp only [add_plain] at hx269_0 | skip)
              obtain ⟨hx26_0, hf26_0⟩ := Kd.R_celln 0 HO266.out ((ji20) : Int) p26 q26
              replace p26 := eq_true p26
              replace q26 := eq_true q26
              have HP30 := Kd.R_putn HO266.out ((ji20) : Int) (Go.bits .andNot .u8 (rd y264 (ji20)) (ji25))
              rw [← Ny270.out] at HP30
              have HQ30 := Aside0.mk HP30
              clear HP30
              refine hK.out _ _ (hHx.out) (fun hHeld => ?_)
              clear hK K
              refine norm_ (a' := ?_) ?_ ?_
              rotate_left
              · show Act.put _ (some 38) _ = _
                simp only [Act.put, List.setIfInBounds_toArray, List.set_cons_zero, List.set_cons_succ, i64_w, i32_w]
                rfl
              refine pure_ (i := 8) (N := some 41) (v := ?_) (a' := ?_) #[true, true, true, true, true, true, true, true, true, false, false, false] rfl rfl (by kernel_rfl) (fun _ _ _ h => h) (Or.inl ⟨by rfl, ?_⟩) ?_ ?_
              rotate_left
              · intro w'
                go_simp
                with_reducible rfl
              rotate_left
              · simp only [Act.put, List.setIfInBounds_toArray, List.set_cons_zero, List.set_cons_succ, i64_w, i32_w]
                rfl
              refine pure_ (i := 9) (N := some 42) (v := ?_) (a' := ?_) #[true, true, true, true, true, true, true, true, true, true, false, false] rfl rfl (by kernel_rfl) (fun _ _ _ h => h) (Or.inl ⟨by rfl, ?_⟩) ?_ ?_
              rotate_left
              · intro w'
                go_simp
                with_reducible rfl
              rotate_left
              · simp only [Act.put, List.setIfInBounds_toArray, List.set_cons_zero, List.set_cons_succ, i64_w, i32_w]
                rfl
              refine pure_ (i := 10) (N := some 43) (v := ?_) (a' := ?_) #[true, true, true, true, true, true, true, true, true, true, true, false] rfl rfl (by kernel_rfl) (fun _ _ _ h => h) (Or.inl ⟨by rfl, ?_⟩) ?_ ?_
              rotate_left
              · intro w'
                go_simp
                with_reducible rfl
              rotate_left
              · simp only [Act.put, List.setIfInBounds_toArray, List.set_cons_zero, List.set_cons_succ, i64_w, i32_w]
                rfl
              refine last_ (i := 11) (N := none) #[true, true, true, true, true, true, true, true, true, true, true, true] rfl rfl (by kernel_rfl) (by decide) (fun K hK => ?_)
              refine skip_ (w1 := ?_) (by rfl) rfl ?_ ?_
              rotate_left
              · go_simp
                rfl
              refine hK.out _ _ ?_
              clear hK K
              refine done_ (by kernel_rfl) ?_
              try go_wp2
              go_ret2
              exact ⟨_, by first | rfl | (simp [errW_none, errW_some] <;> rfl) | (simp only [← hji20, ← hji23, ← hji25]; first | rfl | (simp [errW_none, errW_some] <;> rfl)) | (simp [*, errW_none, errW_some] <;> rfl), by (with_reducible repeat (first | apply Kd.R_alloc | apply Kd.R_drewN | apply Kd.R_drew)); exact HQ30.out, by repeat (first | (with_reducible first | exact HB.out | apply below_alloc | apply pw_below_drewN | apply below_drew1 | refine below_set ?_ GB26.out) | exact HB.out)⟩
            · rw [if_neg c24] at H
              exact absurd H (by simp)
          · rw [if_neg c22] at H
            exact absurd H (by simp)
        · rw [if_neg c21] at H
          exact absurd H (by simp)
    · rw [if_neg c7] at H
      exact absurd H (by simp)
  · rw [if_neg c6] at H
    have c6b0 : (t263 == 0) = false := beq_eq_false_iff_ne.mpr c6
    have c6b1 : (t263 != 0) = true := bne_iff_ne.mpr c6
    simp only [Option.some.injEq, Prod.mk.injEq] at H
    obtain ⟨rfl, rfl⟩ := H
    go_enter Try.func33, Try.ntmps33
    go_wp2_with (first | ((with_reducible refine gate_callee (f := 63) rfl ?_); refine goesL_ (some 15) rfl rfl Try.func63 (by kernel_rfl) rfl #[.int .i64 a0, .slice A1 l1.length c1, .int .i64 a2] rfl (by (try simp only [List.map_toArray, List.map_cons, List.map_nil]); first | done | rfl) ?_; (with_reducible refine (bitset_at.calls k a0 _ _ l1 a2 t263 _ ?side1 ?side2 A5.out).mono ?_); (case side1 => repeat (first | exact HR1.out | (with_reducible refine Kd.C_alloc ?_ _) | (with_reducible refine Kd.C_drewN ?_ _) | (with_reducible refine Kd.C_drew ?_))); (case side2 => exact HC1.out); rintro e w' ⟨rfl, ⟨nd, rfl⟩⟩; refine ⟨_, rfl, ?_⟩))
    go_ret2
    exact ⟨_, by first | rfl | (simp [errW_none, errW_some] <;> rfl) | (simp [*, errW_none, errW_some] <;> rfl), by first | exact Kd.R_nil _ _ _ _ _ | exact Kd.N_nil _ _ _ _ _ | exact Kd.V_nil _ _ _ _ _ | exact Kd.Q_nil _ _ _ _ _ | exact Kd.S_nil _ _ _ _ _, by repeat (first | (with_reducible first | exact HB.out | apply below_alloc | apply pw_below_drewN | apply below_drew1) | exact HB.out)⟩

end Go.Proofs.Ytoohpdamndgdlaa.P


-- Made by a program of this session (the print of the kit over a neighbour), for this claim.
namespace Go.Proofs.Ytoohpdamndgdlaa.P
open Go.RowKit Go.Proofs.YtoohpdamndgdlaaW.PrintWords Go.Proofs.YtoohpdamndgdlaaW.PrintLast Go.Proofs.YtoohpdamndgdlaaW.PrintMore
attribute [local go_sem] max2_int min2_int max_two min_two max_three min_three max_four min_four   -- for this text's walks alone
set_option linter.unusedVariables false
set_option linter.unusedSimpArgs false

/-! ### torrentlaw4_has: function 49 -/
end Go.Proofs.Ytoohpdamndgdlaa.P

