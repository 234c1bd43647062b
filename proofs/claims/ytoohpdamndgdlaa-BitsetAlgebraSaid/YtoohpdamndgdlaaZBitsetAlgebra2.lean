-- Merged by a program of this session out of the texts Px30, Px58, Pd59 of this claim's own.
import Derived.Test.YtoohpdamndgdlaaZBitsetAlgebra1

-- Made by a program of this session (the print of the kit over a neighbour), for this claim.
namespace Go.Proofs.Ytoohpdamndgdlaa.P
open Go.RowKit Go.Proofs.YtoohpdamndgdlaaW.PrintWords Go.Proofs.YtoohpdamndgdlaaW.PrintLast Go.Proofs.YtoohpdamndgdlaaW.PrintMore
attribute [local go_sem] max2_int min2_int max_two min_two max_three min_three max_four min_four   -- for this text's walks alone
set_option linter.unusedVariables false
set_option linter.unusedSimpArgs false

/-! ### bitset_Get: function 31 -/
def bitset_Get.f (k : Nat) (a0 : Int) (l1 : List Int) (a2 : Int) : Option (Bool × Int) := (bitset_at.f k a0 l1 a2).bind fun t256 => (if t256 = 0 then (if 0 ≤ (wrap64 (Int.tdiv a2 8)) then (if (wrap64 (Int.tdiv a2 8)) < (l1.length : Int) then (if 0 ≤ (Int.tmod a2 8) then (some (((Go.bits .and .u8 (rd l1 (wrap64 (Int.tdiv a2 8))) (shr .u8 128 (Int.tmod a2 8))) != 0), 0)) else (none)) else (none)) else (none)) else (some (false, t256)))
theorem bitset_Get.mono : ∀ a0 a1 a2 k, LeO (bitset_Get.f k a0 a1 a2) (bitset_Get.f (k + 1) a0 a1 a2) := by
  intro a0 a1 a2 k
  unfold bitset_Get.f
  repeat' first
      | (with_reducible exact bitset_at.mono _ _ _ _)
      | (with_reducible exact LeO.refl _)
      | (with_reducible exact LeO.none _)
      | (with_reducible refine LeO.ite ?_ ?_)
      | (with_reducible refine LeO.bind ?_ (fun _ => ?_))
      | exact bitset_at.mono _ _ _ _
      | exact LeO.none _
      | refine LeO.ite ?_ ?_
      | refine LeO.bind ?_ (fun _ => ?_)
set_option maxHeartbeats 4000000 in
set_option maxRecDepth 100000 in
theorem bitset_Get.calls (k : Nat) (a0 : Int) (A1 : Option Addr) (c1 : Nat) (l1 : List Int) (a2 : Int) (r1 : Bool) (r2 : Int) (w : World) (hr1 : Kd.C (Kd.int .u8) w A1 l1.length l1) (hc1 : l1.length ≤ c1) (h : bitset_Get.f k a0 l1 a2 = some (r1, r2)) :
    Calls Try.prog 31 #[.int .i64 a0, .slice A1 l1.length c1, .int .i64 a2] w fun e w' => e = .returned (.tuple #[.bool r1, .int .i64 r2]) ∧ Below w.heap.size w w' := by
  have HR1 := Aside0.mk hr1
  have HC1 := Aside0.mk hc1
  clear hr1 hc1
  have HB := Aside0.mk (Below.refl w.heap.size w)
  have H : ((bitset_at.f k a0 l1 a2).bind fun t256 => (if t256 = 0 then (if 0 ≤ (wrap64 (Int.tdiv a2 8)) then (if (wrap64 (Int.tdiv a2 8)) < (l1.length : Int) then (if 0 ≤ (Int.tmod a2 8) then (some (((Go.bits .and .u8 (rd l1 (wrap64 (Int.tdiv a2 8))) (shr .u8 128 (Int.tmod a2 8))) != 0), 0)) else (none)) else (none)) else (none)) else (some (false, t256)))) = some (r1, r2) := h
  clear h
  replace H := Option.bind_eq_some_iff.mp H
  obtain ⟨t256, A40, H⟩ := H
  replace H : (if t256 = 0 then (if 0 ≤ (wrap64 (Int.tdiv a2 8)) then (if (wrap64 (Int.tdiv a2 8)) < (l1.length : Int) then (if 0 ≤ (Int.tmod a2 8) then (some (((Go.bits .and .u8 (rd l1 (wrap64 (Int.tdiv a2 8))) (shr .u8 128 (Int.tmod a2 8))) != 0), 0)) else (none)) else (none)) else (none)) else (some (false, t256))) = some (r1, r2) := H
  have A4 := Aside0.mk A40
  clear A40
  by_cases c5 : t256 = 0
  · rw [if_pos c5] at H
    have c5b0 : (t256 == 0) = true := beq_iff_eq.mpr c5
    have c5b1 : (t256 != 0) = false := bne_eq_false_iff_eq.mpr c5
    clear c5
    obtain ⟨ji6, hji6⟩ : ∃ j_ : Int, (wrap64 (Int.tdiv a2 8)) = j_ := ⟨_, rfl⟩
    replace H : (if 0 ≤ (ji6) then (if (ji6) < (l1.length : Int) then (if 0 ≤ (Int.tmod a2 8) then (some (((Go.bits .and .u8 (rd l1 (ji6)) (shr .u8 128 (Int.tmod a2 8))) != 0), 0)) else (none)) else (none)) else (none)) = some (r1, r2) := by first | (rw [hji6] at H; exact H) | (simp only [hji6] at H ⊢; exact H)
    (try rw [hji6] at A4)
    have hji6w : (IntKind.i64.wrap (Int.tdiv a2 8)) = ji6 := (i64_w _).trans hji6
    by_cases c7 : 0 ≤ (ji6)
    · rw [if_pos c7] at H
      have c7b0 : decide (0 ≤ (ji6)) = true := decide_eq_true c7
      clear c7
      by_cases c8 : (ji6) < (l1.length : Int)
      · rw [if_pos c8] at H
        have c8b0 : decide ((ji6) < (l1.length : Int)) = true := decide_eq_true c8
        clear c8
        obtain ⟨ji9, hji9⟩ : ∃ j_ : Int, (Int.tmod a2 8) = j_ := ⟨_, rfl⟩
        replace H : (if 0 ≤ (ji9) then (some (((Go.bits .and .u8 (rd l1 (ji6)) (shr .u8 128 (ji9))) != 0), 0)) else (none)) = some (r1, r2) := by first | (rw [hji9] at H; exact H) | (simp only [hji9] at H ⊢; exact H)
        (try rw [hji9] at A4)
        by_cases c10 : 0 ≤ (ji9)
        · rw [if_pos c10] at H
          have c10b0 := eq_true c10
          have c10b1 : decide (0 ≤ (ji9)) = true := decide_eq_true c10
          clear c10
          obtain ⟨ji11, hji11⟩ : ∃ j_ : Int, (shr .u8 128 (ji9)) = j_ := ⟨_, rfl⟩
          replace H : (some (((Go.bits .and .u8 (rd l1 (ji6)) (ji11)) != 0), 0)) = some (r1, r2) := by first | (rw [hji11] at H; exact H) | (simp only [hji11] at H ⊢; exact H)
          (try rw [hji11] at A4)
          have hji11_ : (128 / 2 ^ min (ji9).toNat 8) = ji11 := hji11
          have hji11z : (ji9) ≤ 8 → (128 / 2 ^ (ji9).toNat) = ji11 := shr_small hji11
          simp only [Option.some.injEq, Prod.mk.injEq] at H
          obtain ⟨rfl, rfl⟩ := H
          go_enter Try.func31, Try.ntmps31
          go_wp2_with (first | (go_at_call 63; (with_reducible refine (bitset_at.calls k a0 _ _ l1 a2 t256 _ ?side1 ?side2 A4.out).mono ?_); (case side1 => repeat (first | exact HR1.out | (with_reducible refine Kd.C_alloc ?_ _) | (with_reducible refine Kd.C_drewN ?_ _) | (with_reducible refine Kd.C_drew ?_))); (case side2 => exact HC1.out); rintro e w' ⟨rfl, ⟨nd, rfl⟩⟩; (try first | exact ⟨rfl, _, World.drewN_drewN _ _ _⟩ | exact ⟨rfl, _, Eq.trans (World.drewN_drewN _ _ _) (congrArg (World.drewN _) (Nat.add_assoc _ _ _))⟩); have p257 : 0 ≤ ((ji6) : Int) := of_decide_eq_true (by first | (with_reducible assumption) | assumption); have q257 : (ji6) < (l1.length : Int) := of_decide_eq_true (by first | (with_reducible assumption) | assumption); obtain ⟨ad257, e257, hx257_0⟩ := Kd.at_int HR1.out (ji6) p257 q257; cases e257; replace p257 := eq_true p257; replace q257 := eq_true q257))
          have hmk : ∀ W : World, (Instr.index 68 maskV (.int .i64 (ji9))).run Try.prog W = .ok (.int .u8 (ji11)) W := by rw [← hji11]; exact mask_at (ji9) (of_decide_eq_true c10b1) (hji9 ▸ tmod8_lt _)
          refine start_ (n := 13) (S := fun w' => w'.cell? (ad257.add (ji6).toNat) = some (.int .u8 (rd l1 ji6))) (ds := []) #[false, false, false, false, false, false, false, false, false, false, false, false, false] (by kernel_rfl) rfl rfl (hx257_0) (fun hHeld => ?_)
          refine pure_ (i := 0) (N := some 16) (v := ?_) (a' := ?_) #[true, false, false, false, false, false, false, false, false, false, false, false, false] rfl rfl (by kernel_rfl) (fun _ _ _ h => h) (Or.inl ⟨by rfl, ?_⟩) ?_ ?_
          rotate_left
          · intro w'
            go_simp
            with_reducible rfl
          rotate_left
          · simp only [Act.put, List.setIfInBounds_toArray, List.set_cons_zero, List.set_cons_succ, i64_w, i32_w]
            rfl
          refine pure_ (i := 1) (N := some 17) (v := ?_) (a' := ?_) #[true, true, false, false, false, false, false, false, false, false, false, false, false] rfl rfl (by kernel_rfl) (fun _ _ _ h => h) (Or.inl ⟨by rfl, ?_⟩) ?_ ?_
          rotate_left
          · intro w'
            go_simp
            with_reducible rfl
          rotate_left
          · simp only [Act.put, List.setIfInBounds_toArray, List.set_cons_zero, List.set_cons_succ, i64_w, i32_w]
            rfl
          refine pure_ (i := 2) (N := some 18) (v := ?_) (a' := ?_) #[true, true, true, false, false, false, false, false, false, false, false, false, false] rfl rfl (by kernel_rfl) (fun _ _ _ h => h) (Or.inl ⟨by rfl, ?_⟩) ?_ ?_
          rotate_left
          · intro w'
            go_simp
            with_reducible rfl
          rotate_left
          · simp only [Act.put, List.setIfInBounds_toArray, List.set_cons_zero, List.set_cons_succ, i64_w, i32_w]
            rfl
          refine pure_ (i := 3) (N := some 19) (v := ?_) (a' := ?_) #[true, true, true, true, false, false, false, false, false, false, false, false, false] rfl rfl (by kernel_rfl) (fun _ _ _ h => h) (Or.inl ⟨by rfl, ?_⟩) ?_ ?_
          rotate_left
          · intro w'
            go_simp
            with_reducible rfl
          rotate_left
          · simp only [Act.put, List.setIfInBounds_toArray, List.set_cons_zero, List.set_cons_succ, i64_w, i32_w]
            rfl
          refine pure_ (i := 6) (N := some 22) (v := ?_) (a' := ?_) #[true, true, true, true, false, false, true, false, false, false, false, false, false] rfl rfl (by kernel_rfl) (fun _ _ _ h => h) (Or.inl ⟨by rfl, ?_⟩) ?_ ?_
          rotate_left
          · intro w'
            go_simp
            with_reducible rfl
          rotate_left
          · simp only [Act.put, List.setIfInBounds_toArray, List.set_cons_zero, List.set_cons_succ, i64_w, i32_w]
            rfl
          refine pure_ (i := 7) (N := some 23) (v := ?_) (a' := ?_) #[true, true, true, true, false, false, true, true, false, false, false, false, false] rfl rfl (by kernel_rfl) (fun _ _ _ h => h) (Or.inl ⟨by rfl, ?_⟩) ?_ ?_
          rotate_left
          · intro w'
            go_simp
            with_reducible rfl
          rotate_left
          · simp only [Act.put, List.setIfInBounds_toArray, List.set_cons_zero, List.set_cons_succ, i64_w, i32_w]
            rfl
          refine take_ (i := 4) (N := some 20) (v := ?_) (a' := ?_) #[true, true, true, true, true, false, true, true, false, false, false, false, false] rfl rfl (by kernel_rfl) (fun _ _ _ h => h) (Or.inl ⟨by rfl, ?_⟩) hHeld ?_ ?_
          rotate_left
          · intro w' s0
            go_simp
            with_reducible rfl
          rotate_left
          · simp only [Act.put, List.setIfInBounds_toArray, List.set_cons_zero, List.set_cons_succ, i64_w, i32_w]
            rfl
          refine one_ (i := 5) (N := some 21) #[true, true, true, true, true, true, true, true, false, false, false, false, false] rfl rfl (by kernel_rfl) (by decide) (fun K hK => ?_)
          refine goes_ Try.func58 (by kernel_rfl) rfl #[] (by rfl) rfl rfl (by (try simp only [List.map_toArray, List.map_cons, List.map_nil]); first | done | rfl) ?_
          with_reducible refine (masks_calls _).mono ?_
          rintro e wm ⟨rfl, hbm⟩
          refine ⟨_, rfl, ?_⟩
          have hHx := (hbm.cell (World.block_lt_of_cell? _ _ hHeld)).trans hHeld
          have n1_ := Aside0.mk (below_step (below_drew1 (pw_below_drewN HB.out _)) hbm)
          clear HB
          have HB := n1_
          clear n1_ hbm
          refine hK.out _ _ (hHx) (fun hHeld => ?_)
          clear hK K hHx
          refine norm_ (a' := ?_) ?_ ?_
          rotate_left
          · show Act.put _ (some 21) _ = _
            simp only [Act.put, List.setIfInBounds_toArray, List.set_cons_zero, List.set_cons_succ, i64_w, i32_w]
            rfl
          refine pure_ (i := 8) (N := some 24) (v := ?_) (a' := ?_) #[true, true, true, true, true, true, true, true, true, false, false, false, false] rfl rfl (by kernel_rfl) (fun _ _ _ h => h) (Or.inl ⟨by rfl, ?_⟩) ?_ ?_
          rotate_left
          · intro w'
            go_simp
            with_reducible rfl
          rotate_left
          · simp only [Act.put, List.setIfInBounds_toArray, List.set_cons_zero, List.set_cons_succ, i64_w, i32_w]
            rfl
          refine pure_ (i := 9) (N := some 25) (v := ?_) (a' := ?_) #[true, true, true, true, true, true, true, true, true, true, false, false, false] rfl rfl (by kernel_rfl) (fun _ _ _ h => h) (Or.inl ⟨by rfl, ?_⟩) ?_ ?_
          rotate_left
          · intro w'
            go_simp
            with_reducible rfl
          rotate_left
          · simp only [Act.put, List.setIfInBounds_toArray, List.set_cons_zero, List.set_cons_succ, i64_w, i32_w]
            rfl
          refine pure_ (i := 10) (N := some 26) (v := ?_) (a' := ?_) #[true, true, true, true, true, true, true, true, true, true, true, false, false] rfl rfl (by kernel_rfl) (fun _ _ _ h => h) (Or.inl ⟨by rfl, ?_⟩) ?_ ?_
          rotate_left
          · intro w'
            go_simp
            with_reducible rfl
          rotate_left
          · simp only [Act.put, List.setIfInBounds_toArray, List.set_cons_zero, List.set_cons_succ, i64_w, i32_w]
            rfl
          refine pure_ (i := 11) (N := some 6) (v := ?_) (a' := ?_) #[true, true, true, true, true, true, true, true, true, true, true, true, false] rfl rfl (by kernel_rfl) (fun _ _ _ h => h) (Or.inl ⟨by rfl, ?_⟩) ?_ ?_
          rotate_left
          · intro w'
            go_simp
            with_reducible rfl
          rotate_left
          · simp only [Act.put, List.setIfInBounds_toArray, List.set_cons_zero, List.set_cons_succ, i64_w, i32_w]
            rfl
          refine pure_ (i := 12) (N := some 7) (v := ?_) (a' := ?_) #[true, true, true, true, true, true, true, true, true, true, true, true, true] rfl rfl (by kernel_rfl) (fun _ _ _ h => h) (Or.inl ⟨by rfl, ?_⟩) ?_ ?_
          rotate_left
          · intro w'
            go_simp
            with_reducible rfl
          rotate_left
          · simp only [Act.put, List.setIfInBounds_toArray, List.set_cons_zero, List.set_cons_succ, i64_w, i32_w]
            rfl
          refine done_ (by kernel_rfl) ?_
          go_wp2
          go_ret2
          exact ⟨by first | rfl | (simp [errW_none, errW_some] <;> rfl) | (simp only [← hji6, ← hji9, ← hji11]; first | rfl | (simp [errW_none, errW_some] <;> rfl)) | (simp [*, errW_none, errW_some] <;> rfl), by repeat (first | (with_reducible first | exact HB.out | apply below_alloc | apply pw_below_drewN | apply below_drew1) | exact HB.out)⟩
        · rw [if_neg c10] at H
          exact absurd H (by simp)
      · rw [if_neg c8] at H
        exact absurd H (by simp)
    · rw [if_neg c7] at H
      exact absurd H (by simp)
  · rw [if_neg c5] at H
    have c5b0 : (t256 == 0) = false := beq_eq_false_iff_ne.mpr c5
    have c5b1 : (t256 != 0) = true := bne_iff_ne.mpr c5
    simp only [Option.some.injEq, Prod.mk.injEq] at H
    obtain ⟨rfl, rfl⟩ := H
    go_enter Try.func31, Try.ntmps31
    go_wp2_with (first | (go_at_call 63; (with_reducible refine (bitset_at.calls k a0 _ _ l1 a2 t256 _ ?side1 ?side2 A4.out).mono ?_); (case side1 => repeat (first | exact HR1.out | (with_reducible refine Kd.C_alloc ?_ _) | (with_reducible refine Kd.C_drewN ?_ _) | (with_reducible refine Kd.C_drew ?_))); (case side2 => exact HC1.out); rintro e w' ⟨rfl, ⟨nd, rfl⟩⟩; (try first | exact ⟨rfl, _, World.drewN_drewN _ _ _⟩ | exact ⟨rfl, _, Eq.trans (World.drewN_drewN _ _ _) (congrArg (World.drewN _) (Nat.add_assoc _ _ _))⟩)))
    go_ret2
    exact ⟨by first | rfl | (simp [errW_none, errW_some] <;> rfl) | (simp [*, errW_none, errW_some] <;> rfl), by repeat (first | (with_reducible first | exact HB.out | apply below_alloc | apply pw_below_drewN | apply below_drew1) | exact HB.out)⟩

end Go.Proofs.Ytoohpdamndgdlaa.P

-- Made by a program of this session (the print of the kit over a neighbour), for this claim.
namespace Go.Proofs.Ytoohpdamndgdlaa.P
open Go.RowKit Go.Proofs.YtoohpdamndgdlaaW.PrintWords Go.Proofs.YtoohpdamndgdlaaW.PrintLast Go.Proofs.YtoohpdamndgdlaaW.PrintMore
attribute [local go_sem] max2_int min2_int max_two min_two max_three min_three max_four min_four   -- for this text's walks alone
set_option linter.unusedVariables false
set_option linter.unusedSimpArgs false

/-! ### torrentlaw4_bit: function 50 -/
def torrentlaw4_bit.f (k : Nat) (a0 : Int) (l1 : List Int) (a2 : Int) : Option (Int) := (bitset_Get.f k a0 l1 a2).bind fun bt561 => (if bt561.2 = 0 then (if bt561.1 = true then (some 1) else (some 0)) else (some 2))
theorem torrentlaw4_bit.mono : ∀ a0 a1 a2 k, LeO (torrentlaw4_bit.f k a0 a1 a2) (torrentlaw4_bit.f (k + 1) a0 a1 a2) := by
  intro a0 a1 a2 k
  unfold torrentlaw4_bit.f
  repeat' first
      | (with_reducible exact bitset_Get.mono _ _ _ _)
      | (with_reducible exact LeO.refl _)
      | (with_reducible exact LeO.none _)
      | (with_reducible refine LeO.ite ?_ ?_)
      | (with_reducible refine LeO.bind ?_ (fun _ => ?_))
      | exact bitset_Get.mono _ _ _ _
      | exact LeO.none _
      | refine LeO.ite ?_ ?_
      | refine LeO.bind ?_ (fun _ => ?_)
set_option maxHeartbeats 8000000 in
set_option maxRecDepth 100000 in
theorem torrentlaw4_bit.calls (k : Nat) (a0 : Int) (A1 : Option Addr) (c1 : Nat) (l1 : List Int) (a2 : Int) (r : Int) (w : World) (hr1 : Kd.C (Kd.int .u8) w A1 l1.length l1) (hc1 : l1.length ≤ c1) (h : torrentlaw4_bit.f k a0 l1 a2 = some r) :
    Calls Try.prog 50 #[.int .i64 a0, .slice A1 l1.length c1, .int .i64 a2] w fun e w' => e = .returned (.int .i64 r) ∧ Below w.heap.size w w' := by
  have HR1 := Aside0.mk hr1
  have HC1 := Aside0.mk hc1
  clear hr1 hc1
  have HB := Aside0.mk (Below.refl w.heap.size w)
  have H : ((bitset_Get.f k a0 l1 a2).bind fun bt561 => (if bt561.2 = 0 then (if bt561.1 = true then (some 1) else (some 0)) else (some 2))) = some r := h
  clear h
  replace H := Option.bind_eq_some_iff.mp H
  obtain ⟨⟨t561, t562⟩, A40, H⟩ := H
  replace H : (if t562 = 0 then (if t561 = true then (some 1) else (some 0)) else (some 2)) = some r := H
  have A4 := Aside0.mk A40
  clear A40
  by_cases c5 : t562 = 0
  · rw [if_pos c5] at H
    have c5b0 : (t562 == 0) = true := beq_iff_eq.mpr c5
    have c5b1 : (t562 != 0) = false := bne_eq_false_iff_eq.mpr c5
    clear c5
    by_cases c6 : t561 = true
    · subst c6
      have H1 : (some 1) = some r := by rw [if_pos rfl] at H; exact H
      clear H
      have H := H1
      clear H1
      obtain rfl := Option.some.inj H
      go_enter Try.func50, Try.ntmps50
      go_wp2_with (first | ((with_reducible refine gate_callee (f := 31) rfl ?_); refine goesL_ (some 13) rfl rfl Try.func31 (by kernel_rfl) rfl #[.int .i64 a0, .slice A1 l1.length c1, .int .i64 a2] rfl (by (try simp only [List.map_toArray, List.map_cons, List.map_nil]); first | done | rfl | (simp only [List.length_drop, List.length_take]; rfl)) ?_; (with_reducible refine (bitset_Get.calls k a0 _ _ l1 a2 true t562 _ ?side1 ?side2 A4.out).mono ?_); (case side1 => repeat (first | exact HR1.out | (with_reducible refine Kd.C_alloc ?_ _) | (with_reducible refine Kd.C_drewN ?_ _) | (with_reducible refine Kd.C_drew ?_))); (case side2 => exact HC1.out); rintro e w7 ⟨rfl, hb⟩; refine ⟨_, rfl, ?_⟩; have n0_ := Aside0.mk (below_step (by repeat (first | (with_reducible first | exact HB.out | apply below_alloc | apply pw_below_drewN | apply below_drew1) | exact HB.out)) hb); clear HB; have HB := n0_; clear n0_; (try clear hb); (try clear hb2); (try clear hk); (try clear hi)))
      go_ret
      exact ⟨by first | rfl | (simp [errW_none, errW_some] <;> rfl) | (simp [*, errW_none, errW_some] <;> rfl), by repeat (first | (with_reducible first | exact HB.out | apply below_alloc | apply pw_below_drewN | apply below_drew1) | exact HB.out)⟩
    · replace c6 := Bool.eq_false_iff.mpr c6
      subst c6
      have H1 : (some 0) = some r := by rw [if_neg (show ¬ (false = true) by decide)] at H; exact H
      clear H
      have H := H1
      clear H1
      obtain rfl := Option.some.inj H
      go_enter Try.func50, Try.ntmps50
      go_wp2_with (first | ((with_reducible refine gate_callee (f := 31) rfl ?_); refine goesL_ (some 13) rfl rfl Try.func31 (by kernel_rfl) rfl #[.int .i64 a0, .slice A1 l1.length c1, .int .i64 a2] rfl (by (try simp only [List.map_toArray, List.map_cons, List.map_nil]); first | done | rfl | (simp only [List.length_drop, List.length_take]; rfl)) ?_; (with_reducible refine (bitset_Get.calls k a0 _ _ l1 a2 false t562 _ ?side1 ?side2 A4.out).mono ?_); (case side1 => repeat (first | exact HR1.out | (with_reducible refine Kd.C_alloc ?_ _) | (with_reducible refine Kd.C_drewN ?_ _) | (with_reducible refine Kd.C_drew ?_))); (case side2 => exact HC1.out); rintro e w8 ⟨rfl, hb⟩; refine ⟨_, rfl, ?_⟩; have n0_ := Aside0.mk (below_step (by repeat (first | (with_reducible first | exact HB.out | apply below_alloc | apply pw_below_drewN | apply below_drew1) | exact HB.out)) hb); clear HB; have HB := n0_; clear n0_; (try clear hb); (try clear hb2); (try clear hk); (try clear hi)))
      go_ret
      exact ⟨by first | rfl | (simp [errW_none, errW_some] <;> rfl) | (simp [*, errW_none, errW_some] <;> rfl), by repeat (first | (with_reducible first | exact HB.out | apply below_alloc | apply pw_below_drewN | apply below_drew1) | exact HB.out)⟩
  · rw [if_neg c5] at H
    have c5b0 : (t562 == 0) = false := beq_eq_false_iff_ne.mpr c5
    have c5b1 : (t562 != 0) = true := bne_iff_ne.mpr c5
    obtain rfl := Option.some.inj H
    go_enter Try.func50, Try.ntmps50
    go_wp2_with (first | ((with_reducible refine gate_callee (f := 31) rfl ?_); refine goesL_ (some 13) rfl rfl Try.func31 (by kernel_rfl) rfl #[.int .i64 a0, .slice A1 l1.length c1, .int .i64 a2] rfl (by (try simp only [List.map_toArray, List.map_cons, List.map_nil]); first | done | rfl | (simp only [List.length_drop, List.length_take]; rfl)) ?_; (with_reducible refine (bitset_Get.calls k a0 _ _ l1 a2 t561 t562 _ ?side1 ?side2 A4.out).mono ?_); (case side1 => repeat (first | exact HR1.out | (with_reducible refine Kd.C_alloc ?_ _) | (with_reducible refine Kd.C_drewN ?_ _) | (with_reducible refine Kd.C_drew ?_))); (case side2 => exact HC1.out); rintro e w9 ⟨rfl, hb⟩; refine ⟨_, rfl, ?_⟩; have n0_ := Aside0.mk (below_step (by repeat (first | (with_reducible first | exact HB.out | apply below_alloc | apply pw_below_drewN | apply below_drew1) | exact HB.out)) hb); clear HB; have HB := n0_; clear n0_; (try clear hb); (try clear hb2); (try clear hk); (try clear hi)))
    go_ret
    exact ⟨by first | rfl | (simp [errW_none, errW_some] <;> rfl) | (simp [*, errW_none, errW_some] <;> rfl), by repeat (first | (with_reducible first | exact HB.out | apply below_alloc | apply pw_below_drewN | apply below_drew1) | exact HB.out)⟩

end Go.Proofs.Ytoohpdamndgdlaa.P

-- Made by a program of this session (the print of the kit over a neighbour), for this claim.
namespace Go.Proofs.Ytoohpdamndgdlaa.P
open Go.RowKit Go.Proofs.YtoohpdamndgdlaaW.PrintWords Go.Proofs.YtoohpdamndgdlaaW.PrintLast Go.Proofs.YtoohpdamndgdlaaW.PrintMore
attribute [local go_sem] max2_int min2_int max_two min_two max_three min_three max_four min_four   -- for this text's walks alone
set_option linter.unusedVariables false
set_option linter.unusedSimpArgs false

/-! ### torrentlaw4_BitsetAlgebra: function 13 -/
mutual
def torrentlaw4_BitsetAlgebra.j0 : Nat → Int → List Int → List Int → Bool → Option (Bool)
  | 0, _, _, _, _ => none
  | k + 1, x0, x1, x2, x44 => if x44 = true then ((bitset_Make.f x0).bind fun bt563 => (some (bt563.2 != 0))) else ((bitset_Make.f x0).bind fun bt567 => ((bitset_Make.f x0).bind fun bt571 => (if bt567.2 = 0 then (torrentlaw4_BitsetAlgebra.j1 k x0 x1 x2 bt567.1 bt571.1 (bt571.2 != 0)) else (torrentlaw4_BitsetAlgebra.j1 k x0 x1 x2 bt567.1 bt571.1 true))))
def torrentlaw4_BitsetAlgebra.j1 : Nat → Int → List Int → List Int → List Int → List Int → Bool → Option (Bool)
  | 0, _, _, _, _, _, _ => none
  | k + 1, x0, x1, x2, x9, x11, x67 => if x67 = true then (some false) else (torrentlaw4_BitsetAlgebra.l0 k x0 x1 x2 x9 x11 0)
def torrentlaw4_BitsetAlgebra.l0 : Nat → Int → List Int → List Int → List Int → List Int → Int → Option (Bool)
  | 0, _, _, _, _, _, _ => none
  | k + 1, x0, x1, x2, x9, x11, x13 => if x13 < (x1.length : Int) then (if 0 ≤ x13 then (if (rd x1 x13) ≥ 0 then (torrentlaw4_BitsetAlgebra.j3 k x0 x1 x2 x9 x11 x13 (decide ((rd x1 x13) < x0))) else (torrentlaw4_BitsetAlgebra.j3 k x0 x1 x2 x9 x11 x13 false)) else (none)) else (torrentlaw4_BitsetAlgebra.l1 k x0 x1 x2 x9 x11 0)
def torrentlaw4_BitsetAlgebra.j3 : Nat → Int → List Int → List Int → List Int → List Int → Int → Bool → Option (Bool)
  | 0, _, _, _, _, _, _, _ => none
  | k + 1, x0, x1, x2, x9, x11, x13, x86 => if x86 = true then (if 0 ≤ x13 then (if x13 < (x1.length : Int) then ((bitset_Put.f k x0 x9 (rd x1 x13) true).bind fun bt578 => (if bt578.2 = 0 then (torrentlaw4_BitsetAlgebra.l0 k x0 x1 x2 bt578.1 x11 (wrap64 (x13 + 1))) else (some false))) else (none)) else (none)) else (torrentlaw4_BitsetAlgebra.l0 k x0 x1 x2 x9 x11 (wrap64 (x13 + 1)))
def torrentlaw4_BitsetAlgebra.l1 : Nat → Int → List Int → List Int → List Int → List Int → Int → Option (Bool)
  | 0, _, _, _, _, _, _ => none
  | k + 1, x0, x1, x2, x9, x11, x14 => if x14 < (x2.length : Int) then (if 0 ≤ x14 then (if (rd x2 x14) ≥ 0 then (torrentlaw4_BitsetAlgebra.j5 k x0 x1 x2 x9 x11 x14 (decide ((rd x2 x14) < x0))) else (torrentlaw4_BitsetAlgebra.j5 k x0 x1 x2 x9 x11 x14 false)) else (none)) else ((bitset_And.f k x0 x9 x11).bind fun bt589 => ((bitset_Or.f k x0 x9 x11).bind fun bt593 => ((bitset_Minus.f k x0 x9 x11).bind fun bt597 => ((bitset_Not.f k x0 x9).bind fun bt601 => (if bt589.2 = 0 then (if bt593.2 = 0 then (if bt597.2 = 0 then (torrentlaw4_BitsetAlgebra.j6 k x0 x1 x9 x11 bt589.1 bt593.1 bt597.1 bt601.1 (bt601.2 != 0)) else (torrentlaw4_BitsetAlgebra.j6 k x0 x1 x9 x11 bt589.1 bt593.1 bt597.1 bt601.1 true)) else (torrentlaw4_BitsetAlgebra.j6 k x0 x1 x9 x11 bt589.1 bt593.1 bt597.1 bt601.1 true)) else (torrentlaw4_BitsetAlgebra.j6 k x0 x1 x9 x11 bt589.1 bt593.1 bt597.1 bt601.1 true))))))
def torrentlaw4_BitsetAlgebra.j5 : Nat → Int → List Int → List Int → List Int → List Int → Int → Bool → Option (Bool)
  | 0, _, _, _, _, _, _, _ => none
  | k + 1, x0, x1, x2, x9, x11, x14, x117 => if x117 = true then (if 0 ≤ x14 then (if x14 < (x2.length : Int) then ((bitset_Put.f k x0 x11 (rd x2 x14) (decide ((Int.tmod x14 5) > 0))).bind fun bt585 => (if bt585.2 = 0 then (torrentlaw4_BitsetAlgebra.l1 k x0 x1 x2 x9 bt585.1 (wrap64 (x14 + 1))) else (some false))) else (none)) else (none)) else (torrentlaw4_BitsetAlgebra.l1 k x0 x1 x2 x9 x11 (wrap64 (x14 + 1)))
def torrentlaw4_BitsetAlgebra.j6 : Nat → Int → List Int → List Int → List Int → List Int → List Int → List Int → List Int → Bool → Option (Bool)
  | 0, _, _, _, _, _, _, _, _, _ => none
  | k + 1, x0, x1, x9, x11, x15, x16, x17, x19, x173 => if x173 = true then (some false) else (torrentlaw4_BitsetAlgebra.l2 k x0 x1 x9 x11 x15 x16 x17 x19 0 0)
def torrentlaw4_BitsetAlgebra.l2 : Nat → Int → List Int → List Int → List Int → List Int → List Int → List Int → List Int → Int → Int → Option (Bool)
  | 0, _, _, _, _, _, _, _, _, _, _ => none
  | k + 1, x0, x1, x9, x11, x15, x16, x17, x19, x21, x22 => if x22 < x0 then ((torrentlaw4_bit.f k x0 x9 x22).bind fun t605 => ((torrentlaw4_bit.f k x0 x11 x22).bind fun t606 => (if t605 = 2 then (torrentlaw4_BitsetAlgebra.j8 k x0 x1 x9 x11 x15 x16 x17 x19 x21 x22 t605 t606 true) else (if t606 = 2 then (torrentlaw4_BitsetAlgebra.j8 k x0 x1 x9 x11 x15 x16 x17 x19 x21 x22 t605 t606 true) else ((torrentlaw4_has.f k x1 x22).bind fun t607 => (torrentlaw4_BitsetAlgebra.j8 k x0 x1 x9 x11 x15 x16 x17 x19 x21 x22 t605 t606 ((t605 == 1) != t607))))))) else ((bitset_Count.f k x0 x9).bind fun bt612 => ((bitset_Count.f k x0 x11).bind fun bt614 => ((bitset_Count.f k x0 x15).bind fun bt616 => ((bitset_Count.f k x0 x16).bind fun bt618 => ((bitset_Count.f k x0 x19).bind fun bt620 => ((bitset_Count.f k x0 x17).bind fun bt622 => ((bitset_Covers.f k x0 x11 x9).bind fun bt624 => (if (wrap64 (bt612.1 + bt614.1)) = (wrap64 (bt616.1 + bt618.1)) then (if (wrap64 (bt612.1 + bt620.1)) = x0 then (if bt622.1 = x21 then (if bt624.2 = 0 then (some (bt624.1 == (x21 == 0))) else (some false)) else (some false)) else (some false)) else (some false)))))))))
def torrentlaw4_BitsetAlgebra.j8 : Nat → Int → List Int → List Int → List Int → List Int → List Int → List Int → List Int → Int → Int → Int → Int → Bool → Option (Bool)
  | 0, _, _, _, _, _, _, _, _, _, _, _, _, _ => none
  | k + 1, x0, x1, x9, x11, x15, x16, x17, x19, x21, x22, x23, x24, x200 => if x200 = true then (some false) else ((torrentlaw4_bit.f k x0 x15 x22).bind fun t608 => (if t608 = (wrap64 (x23 * x24)) then ((torrentlaw4_bit.f k x0 x16 x22).bind fun t609 => (if t609 = (wrap64 ((wrap64 (x23 + x24)) - (wrap64 (x23 * x24)))) then ((torrentlaw4_bit.f k x0 x17 x22).bind fun t610 => (if t610 = (wrap64 (x23 - (wrap64 (x23 * x24)))) then ((torrentlaw4_bit.f k x0 x19 x22).bind fun t611 => (if t611 = (wrap64 (1 - x23)) then (torrentlaw4_BitsetAlgebra.l2 k x0 x1 x9 x11 x15 x16 x17 x19 (wrap64 ((wrap64 (x21 + x23)) - (wrap64 (x23 * x24)))) (wrap64 (x22 + 1))) else (some false))) else (some false))) else (some false))) else (some false)))
end
def torrentlaw4_BitsetAlgebra.f (k : Nat) (a0 : Int) (l1 : List Int) (l2 : List Int) : Option (Bool) := if a0 < 0 then (torrentlaw4_BitsetAlgebra.j0 k a0 l1 l2 true) else (torrentlaw4_BitsetAlgebra.j0 k a0 l1 l2 (decide (a0 > 65536)))
theorem torrentlaw4_BitsetAlgebra.mono_l : ∀ k, (∀ y0 y1 y2 y3, LeO (torrentlaw4_BitsetAlgebra.j0 k y0 y1 y2 y3) (torrentlaw4_BitsetAlgebra.j0 (k + 1) y0 y1 y2 y3)) ∧ (∀ y0 y1 y2 y3 y4 y5, LeO (torrentlaw4_BitsetAlgebra.j1 k y0 y1 y2 y3 y4 y5) (torrentlaw4_BitsetAlgebra.j1 (k + 1) y0 y1 y2 y3 y4 y5)) ∧ (∀ y0 y1 y2 y3 y4 y5, LeO (torrentlaw4_BitsetAlgebra.l0 k y0 y1 y2 y3 y4 y5) (torrentlaw4_BitsetAlgebra.l0 (k + 1) y0 y1 y2 y3 y4 y5)) ∧ (∀ y0 y1 y2 y3 y4 y5 y6, LeO (torrentlaw4_BitsetAlgebra.j3 k y0 y1 y2 y3 y4 y5 y6) (torrentlaw4_BitsetAlgebra.j3 (k + 1) y0 y1 y2 y3 y4 y5 y6)) ∧ (∀ y0 y1 y2 y3 y4 y5, LeO (torrentlaw4_BitsetAlgebra.l1 k y0 y1 y2 y3 y4 y5) (torrentlaw4_BitsetAlgebra.l1 (k + 1) y0 y1 y2 y3 y4 y5)) ∧ (∀ y0 y1 y2 y3 y4 y5 y6, LeO (torrentlaw4_BitsetAlgebra.j5 k y0 y1 y2 y3 y4 y5 y6) (torrentlaw4_BitsetAlgebra.j5 (k + 1) y0 y1 y2 y3 y4 y5 y6)) ∧ (∀ y0 y1 y2 y3 y4 y5 y6 y7 y8, LeO (torrentlaw4_BitsetAlgebra.j6 k y0 y1 y2 y3 y4 y5 y6 y7 y8) (torrentlaw4_BitsetAlgebra.j6 (k + 1) y0 y1 y2 y3 y4 y5 y6 y7 y8)) ∧ (∀ y0 y1 y2 y3 y4 y5 y6 y7 y8 y9, LeO (torrentlaw4_BitsetAlgebra.l2 k y0 y1 y2 y3 y4 y5 y6 y7 y8 y9) (torrentlaw4_BitsetAlgebra.l2 (k + 1) y0 y1 y2 y3 y4 y5 y6 y7 y8 y9)) ∧ (∀ y0 y1 y2 y3 y4 y5 y6 y7 y8 y9 y10 y11 y12, LeO (torrentlaw4_BitsetAlgebra.j8 k y0 y1 y2 y3 y4 y5 y6 y7 y8 y9 y10 y11 y12) (torrentlaw4_BitsetAlgebra.j8 (k + 1) y0 y1 y2 y3 y4 y5 y6 y7 y8 y9 y10 y11 y12))
  | 0 => ⟨fun _ _ _ _ r h => by simp [torrentlaw4_BitsetAlgebra.j0] at h, fun _ _ _ _ _ _ r h => by simp [torrentlaw4_BitsetAlgebra.j1] at h, fun _ _ _ _ _ _ r h => by simp [torrentlaw4_BitsetAlgebra.l0] at h, fun _ _ _ _ _ _ _ r h => by simp [torrentlaw4_BitsetAlgebra.j3] at h, fun _ _ _ _ _ _ r h => by simp [torrentlaw4_BitsetAlgebra.l1] at h, fun _ _ _ _ _ _ _ r h => by simp [torrentlaw4_BitsetAlgebra.j5] at h, fun _ _ _ _ _ _ _ _ _ r h => by simp [torrentlaw4_BitsetAlgebra.j6] at h, fun _ _ _ _ _ _ _ _ _ _ r h => by simp [torrentlaw4_BitsetAlgebra.l2] at h, fun _ _ _ _ _ _ _ _ _ _ _ _ _ r h => by simp [torrentlaw4_BitsetAlgebra.j8] at h⟩
  | k + 1 => by
    obtain ⟨ih0, ih1, ih2, ih3, ih4, ih5, ih6, ih7, ih8⟩ := torrentlaw4_BitsetAlgebra.mono_l k
    refine ⟨?_, ?_, ?_, ?_, ?_, ?_, ?_, ?_, ?_⟩
    · intro y0 y1 y2 y3
      unfold torrentlaw4_BitsetAlgebra.j0
      repeat' first
      | (with_reducible exact ih0 _ _ _ _)
      | (with_reducible exact ih1 _ _ _ _ _ _)
      | (with_reducible exact ih2 _ _ _ _ _ _)
      | (with_reducible exact ih3 _ _ _ _ _ _ _)
      | (with_reducible exact ih4 _ _ _ _ _ _)
      | (with_reducible exact ih5 _ _ _ _ _ _ _)
      | (with_reducible exact ih6 _ _ _ _ _ _ _ _ _)
      | (with_reducible exact ih7 _ _ _ _ _ _ _ _ _ _)
      | (with_reducible exact ih8 _ _ _ _ _ _ _ _ _ _ _ _ _)
      | (with_reducible exact bitset_And.mono _ _ _ _)
      | (with_reducible exact bitset_Count.mono _ _ _)
      | (with_reducible exact bitset_Covers.mono _ _ _ _)
      | (with_reducible exact bitset_Minus.mono _ _ _ _)
      | (with_reducible exact bitset_Not.mono _ _ _)
      | (with_reducible exact bitset_Or.mono _ _ _ _)
      | (with_reducible exact bitset_Put.mono _ _ _ _ _)
      | (with_reducible exact torrentlaw4_bit.mono _ _ _ _)
      | (with_reducible exact torrentlaw4_has.mono _ _ _)
      | (with_reducible exact LeO.refl _)
      | (with_reducible exact LeO.none _)
      | (with_reducible refine LeO.ite ?_ ?_)
      | (with_reducible refine LeO.bind ?_ (fun _ => ?_))
      | exact ih0 _ _ _ _
      | exact ih1 _ _ _ _ _ _
      | exact ih2 _ _ _ _ _ _
      | exact ih3 _ _ _ _ _ _ _
      | exact ih4 _ _ _ _ _ _
      | exact ih5 _ _ _ _ _ _ _
      | exact ih6 _ _ _ _ _ _ _ _ _
      | exact ih7 _ _ _ _ _ _ _ _ _ _
      | exact ih8 _ _ _ _ _ _ _ _ _ _ _ _ _
      | exact bitset_And.mono _ _ _ _
      | exact bitset_Count.mono _ _ _
      | exact bitset_Covers.mono _ _ _ _
      | exact bitset_Minus.mono _ _ _ _
      | exact bitset_Not.mono _ _ _
      | exact bitset_Or.mono _ _ _ _
      | exact bitset_Put.mono _ _ _ _ _
      | exact torrentlaw4_bit.mono _ _ _ _
      | exact torrentlaw4_has.mono _ _ _
      | exact LeO.none _
      | refine LeO.ite ?_ ?_
      | refine LeO.bind ?_ (fun _ => ?_)
    · intro y0 y1 y2 y3 y4 y5
      unfold torrentlaw4_BitsetAlgebra.j1
      repeat' first
      | (with_reducible exact ih0 _ _ _ _)
      | (with_reducible exact ih1 _ _ _ _ _ _)
      | (with_reducible exact ih2 _ _ _ _ _ _)
      | (with_reducible exact ih3 _ _ _ _ _ _ _)
      | (with_reducible exact ih4 _ _ _ _ _ _)
      | (with_reducible exact ih5 _ _ _ _ _ _ _)
      | (with_reducible exact ih6 _ _ _ _ _ _ _ _ _)
      | (with_reducible exact ih7 _ _ _ _ _ _ _ _ _ _)
      | (with_reducible exact ih8 _ _ _ _ _ _ _ _ _ _ _ _ _)
      | (with_reducible exact bitset_And.mono _ _ _ _)
      | (with_reducible exact bitset_Count.mono _ _ _)
      | (with_reducible exact bitset_Covers.mono _ _ _ _)
      | (with_reducible exact bitset_Minus.mono _ _ _ _)
      | (with_reducible exact bitset_Not.mono _ _ _)
      | (with_reducible exact bitset_Or.mono _ _ _ _)
      | (with_reducible exact bitset_Put.mono _ _ _ _ _)
      | (with_reducible exact torrentlaw4_bit.mono _ _ _ _)
      | (with_reducible exact torrentlaw4_has.mono _ _ _)
      | (with_reducible exact LeO.refl _)
      | (with_reducible exact LeO.none _)
      | (with_reducible refine LeO.ite ?_ ?_)
      | (with_reducible refine LeO.bind ?_ (fun _ => ?_))
      | exact ih0 _ _ _ _
      | exact ih1 _ _ _ _ _ _
      | exact ih2 _ _ _ _ _ _
      | exact ih3 _ _ _ _ _ _ _
      | exact ih4 _ _ _ _ _ _
      | exact ih5 _ _ _ _ _ _ _
      | exact ih6 _ _ _ _ _ _ _ _ _
      | exact ih7 _ _ _ _ _ _ _ _ _ _
      | exact ih8 _ _ _ _ _ _ _ _ _ _ _ _ _
      | exact bitset_And.mono _ _ _ _
      | exact bitset_Count.mono _ _ _
      | exact bitset_Covers.mono _ _ _ _
      | exact bitset_Minus.mono _ _ _ _
      | exact bitset_Not.mono _ _ _
      | exact bitset_Or.mono _ _ _ _
      | exact bitset_Put.mono _ _ _ _ _
      | exact torrentlaw4_bit.mono _ _ _ _
      | exact torrentlaw4_has.mono _ _ _
      | exact LeO.none _
      | refine LeO.ite ?_ ?_
      | refine LeO.bind ?_ (fun _ => ?_)
    · intro y0 y1 y2 y3 y4 y5
      unfold torrentlaw4_BitsetAlgebra.l0
      repeat' first
      | (with_reducible exact ih0 _ _ _ _)
      | (with_reducible exact ih1 _ _ _ _ _ _)
      | (with_reducible exact ih2 _ _ _ _ _ _)
      | (with_reducible exact ih3 _ _ _ _ _ _ _)
      | (with_reducible exact ih4 _ _ _ _ _ _)
      | (with_reducible exact ih5 _ _ _ _ _ _ _)
      | (with_reducible exact ih6 _ _ _ _ _ _ _ _ _)
      | (with_reducible exact ih7 _ _ _ _ _ _ _ _ _ _)
      | (with_reducible exact ih8 _ _ _ _ _ _ _ _ _ _ _ _ _)
      | (with_reducible exact bitset_And.mono _ _ _ _)
      | (with_reducible exact bitset_Count.mono _ _ _)
      | (with_reducible exact bitset_Covers.mono _ _ _ _)
      | (with_reducible exact bitset_Minus.mono _ _ _ _)
      | (with_reducible exact bitset_Not.mono _ _ _)
      | (with_reducible exact bitset_Or.mono _ _ _ _)
      | (with_reducible exact bitset_Put.mono _ _ _ _ _)
      | (with_reducible exact torrentlaw4_bit.mono _ _ _ _)
      | (with_reducible exact torrentlaw4_has.mono _ _ _)
      | (with_reducible exact LeO.refl _)
      | (with_reducible exact LeO.none _)
      | (with_reducible refine LeO.ite ?_ ?_)
      | (with_reducible refine LeO.bind ?_ (fun _ => ?_))
      | exact ih0 _ _ _ _
      | exact ih1 _ _ _ _ _ _
      | exact ih2 _ _ _ _ _ _
      | exact ih3 _ _ _ _ _ _ _
      | exact ih4 _ _ _ _ _ _
      | exact ih5 _ _ _ _ _ _ _
      | exact ih6 _ _ _ _ _ _ _ _ _
      | exact ih7 _ _ _ _ _ _ _ _ _ _
      | exact ih8 _ _ _ _ _ _ _ _ _ _ _ _ _
      | exact bitset_And.mono _ _ _ _
      | exact bitset_Count.mono _ _ _
      | exact bitset_Covers.mono _ _ _ _
      | exact bitset_Minus.mono _ _ _ _
      | exact bitset_Not.mono _ _ _
      | exact bitset_Or.mono _ _ _ _
      | exact bitset_Put.mono _ _ _ _ _
      | exact torrentlaw4_bit.mono _ _ _ _
      | exact torrentlaw4_has.mono _ _ _
      | exact LeO.none _
      | refine LeO.ite ?_ ?_
      | refine LeO.bind ?_ (fun _ => ?_)
    · intro y0 y1 y2 y3 y4 y5 y6
      unfold torrentlaw4_BitsetAlgebra.j3
      repeat' first
      | (with_reducible exact ih0 _ _ _ _)
      | (with_reducible exact ih1 _ _ _ _ _ _)
      | (with_reducible exact ih2 _ _ _ _ _ _)
      | (with_reducible exact ih3 _ _ _ _ _ _ _)
      | (with_reducible exact ih4 _ _ _ _ _ _)
      | (with_reducible exact ih5 _ _ _ _ _ _ _)
      | (with_reducible exact ih6 _ _ _ _ _ _ _ _ _)
      | (with_reducible exact ih7 _ _ _ _ _ _ _ _ _ _)
      | (with_reducible exact ih8 _ _ _ _ _ _ _ _ _ _ _ _ _)
      | (with_reducible exact bitset_And.mono _ _ _ _)
      | (with_reducible exact bitset_Count.mono _ _ _)
      | (with_reducible exact bitset_Covers.mono _ _ _ _)
      | (with_reducible exact bitset_Minus.mono _ _ _ _)
      | (with_reducible exact bitset_Not.mono _ _ _)
      | (with_reducible exact bitset_Or.mono _ _ _ _)
      | (with_reducible exact bitset_Put.mono _ _ _ _ _)
      | (with_reducible exact torrentlaw4_bit.mono _ _ _ _)
      | (with_reducible exact torrentlaw4_has.mono _ _ _)
      | (with_reducible exact LeO.refl _)
      | (with_reducible exact LeO.none _)
      | (with_reducible refine LeO.ite ?_ ?_)
      | (with_reducible refine LeO.bind ?_ (fun _ => ?_))
      | exact ih0 _ _ _ _
      | exact ih1 _ _ _ _ _ _
      | exact ih2 _ _ _ _ _ _
      | exact ih3 _ _ _ _ _ _ _
      | exact ih4 _ _ _ _ _ _
      | exact ih5 _ _ _ _ _ _ _
      | exact ih6 _ _ _ _ _ _ _ _ _
      | exact ih7 _ _ _ _ _ _ _ _ _ _
      | exact ih8 _ _ _ _ _ _ _ _ _ _ _ _ _
      | exact bitset_And.mono _ _ _ _
      | exact bitset_Count.mono _ _ _
      | exact bitset_Covers.mono _ _ _ _
      | exact bitset_Minus.mono _ _ _ _
      | exact bitset_Not.mono _ _ _
      | exact bitset_Or.mono _ _ _ _
      | exact bitset_Put.mono _ _ _ _ _
      | exact torrentlaw4_bit.mono _ _ _ _
      | exact torrentlaw4_has.mono _ _ _
      | exact LeO.none _
      | refine LeO.ite ?_ ?_
      | refine LeO.bind ?_ (fun _ => ?_)
    · intro y0 y1 y2 y3 y4 y5
      unfold torrentlaw4_BitsetAlgebra.l1
      repeat' first
      | (with_reducible exact ih0 _ _ _ _)
      | (with_reducible exact ih1 _ _ _ _ _ _)
      | (with_reducible exact ih2 _ _ _ _ _ _)
      | (with_reducible exact ih3 _ _ _ _ _ _ _)
      | (with_reducible exact ih4 _ _ _ _ _ _)
      | (with_reducible exact ih5 _ _ _ _ _ _ _)
      | (with_reducible exact ih6 _ _ _ _ _ _ _ _ _)
      | (with_reducible exact ih7 _ _ _ _ _ _ _ _ _ _)
      | (with_reducible exact ih8 _ _ _ _ _ _ _ _ _ _ _ _ _)
      | (with_reducible exact bitset_And.mono _ _ _ _)
      | (with_reducible exact bitset_Count.mono _ _ _)
      | (with_reducible exact bitset_Covers.mono _ _ _ _)
      | (with_reducible exact bitset_Minus.mono _ _ _ _)
      | (with_reducible exact bitset_Not.mono _ _ _)
      | (with_reducible exact bitset_Or.mono _ _ _ _)
      | (with_reducible exact bitset_Put.mono _ _ _ _ _)
      | (with_reducible exact torrentlaw4_bit.mono _ _ _ _)
      | (with_reducible exact torrentlaw4_has.mono _ _ _)
      | (with_reducible exact LeO.refl _)
      | (with_reducible exact LeO.none _)
      | (with_reducible refine LeO.ite ?_ ?_)
      | (with_reducible refine LeO.bind ?_ (fun _ => ?_))
      | exact ih0 _ _ _ _
      | exact ih1 _ _ _ _ _ _
      | exact ih2 _ _ _ _ _ _
      | exact ih3 _ _ _ _ _ _ _
      | exact ih4 _ _ _ _ _ _
      | exact ih5 _ _ _ _ _ _ _
      | exact ih6 _ _ _ _ _ _ _ _ _
      | exact ih7 _ _ _ _ _ _ _ _ _ _
      | exact ih8 _ _ _ _ _ _ _ _ _ _ _ _ _
      | exact bitset_And.mono _ _ _ _
      | exact bitset_Count.mono _ _ _
      | exact bitset_Covers.mono _ _ _ _
      | exact bitset_Minus.mono _ _ _ _
      | exact bitset_Not.mono _ _ _
      | exact bitset_Or.mono _ _ _ _
      | exact bitset_Put.mono _ _ _ _ _
      | exact torrentlaw4_bit.mono _ _ _ _
      | exact torrentlaw4_has.mono _ _ _
      | exact LeO.none _
      | refine LeO.ite ?_ ?_
      | refine LeO.bind ?_ (fun _ => ?_)
    · intro y0 y1 y2 y3 y4 y5 y6
      unfold torrentlaw4_BitsetAlgebra.j5
      repeat' first
      | (with_reducible exact ih0 _ _ _ _)
      | (with_reducible exact ih1 _ _ _ _ _ _)
      | (with_reducible exact ih2 _ _ _ _ _ _)
      | (with_reducible exact ih3 _ _ _ _ _ _ _)
      | (with_reducible exact ih4 _ _ _ _ _ _)
      | (with_reducible exact ih5 _ _ _ _ _ _ _)
      | (with_reducible exact ih6 _ _ _ _ _ _ _ _ _)
      | (with_reducible exact ih7 _ _ _ _ _ _ _ _ _ _)
      | (with_reducible exact ih8 _ _ _ _ _ _ _ _ _ _ _ _ _)
      | (with_reducible exact bitset_And.mono _ _ _ _)
      | (with_reducible exact bitset_Count.mono _ _ _)
      | (with_reducible exact bitset_Covers.mono _ _ _ _)
      | (with_reducible exact bitset_Minus.mono _ _ _ _)
      | (with_reducible exact bitset_Not.mono _ _ _)
      | (with_reducible exact bitset_Or.mono _ _ _ _)
      | (with_reducible exact bitset_Put.mono _ _ _ _ _)
      | (with_reducible exact torrentlaw4_bit.mono _ _ _ _)
      | (with_reducible exact torrentlaw4_has.mono _ _ _)
      | (with_reducible exact LeO.refl _)
      | (with_reducible exact LeO.none _)
      | (with_reducible refine LeO.ite ?_ ?_)
      | (with_reducible refine LeO.bind ?_ (fun _ => ?_))
      | exact ih0 _ _ _ _
      | exact ih1 _ _ _ _ _ _
      | exact ih2 _ _ _ _ _ _
      | exact ih3 _ _ _ _ _ _ _
      | exact ih4 _ _ _ _ _ _
      | exact ih5 _ _ _ _ _ _ _
      | exact ih6 _ _ _ _ _ _ _ _ _
      | exact ih7 _ _ _ _ _ _ _ _ _ _
      | exact ih8 _ _ _ _ _ _ _ _ _ _ _ _ _
      | exact bitset_And.mono _ _ _ _
      | exact bitset_Count.mono _ _ _
      | exact bitset_Covers.mono _ _ _ _
      | exact bitset_Minus.mono _ _ _ _
      | exact bitset_Not.mono _ _ _
      | exact bitset_Or.mono _ _ _ _
      | exact bitset_Put.mono _ _ _ _ _
      | exact torrentlaw4_bit.mono _ _ _ _
      | exact torrentlaw4_has.mono _ _ _
      | exact LeO.none _
      | refine LeO.ite ?_ ?_
      | refine LeO.bind ?_ (fun _ => ?_)
    · intro y0 y1 y2 y3 y4 y5 y6 y7 y8
      unfold torrentlaw4_BitsetAlgebra.j6
      repeat' first
      | (with_reducible exact ih0 _ _ _ _)
      | (with_reducible exact ih1 _ _ _ _ _ _)
      | (with_reducible exact ih2 _ _ _ _ _ _)
      | (with_reducible exact ih3 _ _ _ _ _ _ _)
      | (with_reducible exact ih4 _ _ _ _ _ _)
      | (with_reducible exact ih5 _ _ _ _ _ _ _)
      | (with_reducible exact ih6 _ _ _ _ _ _ _ _ _)
      | (with_reducible exact ih7 _ _ _ _ _ _ _ _ _ _)
      | (with_reducible exact ih8 _ _ _ _ _ _ _ _ _ _ _ _ _)
      | (with_reducible exact bitset_And.mono _ _ _ _)
      | (with_reducible exact bitset_Count.mono _ _ _)
      | (with_reducible exact bitset_Covers.mono _ _ _ _)
      | (with_reducible exact bitset_Minus.mono _ _ _ _)
      | (with_reducible exact bitset_Not.mono _ _ _)
      | (with_reducible exact bitset_Or.mono _ _ _ _)
      | (with_reducible exact bitset_Put.mono _ _ _ _ _)
      | (with_reducible exact torrentlaw4_bit.mono _ _ _ _)
      | (with_reducible exact torrentlaw4_has.mono _ _ _)
      | (with_reducible exact LeO.refl _)
      | (with_reducible exact LeO.none _)
      | (with_reducible refine LeO.ite ?_ ?_)
      | (with_reducible refine LeO.bind ?_ (fun _ => ?_))
      | exact ih0 _ _ _ _
      | exact ih1 _ _ _ _ _ _
      | exact ih2 _ _ _ _ _ _
      | exact ih3 _ _ _ _ _ _ _
      | exact ih4 _ _ _ _ _ _
      | exact ih5 _ _ _ _ _ _ _
      | exact ih6 _ _ _ _ _ _ _ _ _
      | exact ih7 _ _ _ _ _ _ _ _ _ _
      | exact ih8 _ _ _ _ _ _ _ _ _ _ _ _ _
      | exact bitset_And.mono _ _ _ _
      | exact bitset_Count.mono _ _ _
      | exact bitset_Covers.mono _ _ _ _
      | exact bitset_Minus.mono _ _ _ _
      | exact bitset_Not.mono _ _ _
      | exact bitset_Or.mono _ _ _ _
      | exact bitset_Put.mono _ _ _ _ _
      | exact torrentlaw4_bit.mono _ _ _ _
      | exact torrentlaw4_has.mono _ _ _
      | exact LeO.none _
      | refine LeO.ite ?_ ?_
      | refine LeO.bind ?_ (fun _ => ?_)
    · intro y0 y1 y2 y3 y4 y5 y6 y7 y8 y9
      unfold torrentlaw4_BitsetAlgebra.l2
      repeat' first
      | (with_reducible exact ih0 _ _ _ _)
      | (with_reducible exact ih1 _ _ _ _ _ _)
      | (with_reducible exact ih2 _ _ _ _ _ _)
      | (with_reducible exact ih3 _ _ _ _ _ _ _)
      | (with_reducible exact ih4 _ _ _ _ _ _)
      | (with_reducible exact ih5 _ _ _ _ _ _ _)
      | (with_reducible exact ih6 _ _ _ _ _ _ _ _ _)
      | (with_reducible exact ih7 _ _ _ _ _ _ _ _ _ _)
      | (with_reducible exact ih8 _ _ _ _ _ _ _ _ _ _ _ _ _)
      | (with_reducible exact bitset_And.mono _ _ _ _)
      | (with_reducible exact bitset_Count.mono _ _ _)
      | (with_reducible exact bitset_Covers.mono _ _ _ _)
      | (with_reducible exact bitset_Minus.mono _ _ _ _)
      | (with_reducible exact bitset_Not.mono _ _ _)
      | (with_reducible exact bitset_Or.mono _ _ _ _)
      | (with_reducible exact bitset_Put.mono _ _ _ _ _)
      | (with_reducible exact torrentlaw4_bit.mono _ _ _ _)
      | (with_reducible exact torrentlaw4_has.mono _ _ _)
      | (with_reducible exact LeO.refl _)
      | (with_reducible exact LeO.none _)
      | (with_reducible refine LeO.ite ?_ ?_)
      | (with_reducible refine LeO.bind ?_ (fun _ => ?_))
      | exact ih0 _ _ _ _
      | exact ih1 _ _ _ _ _ _
      | exact ih2 _ _ _ _ _ _
      | exact ih3 _ _ _ _ _ _ _
      | exact ih4 _ _ _ _ _ _
      | exact ih5 _ _ _ _ _ _ _
      | exact ih6 _ _ _ _ _ _ _ _ _
      | exact ih7 _ _ _ _ _ _ _ _ _ _
      | exact ih8 _ _ _ _ _ _ _ _ _ _ _ _ _
      | exact bitset_And.mono _ _ _ _
      | exact bitset_Count.mono _ _ _
      | exact bitset_Covers.mono _ _ _ _
      | exact bitset_Minus.mono _ _ _ _
      | exact bitset_Not.mono _ _ _
      | exact bitset_Or.mono _ _ _ _
      | exact bitset_Put.mono _ _ _ _ _
      | exact torrentlaw4_bit.mono _ _ _ _
      | exact torrentlaw4_has.mono _ _ _
      | exact LeO.none _
      | refine LeO.ite ?_ ?_
      | refine LeO.bind ?_ (fun _ => ?_)
    · intro y0 y1 y2 y3 y4 y5 y6 y7 y8 y9 y10 y11 y12
      unfold torrentlaw4_BitsetAlgebra.j8
      repeat' first
      | (with_reducible exact ih0 _ _ _ _)
      | (with_reducible exact ih1 _ _ _ _ _ _)
      | (with_reducible exact ih2 _ _ _ _ _ _)
      | (with_reducible exact ih3 _ _ _ _ _ _ _)
      | (with_reducible exact ih4 _ _ _ _ _ _)
      | (with_reducible exact ih5 _ _ _ _ _ _ _)
      | (with_reducible exact ih6 _ _ _ _ _ _ _ _ _)
      | (with_reducible exact ih7 _ _ _ _ _ _ _ _ _ _)
      | (with_reducible exact ih8 _ _ _ _ _ _ _ _ _ _ _ _ _)
      | (with_reducible exact bitset_And.mono _ _ _ _)
      | (with_reducible exact bitset_Count.mono _ _ _)
      | (with_reducible exact bitset_Covers.mono _ _ _ _)
      | (with_reducible exact bitset_Minus.mono _ _ _ _)
      | (with_reducible exact bitset_Not.mono _ _ _)
      | (with_reducible exact bitset_Or.mono _ _ _ _)
      | (with_reducible exact bitset_Put.mono _ _ _ _ _)
      | (with_reducible exact torrentlaw4_bit.mono _ _ _ _)
      | (with_reducible exact torrentlaw4_has.mono _ _ _)
      | (with_reducible exact LeO.refl _)
      | (with_reducible exact LeO.none _)
      | (with_reducible refine LeO.ite ?_ ?_)
      | (with_reducible refine LeO.bind ?_ (fun _ => ?_))
      | exact ih0 _ _ _ _
      | exact ih1 _ _ _ _ _ _
      | exact ih2 _ _ _ _ _ _
      | exact ih3 _ _ _ _ _ _ _
      | exact ih4 _ _ _ _ _ _
      | exact ih5 _ _ _ _ _ _ _
      | exact ih6 _ _ _ _ _ _ _ _ _
      | exact ih7 _ _ _ _ _ _ _ _ _ _
      | exact ih8 _ _ _ _ _ _ _ _ _ _ _ _ _
      | exact bitset_And.mono _ _ _ _
      | exact bitset_Count.mono _ _ _
      | exact bitset_Covers.mono _ _ _ _
      | exact bitset_Minus.mono _ _ _ _
      | exact bitset_Not.mono _ _ _
      | exact bitset_Or.mono _ _ _ _
      | exact bitset_Put.mono _ _ _ _ _
      | exact torrentlaw4_bit.mono _ _ _ _
      | exact torrentlaw4_has.mono _ _ _
      | exact LeO.none _
      | refine LeO.ite ?_ ?_
      | refine LeO.bind ?_ (fun _ => ?_)
theorem torrentlaw4_BitsetAlgebra.mono : ∀ a0 a1 a2 k, LeO (torrentlaw4_BitsetAlgebra.f k a0 a1 a2) (torrentlaw4_BitsetAlgebra.f (k + 1) a0 a1 a2) := by
  intro a0 a1 a2 k
  obtain ⟨ih0, ih1, ih2, ih3, ih4, ih5, ih6, ih7, ih8⟩ := torrentlaw4_BitsetAlgebra.mono_l k
  unfold torrentlaw4_BitsetAlgebra.f
  repeat' first
      | (with_reducible exact ih0 _ _ _ _)
      | (with_reducible exact ih1 _ _ _ _ _ _)
      | (with_reducible exact ih2 _ _ _ _ _ _)
      | (with_reducible exact ih3 _ _ _ _ _ _ _)
      | (with_reducible exact ih4 _ _ _ _ _ _)
      | (with_reducible exact ih5 _ _ _ _ _ _ _)
      | (with_reducible exact ih6 _ _ _ _ _ _ _ _ _)
      | (with_reducible exact ih7 _ _ _ _ _ _ _ _ _ _)
      | (with_reducible exact ih8 _ _ _ _ _ _ _ _ _ _ _ _ _)
      | (with_reducible exact bitset_And.mono _ _ _ _)
      | (with_reducible exact bitset_Count.mono _ _ _)
      | (with_reducible exact bitset_Covers.mono _ _ _ _)
      | (with_reducible exact bitset_Minus.mono _ _ _ _)
      | (with_reducible exact bitset_Not.mono _ _ _)
      | (with_reducible exact bitset_Or.mono _ _ _ _)
      | (with_reducible exact bitset_Put.mono _ _ _ _ _)
      | (with_reducible exact torrentlaw4_bit.mono _ _ _ _)
      | (with_reducible exact torrentlaw4_has.mono _ _ _)
      | (with_reducible exact LeO.refl _)
      | (with_reducible exact LeO.none _)
      | (with_reducible refine LeO.ite ?_ ?_)
      | (with_reducible refine LeO.bind ?_ (fun _ => ?_))
      | exact ih0 _ _ _ _
      | exact ih1 _ _ _ _ _ _
      | exact ih2 _ _ _ _ _ _
      | exact ih3 _ _ _ _ _ _ _
      | exact ih4 _ _ _ _ _ _
      | exact ih5 _ _ _ _ _ _ _
      | exact ih6 _ _ _ _ _ _ _ _ _
      | exact ih7 _ _ _ _ _ _ _ _ _ _
      | exact ih8 _ _ _ _ _ _ _ _ _ _ _ _ _
      | exact bitset_And.mono _ _ _ _
      | exact bitset_Count.mono _ _ _
      | exact bitset_Covers.mono _ _ _ _
      | exact bitset_Minus.mono _ _ _ _
      | exact bitset_Not.mono _ _ _
      | exact bitset_Or.mono _ _ _ _
      | exact bitset_Put.mono _ _ _ _ _
      | exact torrentlaw4_bit.mono _ _ _ _
      | exact torrentlaw4_has.mono _ _ _
      | exact LeO.none _
      | refine LeO.ite ?_ ?_
      | refine LeO.bind ?_ (fun _ => ?_)
end Go.Proofs.Ytoohpdamndgdlaa.P
