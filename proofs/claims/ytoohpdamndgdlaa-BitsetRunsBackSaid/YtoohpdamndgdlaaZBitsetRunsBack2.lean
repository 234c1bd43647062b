-- Merged by a program of this session out of the texts Px20, Px21, Px16, QOpen, Px38, Px35, Px37, Px14, QOnes, Px26, Px1, Px27, QRuns, Px13, QOf of this claim's own.
import Derived.Test.YtoohpdamndgdlaaZBitsetRunsBack1
import Derived.WalkSpells
import Derived.OwnWalk

-- Made by a program of this session (the print of the kit over a neighbour), for this claim.
namespace Go.Proofs.Ytoohpdamndgdlaa.P
open Go.RowKit Go.Proofs.YtoohpdamndgdlaaW.PrintWords Go.Proofs.YtoohpdamndgdlaaW.PrintLast Go.Proofs.YtoohpdamndgdlaaW.PrintMore
attribute [local go_sem] max2_int min2_int max_two min_two max_three min_three max_four min_four   -- for this text's walks alone
set_option linter.unusedVariables false
set_option linter.unusedSimpArgs false

/-! ### torrentref4_Check: function 59 -/
def torrentref4_Check.j0 : Nat → Int → List Int → Bool → Option (Int)
  | 0, _, _, _ => none
  | k + 1, x0, x1, x11 => if x11 = true then (some 40) else ((torrentref4_size.f x0).bind fun t194 => (if (x1.length : Int) = t194 then (if (Int.tmod x0 8) > 0 then (if 0 ≤ (wrap64 ((x1.length : Int) - 1)) then (if (wrap64 ((x1.length : Int) - 1)) < (x1.length : Int) then ((torrentref4_weight.f k x0).bind fun t196 => (if (wrap64 (2 * t196)) = 0 then (none) else (if (Int.tmod (wrap64 (rd x1 (wrap64 ((x1.length : Int) - 1)))) (wrap64 (2 * t196))) = 0 then (some 0) else (some 42)))) else (none)) else (none)) else (some 0)) else (some 41)))
def torrentref4_Check.f (k : Nat) (a0 : Int) (l1 : List Int) : Option (Int) := if a0 < 0 then (torrentref4_Check.j0 k a0 l1 true) else (torrentref4_Check.j0 k a0 l1 (decide (a0 > 65536)))
theorem torrentref4_Check.mono_l : ∀ k, (∀ y0 y1 y2, LeO (torrentref4_Check.j0 k y0 y1 y2) (torrentref4_Check.j0 (k + 1) y0 y1 y2))
  | 0 => fun _ _ _ r h => by simp [torrentref4_Check.j0] at h
  | k + 1 => by
    have ih0 := torrentref4_Check.mono_l k
    · intro y0 y1 y2
      unfold torrentref4_Check.j0
      repeat' first
      | (with_reducible exact ih0 _ _ _)
      | (with_reducible exact torrentref4_weight.mono _ _)
      | (with_reducible exact LeO.refl _)
      | (with_reducible exact LeO.none _)
      | (with_reducible refine LeO.ite ?_ ?_)
      | (with_reducible refine LeO.bind ?_ (fun _ => ?_))
      | exact ih0 _ _ _
      | exact torrentref4_weight.mono _ _
      | exact LeO.none _
      | refine LeO.ite ?_ ?_
      | refine LeO.bind ?_ (fun _ => ?_)
theorem torrentref4_Check.mono : ∀ a0 a1 k, LeO (torrentref4_Check.f k a0 a1) (torrentref4_Check.f (k + 1) a0 a1) := by
  intro a0 a1 k
  have ih0 := torrentref4_Check.mono_l k
  unfold torrentref4_Check.f
  repeat' first
      | (with_reducible exact ih0 _ _ _)
      | (with_reducible exact torrentref4_weight.mono _ _)
      | (with_reducible exact LeO.refl _)
      | (with_reducible exact LeO.none _)
      | (with_reducible refine LeO.ite ?_ ?_)
      | (with_reducible refine LeO.bind ?_ (fun _ => ?_))
      | exact ih0 _ _ _
      | exact torrentref4_weight.mono _ _
      | exact LeO.none _
      | refine LeO.ite ?_ ?_
      | refine LeO.bind ?_ (fun _ => ?_)
set_option maxHeartbeats 8000000 in
set_option maxRecDepth 100000 in
theorem torrentref4_Check.calls (k : Nat) (a0 : Int) (A1 : Option Addr) (c1 : Nat) (l1 : List Int) (r : Int) (w : World) (hr1 : Kd.C (Kd.int .u8) w A1 l1.length l1) (hc1 : l1.length ≤ c1) (h : torrentref4_Check.f k a0 l1 = some r) :
    Calls Try.prog 59 #[.int .i64 a0, .slice A1 l1.length c1] w fun e w' => e = .returned (.int .i64 r) ∧ Drawn0 w w' := by
  have HR1 := Aside0.mk hr1
  have HC1 := Aside0.mk hc1
  clear hr1 hc1
  have H : (if a0 < 0 then (torrentref4_Check.j0 k a0 l1 true) else (torrentref4_Check.j0 k a0 l1 (decide (a0 > 65536)))) = some r := h
  clear h
  have HC3 := Aside0.mk H
  clear H
  go_enter Try.func59, Try.ntmps59
  go_upto_region 1 with (fail)
  go_cut [11] (fun v11 wc => ∃ (kq : Nat) (x11_2 : Bool), v11 = .bool x11_2 ∧ Aside0 (torrentref4_Check.j0 kq a0 l1 x11_2 = some r) ∧ Aside0 (kq ≤ k) ∧ Drawn0 w wc)
  case first =>
    have H := HC3.out
    clear HC3
    by_cases c4 : a0 < 0
    · rw [if_pos c4] at H
      have c4b0 : decide (a0 < 0) = true := decide_eq_true c4
      clear c4
      (first | rw [c4b0] | (simp only [i64_w, i32_w]; rw [c4b0]) | skip)
      have H' := Aside0.mk H
      clear H
      go_wp2
      go_meet
      case rel => exact ⟨_, (true), (by first | rfl | (simp; done) | (simp [*]; done)), H', ⟨by first | omega | exact Nat.le_refl _⟩, by repeat (first | exact Drawn0.refl _ | apply Drawn0.step)⟩
    · rw [if_neg c4] at H
      have c4b0 : decide (a0 < 0) = false := decide_eq_false c4
      clear c4
      (first | rw [c4b0] | (simp only [i64_w, i32_w]; rw [c4b0]) | skip)
      have H' := Aside0.mk H
      clear H
      go_wp2
      go_meet
      case rel => exact ⟨_, (decide (a0 > 65536)), (by first | rfl | (simp; done) | (simp [*]; done)), H', ⟨by first | omega | exact Nat.le_refl _⟩, by repeat (first | exact Drawn0.refl _ | apply Drawn0.step)⟩
  case rest =>
    clear HC3
    try clear c1
    try clear p2
    try clear c4
    try clear c4b0
    obtain ⟨kq, x11_2, rfl, HA, HJ2, ⟨mc2, rfl⟩⟩ := hcut
    cases kq with
    | zero => exact absurd HA.out (by simp [torrentref4_Check.j0])
    | succ kj2 =>
      have H := HA.out
      clear HA
      simp only [torrentref4_Check.j0] at H
      by_cases c5 : x11_2 = true
      · subst c5
        have H1 : (some 40) = some r := by rw [if_pos rfl] at H; exact H
        clear H
        have H := H1
        clear H1
        obtain rfl := Option.some.inj H
        go_wp2
        go_ret
        exact ⟨by first | rfl | (simp; done) | (simp [*]; done), by repeat (first | exact Drawn0.refl _ | apply Drawn0.step)⟩
      · replace c5 := Bool.eq_false_iff.mpr c5
        subst c5
        have H1 : ((torrentref4_size.f a0).bind fun t194 => (if (l1.length : Int) = t194 then (if (Int.tmod a0 8) > 0 then (if 0 ≤ (wrap64 ((l1.length : Int) - 1)) then (if (wrap64 ((l1.length : Int) - 1)) < (l1.length : Int) then ((torrentref4_weight.f kj2 a0).bind fun t196 => (if (wrap64 (2 * t196)) = 0 then (none) else (if (Int.tmod (wrap64 (rd l1 (wrap64 ((l1.length : Int) - 1)))) (wrap64 (2 * t196))) = 0 then (some 0) else (some 42)))) else (none)) else (none)) else (some 0)) else (some 41))) = some r := by rw [if_neg (show ¬ (false = true) by decide)] at H; exact H
        clear H
        have H := H1
        clear H1
        replace H := Option.bind_eq_some_iff.mp H
        obtain ⟨t194, A60, H⟩ := H
        replace H : (if (l1.length : Int) = t194 then (if (Int.tmod a0 8) > 0 then (if 0 ≤ (wrap64 ((l1.length : Int) - 1)) then (if (wrap64 ((l1.length : Int) - 1)) < (l1.length : Int) then ((torrentref4_weight.f kj2 a0).bind fun t196 => (if (wrap64 (2 * t196)) = 0 then (none) else (if (Int.tmod (wrap64 (rd l1 (wrap64 ((l1.length : Int) - 1)))) (wrap64 (2 * t196))) = 0 then (some 0) else (some 42)))) else (none)) else (none)) else (some 0)) else (some 41)) = some r := H
        have A6 := Aside0.mk A60
        clear A60
        by_cases c7 : (l1.length : Int) = t194
        · rw [if_pos c7] at H
          have c7b0 : ((l1.length : Int) == t194) = true := beq_iff_eq.mpr c7
          have c7b1 : ((l1.length : Int) != t194) = false := bne_eq_false_iff_eq.mpr c7
          clear c7
          by_cases c8 : (Int.tmod a0 8) > 0
          · rw [if_pos c8] at H
            have c8b0 : decide (0 < (Int.tmod a0 8)) = true := decide_eq_true c8
            clear c8
            obtain ⟨ji9, hji9⟩ : ∃ j_ : Int, (wrap64 ((l1.length : Int) - 1)) = j_ := ⟨_, rfl⟩
            replace H : (if 0 ≤ (ji9) then (if (ji9) < (l1.length : Int) then ((torrentref4_weight.f kj2 a0).bind fun t196 => (if (wrap64 (2 * t196)) = 0 then (none) else (if (Int.tmod (wrap64 (rd l1 (ji9))) (wrap64 (2 * t196))) = 0 then (some 0) else (some 42)))) else (none)) else (none)) = some r := by first | (rw [hji9] at H; exact H) | (simp only [hji9] at H ⊢; exact H)
            (try rw [hji9] at A6)
            have hji9w : (IntKind.i64.wrap ((l1.length : Int) - 1)) = ji9 := (i64_w _).trans hji9
            by_cases c10 : 0 ≤ (ji9)
            · rw [if_pos c10] at H
              have c10b0 : decide (0 ≤ (ji9)) = true := decide_eq_true c10
              clear c10
              by_cases c11 : (ji9) < (l1.length : Int)
              · rw [if_pos c11] at H
                have c11b0 : decide ((ji9) < (l1.length : Int)) = true := decide_eq_true c11
                clear c11
                replace H := Option.bind_eq_some_iff.mp H
                obtain ⟨t196, A120, H⟩ := H
                replace H : (if (wrap64 (2 * t196)) = 0 then (none) else (if (Int.tmod (wrap64 (rd l1 (ji9))) (wrap64 (2 * t196))) = 0 then (some 0) else (some 42))) = some r := H
                have A12 := Aside0.mk A120
                clear A120
                by_cases c13 : (wrap64 (2 * t196)) = 0
                · rw [if_pos c13] at H
                  exact absurd H (by simp)
                · rw [if_neg c13] at H
                  have c13b0 : ((wrap64 (2 * t196)) == 0) = false := beq_eq_false_iff_ne.mpr c13
                  have c13b1 : ((wrap64 (2 * t196)) != 0) = true := bne_iff_ne.mpr c13
                  by_cases c14 : (Int.tmod (wrap64 (rd l1 (ji9))) (wrap64 (2 * t196))) = 0
                  · rw [if_pos c14] at H
                    have c14b0 : ((Int.tmod (wrap64 (rd l1 (ji9))) (wrap64 (2 * t196))) == 0) = true := beq_iff_eq.mpr c14
                    have c14b1 : ((Int.tmod (wrap64 (rd l1 (ji9))) (wrap64 (2 * t196))) != 0) = false := bne_eq_false_iff_eq.mpr c14
                    clear c14
                    obtain rfl := Option.some.inj H
                    go_wp2_with (first | ((with_reducible refine gate_callee (f := 72) rfl ?_); refine goesL_ (some 15) rfl rfl Try.func72 (by kernel_rfl) rfl #[.int .i64 a0] rfl (by (try simp only [List.map_toArray, List.map_cons, List.map_nil]); first | done | rfl | (simp only [List.length_drop, List.length_take]; rfl)) ?_; (with_reducible refine (torrentref4_size.calls a0 t194 _ A6.out).mono ?_); rintro e w' ⟨rfl, ⟨nd, rfl⟩⟩; refine ⟨_, rfl, ?_⟩; have p195 : 0 ≤ ((ji9) : Int) := of_decide_eq_true (by first | (with_reducible assumption) | assumption); have q195 : (ji9) < (l1.length : Int) := of_decide_eq_true (by first | (with_reducible assumption) | assumption); obtain ⟨ad195, e195, hx195_0⟩ := Kd.at_int HR1.out (ji9) p195 q195; cases e195; replace p195 := eq_true p195; replace q195 := eq_true q195) | ((with_reducible refine gate_callee (f := 71) rfl ?_); refine goesL_ (some 29) rfl rfl Try.func71 (by kernel_rfl) rfl #[.int .i64 a0] rfl (by (try simp only [List.map_toArray, List.map_cons, List.map_nil]); first | done | rfl | (simp only [List.length_drop, List.length_take]; rfl)) ?_; (with_reducible refine (torrentref4_weight.calls kj2 a0 t196 _ A12.out).mono ?_); rintro e w' ⟨rfl, ⟨nd, rfl⟩⟩; refine ⟨_, rfl, ?_⟩))
                    go_ret
                    exact ⟨by first | rfl | (simp; done) | (simp only [← hji9] <;> (first | rfl | simp)) | (simp [*]; done), by repeat (first | exact Drawn0.refl _ | apply Drawn0.step)⟩
                  · rw [if_neg c14] at H
                    have c14b0 : ((Int.tmod (wrap64 (rd l1 (ji9))) (wrap64 (2 * t196))) == 0) = false := beq_eq_false_iff_ne.mpr c14
                    have c14b1 : ((Int.tmod (wrap64 (rd l1 (ji9))) (wrap64 (2 * t196))) != 0) = true := bne_iff_ne.mpr c14
                    obtain rfl := Option.some.inj H
                    go_wp2_with (first | ((with_reducible refine gate_callee (f := 72) rfl ?_); refine goesL_ (some 15) rfl rfl Try.func72 (by kernel_rfl) rfl #[.int .i64 a0] rfl (by (try simp only [List.map_toArray, List.map_cons, List.map_nil]); first | done | rfl | (simp only [List.length_drop, List.length_take]; rfl)) ?_; (with_reducible refine (torrentref4_size.calls a0 t194 _ A6.out).mono ?_); rintro e w' ⟨rfl, ⟨nd, rfl⟩⟩; refine ⟨_, rfl, ?_⟩; have p195 : 0 ≤ ((ji9) : Int) := of_decide_eq_true (by first | (with_reducible assumption) | assumption); have q195 : (ji9) < (l1.length : Int) := of_decide_eq_true (by first | (with_reducible assumption) | assumption); obtain ⟨ad195, e195, hx195_0⟩ := Kd.at_int HR1.out (ji9) p195 q195; cases e195; replace p195 := eq_true p195; replace q195 := eq_true q195) | ((with_reducible refine gate_callee (f := 71) rfl ?_); refine goesL_ (some 29) rfl rfl Try.func71 (by kernel_rfl) rfl #[.int .i64 a0] rfl (by (try simp only [List.map_toArray, List.map_cons, List.map_nil]); first | done | rfl | (simp only [List.length_drop, List.length_take]; rfl)) ?_; (with_reducible refine (torrentref4_weight.calls kj2 a0 t196 _ A12.out).mono ?_); rintro e w' ⟨rfl, ⟨nd, rfl⟩⟩; refine ⟨_, rfl, ?_⟩))
                    go_ret
                    exact ⟨by first | rfl | (simp; done) | (simp only [← hji9] <;> (first | rfl | simp)) | (simp [*]; done), by repeat (first | exact Drawn0.refl _ | apply Drawn0.step)⟩
              · rw [if_neg c11] at H
                exact absurd H (by simp)
            · rw [if_neg c10] at H
              exact absurd H (by simp)
          · rw [if_neg c8] at H
            have c8b0 : decide (0 < (Int.tmod a0 8)) = false := decide_eq_false c8
            clear c8
            obtain rfl := Option.some.inj H
            go_wp2_with (first | ((with_reducible refine gate_callee (f := 72) rfl ?_); refine goesL_ (some 15) rfl rfl Try.func72 (by kernel_rfl) rfl #[.int .i64 a0] rfl (by (try simp only [List.map_toArray, List.map_cons, List.map_nil]); first | done | rfl | (simp only [List.length_drop, List.length_take]; rfl)) ?_; (with_reducible refine (torrentref4_size.calls a0 t194 _ A6.out).mono ?_); rintro e w' ⟨rfl, ⟨nd, rfl⟩⟩; refine ⟨_, rfl, ?_⟩))
            go_ret
            exact ⟨by first | rfl | (simp; done) | (simp [*]; done), by repeat (first | exact Drawn0.refl _ | apply Drawn0.step)⟩
        · rw [if_neg c7] at H
          have c7b0 : ((l1.length : Int) == t194) = false := beq_eq_false_iff_ne.mpr c7
          have c7b1 : ((l1.length : Int) != t194) = true := bne_iff_ne.mpr c7
          obtain rfl := Option.some.inj H
          go_wp2_with (first | ((with_reducible refine gate_callee (f := 72) rfl ?_); refine goesL_ (some 15) rfl rfl Try.func72 (by kernel_rfl) rfl #[.int .i64 a0] rfl (by (try simp only [List.map_toArray, List.map_cons, List.map_nil]); first | done | rfl | (simp only [List.length_drop, List.length_take]; rfl)) ?_; (with_reducible refine (torrentref4_size.calls a0 t194 _ A6.out).mono ?_); rintro e w' ⟨rfl, ⟨nd, rfl⟩⟩; refine ⟨_, rfl, ?_⟩))
          go_ret
          exact ⟨by first | rfl | (simp; done) | (simp [*]; done), by repeat (first | exact Drawn0.refl _ | apply Drawn0.step)⟩

end Go.Proofs.Ytoohpdamndgdlaa.P

-- Made by a program of this session (the print of the kit over a neighbour), for this claim.
namespace Go.Proofs.Ytoohpdamndgdlaa.P
open Go.RowKit Go.Proofs.YtoohpdamndgdlaaW.PrintWords Go.Proofs.YtoohpdamndgdlaaW.PrintLast Go.Proofs.YtoohpdamndgdlaaW.PrintMore
attribute [local go_sem] max2_int min2_int max_two min_two max_three min_three max_four min_four   -- for this text's walks alone
set_option linter.unusedVariables false
set_option linter.unusedSimpArgs false

/-! ### torrentref4_open: function 60 -/
def torrentref4_open.l0 : Nat → List Int → List Bool → Int → Option (List Bool)
  | 0, _, _, _ => none
  | k + 1, x0, x3, x4 => if x4 < (wrap64 (8 * (x0.length : Int))) then (if 0 ≤ (wrap64 (Int.tdiv x4 8)) then (if (wrap64 (Int.tdiv x4 8)) < (x0.length : Int) then ((torrentref4_weight.f k x4).bind fun t198 => (if t198 = 0 then (none) else (if x3.length < 140737488355328 then (torrentref4_open.l0 k x0 (x3 ++ [((Int.tmod (wrap64 (Int.tdiv (wrap64 (rd x0 (wrap64 (Int.tdiv x4 8)))) t198)) 2) == 1)]) (wrap64 (x4 + 1))) else (none)))) else (none)) else (none)) else (some x3)
def torrentref4_open.f (k : Nat) (l0 : List Int) : Option (List Bool) := torrentref4_open.l0 k l0 ([] : List Bool) 0
theorem torrentref4_open.mono_l : ∀ k, (∀ y0 y1 y2, LeO (torrentref4_open.l0 k y0 y1 y2) (torrentref4_open.l0 (k + 1) y0 y1 y2))
  | 0 => fun _ _ _ r h => by simp [torrentref4_open.l0] at h
  | k + 1 => by
    have ih0 := torrentref4_open.mono_l k
    · intro y0 y1 y2
      unfold torrentref4_open.l0
      repeat' first
      | (with_reducible exact ih0 _ _ _)
      | (with_reducible exact torrentref4_weight.mono _ _)
      | (with_reducible exact LeO.refl _)
      | (with_reducible exact LeO.none _)
      | (with_reducible refine LeO.ite ?_ ?_)
      | (with_reducible refine LeO.bind ?_ (fun _ => ?_))
      | exact ih0 _ _ _
      | exact torrentref4_weight.mono _ _
      | exact LeO.none _
      | refine LeO.ite ?_ ?_
      | refine LeO.bind ?_ (fun _ => ?_)
theorem torrentref4_open.mono : ∀ a0 k, LeO (torrentref4_open.f k a0) (torrentref4_open.f (k + 1) a0) := by
  intro a0 k
  have ih0 := torrentref4_open.mono_l k
  unfold torrentref4_open.f
  repeat' first
      | (with_reducible exact ih0 _ _ _)
      | (with_reducible exact torrentref4_weight.mono _ _)
      | (with_reducible exact LeO.refl _)
      | (with_reducible exact LeO.none _)
      | (with_reducible refine LeO.ite ?_ ?_)
      | (with_reducible refine LeO.bind ?_ (fun _ => ?_))
      | exact ih0 _ _ _
      | exact torrentref4_weight.mono _ _
      | exact LeO.none _
      | refine LeO.ite ?_ ?_
      | refine LeO.bind ?_ (fun _ => ?_)
def torrentref4_open.T5 : Bool × List (List Nat × List Nat) := (true, [([], []), ([], []), ([], []), ([2], [2]), ([1, 3], [1, 3]), ([4], [4]), ([5], [5]), ([], []), ([7], [7]), ([6, 8], [6, 8]), ([9], [9]), ([10], [10]), ([11], [11]), ([0, 12, 8], [0, 12]), ([13, 13, 0, 1, 2, 3, 4, 5, 6, 7, 8, 9, 10, 11, 12, 13], [0, 13])])
def torrentref4_open.B5 : List Nat := [0, 0, 0, 4, 14, 30, 62, 0, 128, 510, 1022, 2046, 4094, 8191, 16383]
theorem torrentref4_open.tab5 : rtab .any (opsOf Try.f60 5) = torrentref4_open.T5 := by kernel_rfl
theorem torrentref4_open.bits5 : waitsOk torrentref4_open.T5.2 torrentref4_open.B5 = true := by kernel_rfl
set_option maxHeartbeats 8000000 in
set_option maxRecDepth 100000 in
theorem torrentref4_open.calls (k : Nat) (A0 : Option Addr) (c0 : Nat) (l0 : List Int) (r : List Bool) (w : World) (hr0 : Kd.C (Kd.int .u8) w A0 l0.length l0) (hc0 : l0.length ≤ c0) (h : torrentref4_open.f k l0 = some r) :
    Calls Try.prog 60 #[.slice A0 l0.length c0] w fun e w' => ∃ v0_ : Value, e = .returned (v0_) ∧ Kd.R Kd.bool 4 w' w.heap.size (fun _ => True) v0_ r ∧ Below w.heap.size w w' := by
  have HR0 := Aside0.mk hr0
  have HC0 := Aside0.mk hc0
  clear hr0 hc0
  have HB := Aside0.mk (Below.refl w.heap.size w)
  have H : (torrentref4_open.l0 k l0 ([] : List Bool) 0) = some r := h
  clear h
  have H' := Aside0.mk H
  clear H
  go_enter Try.func60, Try.ntmps60
  go_wp2
  go_loopg [3, 4] k (fun kq v3 v4 w' => ∃ (x3_1 : List Bool) (x4_1 : Int), v4 = .int .i64 x4_1 ∧ Aside0 (torrentref4_open.l0 kq l0 x3_1 x4_1 = some r) ∧ Aside0 (kq ≤ k) ∧ Aside0 (Kd.R Kd.bool 4 w' w.heap.size (fun _ => True) v3 x3_1) ∧ Aside0 (Below w.heap.size w w'))
  case atStart => exact ⟨(([] : List Bool)), (0), (by first | rfl | (simp; done) | (simp [*]; done)), H', ⟨Nat.le_refl _⟩, ⟨by first | exact Kd.R_nil _ _ _ _ _ | exact Kd.N_nil _ _ _ _ _ | exact Kd.V_nil _ _ _ _ _ | exact Kd.Q_nil _ _ _ _ _ | exact Kd.S_nil _ _ _ _ _⟩, ⟨by repeat (first | (with_reducible first | exact HB.out | apply below_alloc | apply pw_below_drewN | apply below_drew1) | exact HB.out)⟩⟩
  case round =>
    clear H'
    obtain ⟨x3_1, x4_1, rfl, HA, HK1, HO_3, HB⟩ := hrel
    cases gk with
    | zero => exact absurd HA.out (by simp [torrentref4_open.l0])
    | succ k1 =>
      have H := HA.out
      clear HA
      simp only [torrentref4_open.l0] at H
      by_cases c2 : x4_1 < (wrap64 (8 * (l0.length : Int)))
      · rw [if_pos c2] at H
        have c2b0 : decide (x4_1 < (wrap64 (8 * (l0.length : Int)))) = true := decide_eq_true c2
        clear c2
        obtain ⟨ji3, hji3⟩ : ∃ j_ : Int, (wrap64 (Int.tdiv x4_1 8)) = j_ := ⟨_, rfl⟩
        replace H : (if 0 ≤ (ji3) then (if (ji3) < (l0.length : Int) then ((torrentref4_weight.f k1 x4_1).bind fun t198 => (if t198 = 0 then (none) else (if x3_1.length < 140737488355328 then (torrentref4_open.l0 k1 l0 (x3_1 ++ [((Int.tmod (wrap64 (Int.tdiv (wrap64 (rd l0 (ji3))) t198)) 2) == 1)]) (wrap64 (x4_1 + 1))) else (none)))) else (none)) else (none)) = some r := by first | (rw [hji3] at H; exact H) | (simp only [hji3] at H ⊢; exact H)
        have hji3w : (IntKind.i64.wrap (Int.tdiv x4_1 8)) = ji3 := (i64_w _).trans hji3
        by_cases c4 : 0 ≤ (ji3)
        · rw [if_pos c4] at H
          have c4b0 : decide (0 ≤ (ji3)) = true := decide_eq_true c4
          clear c4
          by_cases c5 : (ji3) < (l0.length : Int)
          · rw [if_pos c5] at H
            have c5b0 : decide ((ji3) < (l0.length : Int)) = true := decide_eq_true c5
            clear c5
            replace H := Option.bind_eq_some_iff.mp H
            obtain ⟨t198, A60, H⟩ := H
            replace H : (if t198 = 0 then (none) else (if x3_1.length < 140737488355328 then (torrentref4_open.l0 k1 l0 (x3_1 ++ [((Int.tmod (wrap64 (Int.tdiv (wrap64 (rd l0 (ji3))) t198)) 2) == 1)]) (wrap64 (x4_1 + 1))) else (none))) = some r := H
            have A6 := Aside0.mk A60
            clear A60
            by_cases c7 : t198 = 0
            · rw [if_pos c7] at H
              exact absurd H (by simp)
            · rw [if_neg c7] at H
              have c7b0 : (t198 == 0) = false := beq_eq_false_iff_ne.mpr c7
              have c7b1 : (t198 != 0) = true := bne_iff_ne.mpr c7
              by_cases c8 : x3_1.length < 140737488355328
              · rw [if_pos c8] at H
                have LMc8 := Aside0.mk c8
                clear c8
                obtain ⟨y199, hy199⟩ : ∃ y_ : List Bool, y_ = (x3_1 ++ [((Int.tmod (wrap64 (Int.tdiv (wrap64 (rd l0 (ji3))) t198)) 2) == 1)]) := ⟨_, rfl⟩
                replace H : (torrentref4_open.l0 k1 l0 y199 (wrap64 (x4_1 + 1))) = some r := by first | (rw [hy199]; with_reducible exact H) | (have H2_ := (Option.bind_some _ _).symm.trans H; rw [hy199]; with_reducible exact H2_) | (have H2_ := (Option.bind_some _ _).symm.trans H; with_reducible exact H2_) | with_reducible exact H | (rw [hy199]; exact H) | exact H
                have Ny199 := Aside0.mk hy199
                clear hy199
                have H' := Aside0.mk H
                clear H
                try go_wp2
                have n0_ := Aside0.mk (Kd.R_drew HO_3.out)
                have n1_ := Aside0.mk (below_drew1 HB.out)
                clear HO_3
                clear HB
                have HO_3 := n0_
                have HB := n1_
                clear n0_ n1_
                have p197 : 0 ≤ ((ji3) : Int) := of_decide_eq_true (by first | (with_reducible assumption) | assumption)
                have q197 : (ji3) < (l0.length : Int) := of_decide_eq_true (by first | (with_reducible assumption) | assumption)
                obtain ⟨ad197, e197, hx197_0⟩ := Kd.at_int HR0.out (ji3) p197 q197
                have hw197_0 := hx197_0
                cases e197
                replace hx197_0 := (HB.out.cell (World.block_lt_of_cell? w _ hx197_0)).trans hx197_0
                replace p197 := eq_true p197
                replace q197 := eq_true q197
                refine start_ (n := 15) (S := fun w' => w'.cell? (ad197.add ((ji3)).toNat) = some (.int .u8 (rd l0 (ji3)))) (ds := []) #[false, false, false, false, false, false, false, false, false, false, false, false, false, false, false] (by kernel_rfl) rfl rfl (((HB.out.cell (World.block_lt_of_cell? w _ hw197_0)).trans hw197_0)) (fun hHeld => ?_); refine with_tabW torrentref4_open.tab5 torrentref4_open.bits5 (fun HT_ HW_ => ?_)
                generalize wr.drew = w9 at HO_3 HB hx197_0 hHeld ⊢
                refine pure_ (i := 0) (N := some 12) (v := ?_) (a' := ?_) #[true, false, false, false, false, false, false, false, false, false, false, false, false, false, false] rfl rfl (any_of HT_.out (by kernel_rfl)) (fun _ _ _ h => h) (Or.inl ⟨by rfl, ?_⟩) ?_ ?_
                rotate_left
                · intro w'
                  go_simp
                  with_reducible rfl
                rotate_left
                · simp only [Act.put, List.setIfInBounds_toArray, List.set_cons_zero, List.set_cons_succ, i64_w, i32_w]
                  rfl
                refine pure_ (i := 1) (N := some 13) (v := ?_) (a' := ?_) #[true, true, false, false, false, false, false, false, false, false, false, false, false, false, false] rfl rfl (any_of HT_.out (by kernel_rfl)) (fun _ _ _ h => h) (Or.inl ⟨by rfl, ?_⟩) ?_ ?_
                rotate_left
                · intro w'
                  go_simp
                  with_reducible rfl
                rotate_left
                · simp only [Act.put, List.setIfInBounds_toArray, List.set_cons_zero, List.set_cons_succ, i64_w, i32_w]
                  rfl
                refine pure_ (i := 2) (N := some 14) (v := ?_) (a' := ?_) #[true, true, true, false, false, false, false, false, false, false, false, false, false, false, false] rfl rfl (any_of HT_.out (by kernel_rfl)) (fun _ _ _ h => h) (Or.inl ⟨by rfl, ?_⟩) ?_ ?_
                rotate_left
                · intro w'
                  go_simp
                  with_reducible rfl
                rotate_left
                · simp only [Act.put, List.setIfInBounds_toArray, List.set_cons_zero, List.set_cons_succ, i64_w, i32_w]
                  rfl
                refine pure_ (i := 3) (N := some 15) (v := ?_) (a' := ?_) #[true, true, true, true, false, false, false, false, false, false, false, false, false, false, false] rfl rfl (any_of HT_.out (by kernel_rfl)) (fun _ _ _ h => h) (Or.inl ⟨by rfl, ?_⟩) ?_ ?_
                rotate_left
                · intro w'
                  go_simp
                  with_reducible rfl
                rotate_left
                · simp only [Act.put, List.setIfInBounds_toArray, List.set_cons_zero, List.set_cons_succ, i64_w, i32_w]
                  rfl
                refine pure_ (i := 4) (N := some 16) (v := ?_) (a' := ?_) #[true, true, true, true, true, false, false, false, false, false, false, false, false, false, false] rfl rfl (any_of HT_.out (by kernel_rfl)) (fun _ _ _ h => h) (Or.inl ⟨by rfl, ?_⟩) ?_ ?_
                rotate_left
                · intro w'
                  go_simp
                  with_reducible rfl
                rotate_left
                · simp only [Act.put, List.setIfInBounds_toArray, List.set_cons_zero, List.set_cons_succ, i64_w, i32_w]
                  rfl
                refine pure_ (i := 7) (N := some 19) (v := ?_) (a' := ?_) #[true, true, true, true, true, false, false, true, false, false, false, false, false, false, false] rfl rfl (any_of HT_.out (by kernel_rfl)) (fun _ _ _ h => h) (Or.inl ⟨by rfl, ?_⟩) ?_ ?_
                rotate_left
                · intro w'
                  go_simp
                  with_reducible rfl
                rotate_left
                · simp only [Act.put, List.setIfInBounds_toArray, List.set_cons_zero, List.set_cons_succ, i64_w, i32_w]
                  rfl
                refine take_ (i := 5) (N := some 17) (v := ?_) (a' := ?_) #[true, true, true, true, true, true, false, true, false, false, false, false, false, false, false] rfl rfl (take_ofW HT_.out HW_.out (by kernel_rfl)) (fun _ _ _ h => h) (Or.inl ⟨by rfl, ?_⟩) hHeld ?_ ?_
                rotate_left
                · intro w' s0
                  go_simp
                  with_reducible rfl
                rotate_left
                · simp only [Act.put, List.setIfInBounds_toArray, List.set_cons_zero, List.set_cons_succ, i64_w, i32_w]
                  rfl
                refine pure_ (i := 6) (N := some 18) (v := ?_) (a' := ?_) #[true, true, true, true, true, true, true, true, false, false, false, false, false, false, false] rfl rfl (any_of HT_.out (by kernel_rfl)) (fun _ _ _ h => h) (Or.inl ⟨by rfl, ?_⟩) ?_ ?_
                rotate_left
                · intro w'
                  go_simp
                  with_reducible rfl
                rotate_left
                · simp only [Act.put, List.setIfInBounds_toArray, List.set_cons_zero, List.set_cons_succ, i64_w, i32_w]
                  rfl
                refine one_ (i := 8) (N := some 20) #[true, true, true, true, true, true, true, true, true, false, false, false, false, false, false] rfl rfl (one_of HT_.out (by kernel_rfl)) (by decide) (fun K hK => ?_)
                refine goes_ Try.func71 (by kernel_rfl) rfl #[.int .i64 x4_1] (by rfl) rfl rfl (by (try simp only [List.map_toArray, List.map_cons, List.map_nil]); first | done | rfl | (simp only [List.length_drop, List.length_take]; rfl)) ?_
                with_reducible refine (torrentref4_weight.calls k1 x4_1 t198 _ A6.out).mono ?_
                rintro e w' ⟨rfl, ⟨nd, rfl⟩⟩
                refine ⟨_, rfl, ?_⟩
                refine hK.out _ _ (((HB.out.cell (World.block_lt_of_cell? w _ hw197_0)).trans hw197_0)) (fun hHeld => ?_)
                clear hK K
                refine norm_ (a' := ?_) ?_ ?_
                rotate_left
                · show Act.put _ (some 20) _ = _
                  simp only [Act.put, List.setIfInBounds_toArray, List.set_cons_zero, List.set_cons_succ, i64_w, i32_w]
                  rfl
                refine pure_ (i := 9) (N := some 21) (v := ?_) (a' := ?_) #[true, true, true, true, true, true, true, true, true, true, false, false, false, false, false] rfl rfl (any_of HT_.out (by kernel_rfl)) (fun _ _ _ h => h) (Or.inl ⟨by rfl, ?_⟩) ?_ ?_
                rotate_left
                · intro w'
                  go_simp
                  with_reducible rfl
                rotate_left
                · simp only [Act.put, List.setIfInBounds_toArray, List.set_cons_zero, List.set_cons_succ, i64_w, i32_w]
                  rfl
                refine pure_ (i := 10) (N := some 22) (v := ?_) (a' := ?_) #[true, true, true, true, true, true, true, true, true, true, true, false, false, false, false] rfl rfl (any_of HT_.out (by kernel_rfl)) (fun _ _ _ h => h) (Or.inl ⟨by rfl, ?_⟩) ?_ ?_
                rotate_left
                · intro w'
                  go_simp
                  with_reducible rfl
                rotate_left
                · simp only [Act.put, List.setIfInBounds_toArray, List.set_cons_zero, List.set_cons_succ, i64_w, i32_w]
                  rfl
                refine pure_ (i := 11) (N := some 23) (v := ?_) (a' := ?_) #[true, true, true, true, true, true, true, true, true, true, true, true, false, false, false] rfl rfl (any_of HT_.out (by kernel_rfl)) (fun _ _ _ h => h) (Or.inl ⟨by rfl, ?_⟩) ?_ ?_
                rotate_left
                · intro w'
                  go_simp
                  with_reducible rfl
                rotate_left
                · simp only [Act.put, List.setIfInBounds_toArray, List.set_cons_zero, List.set_cons_succ, i64_w, i32_w]
                  rfl
                refine one_ (i := 12) (N := some 24) #[true, true, true, true, true, true, true, true, true, true, true, true, true, false, false] rfl rfl (one_of HT_.out (by kernel_rfl)) (by decide) (fun K hK => ?_)
                refine value_ (w1 := ?_) (v := ?_) (by rfl) rfl ?_ ?_
                rotate_left 2
                · go_simp
                  constructor
                  · rfl
                  · rfl
                refine hK.out _ _ ((World.cell?_alloc_lt _ _ _ (World.block_lt_of_cell? _ _ (((HB.out.cell (World.block_lt_of_cell? w _ hw197_0)).trans hw197_0)))).trans (((HB.out.cell (World.block_lt_of_cell? w _ hw197_0)).trans hw197_0))) (fun hHeld => ?_)
                clear hK K
                refine norm_ (a' := ?_) ?_ ?_
                rotate_left
                · show Act.put _ (some 24) _ = _
                  simp only [Act.put, List.setIfInBounds_toArray, List.set_cons_zero, List.set_cons_succ, i64_w, i32_w]
                  rfl
                refine one_ (i := 13) (N := some 25) #[true, true, true, true, true, true, true, true, true, true, true, true, true, true, false] rfl rfl (one_of HT_.out (by kernel_rfl)) (by decide) (fun K hK => ?_)
                refine Kd.R_append_step Kd.bool (w0 := w) w.heap.size (by rfl) (.tmp 12) (.tmp 24) 66 4 (.bool false) 1 rfl Try.underlying66 info4 rfl (by decide) (by omega) u3 x3_1 ((Int.tmod (wrap64 (Int.tdiv (wrap64 (rd l0 (ji3))) t198)) 2) == 1) [.bool ((Int.tmod (wrap64 (Int.tdiv (wrap64 (rd l0 (ji3))) t198)) 2) == 1)] (fun _ => True) (fun _ => False) rfl rfl ?aP (fun _ hk => hk.elim) ?aF ?aO ?aB ?aS ?aL ?_
                (case aP => exact rfl)
                (case aB => exact (by repeat (first | (with_reducible first | exact HB.out | apply below_alloc | apply pw_below_drewN | apply below_drew1) | exact HB.out)))
                (case aF => exact (fun _ _ => trivial))
                (case aO => exact (by (with_reducible repeat (first | apply Kd.R_alloc | apply Kd.R_drewN | apply Kd.R_drew)); exact HO_3.out))
                (case aS => exact (below_size (by repeat (first | (with_reducible first | exact HB.out | apply below_alloc | apply pw_below_drewN | apply below_drew1) | exact HB.out))))
                (case aL => have := LMc8.out; omega)
                intro v200 w10 ho hb hg hat
                rw [← Ny199.out] at ho
                have n0_ := Aside0.mk (hb)
                have n1_ := Aside0.mk (ho)
                clear HB
                clear HO_3
                have HB := n0_
                have HO201 := n1_
                clear n0_ n1_
                clear ho hb hg hat
                refine hK.out _ _ (((HB.out.cell (World.block_lt_of_cell? w _ hw197_0)).trans hw197_0)) (fun hHeld => ?_)
                clear hK K
                refine norm_ (a' := ?_) ?_ ?_
                rotate_left
                · show Act.put _ (some 25) _ = _
                  simp only [Act.put, List.setIfInBounds_toArray, List.set_cons_zero, List.set_cons_succ, i64_w, i32_w]
                  rfl
                refine pure_ (i := 14) (N := some 3) (v := ?_) (a' := ?_) #[true, true, true, true, true, true, true, true, true, true, true, true, true, true, true] rfl rfl (any_of HT_.out (by kernel_rfl)) (fun _ _ _ h => h) (Or.inl ⟨by rfl, ?_⟩) ?_ ?_
                rotate_left
                · intro w'
                  go_simp
                  with_reducible rfl
                rotate_left
                · simp only [Act.put, List.setIfInBounds_toArray, List.set_cons_zero, List.set_cons_succ, i64_w, i32_w]
                  rfl
                refine done_ (done_of HT_.out (by kernel_rfl)) ?_
                try go_wp2
                go_roundg k1
                case measure => have := HK1.out; omega
                case rel => exact ⟨(y199), (wrap64 (x4_1 + 1)), (by first | rfl | (simp; done) | (simp [*]; done)), H', ⟨by have := HK1.out; omega⟩, ⟨by (with_reducible repeat (first | apply Kd.R_alloc | apply Kd.R_drewN | apply Kd.R_drew)); exact HO201.out⟩, ⟨by repeat (first | (with_reducible first | exact HB.out | apply below_alloc | apply pw_below_drewN | apply below_drew1) | exact HB.out)⟩⟩
              · rw [if_neg c8] at H
                exact absurd H (by simp)
          · rw [if_neg c5] at H
            exact absurd H (by simp)
        · rw [if_neg c4] at H
          exact absurd H (by simp)
      · rw [if_neg c2] at H
        have c2b0 : decide (x4_1 < (wrap64 (8 * (l0.length : Int)))) = false := decide_eq_false c2
        clear c2
        obtain rfl := Option.some.inj H
        go_wp2
        go_ret
        exact ⟨_, by first | rfl | (simp [errW_none, errW_some] <;> rfl) | (simp [*, errW_none, errW_some] <;> rfl), by (with_reducible repeat (first | apply Kd.R_alloc | apply Kd.R_drewN | apply Kd.R_drew)); exact HO_3.out, by repeat (first | (with_reducible first | exact HB.out | apply below_alloc | apply pw_below_drewN | apply below_drew1) | exact HB.out)⟩

end Go.Proofs.Ytoohpdamndgdlaa.P

-- Made by a program of this session (the print of the kit over a neighbour), for this claim.
namespace Go.Proofs.Ytoohpdamndgdlaa.P
open Go.RowKit Go.Proofs.YtoohpdamndgdlaaW.PrintWords Go.Proofs.YtoohpdamndgdlaaW.PrintLast Go.Proofs.YtoohpdamndgdlaaW.PrintMore
attribute [local go_sem] max2_int min2_int max_two min_two max_three min_three max_four min_four   -- for this text's walks alone
set_option linter.unusedVariables false
set_option linter.unusedSimpArgs false

/-! ### torrentlaw4_copied: function 24 -/
def torrentlaw4_copied.l0 : Nat → List Int → List Int → Int → Option (List Int)
  | 0, _, _, _ => none
  | k + 1, x0, x3, x4 => if x4 < (x0.length : Int) then (if 0 ≤ x4 then (if x3.length < 140737488355328 then (torrentlaw4_copied.l0 k x0 (x3 ++ [rd x0 x4]) (wrap64 (x4 + 1))) else (none)) else (none)) else (some x3)
def torrentlaw4_copied.f (k : Nat) (l0 : List Int) : Option (List Int) := torrentlaw4_copied.l0 k l0 ([] : List Int) 0
theorem torrentlaw4_copied.mono_l : ∀ k, (∀ y0 y1 y2, LeO (torrentlaw4_copied.l0 k y0 y1 y2) (torrentlaw4_copied.l0 (k + 1) y0 y1 y2))
  | 0 => fun _ _ _ r h => by simp [torrentlaw4_copied.l0] at h
  | k + 1 => by
    have ih0 := torrentlaw4_copied.mono_l k
    · intro y0 y1 y2
      unfold torrentlaw4_copied.l0
      repeat' first
      | (with_reducible exact ih0 _ _ _)
      | (with_reducible exact LeO.refl _)
      | (with_reducible exact LeO.none _)
      | (with_reducible refine LeO.ite ?_ ?_)
      | (with_reducible refine LeO.bind ?_ (fun _ => ?_))
      | exact ih0 _ _ _
      | exact LeO.none _
      | refine LeO.ite ?_ ?_
      | refine LeO.bind ?_ (fun _ => ?_)
theorem torrentlaw4_copied.mono : ∀ a0 k, LeO (torrentlaw4_copied.f k a0) (torrentlaw4_copied.f (k + 1) a0) := by
  intro a0 k
  have ih0 := torrentlaw4_copied.mono_l k
  unfold torrentlaw4_copied.f
  repeat' first
      | (with_reducible exact ih0 _ _ _)
      | (with_reducible exact LeO.refl _)
      | (with_reducible exact LeO.none _)
      | (with_reducible refine LeO.ite ?_ ?_)
      | (with_reducible refine LeO.bind ?_ (fun _ => ?_))
      | exact ih0 _ _ _
      | exact LeO.none _
      | refine LeO.ite ?_ ?_
      | refine LeO.bind ?_ (fun _ => ?_)
theorem torrentlaw4_copied.bound : ∀ (k : Nat) (l xs : List Int) (i : Int) (r : List Int), torrentlaw4_copied.l0 k l xs i = some r → (xs.length : Int) = i → l.length ≤ 140737488355328 ∨ l.length ≤ xs.length
  | 0, _, _, _, _, h, _ => by simp [torrentlaw4_copied.l0] at h
  | k + 1, l, xs, i, r, h, hi => by
    simp only [torrentlaw4_copied.l0] at h
    by_cases c1 : i < (l.length : Int)
    · rw [if_pos c1] at h
      by_cases c2 : 0 ≤ i
      · rw [if_pos c2] at h
        by_cases c3 : xs.length < 140737488355328
        · rw [if_pos c3] at h
          have e : wrap64 (i + 1) = i + 1 := by unfold wrap64; omega
          rw [e] at h
          rcases torrentlaw4_copied.bound k l (xs ++ [rd l i]) (i + 1) r h (by simp; omega) with h1 | h1
          · exact .inl h1
          · left; simp at h1; omega
        · rw [if_neg c3] at h
          exact absurd h (by simp)
      · omega
    · right; omega
theorem torrentlaw4_copied.nothing (k : Nat) (r : List Int) (h : torrentlaw4_copied.l0 k [] [] 0 = some r) : r = [] := by
  cases k with
  | zero => simp [torrentlaw4_copied.l0] at h
  | succ k => simpa [torrentlaw4_copied.l0] using h.symm
set_option maxHeartbeats 4000000 in
set_option maxRecDepth 100000 in
theorem torrentlaw4_copied.calls (k : Nat) (A0 : Option Addr) (c0 : Nat) (l0 : List Int) (r : List Int) (w : World) (hr0 : Kd.C (Kd.int .u8) w A0 l0.length l0) (hc0 : l0.length ≤ c0) (h : torrentlaw4_copied.f k l0 = some r) :
    Calls Try.prog 24 #[.slice A0 l0.length c0] w fun e w' => ∃ v0_ : Value, e = .returned (v0_) ∧ Kd.R (Kd.int .u8) 5 w' w.heap.size (fun _ => True) v0_ r ∧ Below w.heap.size w w' := by
  have HR0 := Aside0.mk hr0
  have HC0 := Aside0.mk hc0
  clear hr0 hc0
  have HB := Aside0.mk (Below.refl w.heap.size w)
  have H : (torrentlaw4_copied.l0 k l0 ([] : List Int) 0) = some r := h
  clear h
  have H' := Aside0.mk H
  clear H
  have hbound : l0.length ≤ 140737488355328 := by
    rcases torrentlaw4_copied.bound k l0 [] 0 r H'.out rfl with h1 | h1
    · exact h1
    · have h2 : l0.length ≤ 0 := h1
      omega
  have HL := Aside0.mk hbound
  clear hbound
  have hnil := fun w1 => Lib.run_eql_slice_nil (P := Try.prog) w1 22 5 A0 l0.length c0 0 0 Try.underlying22
  cases A0 with
  | none =>
    have hl : l0 = [] := by
      rcases Nat.eq_zero_or_pos l0.length with hz | hz
      · exact List.eq_nil_of_length_eq_zero hz
      · obtain ⟨ad, e, _⟩ := HR0.out.2.2 hz
        cases e
    subst hl
    have hr : r = [] := torrentlaw4_copied.nothing k r H'.out
    subst hr
    clear HL HR0 HC0 H' hnil
    have hnil := fun w1 => Lib.run_eql_slice_nil (P := Try.prog) w1 22 5 none 0 c0 0 0 Try.underlying22
    show Calls Try.prog 24 #[.slice none 0 c0] w _
    go_enter Try.func24, Try.ntmps24
    go_wp2
    go_ret
    exact ⟨_, rfl, Kd.R_nil _ _ _ _ _, HB.out⟩
  | some a0 =>
  obtain ⟨i0, hi, hz0, hz1, hz2⟩ := info_parts info5
  have HI := Aside0.mk hi
  have HZ0 := Aside0.mk hz0
  have HZ1 := Aside0.mk hz1
  have HZ2 := Aside0.mk hz2
  clear hi hz0 hz1 hz2
  go_enter Try.func24, Try.ntmps24
  go_wp2_with (at_make; refine wpList_make_own _ rfl _ _ 22 rfl w.heap.size 5 i0 (.int .u8 0) 1 Try.underlying22 HI.out HZ0.out HZ1.out .i64 .i64 _ l0.length rfl rfl rfl (by rw [HZ2.out]; have := HL.out; omega) (by have := HL.out; simp only [maxLen]; omega) (Nat.le_refl _) ?_; intro w1 hown hg; have n0_ := Aside0.mk (show Kd.R (Kd.int .u8) 5 w1 w.heap.size (fun _ => True) (.slice (some ⟨w.heap.size, 0, none⟩) 0 l0.length) [] from ⟨fun _ _ => trivial, [], hown, Reps.none _ _⟩); have n1_ := Aside0.mk (pw_below_grown HB.out none (Nat.le_refl _) hg (fun _ hk => by cases hk)); clear HB; have HO := n0_; have HB := n1_; clear n0_ n1_ hown hg)
  clear hnil HI HZ0 HZ1 HZ2 HL
  go_loopg [3, 4] k (fun kq v3 v4 w' => ∃ (x3_1 : List Int) (x4_1 : Int), v4 = .int .i64 x4_1 ∧ Aside0 (torrentlaw4_copied.l0 kq l0 x3_1 x4_1 = some r) ∧ Aside0 (kq ≤ k) ∧ Aside0 (Kd.R (Kd.int .u8) 5 w' w.heap.size (fun _ => True) v3 x3_1) ∧ Aside0 (Below w.heap.size w w'))
  case atStart => exact ⟨(([] : List Int)), (0), (by first | rfl | (simp; done) | (simp [*]; done)), H', ⟨Nat.le_refl _⟩, ⟨HO.out⟩, ⟨HB.out⟩⟩
  case round =>
    clear H'
    obtain ⟨x3_1, x4_1, rfl, HA, HK1, HO_3, HB⟩ := hrel
    cases gk with
    | zero => exact absurd HA.out (by simp [torrentlaw4_copied.l0])
    | succ k1 =>
      have H := HA.out
      clear HA
      simp only [torrentlaw4_copied.l0] at H
      by_cases c2 : x4_1 < (l0.length : Int)
      · rw [if_pos c2] at H
        have c2b0 : decide (x4_1 < (l0.length : Int)) = true := decide_eq_true c2
        clear c2
        by_cases c3 : 0 ≤ x4_1
        · rw [if_pos c3] at H
          have c3b0 : decide (0 ≤ x4_1) = true := decide_eq_true c3
          clear c3
          by_cases c4 : x3_1.length < 140737488355328
          · rw [if_pos c4] at H
            have LMc4 := Aside0.mk c4
            clear c4
            obtain ⟨y187, hy187⟩ : ∃ y_ : List Int, y_ = (x3_1 ++ [rd l0 x4_1]) := ⟨_, rfl⟩
            replace H : (torrentlaw4_copied.l0 k1 l0 y187 (wrap64 (x4_1 + 1))) = some r := by first | (rw [hy187]; with_reducible exact H) | (have H2_ := (Option.bind_some _ _).symm.trans H; rw [hy187]; with_reducible exact H2_) | (have H2_ := (Option.bind_some _ _).symm.trans H; with_reducible exact H2_) | with_reducible exact H | (rw [hy187]; exact H) | exact H
            have Ny187 := Aside0.mk hy187
            clear hy187
            have H' := Aside0.mk H
            clear H
            have p186 : 0 ≤ (x4_1 : Int) := of_decide_eq_true (by first | (with_reducible assumption) | assumption)
            have q186 : x4_1 < (l0.length : Int) := of_decide_eq_true (by first | (with_reducible assumption) | assumption)
            obtain ⟨ad186, e186, hx186_0⟩ := Kd.at_int HR0.out x4_1 p186 q186
            cases e186
            replace hx186_0 := (HB.out.cell (World.block_lt_of_cell? w _ hx186_0)).trans hx186_0
            replace p186 := eq_true p186
            replace q186 := eq_true q186
            go_wp2_with (first | ((with_reducible refine gate_builtin (b := .append) (xs := #[.tmp 16, .tmp 21]) rfl ?_); at_builtin; refine Kd.R_append (Kd.int .u8) (w0 := w) w.heap.size rfl (.tmp 16) (.tmp 21) 22 5 (.int .u8 0) 1 rfl Try.underlying22 info5 rfl (by decide) (by omega) u3 x3_1 (rd l0 x4_1) [.int .u8 (rd l0 x4_1)] (fun _ => True) (fun _ => False) rfl rfl ?aP (fun _ hk => hk.elim) ?aF ?aO ?aB ?aS ?aL ?_; (case aP => exact rfl); (case aB => exact (by repeat (first | (with_reducible first | exact HB.out | apply below_alloc | apply pw_below_drewN | apply below_drew1) | exact HB.out))); (case aF => exact (fun _ _ => trivial)); (case aO => exact (by (with_reducible repeat (first | apply Kd.R_alloc | apply Kd.R_drewN | apply Kd.R_drew)); exact HO_3.out)); (case aS => exact (below_size (by repeat (first | (with_reducible first | exact HB.out | apply below_alloc | apply pw_below_drewN | apply below_drew1) | exact HB.out)))); (case aL => have := LMc4.out; omega); intro v188 w5 ho hb hg hat; rw [← Ny187.out] at ho; have n0_ := Aside0.mk (hb); have n1_ := Aside0.mk (ho); clear HB; clear HO_3; have HB := n0_; have HO189 := n1_; clear n0_ n1_; clear ho hb hg hat))
            go_roundg k1
            case measure => have := HK1.out; omega
            case rel => exact ⟨(y187), (wrap64 (x4_1 + 1)), (by first | rfl | (simp; done) | (simp [*]; done)), H', ⟨by have := HK1.out; omega⟩, ⟨by (with_reducible repeat (first | apply Kd.R_alloc | apply Kd.R_drewN | apply Kd.R_drew)); exact HO189.out⟩, ⟨by repeat (first | (with_reducible first | exact HB.out | apply below_alloc | apply pw_below_drewN | apply below_drew1) | exact HB.out)⟩⟩
          · rw [if_neg c4] at H
            exact absurd H (by simp)
        · rw [if_neg c3] at H
          exact absurd H (by simp)
      · rw [if_neg c2] at H
        have c2b0 : decide (x4_1 < (l0.length : Int)) = false := decide_eq_false c2
        clear c2
        obtain rfl := Option.some.inj H
        go_wp2
        go_ret
        exact ⟨_, by first | rfl | (simp [errW_none, errW_some] <;> rfl) | (simp [*, errW_none, errW_some] <;> rfl), by (with_reducible repeat (first | apply Kd.R_alloc | apply Kd.R_drewN | apply Kd.R_drew)); exact HO_3.out, by repeat (first | (with_reducible first | exact HB.out | apply below_alloc | apply pw_below_drewN | apply below_drew1) | exact HB.out)⟩

end Go.Proofs.Ytoohpdamndgdlaa.P

/- Check, open and copied, the program's and the reference's, in plain words. Conditions: bytes; open: at most 8192 of them. -/
set_option linter.unusedVariables false
set_option linter.unusedSimpArgs false
namespace Go.Proofs.Ytoohpdamndgdlaa.B
open Go.RowKit Go.Proofs.Ytoohpdamndgdlaa.P Go.Proofs.YtoohpdamndgdlaaW.PrintWords Go.Proofs.YtoohpdamndgdlaaW.PrintLast Go.Proofs.YtoohpdamndgdlaaW.PrintMore

/-! ### copied -/
theorem copied_l (l : List Int) (hl : l.length ≤ 140737488351232) : ∀ (d i : Nat), i + d = l.length → Ev (fun k => torrentlaw4_copied.l0 k l (l.take i) (i : Int)) l
  | 0, i, h => Ev.step (f := fun _ => some l) (fun k => by
      simp only [torrentlaw4_copied.l0]
      rw [if_neg (by omega), List.take_of_length_le (by omega)]) (Ev.now _)
  | d + 1, i, h => Ev.step (f := fun k => torrentlaw4_copied.l0 k l (l.take (i + 1)) ((i + 1 : Nat) : Int)) (fun k => by
      simp only [torrentlaw4_copied.l0]
      rw [if_pos (by omega), if_pos (by omega), if_pos (by rw [List.length_take]; omega), inc i (by omega), rd_nat, List.take_succ_eq_append_getElem (by omega)]
      congr 2
      rw [List.getD_eq_getElem?_getD, List.getElem?_eq_getElem (by omega)]
      rfl) (copied_l l hl d (i + 1) (by omega))
theorem copied_f (l : List Int) (hl : l.length ≤ 140737488351232) : Ev (fun k => torrentlaw4_copied.f k l) l := copied_l l hl l.length 0 (by omega)

/-! ### Check -/
theorem refSize_f (n : Nat) (h : n ≤ 65536) : torrentref4_size.f (n : Int) = some (((n + 7) / 8 : Nat) : Int) := by
  unfold torrentref4_size.f
  rw [rem8, quo8 n (by omega)]
  by_cases h0 : n % 8 = 0
  · rw [if_neg (by omega)]
    congr 1
    omega
  · rw [if_pos (by omega), inc _ (by omega)]
    congr 1
    omega
theorem spare_mask (x : Int) (hx : 0 ≤ x ∧ x < 256) (t : Nat) (h : t < 8) : Go.bits .and .u8 x (shr .u8 255 (t : Int)) = x % 2 ^ (8 - t) := by
  have e : shr .u8 255 (t : Int) = 2 ^ (8 - t) - 1 := by
    match t, h with
    | 0, _ | 1, _ | 2, _ | 3, _ | 4, _ | 5, _ | 6, _ | 7, _ => decide
  rw [e]
  exact bits_mask .u8 8 (by decide) wraps_u8 (8 - t) (by omega) x hx.1 (by omega)
theorem spare_ref (x : Int) (hx : 0 ≤ x ∧ x < 256) (t : Nat) (h : t < 8) (h0 : 0 < t) : wrap64 (2 * mk8 t) ≠ 0 ∧ Int.tmod (wrap64 x) (wrap64 (2 * mk8 t)) = x % 2 ^ (8 - t) := by
  have e : wrap64 (2 * mk8 t) = 2 ^ (8 - t) := by
    match t, h with
    | 0, _ | 1, _ | 2, _ | 3, _ | 4, _ | 5, _ | 6, _ | 7, _ => decide +kernel
  have ne : (2 : Int) ^ (8 - t) ≠ 0 := by
    match t, h with
    | 0, _ | 1, _ | 2, _ | 3, _ | 4, _ | 5, _ | 6, _ | 7, _ => decide
  rw [e, w64 x (by omega) (by omega), Int.tmod_eq_emod_of_nonneg hx.1]
  exact ⟨ne, rfl⟩
theorem check_both (n : Int) (l : List Int) (hx : IsB l) (hl : l.length ≤ 140737488351232) : ∃ c, Ev (fun k => bitset_Check.f k n l) c ∧ Ev (fun k => torrentref4_Check.f k n l) c := by
  by_cases hb : n < 0 ∨ 65536 < n
  · refine ⟨40, ?_, ?_⟩
    · refine Ev.congr (f := fun k => bitset_Check.j0 k n l true) (fun k => ?_) (Ev.step (f := fun _ => some 40) (fun k => by simp only [bitset_Check.j0]; rfl) (Ev.now _))
      unfold bitset_Check.f
      by_cases h0 : n < 0
      · rw [if_pos h0]
      · rw [if_neg h0, decide_eq_true (by omega)]
    · refine Ev.congr (f := fun k => torrentref4_Check.j0 k n l true) (fun k => ?_) (Ev.step (f := fun _ => some 40) (fun k => by simp only [torrentref4_Check.j0]; rfl) (Ev.now _))
      unfold torrentref4_Check.f
      by_cases h0 : n < 0
      · rw [if_pos h0]
      · rw [if_neg h0, decide_eq_true (by omega)]
  · obtain ⟨m, rfl⟩ : ∃ m : Nat, n = m := ⟨n.toNat, by omega⟩
    have hm : m ≤ 65536 := by omega
    have e1 : ∀ k, bitset_Check.f k (m : Int) l = bitset_Check.j0 k (m : Int) l false := fun k => by
      unfold bitset_Check.f
      rw [if_neg (by omega), decide_eq_false (by omega)]
    have e2 : ∀ k, torrentref4_Check.f k (m : Int) l = torrentref4_Check.j0 k (m : Int) l false := fun k => by
      unfold torrentref4_Check.f
      rw [if_neg (by omega), decide_eq_false (by omega)]
    by_cases hlen : l.length = (m + 7) / 8
    · by_cases h8 : m % 8 = 0
      · refine ⟨0, Ev.congr e1 (Ev.step (f := fun _ => some 0) (fun k => ?_) (Ev.now _)), Ev.congr e2 (Ev.step (f := fun _ => some 0) (fun k => ?_) (Ev.now _))⟩
        · simp only [bitset_Check.j0]
          rw [if_neg (by decide), size_f m hm]
          simp only [Option.bind_some]
          rw [if_pos (by omega), rem8, if_pos (by omega)]
        · simp only [torrentref4_Check.j0]
          rw [if_neg (by decide), refSize_f m hm]
          simp only [Option.bind_some]
          rw [if_pos (by omega), rem8, if_neg (by omega)]
      · have h88 := Nat.mod_lt m (show 8 > 0 by decide)
        have hxb := hx.getD (m / 8)
        have hs := spare_mask _ hxb (m % 8) h88
        obtain ⟨hr1, hr2⟩ := spare_ref _ hxb (m % 8) h88 (by omega)
        have eL : wrap64 ((l.length : Int) - 1) = ((m / 8 : Nat) : Int) := by rw [w64 _ (by omega) (by omega)]; omega
        refine ⟨if l.getD (m / 8) 0 % 2 ^ (8 - m % 8) = 0 then 0 else 42, Ev.congr e1 (Ev.step (f := fun _ => some (if l.getD (m / 8) 0 % 2 ^ (8 - m % 8) = 0 then 0 else 42)) (fun k => ?_) (Ev.now _)), Ev.congr e2 (Ev.step (f := fun k => (torrentref4_weight.f k (m : Int)).bind fun t => if wrap64 (2 * t) = 0 then none else if Int.tmod (wrap64 (l.getD (m / 8) 0)) (wrap64 (2 * t)) = 0 then some 0 else some 42) (fun k => ?_) (Ev.bind (weight_f m) ?_))⟩
        · simp only [bitset_Check.j0]
          rw [if_neg (by decide), size_f m hm]
          simp only [Option.bind_some]
          rw [if_pos (by omega), rem8, quo8 m (by omega), if_neg (by omega), if_pos (by omega), if_pos (by omega), if_pos (by omega), rd_nat, hs]
          split <;> rfl
        · simp only [torrentref4_Check.j0]
          rw [if_neg (by decide), refSize_f m hm]
          simp only [Option.bind_some]
          rw [if_pos (by omega), rem8, if_pos (by omega), eL, rd_nat, if_pos (by omega), if_pos (by omega)]
        · refine Ev.congr (f := fun _ => some (if l.getD (m / 8) 0 % 2 ^ (8 - m % 8) = 0 then 0 else 42)) (fun k => ?_) (Ev.now _)
          rw [if_neg hr1, hr2]
          split <;> rfl
    · refine ⟨41, Ev.congr e1 (Ev.step (f := fun _ => some 41) (fun k => ?_) (Ev.now _)), Ev.congr e2 (Ev.step (f := fun _ => some 41) (fun k => ?_) (Ev.now _))⟩
      · simp only [bitset_Check.j0]
        rw [if_neg (by decide), size_f m hm]
        simp only [Option.bind_some]
        rw [if_neg (by omega)]
      · simp only [torrentref4_Check.j0]
        rw [if_neg (by decide), refSize_f m hm]
        simp only [Option.bind_some]
        rw [if_neg (by omega)]
theorem check_ok {n : Int} {l : List Int} (h : Ev (fun k => bitset_Check.f k n l) 0) : ∃ m : Nat, n = m ∧ m ≤ 65536 ∧ l.length = (m + 7) / 8 := by
  obtain ⟨k, hk⟩ := h.rounds
  exact check_zero hk

/-! ### open -/
def bitsL (l : List Int) (j : Nat) : List Bool := (List.range j).map (gbit l)
theorem bitsL_succ (l : List Int) (j : Nat) : bitsL l (j + 1) = bitsL l j ++ [gbit l j] := by simp [bitsL, List.range_succ]
theorem bitsL_length (l : List Int) (j : Nat) : (bitsL l j).length = j := by simp [bitsL]
theorem bitsL_at (l : List Int) (j i : Nat) (h : i < j) : (bitsL l j).getD i false = gbit l i := by simp [bitsL, List.getD_eq_getElem?_getD, h]
theorem ref_bit (x : Int) (hx : 0 ≤ x ∧ x < 256) (t : Nat) (h : t < 8) : (Int.tmod (wrap64 (Int.tdiv (wrap64 x) (mk8 t))) 2 == 1) = x.toNat.testBit (7 - t) := by
  obtain ⟨a, rfl⟩ : ∃ a : Nat, x = a := ⟨x.toNat, by omega⟩
  have e1 : Int.tdiv (a : Int) (mk8 t) = ((a / 2 ^ (7 - t) : Nat) : Int) := by
    unfold mk8
    rw [Int.tdiv_eq_ediv_of_nonneg (by omega)]
    exact (Int.natCast_ediv a (2 ^ (7 - t))).symm
  have hle : a / 2 ^ (7 - t) ≤ a := Nat.div_le_self _ _
  rw [w64 (a : Int) (by omega) (by omega), e1, Int.toNat_natCast, Nat.testBit_eq_decide_div_mod_eq]
  generalize a / 2 ^ (7 - t) = d at *
  rw [w64 (d : Int) (by omega) (by omega), Int.tmod_eq_emod_of_nonneg (by omega)]
  have e2 : ((d : Int) % 2 = 1) ↔ (d % 2 = 1) := by omega
  rw [Bool.eq_iff_iff]
  simp only [beq_iff_eq, decide_eq_true_eq]
  exact e2
theorem open_l (l : List Int) (hx : IsB l) (hl : l.length ≤ 8192) : ∀ (d i : Nat), i + d = 8 * l.length → Ev (fun k => torrentref4_open.l0 k l (bitsL l i) (i : Int)) (bitsL l (8 * l.length))
  | 0, i, h => Ev.step (f := fun _ => some (bitsL l (8 * l.length))) (fun k => by
      simp only [torrentref4_open.l0]
      rw [w64 _ (by omega) (by omega), if_neg (by omega), show i = 8 * l.length by omega]) (Ev.now _)
  | d + 1, i, h => Ev.step (f := fun k => (torrentref4_weight.f k (i : Int)).bind fun t => if t = 0 then none else if (bitsL l i).length < 140737488355328 then torrentref4_open.l0 k l (bitsL l i ++ [((Int.tmod (wrap64 (Int.tdiv (wrap64 (l.getD (i / 8) 0)) t)) 2) == 1)]) ((i + 1 : Nat) : Int) else none) (fun k => by
      simp only [torrentref4_open.l0]
      rw [w64 (8 * (l.length : Int)) (by omega) (by omega), if_pos (by omega), quo8 i (by omega), rd_nat, if_pos (by omega), if_pos (by omega), inc i (by omega)]) (by
      refine Ev.bind (weight_f i) (Ev.congr (f := fun k => torrentref4_open.l0 k l (bitsL l (i + 1)) ((i + 1 : Nat) : Int)) (fun k => ?_) (open_l l hx hl d (i + 1) (by omega)))
      have h8 := Nat.mod_lt i (show 8 > 0 by decide)
      have hne : mk8 (i % 8) ≠ 0 := by
        unfold mk8
        have := Nat.two_pow_pos (7 - i % 8)
        omega
      rw [if_neg hne, if_pos (by rw [bitsL_length]; omega), ref_bit _ (hx.getD _) _ h8, bitsL_succ]
      rfl)
theorem open_f (l : List Int) (hx : IsB l) (hl : l.length ≤ 8192) : Ev (fun k => torrentref4_open.f k l) (bitsL l (8 * l.length)) := open_l l hx hl (8 * l.length) 0 (by omega)
end Go.Proofs.Ytoohpdamndgdlaa.B

-- Made by a program of this session (the print of the kit over a neighbour), for this claim.
namespace Go.Proofs.Ytoohpdamndgdlaa.P
open Go.RowKit Go.Proofs.YtoohpdamndgdlaaW.PrintWords Go.Proofs.YtoohpdamndgdlaaW.PrintLast Go.Proofs.YtoohpdamndgdlaaW.PrintMore
attribute [local go_sem] max2_int min2_int max_two min_two max_three min_three max_four min_four   -- for this text's walks alone
set_option linter.unusedVariables false
set_option linter.unusedSimpArgs false

/-! ### bitset_Ones: function 37 -/
def bitset_Ones.l0 : Nat → Int → List Int → List Int → Int → Option (List Int × Int)
  | 0, _, _, _, _ => none
  | k + 1, x0, x1, x7, x8 => if x8 < x0 then (if 0 ≤ (wrap64 (Int.tdiv x8 8)) then (if (wrap64 (Int.tdiv x8 8)) < (x1.length : Int) then (if 0 ≤ (Int.tmod x8 8) then (if (Go.bits .and .u8 (rd x1 (wrap64 (Int.tdiv x8 8))) (shr .u8 128 (Int.tmod x8 8))) = 0 then (bitset_Ones.l0 k x0 x1 x7 (wrap64 (x8 + 1))) else (if x7.length < 17592186044416 then (bitset_Ones.l0 k x0 x1 (x7 ++ [x8]) (wrap64 (x8 + 1))) else (none))) else (none)) else (none)) else (none)) else (some (x7, 0))
def bitset_Ones.f (k : Nat) (a0 : Int) (l1 : List Int) : Option (List Int × Int) := (bitset_Check.f k a0 l1).bind fun t315 => (if t315 = 0 then (bitset_Ones.l0 k a0 l1 ([] : List Int) 0) else (some (([] : List Int), t315)))
theorem bitset_Ones.mono_l : ∀ k, (∀ y0 y1 y2 y3, LeO (bitset_Ones.l0 k y0 y1 y2 y3) (bitset_Ones.l0 (k + 1) y0 y1 y2 y3))
  | 0 => fun _ _ _ _ r h => by simp [bitset_Ones.l0] at h
  | k + 1 => by
    have ih0 := bitset_Ones.mono_l k
    · intro y0 y1 y2 y3
      unfold bitset_Ones.l0
      repeat' first
      | (with_reducible exact ih0 _ _ _ _)
      | (with_reducible exact bitset_Check.mono _ _ _)
      | (with_reducible exact LeO.refl _)
      | (with_reducible exact LeO.none _)
      | (with_reducible refine LeO.ite ?_ ?_)
      | (with_reducible refine LeO.bind ?_ (fun _ => ?_))
      | exact ih0 _ _ _ _
      | exact bitset_Check.mono _ _ _
      | exact LeO.none _
      | refine LeO.ite ?_ ?_
      | refine LeO.bind ?_ (fun _ => ?_)
theorem bitset_Ones.mono : ∀ a0 a1 k, LeO (bitset_Ones.f k a0 a1) (bitset_Ones.f (k + 1) a0 a1) := by
  intro a0 a1 k
  have ih0 := bitset_Ones.mono_l k
  unfold bitset_Ones.f
  repeat' first
      | (with_reducible exact ih0 _ _ _ _)
      | (with_reducible exact bitset_Check.mono _ _ _)
      | (with_reducible exact LeO.refl _)
      | (with_reducible exact LeO.none _)
      | (with_reducible refine LeO.ite ?_ ?_)
      | (with_reducible refine LeO.bind ?_ (fun _ => ?_))
      | exact ih0 _ _ _ _
      | exact bitset_Check.mono _ _ _
      | exact LeO.none _
      | refine LeO.ite ?_ ?_
      | refine LeO.bind ?_ (fun _ => ?_)
open Go.Proofs.Ytoohpdamndgdlaa.B in
theorem bitset_Ones.told_l (n : Nat) (hn : n ≤ 65536) (l : List Int) (hl : n ≤ 8 * l.length) : ∀ (k i : Nat) (r1 : List Int) (r2 : Int), i ≤ n → bitset_Ones.l0 k (n : Int) l (onesTo l i) (i : Int) = some (r1, r2) → r1 = onesTo l n ∧ r2 = 0
  | 0, _, _, _, _, h => by simp [bitset_Ones.l0] at h
  | k + 1, i, r1, r2, hi, h => by
    simp only [bitset_Ones.l0] at h
    by_cases hlt : i < n
    · obtain ⟨g1, g2, g3⟩ := tests_in l i (by omega) (by omega)
      have hin := onesTo_length l i
      rw [if_pos (by omega), if_pos g1, if_pos g2, if_pos g3, inc i (by omega)] at h
      cases hb : hit l i with
      | false =>
        rw [if_pos ((hit_is l i (by omega)).2 hb), ← onesTo_miss hb] at h
        exact bitset_Ones.told_l n hn l hl k (i + 1) r1 r2 (by omega) h
      | true =>
        rw [if_neg (fun h0 => by rw [(hit_is l i (by omega)).1 h0] at hb; cases hb), if_pos (by omega), ← onesTo_hit hb] at h
        exact bitset_Ones.told_l n hn l hl k (i + 1) r1 r2 (by omega) h
    · obtain rfl : i = n := by omega
      rw [if_neg (by omega)] at h
      simp only [Option.some.injEq, Prod.mk.injEq] at h
      exact ⟨h.1.symm, h.2.symm⟩
open Go.Proofs.Ytoohpdamndgdlaa.B in
theorem bitset_Ones.told {k : Nat} {a0 : Int} {l : List Int} {r1 : List Int} {r2 : Int} (h : bitset_Ones.f k a0 l = some (r1, r2)) : bitset_Check.f k a0 l = some r2 ∧ r1 = walked r2 a0 l ∧ (walked r2 a0 l).length ≤ 65536 := by
  unfold bitset_Ones.f at h
  obtain ⟨t, ht, h⟩ := Option.bind_eq_some_iff.mp h
  by_cases h0 : t = 0
  · subst h0
    rw [if_pos rfl] at h
    obtain ⟨n, rfl, hn, hl⟩ := check_zero ht
    obtain ⟨rfl, rfl⟩ := bitset_Ones.told_l n hn l (by omega) k 0 r1 r2 (by omega) h
    refine ⟨ht, ?_, ?_⟩
    · unfold walked
      rw [if_pos rfl, Int.toNat_natCast]
    · unfold walked
      rw [if_pos rfl, Int.toNat_natCast]
      exact Nat.le_trans (onesTo_length l n) hn
  · rw [if_neg h0] at h
    simp only [Option.some.injEq, Prod.mk.injEq] at h
    obtain ⟨rfl, rfl⟩ := h
    refine ⟨ht, ?_, ?_⟩
    · unfold walked
      rw [if_neg h0]
    · unfold walked
      rw [if_neg h0]
      simp
set_option maxHeartbeats 4000000 in
set_option maxRecDepth 100000 in
theorem bitset_Ones.calls (k : Nat) (a0 : Int) (A1 : Option Addr) (c1 : Nat) (l1 : List Int) (r1 : List Int) (r2 : Int) (w : World) (hr1 : Kd.C (Kd.int .u8) w A1 l1.length l1) (hc1 : l1.length ≤ c1) (h : bitset_Ones.f k a0 l1 = some (r1, r2)) :
    Calls Try.prog 37 #[.int .i64 a0, .slice A1 l1.length c1] w fun e w' => ∃ v0_ : Value, e = .returned (.tuple #[v0_, .int .i64 r2]) ∧ Kd.R (Kd.int .i64) 3 w' w.heap.size (fun _ => True) v0_ r1 ∧ Below w.heap.size w w' := by
  obtain ⟨h1, rfl, h3⟩ := bitset_Ones.told h
  exact callsIn_wide.1 (ones_in k a0 A1 c1 l1 w r2 hr1 hc1 h1 h3)

end Go.Proofs.Ytoohpdamndgdlaa.P

-- Made by a program of this session (the print of the kit over a neighbour), for this claim.
namespace Go.Proofs.Ytoohpdamndgdlaa.P
open Go.RowKit Go.Proofs.YtoohpdamndgdlaaW.PrintWords Go.Proofs.YtoohpdamndgdlaaW.PrintLast Go.Proofs.YtoohpdamndgdlaaW.PrintMore
attribute [local go_sem] max2_int min2_int max_two min_two max_three min_three max_four min_four   -- for this text's walks alone
set_option linter.unusedVariables false
set_option linter.unusedSimpArgs false

/-! ### torrentref4_Ones: function 23 -/
def torrentref4_Ones.l0 : Nat → Int → List Bool → List Int → Int → Option (List Int × Int)
  | 0, _, _, _, _ => none
  | k + 1, x0, x7, x8, x9 => if x9 < x0 then (if 0 ≤ x9 then (if x9 < (x7.length : Int) then (if rdOf false x7 x9 = true then (if x8.length < 17592186044416 then (torrentref4_Ones.l0 k x0 x7 (x8 ++ [x9]) (wrap64 (x9 + 1))) else (none)) else (torrentref4_Ones.l0 k x0 x7 x8 (wrap64 (x9 + 1)))) else (none)) else (none)) else (some (x8, 0))
def torrentref4_Ones.f (k : Nat) (a0 : Int) (l1 : List Int) : Option (List Int × Int) := (torrentref4_Check.f k a0 l1).bind fun t301 => (if t301 = 0 then ((torrentref4_open.f k l1).bind fun t302 => (torrentref4_Ones.l0 k a0 t302 ([] : List Int) 0)) else (some (([] : List Int), t301)))
theorem torrentref4_Ones.mono_l : ∀ k, (∀ y0 y1 y2 y3, LeO (torrentref4_Ones.l0 k y0 y1 y2 y3) (torrentref4_Ones.l0 (k + 1) y0 y1 y2 y3))
  | 0 => fun _ _ _ _ r h => by simp [torrentref4_Ones.l0] at h
  | k + 1 => by
    have ih0 := torrentref4_Ones.mono_l k
    · intro y0 y1 y2 y3
      unfold torrentref4_Ones.l0
      repeat' first
      | (with_reducible exact ih0 _ _ _ _)
      | (with_reducible exact torrentref4_Check.mono _ _ _)
      | (with_reducible exact torrentref4_open.mono _ _)
      | (with_reducible exact LeO.refl _)
      | (with_reducible exact LeO.none _)
      | (with_reducible refine LeO.ite ?_ ?_)
      | (with_reducible refine LeO.bind ?_ (fun _ => ?_))
      | exact ih0 _ _ _ _
      | exact torrentref4_Check.mono _ _ _
      | exact torrentref4_open.mono _ _
      | exact LeO.none _
      | refine LeO.ite ?_ ?_
      | refine LeO.bind ?_ (fun _ => ?_)
theorem torrentref4_Ones.mono : ∀ a0 a1 k, LeO (torrentref4_Ones.f k a0 a1) (torrentref4_Ones.f (k + 1) a0 a1) := by
  intro a0 a1 k
  have ih0 := torrentref4_Ones.mono_l k
  unfold torrentref4_Ones.f
  repeat' first
      | (with_reducible exact ih0 _ _ _ _)
      | (with_reducible exact torrentref4_Check.mono _ _ _)
      | (with_reducible exact torrentref4_open.mono _ _)
      | (with_reducible exact LeO.refl _)
      | (with_reducible exact LeO.none _)
      | (with_reducible refine LeO.ite ?_ ?_)
      | (with_reducible refine LeO.bind ?_ (fun _ => ?_))
      | exact ih0 _ _ _ _
      | exact torrentref4_Check.mono _ _ _
      | exact torrentref4_open.mono _ _
      | exact LeO.none _
      | refine LeO.ite ?_ ?_
      | refine LeO.bind ?_ (fun _ => ?_)
set_option maxHeartbeats 8000000 in
set_option maxRecDepth 100000 in
theorem torrentref4_Ones.calls (k : Nat) (a0 : Int) (A1 : Option Addr) (c1 : Nat) (l1 : List Int) (r1 : List Int) (r2 : Int) (w : World) (hr1 : Kd.C (Kd.int .u8) w A1 l1.length l1) (hc1 : l1.length ≤ c1) (h : torrentref4_Ones.f k a0 l1 = some (r1, r2)) :
    Calls Try.prog 23 #[.int .i64 a0, .slice A1 l1.length c1] w fun e w' => ∃ v0_ : Value, e = .returned (.tuple #[v0_, .int .i64 r2]) ∧ Kd.R (Kd.int .i64) 3 w' w.heap.size (fun _ => True) v0_ r1 ∧ Below w.heap.size w w' := by
  have HR1 := Aside0.mk hr1
  have HC1 := Aside0.mk hc1
  clear hr1 hc1
  have HB := Aside0.mk (Below.refl w.heap.size w)
  have H : ((torrentref4_Check.f k a0 l1).bind fun t301 => (if t301 = 0 then ((torrentref4_open.f k l1).bind fun t302 => (torrentref4_Ones.l0 k a0 t302 ([] : List Int) 0)) else (some (([] : List Int), t301)))) = some (r1, r2) := h
  clear h
  replace H := Option.bind_eq_some_iff.mp H
  obtain ⟨t301, A30, H⟩ := H
  replace H : (if t301 = 0 then ((torrentref4_open.f k l1).bind fun t302 => (torrentref4_Ones.l0 k a0 t302 ([] : List Int) 0)) else (some (([] : List Int), t301))) = some (r1, r2) := H
  have A3 := Aside0.mk A30
  clear A30
  by_cases c4 : t301 = 0
  · rw [if_pos c4] at H
    have c4b0 : (t301 == 0) = true := beq_iff_eq.mpr c4
    have c4b1 : (t301 != 0) = false := bne_eq_false_iff_eq.mpr c4
    clear c4
    replace H := Option.bind_eq_some_iff.mp H
    obtain ⟨t302, A50, H⟩ := H
    replace H : (torrentref4_Ones.l0 k a0 t302 ([] : List Int) 0) = some (r1, r2) := H
    have A5 := Aside0.mk A50
    clear A50
    have H' := Aside0.mk H
    clear H
    go_enter Try.func23, Try.ntmps23
    go_wp2_with (first | ((with_reducible refine gate_callee (f := 59) rfl ?_); refine goesL_ (some 12) rfl rfl Try.func59 (by kernel_rfl) rfl #[.int .i64 a0, .slice A1 l1.length c1] rfl (by (try simp only [List.map_toArray, List.map_cons, List.map_nil]); first | done | rfl | (simp only [List.length_drop, List.length_take]; rfl)) ?_; (with_reducible refine (torrentref4_Check.calls k a0 _ _ l1 t301 _ ?side1 ?side2 A3.out).mono ?_); (case side1 => repeat (first | exact HR1.out | (with_reducible refine Kd.C_alloc ?_ _) | (with_reducible refine Kd.C_drewN ?_ _) | (with_reducible refine Kd.C_drew ?_))); (case side2 => exact HC1.out); rintro e w' ⟨rfl, ⟨nd, rfl⟩⟩; refine ⟨_, rfl, ?_⟩) | ((with_reducible refine gate_callee (f := 60) rfl ?_); refine goesL_ (some 17) rfl rfl Try.func60 (by kernel_rfl) rfl #[.slice A1 l1.length c1] rfl (by (try simp only [List.map_toArray, List.map_cons, List.map_nil]); first | done | rfl | (simp only [List.length_drop, List.length_take]; rfl)) ?_; (with_reducible refine (torrentref4_open.calls k _ _ l1 t302 _ ?side1 ?side2 A5.out).mono ?_); (case side1 => repeat (first | exact HR1.out | (with_reducible refine Kd.C_alloc ?_ _) | (with_reducible refine Kd.C_drewN ?_ _) | (with_reducible refine Kd.C_drew ?_))); (case side2 => exact HC1.out); rintro e w6 ⟨v303, rfl, ho0, hb⟩; refine ⟨_, rfl, ?_⟩; have n0_ := Aside0.mk (Kd.R_lower ho0 (below_size (by repeat (first | (with_reducible first | exact HB.out | apply below_alloc | apply pw_below_drewN | apply below_drew1) | exact HB.out)))); have n1_ := Aside0.mk (below_step (by repeat (first | (with_reducible first | exact HB.out | apply below_alloc | apply pw_below_drewN | apply below_drew1) | exact HB.out)) hb); clear HB; have HO304 := n0_; have HB := n1_; clear n0_ n1_; (try clear hb); (try clear hb2); (try clear hk); (try clear hi); (try clear ho0)))
    go_loopg [8, 9] k (fun kq v8 v9 w' => ∃ (x8_1 : List Int) (x9_1 : Int), v9 = .int .i64 x9_1 ∧ Aside0 (torrentref4_Ones.l0 kq a0 t302 x8_1 x9_1 = some (r1, r2)) ∧ Aside0 (kq ≤ k) ∧ Aside0 (Kd.R Kd.bool 4 w' w.heap.size (fun _ => True) v303 t302) ∧ Aside0 (Kd.R (Kd.int .i64) 3 w' w.heap.size (fun _ => True) v8 x8_1) ∧ Aside0 (Below w.heap.size w w'))
    case atStart => exact ⟨(([] : List Int)), (0), (by first | rfl | (simp; done) | (simp [*]; done)), H', ⟨Nat.le_refl _⟩, ⟨by (with_reducible repeat (first | apply Kd.R_alloc | apply Kd.R_drewN | apply Kd.R_drew)); exact HO304.out⟩, ⟨by first | exact Kd.R_nil _ _ _ _ _ | exact Kd.N_nil _ _ _ _ _ | exact Kd.V_nil _ _ _ _ _ | exact Kd.Q_nil _ _ _ _ _ | exact Kd.S_nil _ _ _ _ _⟩, ⟨by repeat (first | (with_reducible first | exact HB.out | apply below_alloc | apply pw_below_drewN | apply below_drew1) | exact HB.out)⟩⟩
    case round =>
      clear H'
      try clear c1
      try clear c2
      try clear p2
      try clear c4
      try clear c4b0
      try clear c4b1
      try clear c5
      try clear c6
      obtain ⟨x8_1, x9_1, rfl, HA, HK1, HO_7, HO_8, HB⟩ := hrel
      cases gk with
      | zero => exact absurd HA.out (by simp [torrentref4_Ones.l0])
      | succ k1 =>
        have H := HA.out
        clear HA
        simp only [torrentref4_Ones.l0] at H
        by_cases c7 : x9_1 < a0
        · rw [if_pos c7] at H
          have c7b0 : decide (x9_1 < a0) = true := decide_eq_true c7
          clear c7
          by_cases c8 : 0 ≤ x9_1
          · rw [if_pos c8] at H
            have c8b0 : decide (0 ≤ x9_1) = true := decide_eq_true c8
            clear c8
            by_cases c9 : x9_1 < (t302.length : Int)
            · rw [if_pos c9] at H
              have c9b0 : decide (x9_1 < (t302.length : Int)) = true := decide_eq_true c9
              clear c9
              obtain ⟨bq10, hbq10⟩ : ∃ b_ : Bool, b_ = (rdOf false t302 x9_1) := ⟨_, rfl⟩
              replace H : (if bq10 = true then (if x8_1.length < 17592186044416 then (torrentref4_Ones.l0 k1 a0 t302 (x8_1 ++ [x9_1]) (wrap64 (x9_1 + 1))) else (none)) else (torrentref4_Ones.l0 k1 a0 t302 x8_1 (wrap64 (x9_1 + 1)))) = some (r1, r2) := by rw [← hbq10] at H; exact H
              have Nbq10 := Aside0.mk hbq10
              clear hbq10
              by_cases c11 : bq10 = true
              · subst c11
                have H1 : (if x8_1.length < 17592186044416 then (torrentref4_Ones.l0 k1 a0 t302 (x8_1 ++ [x9_1]) (wrap64 (x9_1 + 1))) else (none)) = some (r1, r2) := by rw [if_pos rfl] at H; exact H
                clear H
                have H := H1
                clear H1
                by_cases c12 : x8_1.length < 17592186044416
                · rw [if_pos c12] at H
                  have LMc12 := Aside0.mk c12
                  clear c12
                  obtain ⟨y306, hy306⟩ : ∃ y_ : List Int, y_ = (x8_1 ++ [x9_1]) := ⟨_, rfl⟩
                  replace H : (torrentref4_Ones.l0 k1 a0 t302 y306 (wrap64 (x9_1 + 1))) = some (r1, r2) := by first | (rw [hy306]; with_reducible exact H) | (have H2_ := (Option.bind_some _ _).symm.trans H; rw [hy306]; with_reducible exact H2_) | (have H2_ := (Option.bind_some _ _).symm.trans H; with_reducible exact H2_) | with_reducible exact H | (rw [hy306]; exact H) | exact H
                  have Ny306 := Aside0.mk hy306
                  clear hy306
                  have H' := Aside0.mk H
                  clear H
                  obtain ⟨Ao13, co13, eo13⟩ := Kd.R_slice HO_7.out
                  subst eo13
                  have p305 : 0 ≤ (x9_1 : Int) := of_decide_eq_true (by first | (with_reducible assumption) | assumption)
                  have q305 : x9_1 < (t302.length : Int) := of_decide_eq_true (by first | (with_reducible assumption) | assumption)
                  obtain ⟨ad305, e305, hx305_0⟩ := Kd.at_bool (Kd.R_reads' HO_7.out).2.2 x9_1 p305 q305
                  (try rw [← Nbq10.out] at hx305_0)
                  cases e305
                  replace p305 := eq_true p305
                  replace q305 := eq_true q305
                  go_wp2_with (first | ((with_reducible refine gate_builtin (b := .append) (xs := #[.tmp 27, .tmp 29]) rfl ?_); at_builtin; refine Kd.R_append (Kd.int .i64) (w0 := w) w.heap.size rfl (.tmp 27) (.tmp 29) 28 3 (.int .i64 0) 8 rfl Try.underlying28 info3 rfl (by decide) (by omega) u8 x8_1 x9_1 [.int .i64 x9_1] (fun _ => True) (fun _ => False) rfl rfl ?aP (fun _ hk => hk.elim) ?aF ?aO ?aB ?aS ?aL ?_; (case aP => exact rfl); (case aB => exact (by repeat (first | (with_reducible first | exact HB.out | apply below_alloc | apply pw_below_drewN | apply below_drew1) | exact HB.out))); (case aF => exact (fun _ _ => trivial)); (case aO => exact (by (with_reducible repeat (first | apply Kd.R_alloc | apply Kd.R_drewN | apply Kd.R_drew)); exact HO_8.out)); (case aS => exact (below_size (by repeat (first | (with_reducible first | exact HB.out | apply below_alloc | apply pw_below_drewN | apply below_drew1) | exact HB.out)))); (case aL => have := LMc12.out; omega); intro v307 w14 ho hb hg hat; rw [← Ny306.out] at ho; have n0_ := Aside0.mk (Kd.R_over' (by (with_reducible repeat (first | apply Kd.R_alloc | apply Kd.R_drewN | apply Kd.R_drew)); exact HO_7.out) (Kd.R_typed (by (with_reducible repeat (first | apply Kd.R_alloc | apply Kd.R_drewN | apply Kd.R_drew)); exact HO_8.out)) (by decide) hg); have n1_ := Aside0.mk (hb); have n2_ := Aside0.mk (ho); clear HO_7; clear HB; clear HO_8; have HO_7 := n0_; have HB := n1_; have HO308 := n2_; clear n0_ n1_ n2_; clear ho hb hg hat))
                  go_roundg k1
                  case measure => have := HK1.out; omega
                  case rel => exact ⟨(y306), (wrap64 (x9_1 + 1)), (by first | rfl | (simp; done) | (simp [*]; done)), H', ⟨by have := HK1.out; omega⟩, ⟨by (with_reducible repeat (first | apply Kd.R_alloc | apply Kd.R_drewN | apply Kd.R_drew)); exact HO_7.out⟩, ⟨by (with_reducible repeat (first | apply Kd.R_alloc | apply Kd.R_drewN | apply Kd.R_drew)); exact HO308.out⟩, ⟨by repeat (first | (with_reducible first | exact HB.out | apply below_alloc | apply pw_below_drewN | apply below_drew1) | exact HB.out)⟩⟩
                · rw [if_neg c12] at H
                  exact absurd H (by simp)
              · replace c11 := Bool.eq_false_iff.mpr c11
                subst c11
                have H1 : (torrentref4_Ones.l0 k1 a0 t302 x8_1 (wrap64 (x9_1 + 1))) = some (r1, r2) := by rw [if_neg (show ¬ (false = true) by decide)] at H; exact H
                clear H
                have H := H1
                clear H1
                have H' := Aside0.mk H
                clear H
                obtain ⟨Ao15, co15, eo15⟩ := Kd.R_slice HO_7.out
                subst eo15
                have p305 : 0 ≤ (x9_1 : Int) := of_decide_eq_true (by first | (with_reducible assumption) | assumption)
                have q305 : x9_1 < (t302.length : Int) := of_decide_eq_true (by first | (with_reducible assumption) | assumption)
                obtain ⟨ad305, e305, hx305_0⟩ := Kd.at_bool (Kd.R_reads' HO_7.out).2.2 x9_1 p305 q305
                (try rw [← Nbq10.out] at hx305_0)
                cases e305
                replace p305 := eq_true p305
                replace q305 := eq_true q305
                go_wp2
                go_roundg k1
                case measure => have := HK1.out; omega
                case rel => exact ⟨(x8_1), (wrap64 (x9_1 + 1)), (by first | rfl | (simp; done) | (simp [*]; done)), H', ⟨by have := HK1.out; omega⟩, ⟨by (with_reducible repeat (first | apply Kd.R_alloc | apply Kd.R_drewN | apply Kd.R_drew)); exact HO_7.out⟩, ⟨by (with_reducible repeat (first | apply Kd.R_alloc | apply Kd.R_drewN | apply Kd.R_drew)); exact HO_8.out⟩, ⟨by repeat (first | (with_reducible first | exact HB.out | apply below_alloc | apply pw_below_drewN | apply below_drew1) | exact HB.out)⟩⟩
            · rw [if_neg c9] at H
              exact absurd H (by simp)
          · rw [if_neg c8] at H
            exact absurd H (by simp)
        · rw [if_neg c7] at H
          have c7b0 : decide (x9_1 < a0) = false := decide_eq_false c7
          clear c7
          simp only [Option.some.injEq, Prod.mk.injEq] at H
          obtain ⟨rfl, rfl⟩ := H
          go_wp2
          go_ret2
          exact ⟨_, by first | rfl | (simp [errW_none, errW_some] <;> rfl) | (simp [*, errW_none, errW_some] <;> rfl), by (with_reducible repeat (first | apply Kd.R_alloc | apply Kd.R_drewN | apply Kd.R_drew)); exact HO_8.out, by repeat (first | (with_reducible first | exact HB.out | apply below_alloc | apply pw_below_drewN | apply below_drew1) | exact HB.out)⟩
  · rw [if_neg c4] at H
    have c4b0 : (t301 == 0) = false := beq_eq_false_iff_ne.mpr c4
    have c4b1 : (t301 != 0) = true := bne_iff_ne.mpr c4
    simp only [Option.some.injEq, Prod.mk.injEq] at H
    obtain ⟨rfl, rfl⟩ := H
    go_enter Try.func23, Try.ntmps23
    go_wp2_with (first | ((with_reducible refine gate_callee (f := 59) rfl ?_); refine goesL_ (some 12) rfl rfl Try.func59 (by kernel_rfl) rfl #[.int .i64 a0, .slice A1 l1.length c1] rfl (by (try simp only [List.map_toArray, List.map_cons, List.map_nil]); first | done | rfl | (simp only [List.length_drop, List.length_take]; rfl)) ?_; (with_reducible refine (torrentref4_Check.calls k a0 _ _ l1 t301 _ ?side1 ?side2 A3.out).mono ?_); (case side1 => repeat (first | exact HR1.out | (with_reducible refine Kd.C_alloc ?_ _) | (with_reducible refine Kd.C_drewN ?_ _) | (with_reducible refine Kd.C_drew ?_))); (case side2 => exact HC1.out); rintro e w' ⟨rfl, ⟨nd, rfl⟩⟩; refine ⟨_, rfl, ?_⟩))
    go_ret2
    exact ⟨_, by first | rfl | (simp [errW_none, errW_some] <;> rfl) | (simp [*, errW_none, errW_some] <;> rfl), by first | exact Kd.R_nil _ _ _ _ _ | exact Kd.N_nil _ _ _ _ _ | exact Kd.V_nil _ _ _ _ _ | exact Kd.Q_nil _ _ _ _ _ | exact Kd.S_nil _ _ _ _ _, by repeat (first | (with_reducible first | exact HB.out | apply below_alloc | apply pw_below_drewN | apply below_drew1) | exact HB.out)⟩

end Go.Proofs.Ytoohpdamndgdlaa.P

-- Made by a program of this session (the print of the kit over a neighbour), for this claim.
namespace Go.Proofs.Ytoohpdamndgdlaa.P
open Go.RowKit Go.Proofs.YtoohpdamndgdlaaW.PrintWords Go.Proofs.YtoohpdamndgdlaaW.PrintLast Go.Proofs.YtoohpdamndgdlaaW.PrintMore
attribute [local go_sem] max2_int min2_int max_two min_two max_three min_three max_four min_four   -- for this text's walks alone
set_option linter.unusedVariables false
set_option linter.unusedSimpArgs false

/-! ### torrentref4_Count: function 36 -/
def torrentref4_Count.f (k : Nat) (a0 : Int) (l1 : List Int) : Option (Int × Int) := (torrentref4_Ones.f k a0 l1).bind fun bt311 => (some ((bt311.1.length : Int), bt311.2))
theorem torrentref4_Count.mono : ∀ a0 a1 k, LeO (torrentref4_Count.f k a0 a1) (torrentref4_Count.f (k + 1) a0 a1) := by
  intro a0 a1 k
  unfold torrentref4_Count.f
  repeat' first
      | (with_reducible exact torrentref4_Ones.mono _ _ _)
      | (with_reducible exact LeO.refl _)
      | (with_reducible exact LeO.none _)
      | (with_reducible refine LeO.ite ?_ ?_)
      | (with_reducible refine LeO.bind ?_ (fun _ => ?_))
      | exact torrentref4_Ones.mono _ _ _
      | exact LeO.none _
      | refine LeO.ite ?_ ?_
      | refine LeO.bind ?_ (fun _ => ?_)
set_option maxHeartbeats 8000000 in
set_option maxRecDepth 100000 in
theorem torrentref4_Count.calls (k : Nat) (a0 : Int) (A1 : Option Addr) (c1 : Nat) (l1 : List Int) (r1 : Int) (r2 : Int) (w : World) (hr1 : Kd.C (Kd.int .u8) w A1 l1.length l1) (hc1 : l1.length ≤ c1) (h : torrentref4_Count.f k a0 l1 = some (r1, r2)) :
    Calls Try.prog 36 #[.int .i64 a0, .slice A1 l1.length c1] w fun e w' => e = .returned (.tuple #[.int .i64 r1, .int .i64 r2]) ∧ Below w.heap.size w w' := by
  have HR1 := Aside0.mk hr1
  have HC1 := Aside0.mk hc1
  clear hr1 hc1
  have HB := Aside0.mk (Below.refl w.heap.size w)
  have H : ((torrentref4_Ones.f k a0 l1).bind fun bt311 => (some ((bt311.1.length : Int), bt311.2))) = some (r1, r2) := h
  clear h
  replace H := Option.bind_eq_some_iff.mp H
  obtain ⟨⟨t311, t312⟩, A30, H⟩ := H
  replace H : (some ((t311.length : Int), t312)) = some (r1, r2) := H
  have A3 := Aside0.mk A30
  clear A30
  simp only [Option.some.injEq, Prod.mk.injEq] at H
  obtain ⟨rfl, rfl⟩ := H
  go_enter Try.func36, Try.ntmps36
  go_wp2_with (first | ((with_reducible refine gate_callee (f := 23) rfl ?_); refine goesL_ (some 11) rfl rfl Try.func23 (by kernel_rfl) rfl #[.int .i64 a0, .slice A1 l1.length c1] rfl (by (try simp only [List.map_toArray, List.map_cons, List.map_nil]); first | done | rfl | (simp only [List.length_drop, List.length_take]; rfl)) ?_; (with_reducible refine (torrentref4_Ones.calls k a0 _ _ l1 t311 t312 _ ?side1 ?side2 A3.out).mono ?_); (case side1 => repeat (first | exact HR1.out | (with_reducible refine Kd.C_alloc ?_ _) | (with_reducible refine Kd.C_drewN ?_ _) | (with_reducible refine Kd.C_drew ?_))); (case side2 => exact HC1.out); rintro e w4 ⟨v313, rfl, ho0, hb⟩; refine ⟨_, rfl, ?_⟩; have n0_ := Aside0.mk (Kd.R_lower ho0 (below_size (by repeat (first | (with_reducible first | exact HB.out | apply below_alloc | apply pw_below_drewN | apply below_drew1) | exact HB.out)))); have n1_ := Aside0.mk (below_step (by repeat (first | (with_reducible first | exact HB.out | apply below_alloc | apply pw_below_drewN | apply below_drew1) | exact HB.out)) hb); clear HB; have HO314 := n0_; have HB := n1_; clear n0_ n1_; (try clear hb); (try clear hb2); (try clear hk); (try clear hi); (try clear ho0); obtain ⟨Ao5, co5, eo5⟩ := Kd.R_slice HO314.out; subst eo5))
  go_ret2
  exact ⟨by first | rfl | (simp [errW_none, errW_some] <;> rfl) | (simp [*, errW_none, errW_some] <;> rfl), by repeat (first | (with_reducible first | exact HB.out | apply below_alloc | apply pw_below_drewN | apply below_drew1) | exact HB.out)⟩

end Go.Proofs.Ytoohpdamndgdlaa.P

-- Made by a program of this session (the print of the kit over a neighbour), for this claim.
namespace Go.Proofs.Ytoohpdamndgdlaa.P
open Go.RowKit Go.Proofs.YtoohpdamndgdlaaW.PrintWords Go.Proofs.YtoohpdamndgdlaaW.PrintLast Go.Proofs.YtoohpdamndgdlaaW.PrintMore
attribute [local go_sem] max2_int min2_int max_two min_two max_three min_three max_four min_four   -- for this text's walks alone
set_option linter.unusedVariables false
set_option linter.unusedSimpArgs false

/-! ### torrentlaw4_sameInts: function 22 -/
def torrentlaw4_sameInts.l0 : Nat → List Int → List Int → Int → Option (Bool)
  | 0, _, _, _ => none
  | k + 1, x0, x1, x5 => if x5 < (x0.length : Int) then (if 0 ≤ x5 then (if x5 < (x1.length : Int) then (if (rd x0 x5) = (rd x1 x5) then (torrentlaw4_sameInts.l0 k x0 x1 (wrap64 (x5 + 1))) else (some false)) else (none)) else (none)) else (some true)
def torrentlaw4_sameInts.f (k : Nat) (l0 : List Int) (l1 : List Int) : Option (Bool) := if (l0.length : Int) = (l1.length : Int) then (torrentlaw4_sameInts.l0 k l0 l1 0) else (some false)
theorem torrentlaw4_sameInts.mono_l : ∀ k, (∀ y0 y1 y2, LeO (torrentlaw4_sameInts.l0 k y0 y1 y2) (torrentlaw4_sameInts.l0 (k + 1) y0 y1 y2))
  | 0 => fun _ _ _ r h => by simp [torrentlaw4_sameInts.l0] at h
  | k + 1 => by
    have ih0 := torrentlaw4_sameInts.mono_l k
    · intro y0 y1 y2
      unfold torrentlaw4_sameInts.l0
      repeat' first
      | (with_reducible exact ih0 _ _ _)
      | (with_reducible exact LeO.refl _)
      | (with_reducible exact LeO.none _)
      | (with_reducible refine LeO.ite ?_ ?_)
      | (with_reducible refine LeO.bind ?_ (fun _ => ?_))
      | exact ih0 _ _ _
      | exact LeO.none _
      | refine LeO.ite ?_ ?_
      | refine LeO.bind ?_ (fun _ => ?_)
theorem torrentlaw4_sameInts.mono : ∀ a0 a1 k, LeO (torrentlaw4_sameInts.f k a0 a1) (torrentlaw4_sameInts.f (k + 1) a0 a1) := by
  intro a0 a1 k
  have ih0 := torrentlaw4_sameInts.mono_l k
  unfold torrentlaw4_sameInts.f
  repeat' first
      | (with_reducible exact ih0 _ _ _)
      | (with_reducible exact LeO.refl _)
      | (with_reducible exact LeO.none _)
      | (with_reducible refine LeO.ite ?_ ?_)
      | (with_reducible refine LeO.bind ?_ (fun _ => ?_))
      | exact ih0 _ _ _
      | exact LeO.none _
      | refine LeO.ite ?_ ?_
      | refine LeO.bind ?_ (fun _ => ?_)
set_option maxHeartbeats 8000000 in
set_option maxRecDepth 100000 in
theorem torrentlaw4_sameInts.calls (k : Nat) (A0 : Option Addr) (c0 : Nat) (l0 : List Int) (A1 : Option Addr) (c1 : Nat) (l1 : List Int) (r : Bool) (w : World) (hr0 : Kd.C (Kd.int .i64) w A0 l0.length l0) (hc0 : l0.length ≤ c0) (hr1 : Kd.C (Kd.int .i64) w A1 l1.length l1) (hc1 : l1.length ≤ c1) (h : torrentlaw4_sameInts.f k l0 l1 = some r) :
    Calls Try.prog 22 #[.slice A0 l0.length c0, .slice A1 l1.length c1] w fun e w' => e = .returned (.bool r) ∧ Drawn0 w w' := by
  have HR0 := Aside0.mk hr0
  have HC0 := Aside0.mk hc0
  clear hr0 hc0
  have HR1 := Aside0.mk hr1
  have HC1 := Aside0.mk hc1
  clear hr1 hc1
  have H : (if (l0.length : Int) = (l1.length : Int) then (torrentlaw4_sameInts.l0 k l0 l1 0) else (some false)) = some r := h
  clear h
  by_cases c3 : (l0.length : Int) = (l1.length : Int)
  · rw [if_pos c3] at H
    have c3b0 : ((l0.length : Int) == (l1.length : Int)) = true := beq_iff_eq.mpr c3
    have c3b1 : ((l0.length : Int) != (l1.length : Int)) = false := bne_eq_false_iff_eq.mpr c3
    have c3b2 : (l0.length == l1.length) = true := by first | simpa using c3 | (simp at c3 ⊢; omega)
    clear c3
    have H' := Aside0.mk H
    clear H
    go_enter Try.func22, Try.ntmps22
    go_wp2
    repeat (go_quiet (fail); try go_wp2)
    go_loopg [5] k (fun kq v5 w' => ∃ (x5_1 : Int), v5 = .int .i64 x5_1 ∧ Aside0 (torrentlaw4_sameInts.l0 kq l0 l1 x5_1 = some r) ∧ Aside0 (kq ≤ k) ∧ Drawn0 w w')
    case atStart => exact ⟨(0), (by first | rfl | (simp; done) | (simp [*]; done)), H', ⟨Nat.le_refl _⟩, by repeat (first | exact Drawn0.refl _ | apply Drawn0.step)⟩
    case round =>
      clear H'
      try clear c1
      try clear c2
      try clear p2
      try clear c3
      try clear c3b0
      try clear c3b1
      try clear c3b2
      obtain ⟨x5_1, rfl, HA, HK1, ⟨m1, rfl⟩⟩ := hrel
      cases gk with
      | zero => exact absurd HA.out (by simp [torrentlaw4_sameInts.l0])
      | succ k1 =>
        have H := HA.out
        clear HA
        simp only [torrentlaw4_sameInts.l0] at H
        by_cases c4 : x5_1 < (l0.length : Int)
        · rw [if_pos c4] at H
          have c4b0 : decide (x5_1 < (l0.length : Int)) = true := decide_eq_true c4
          clear c4
          by_cases c5 : 0 ≤ x5_1
          · rw [if_pos c5] at H
            have c5b0 : decide (0 ≤ x5_1) = true := decide_eq_true c5
            clear c5
            by_cases c6 : x5_1 < (l1.length : Int)
            · rw [if_pos c6] at H
              have c6b0 : decide (x5_1 < (l1.length : Int)) = true := decide_eq_true c6
              clear c6
              by_cases c7 : (rd l0 x5_1) = (rd l1 x5_1)
              · rw [if_pos c7] at H
                have c7b0 : ((rd l0 x5_1) == (rd l1 x5_1)) = true := beq_iff_eq.mpr c7
                have c7b1 : ((rd l0 x5_1) != (rd l1 x5_1)) = false := bne_eq_false_iff_eq.mpr c7
                clear c7
                have H' := Aside0.mk H
                clear H
                have p171 : 0 ≤ (x5_1 : Int) := of_decide_eq_true (by first | (with_reducible assumption) | assumption)
                have q171 : x5_1 < (l0.length : Int) := of_decide_eq_true (by first | (with_reducible assumption) | assumption)
                obtain ⟨ad171, e171, hx171_0⟩ := Kd.at_int HR0.out x5_1 p171 q171
                cases e171
                replace p171 := eq_true p171
                replace q171 := eq_true q171
                have p172 : 0 ≤ (x5_1 : Int) := of_decide_eq_true (by first | (with_reducible assumption) | assumption)
                have q172 : x5_1 < (l1.length : Int) := of_decide_eq_true (by first | (with_reducible assumption) | assumption)
                obtain ⟨ad172, e172, hx172_0⟩ := Kd.at_int HR1.out x5_1 p172 q172
                cases e172
                replace p172 := eq_true p172
                replace q172 := eq_true q172
                go_wp2
                repeat (go_quiet (fail); try go_wp2)
                go_roundg k1
                case measure => have := HK1.out; omega
                case rel => exact ⟨(wrap64 (x5_1 + 1)), (by first | rfl | (simp; done) | (simp [*]; done)), H', ⟨by have := HK1.out; omega⟩, by repeat (first | exact Drawn0.refl _ | apply Drawn0.step)⟩
              · rw [if_neg c7] at H
                have c7b0 : ((rd l0 x5_1) == (rd l1 x5_1)) = false := beq_eq_false_iff_ne.mpr c7
                have c7b1 : ((rd l0 x5_1) != (rd l1 x5_1)) = true := bne_iff_ne.mpr c7
                obtain rfl := Option.some.inj H
                have p171 : 0 ≤ (x5_1 : Int) := of_decide_eq_true (by first | (with_reducible assumption) | assumption)
                have q171 : x5_1 < (l0.length : Int) := of_decide_eq_true (by first | (with_reducible assumption) | assumption)
                obtain ⟨ad171, e171, hx171_0⟩ := Kd.at_int HR0.out x5_1 p171 q171
                cases e171
                replace p171 := eq_true p171
                replace q171 := eq_true q171
                have p172 : 0 ≤ (x5_1 : Int) := of_decide_eq_true (by first | (with_reducible assumption) | assumption)
                have q172 : x5_1 < (l1.length : Int) := of_decide_eq_true (by first | (with_reducible assumption) | assumption)
                obtain ⟨ad172, e172, hx172_0⟩ := Kd.at_int HR1.out x5_1 p172 q172
                cases e172
                replace p172 := eq_true p172
                replace q172 := eq_true q172
                go_wp2
                repeat (go_quiet (fail); try go_wp2)
                go_ret
                exact ⟨by first | rfl | (simp; done) | (simp [*]; done), by repeat (first | exact Drawn0.refl _ | apply Drawn0.step)⟩
            · rw [if_neg c6] at H
              exact absurd H (by simp)
          · rw [if_neg c5] at H
            exact absurd H (by simp)
        · rw [if_neg c4] at H
          have c4b0 : decide (x5_1 < (l0.length : Int)) = false := decide_eq_false c4
          clear c4
          obtain rfl := Option.some.inj H
          go_wp2
          repeat (go_quiet (fail); try go_wp2)
          go_ret
          exact ⟨by first | rfl | (simp; done) | (simp [*]; done), by repeat (first | exact Drawn0.refl _ | apply Drawn0.step)⟩
  · rw [if_neg c3] at H
    have c3b0 : ((l0.length : Int) == (l1.length : Int)) = false := beq_eq_false_iff_ne.mpr c3
    have c3b1 : ((l0.length : Int) != (l1.length : Int)) = true := bne_iff_ne.mpr c3
    have c3b2 : (l0.length == l1.length) = false := by first | simpa using c3 | (simp at c3 ⊢; omega)
    obtain rfl := Option.some.inj H
    go_enter Try.func22, Try.ntmps22
    go_wp2
    repeat (go_quiet (fail); try go_wp2)
    go_ret
    exact ⟨by first | rfl | (simp; done) | (simp [*]; done), by repeat (first | exact Drawn0.refl _ | apply Drawn0.step)⟩

end Go.Proofs.Ytoohpdamndgdlaa.P

/- Ones and Count, the program's and the reference's, in plain words: the same answers. Condition: bytes. -/
set_option linter.unusedVariables false
set_option linter.unusedSimpArgs false
namespace Go.Proofs.Ytoohpdamndgdlaa.B
open Go.RowKit Go.Proofs.Ytoohpdamndgdlaa.P Go.Proofs.YtoohpdamndgdlaaW.PrintWords Go.Proofs.YtoohpdamndgdlaaW.PrintLast Go.Proofs.YtoohpdamndgdlaaW.PrintMore
theorem sameI_l (l : List Int) (hl : l.length ≤ 9223372036854775807) : ∀ (d i : Nat), i + d = l.length → Ev (fun k => torrentlaw4_sameInts.l0 k l l (i : Int)) true
  | 0, i, h => Ev.step (f := fun _ => some true) (fun k => by
      simp only [torrentlaw4_sameInts.l0]
      rw [if_neg (by omega)]) (Ev.now _)
  | d + 1, i, h => Ev.step (f := fun k => torrentlaw4_sameInts.l0 k l l ((i + 1 : Nat) : Int)) (fun k => by
      simp only [torrentlaw4_sameInts.l0]
      rw [if_pos (by omega), if_pos (by omega), if_pos (by omega), if_pos trivial, inc i (by omega)]) (sameI_l l hl d (i + 1) (by omega))
theorem sameI_f (l : List Int) (hl : l.length ≤ 9223372036854775807) : Ev (fun k => torrentlaw4_sameInts.f k l l) true := by
  unfold torrentlaw4_sameInts.f
  refine Ev.congr (fun k => if_pos rfl) ?_
  exact sameI_l l hl l.length 0 (by omega)

def onesL (l : List Int) (j : Nat) : List Int := ((List.range j).filter (gbit l)).map (fun (i : Nat) => (i : Int))
theorem onesL_succ (l : List Int) (j : Nat) : onesL l (j + 1) = if gbit l j then onesL l j ++ [(j : Int)] else onesL l j := by
  unfold onesL
  rw [List.range_succ, List.filter_append, List.map_append]
  cases h : gbit l j <;> simp [h]
theorem onesL_le (l : List Int) (j : Nat) : (onesL l j).length ≤ j := by
  unfold onesL
  rw [List.length_map]
  exact Nat.le_trans (List.length_filter_le _ _) (by simp)
theorem mask_zero (l : List Int) (hx : IsB l) (i : Nat) (hi : i ≤ 65536) : ((Go.bits .and .u8 (rd l (wrap64 (Int.tdiv (i : Int) 8))) (shr .u8 128 (Int.tmod (i : Int) 8))) = 0) = (gbit l i = false) := propext (get_mask l hx i hi)
theorem ones_l (m : Nat) (hm : m ≤ 65536) (l : List Int) (hx : IsB l) (hl : l.length = (m + 7) / 8) : ∀ (d i : Nat), i + d = m → Ev (fun k => bitset_Ones.l0 k (m : Int) l (onesL l i) (i : Int)) (onesL l m, 0)
  | 0, i, h => Ev.step (f := fun _ => some (onesL l m, 0)) (fun k => by
      simp only [bitset_Ones.l0]
      rw [if_neg (by omega), show i = m by omega]) (Ev.now _)
  | d + 1, i, h => by
    obtain ⟨g1, g2, g3⟩ := tests_in l i (by omega) (by omega)
    have hle := onesL_le l i
    refine Ev.step (f := fun k => bitset_Ones.l0 k (m : Int) l (onesL l (i + 1)) ((i + 1 : Nat) : Int)) (fun k => ?_) (ones_l m hm l hx hl d (i + 1) (by omega))
    simp only [bitset_Ones.l0]
    rw [if_pos (by omega), if_pos g1, if_pos g2, if_pos g3, inc i (by omega), onesL_succ]
    simp only [mask_zero l hx i (by omega)]
    cases hb : gbit l i with
    | false => rw [if_pos rfl]; rfl
    | true => rw [if_neg (by decide), if_pos (by omega)]; rfl
theorem refOnes_l (m : Nat) (hm : m ≤ 65536) (l : List Int) (hl : l.length = (m + 7) / 8) : ∀ (d i : Nat), i + d = m → Ev (fun k => torrentref4_Ones.l0 k (m : Int) (bitsL l (8 * l.length)) (onesL l i) (i : Int)) (onesL l m, 0)
  | 0, i, h => Ev.step (f := fun _ => some (onesL l m, 0)) (fun k => by
      simp only [torrentref4_Ones.l0]
      rw [if_neg (by omega), show i = m by omega]) (Ev.now _)
  | d + 1, i, h => by
    have hle := onesL_le l i
    refine Ev.step (f := fun k => torrentref4_Ones.l0 k (m : Int) (bitsL l (8 * l.length)) (onesL l (i + 1)) ((i + 1 : Nat) : Int)) (fun k => ?_) (refOnes_l m hm l hl d (i + 1) (by omega))
    simp only [torrentref4_Ones.l0]
    rw [if_pos (by omega), if_pos (by omega), if_pos (by rw [bitsL_length]; omega), rdOf_nat, bitsL_at l _ i (by omega), inc i (by omega), onesL_succ]
    cases hb : gbit l i with
    | false => rw [if_neg (by decide)]; rfl
    | true => rw [if_pos rfl, if_pos (by omega)]; rfl
theorem count_l (m : Nat) (hm : m ≤ 65536) (l : List Int) (hx : IsB l) (hl : l.length = (m + 7) / 8) : ∀ (d i : Nat), i + d = m → Ev (fun k => bitset_Count.l0 k (m : Int) l ((onesL l i).length : Int) (i : Int)) (((onesL l m).length : Int), 0)
  | 0, i, h => Ev.step (f := fun _ => some (((onesL l m).length : Int), 0)) (fun k => by
      simp only [bitset_Count.l0]
      rw [if_neg (by omega), show i = m by omega]) (Ev.now _)
  | d + 1, i, h => by
    obtain ⟨g1, g2, g3⟩ := tests_in l i (by omega) (by omega)
    have hle := onesL_le l i
    refine Ev.step (f := fun k => bitset_Count.l0 k (m : Int) l ((onesL l (i + 1)).length : Int) ((i + 1 : Nat) : Int)) (fun k => ?_) (count_l m hm l hx hl d (i + 1) (by omega))
    simp only [bitset_Count.l0]
    rw [if_pos (by omega), if_pos g1, if_pos g2, if_pos g3, inc i (by omega), inc (onesL l i).length (by omega), onesL_succ]
    simp only [mask_zero l hx i (by omega)]
    cases hb : gbit l i with
    | false => rw [if_pos rfl]; rfl
    | true => rw [if_neg (by decide), if_pos rfl, List.length_append]; rfl
/-- What the two Ones and the two Counts answer. -/
theorem ones_same (n : Int) (l : List Int) (hx : IsB l) (hl : l.length ≤ 140737488351232) : ∃ r e, Ev (fun k => bitset_Ones.f k n l) (r, e) ∧ Ev (fun k => torrentref4_Ones.f k n l) (r, e) ∧ Ev (fun k => bitset_Count.f k n l) ((r.length : Int), e) ∧ Ev (fun k => torrentref4_Count.f k n l) ((r.length : Int), e) ∧ r.length ≤ 65536 := by
  obtain ⟨c, hc, hd⟩ := check_both n l hx hl
  by_cases h0 : c = 0
  · subst h0
    obtain ⟨m, rfl, hm, hlen⟩ := check_ok hc
    have hle := onesL_le l m
    have h2 : Ev (fun k => torrentref4_Ones.f k (m : Int) l) (onesL l m, 0) := Ev.bind hd (Ev.congr (fun k => if_pos rfl) (Ev.bind (open_f l hx (by omega)) (refOnes_l m hm l hlen m 0 (by omega))))
    exact ⟨onesL l m, 0, Ev.bind hc (Ev.congr (fun k => if_pos rfl) (ones_l m hm l hx hlen m 0 (by omega))), h2,
      Ev.bind hc (Ev.congr (fun k => if_pos rfl) (count_l m hm l hx hlen m 0 (by omega))), Ev.bind h2 (Ev.now _), by omega⟩
  · have h2 : Ev (fun k => torrentref4_Ones.f k n l) (([] : List Int), c) := Ev.bind hd (Ev.congr (fun k => if_neg h0) (Ev.now _))
    exact ⟨[], c, Ev.bind hc (Ev.congr (fun k => if_neg h0) (Ev.now _)), h2, Ev.bind hc (Ev.congr (fun k => if_neg h0) (Ev.now _)), Ev.bind h2 (Ev.now _), by simp⟩
end Go.Proofs.Ytoohpdamndgdlaa.B

-- Made by a program of this session (the print of the kit over a neighbour), for this claim.
namespace Go.Proofs.Ytoohpdamndgdlaa.P
open Go.RowKit Go.Proofs.YtoohpdamndgdlaaW.PrintWords Go.Proofs.YtoohpdamndgdlaaW.PrintLast Go.Proofs.YtoohpdamndgdlaaW.PrintMore
attribute [local go_sem] max2_int min2_int max_two min_two max_three min_three max_four min_four   -- for this text's walks alone
set_option linter.unusedVariables false
set_option linter.unusedSimpArgs false

/-! ### torrentref4_Runs: function 29 -/
mutual
def torrentref4_Runs.l0 : Nat → Int → List Bool → List (S59) → Int → Option ((List (S59)) × Int)
  | 0, _, _, _, _ => none
  | k + 1, x0, x7, x8, x9 => if x9 < x0 then (if 0 ≤ x9 then (if x9 < (x7.length : Int) then (if rdOf false x7 x9 = true then (if x9 = 0 then (torrentref4_Runs.j1 k x0 x7 x8 x9 true) else (if 0 ≤ (wrap64 (x9 - 1)) then (if (wrap64 (x9 - 1)) < (x7.length : Int) then (torrentref4_Runs.j1 k x0 x7 x8 x9 (!(rdOf false x7 (wrap64 (x9 - 1))))) else (none)) else (none))) else (torrentref4_Runs.j1 k x0 x7 x8 x9 false)) else (none)) else (none)) else (some (x8, 0))
def torrentref4_Runs.j1 : Nat → Int → List Bool → List (S59) → Int → Bool → Option ((List (S59)) × Int)
  | 0, _, _, _, _, _ => none
  | k + 1, x0, x7, x8, x9, x39 => if x39 = true then (torrentref4_Runs.l1 k x0 x7 x8 x9 x9) else (torrentref4_Runs.l0 k x0 x7 x8 (wrap64 (x9 + 1)))
def torrentref4_Runs.l1 : Nat → Int → List Bool → List (S59) → Int → Int → Option ((List (S59)) × Int)
  | 0, _, _, _, _, _ => none
  | k + 1, x0, x7, x8, x9, x10 => if x10 < x0 then (if 0 ≤ x10 then (if x10 < (x7.length : Int) then (if rdOf false x7 x10 = true then (torrentref4_Runs.l1 k x0 x7 x8 x9 (wrap64 (x10 + 1))) else (if x8.length < 8796093022208 then (torrentref4_Runs.l0 k x0 x7 (x8 ++ [(⟨x9, wrap64 (x10 - x9)⟩ : S59)]) (wrap64 (x9 + 1))) else (none))) else (none)) else (none)) else (if x8.length < 8796093022208 then (torrentref4_Runs.l0 k x0 x7 (x8 ++ [(⟨x9, wrap64 (x10 - x9)⟩ : S59)]) (wrap64 (x9 + 1))) else (none))
end
def torrentref4_Runs.f (k : Nat) (a0 : Int) (l1 : List Int) : Option ((List (S59)) × Int) := (torrentref4_Check.f k a0 l1).bind fun t227 => (if t227 = 0 then ((torrentref4_open.f k l1).bind fun t228 => (torrentref4_Runs.l0 k a0 t228 ([] : List (S59)) 0)) else (some (([] : List (S59)), t227)))
theorem torrentref4_Runs.mono_l : ∀ k, (∀ y0 y1 y2 y3, LeO (torrentref4_Runs.l0 k y0 y1 y2 y3) (torrentref4_Runs.l0 (k + 1) y0 y1 y2 y3)) ∧ (∀ y0 y1 y2 y3 y4, LeO (torrentref4_Runs.j1 k y0 y1 y2 y3 y4) (torrentref4_Runs.j1 (k + 1) y0 y1 y2 y3 y4)) ∧ (∀ y0 y1 y2 y3 y4, LeO (torrentref4_Runs.l1 k y0 y1 y2 y3 y4) (torrentref4_Runs.l1 (k + 1) y0 y1 y2 y3 y4))
  | 0 => ⟨fun _ _ _ _ r h => by simp [torrentref4_Runs.l0] at h, fun _ _ _ _ _ r h => by simp [torrentref4_Runs.j1] at h, fun _ _ _ _ _ r h => by simp [torrentref4_Runs.l1] at h⟩
  | k + 1 => by
    obtain ⟨ih0, ih1, ih2⟩ := torrentref4_Runs.mono_l k
    refine ⟨?_, ?_, ?_⟩
    · intro y0 y1 y2 y3
      unfold torrentref4_Runs.l0
      repeat' first
      | (with_reducible exact ih0 _ _ _ _)
      | (with_reducible exact ih1 _ _ _ _ _)
      | (with_reducible exact ih2 _ _ _ _ _)
      | (with_reducible exact torrentref4_Check.mono _ _ _)
      | (with_reducible exact torrentref4_open.mono _ _)
      | (with_reducible exact LeO.refl _)
      | (with_reducible exact LeO.none _)
      | (with_reducible refine LeO.ite ?_ ?_)
      | (with_reducible refine LeO.bind ?_ (fun _ => ?_))
      | exact ih0 _ _ _ _
      | exact ih1 _ _ _ _ _
      | exact ih2 _ _ _ _ _
      | exact torrentref4_Check.mono _ _ _
      | exact torrentref4_open.mono _ _
      | exact LeO.none _
      | refine LeO.ite ?_ ?_
      | refine LeO.bind ?_ (fun _ => ?_)
    · intro y0 y1 y2 y3 y4
      unfold torrentref4_Runs.j1
      repeat' first
      | (with_reducible exact ih0 _ _ _ _)
      | (with_reducible exact ih1 _ _ _ _ _)
      | (with_reducible exact ih2 _ _ _ _ _)
      | (with_reducible exact torrentref4_Check.mono _ _ _)
      | (with_reducible exact torrentref4_open.mono _ _)
      | (with_reducible exact LeO.refl _)
      | (with_reducible exact LeO.none _)
      | (with_reducible refine LeO.ite ?_ ?_)
      | (with_reducible refine LeO.bind ?_ (fun _ => ?_))
      | exact ih0 _ _ _ _
      | exact ih1 _ _ _ _ _
      | exact ih2 _ _ _ _ _
      | exact torrentref4_Check.mono _ _ _
      | exact torrentref4_open.mono _ _
      | exact LeO.none _
      | refine LeO.ite ?_ ?_
      | refine LeO.bind ?_ (fun _ => ?_)
    · intro y0 y1 y2 y3 y4
      unfold torrentref4_Runs.l1
      repeat' first
      | (with_reducible exact ih0 _ _ _ _)
      | (with_reducible exact ih1 _ _ _ _ _)
      | (with_reducible exact ih2 _ _ _ _ _)
      | (with_reducible exact torrentref4_Check.mono _ _ _)
      | (with_reducible exact torrentref4_open.mono _ _)
      | (with_reducible exact LeO.refl _)
      | (with_reducible exact LeO.none _)
      | (with_reducible refine LeO.ite ?_ ?_)
      | (with_reducible refine LeO.bind ?_ (fun _ => ?_))
      | exact ih0 _ _ _ _
      | exact ih1 _ _ _ _ _
      | exact ih2 _ _ _ _ _
      | exact torrentref4_Check.mono _ _ _
      | exact torrentref4_open.mono _ _
      | exact LeO.none _
      | refine LeO.ite ?_ ?_
      | refine LeO.bind ?_ (fun _ => ?_)
theorem torrentref4_Runs.mono : ∀ a0 a1 k, LeO (torrentref4_Runs.f k a0 a1) (torrentref4_Runs.f (k + 1) a0 a1) := by
  intro a0 a1 k
  obtain ⟨ih0, ih1, ih2⟩ := torrentref4_Runs.mono_l k
  unfold torrentref4_Runs.f
  repeat' first
      | (with_reducible exact ih0 _ _ _ _)
      | (with_reducible exact ih1 _ _ _ _ _)
      | (with_reducible exact ih2 _ _ _ _ _)
      | (with_reducible exact torrentref4_Check.mono _ _ _)
      | (with_reducible exact torrentref4_open.mono _ _)
      | (with_reducible exact LeO.refl _)
      | (with_reducible exact LeO.none _)
      | (with_reducible refine LeO.ite ?_ ?_)
      | (with_reducible refine LeO.bind ?_ (fun _ => ?_))
      | exact ih0 _ _ _ _
      | exact ih1 _ _ _ _ _
      | exact ih2 _ _ _ _ _
      | exact torrentref4_Check.mono _ _ _
      | exact torrentref4_open.mono _ _
      | exact LeO.none _
      | refine LeO.ite ?_ ?_
      | refine LeO.bind ?_ (fun _ => ?_)
set_option maxHeartbeats 8000000 in
set_option maxRecDepth 100000 in
theorem torrentref4_Runs.calls (k : Nat) (a0 : Int) (A1 : Option Addr) (c1 : Nat) (l1 : List Int) (r1 : List (S59)) (r2 : Int) (w : World) (hr1 : Kd.C (Kd.int .u8) w A1 l1.length l1) (hc1 : l1.length ≤ c1) (h : torrentref4_Runs.f k a0 l1 = some (r1, r2)) :
    Calls Try.prog 29 #[.int .i64 a0, .slice A1 l1.length c1] w fun e w' => ∃ v0_ : Value, e = .returned (.tuple #[v0_, .int .i64 r2]) ∧ Kd.R k59 59 w' w.heap.size (fun _ => True) v0_ r1 ∧ Below w.heap.size w w' := by
  have hu59 := Try.underlying59
  have HR1 := Aside0.mk hr1
  have HC1 := Aside0.mk hc1
  clear hr1 hc1
  have HB := Aside0.mk (Below.refl w.heap.size w)
  have H : ((torrentref4_Check.f k a0 l1).bind fun t227 => (if t227 = 0 then ((torrentref4_open.f k l1).bind fun t228 => (torrentref4_Runs.l0 k a0 t228 ([] : List (S59)) 0)) else (some (([] : List (S59)), t227)))) = some (r1, r2) := h
  clear h
  replace H := Option.bind_eq_some_iff.mp H
  obtain ⟨t227, A30, H⟩ := H
  replace H : (if t227 = 0 then ((torrentref4_open.f k l1).bind fun t228 => (torrentref4_Runs.l0 k a0 t228 ([] : List (S59)) 0)) else (some (([] : List (S59)), t227))) = some (r1, r2) := H
  have A3 := Aside0.mk A30
  clear A30
  by_cases c4 : t227 = 0
  · rw [if_pos c4] at H
    have c4b0 : (t227 == 0) = true := beq_iff_eq.mpr c4
    have c4b1 : (t227 != 0) = false := bne_eq_false_iff_eq.mpr c4
    clear c4
    replace H := Option.bind_eq_some_iff.mp H
    obtain ⟨t228, A50, H⟩ := H
    replace H : (torrentref4_Runs.l0 k a0 t228 ([] : List (S59)) 0) = some (r1, r2) := H
    have A5 := Aside0.mk A50
    clear A50
    have H' := Aside0.mk H
    clear H
    go_enter Try.func29, Try.ntmps29
    go_wp2_with (first | ((with_reducible refine gate_callee (f := 59) rfl ?_); refine goesL_ (some 13) rfl rfl Try.func59 (by kernel_rfl) rfl #[.int .i64 a0, .slice A1 l1.length c1] rfl (by (try simp only [List.map_toArray, List.map_cons, List.map_nil]); first | done | rfl | (simp only [List.length_drop, List.length_take]; rfl)) ?_; (with_reducible refine (torrentref4_Check.calls k a0 _ _ l1 t227 _ ?side1 ?side2 A3.out).mono ?_); (case side1 => repeat (first | exact HR1.out | (with_reducible refine Kd.C_alloc ?_ _) | (with_reducible refine Kd.C_drewN ?_ _) | (with_reducible refine Kd.C_drew ?_))); (case side2 => exact HC1.out); rintro e w' ⟨rfl, ⟨nd, rfl⟩⟩; refine ⟨_, rfl, ?_⟩) | ((with_reducible refine gate_callee (f := 60) rfl ?_); refine goesL_ (some 18) rfl rfl Try.func60 (by kernel_rfl) rfl #[.slice A1 l1.length c1] rfl (by (try simp only [List.map_toArray, List.map_cons, List.map_nil]); first | done | rfl | (simp only [List.length_drop, List.length_take]; rfl)) ?_; (with_reducible refine (torrentref4_open.calls k _ _ l1 t228 _ ?side1 ?side2 A5.out).mono ?_); (case side1 => repeat (first | exact HR1.out | (with_reducible refine Kd.C_alloc ?_ _) | (with_reducible refine Kd.C_drewN ?_ _) | (with_reducible refine Kd.C_drew ?_))); (case side2 => exact HC1.out); rintro e w6 ⟨v229, rfl, ho0, hb⟩; refine ⟨_, rfl, ?_⟩; have n0_ := Aside0.mk (Kd.R_lower ho0 (below_size (by repeat (first | (with_reducible first | exact HB.out | apply below_alloc | apply pw_below_drewN | apply below_drew1) | exact HB.out)))); have n1_ := Aside0.mk (below_step (by repeat (first | (with_reducible first | exact HB.out | apply below_alloc | apply pw_below_drewN | apply below_drew1) | exact HB.out)) hb); clear HB; have HO230 := n0_; have HB := n1_; clear n0_ n1_; (try clear hb); (try clear hb2); (try clear hk); (try clear hi); (try clear ho0)))
    go_loopg [8, 9] k (fun kq v8 v9 w' => ∃ (x8_1 : List (S59)) (x9_1 : Int), v9 = .int .i64 x9_1 ∧ Aside0 (torrentref4_Runs.l0 kq a0 t228 x8_1 x9_1 = some (r1, r2)) ∧ Aside0 (kq ≤ k) ∧ Aside0 (Kd.R Kd.bool 4 w' w.heap.size (fun _ => True) v229 t228) ∧ Aside0 (Kd.R k59 59 w' w.heap.size (fun _ => True) v8 x8_1) ∧ Aside0 (Below w.heap.size w w'))
    case atStart => exact ⟨(([] : List (S59))), (0), (by first | rfl | (simp; done) | (simp [*]; done)), H', ⟨Nat.le_refl _⟩, ⟨by (with_reducible repeat (first | apply Kd.R_alloc | apply Kd.R_drewN | apply Kd.R_drew)); exact HO230.out⟩, ⟨by first | exact Kd.R_nil _ _ _ _ _ | exact Kd.N_nil _ _ _ _ _ | exact Kd.V_nil _ _ _ _ _ | exact Kd.Q_nil _ _ _ _ _ | exact Kd.S_nil _ _ _ _ _⟩, ⟨by repeat (first | (with_reducible first | exact HB.out | apply below_alloc | apply pw_below_drewN | apply below_drew1) | exact HB.out)⟩⟩
    case round =>
      clear H'
      try clear c1
      try clear c2
      try clear p2
      try clear c4
      try clear c4b0
      try clear c4b1
      try clear c5
      try clear c6
      obtain ⟨x8_1, x9_1, rfl, HA, HK1, HO_7, HO_8, HB⟩ := hrel
      cases gk with
      | zero => exact absurd HA.out (by simp [torrentref4_Runs.l0])
      | succ k1 =>
        have H := HA.out
        clear HA
        simp only [torrentref4_Runs.l0] at H
        by_cases c7 : x9_1 < a0
        · rw [if_pos c7] at H
          have c7b0 : decide (x9_1 < a0) = true := decide_eq_true c7
          clear c7
          have HC8 := Aside0.mk H
          clear H
          go_upto_region 9 with (fail)
          go_cut [39] (fun v39 wc => ∃ (kq : Nat) (x39_7 : Bool), v39 = .bool x39_7 ∧ Aside0 (torrentref4_Runs.j1 kq a0 t228 x8_1 x9_1 x39_7 = some (r1, r2)) ∧ Aside0 (kq ≤ k1) ∧ Aside0 (Kd.R Kd.bool 4 wc w.heap.size (fun _ => True) v229 t228) ∧ Aside0 (Kd.R k59 59 wc w.heap.size (fun _ => True) u8 x8_1) ∧ Aside0 (Below w.heap.size w wc))
          case first =>
            have H := HC8.out
            clear HC8
            by_cases c9 : 0 ≤ x9_1
            · rw [if_pos c9] at H
              have c9b0 : decide (0 ≤ x9_1) = true := decide_eq_true c9
              clear c9
              (first | rw [c9b0] | (simp only [i64_w, i32_w]; rw [c9b0]) | skip)
              by_cases c10 : x9_1 < (t228.length : Int)
              · rw [if_pos c10] at H
                have c10b0 : decide (x9_1 < (t228.length : Int)) = true := decide_eq_true c10
                clear c10
                obtain ⟨bq11, hbq11⟩ : ∃ b_ : Bool, b_ = (rdOf false t228 x9_1) := ⟨_, rfl⟩
                replace H : (if bq11 = true then (if x9_1 = 0 then (torrentref4_Runs.j1 k1 a0 t228 x8_1 x9_1 true) else (if 0 ≤ (wrap64 (x9_1 - 1)) then (if (wrap64 (x9_1 - 1)) < (t228.length : Int) then (torrentref4_Runs.j1 k1 a0 t228 x8_1 x9_1 (!(rdOf false t228 (wrap64 (x9_1 - 1))))) else (none)) else (none))) else (torrentref4_Runs.j1 k1 a0 t228 x8_1 x9_1 false)) = some (r1, r2) := by rw [← hbq11] at H; exact H
                have Nbq11 := Aside0.mk hbq11
                clear hbq11
                by_cases c12 : bq11 = true
                · subst c12
                  have H1 : (if x9_1 = 0 then (torrentref4_Runs.j1 k1 a0 t228 x8_1 x9_1 true) else (if 0 ≤ (wrap64 (x9_1 - 1)) then (if (wrap64 (x9_1 - 1)) < (t228.length : Int) then (torrentref4_Runs.j1 k1 a0 t228 x8_1 x9_1 (!(rdOf false t228 (wrap64 (x9_1 - 1))))) else (none)) else (none))) = some (r1, r2) := by rw [if_pos rfl] at H; exact H
                  clear H
                  have H := H1
                  clear H1
                  by_cases c13 : x9_1 = 0
                  · rw [if_pos c13] at H
                    have c13b0 : (x9_1 == 0) = true := beq_iff_eq.mpr c13
                    have c13b1 : (x9_1 != 0) = false := bne_eq_false_iff_eq.mpr c13
                    clear c13
                    have H' := Aside0.mk H
                    clear H
                    obtain ⟨Ao14, co14, eo14⟩ := Kd.R_slice HO_7.out
                    subst eo14
                    have p231 : 0 ≤ (x9_1 : Int) := of_decide_eq_true (by first | (with_reducible assumption) | assumption)
                    have q231 : x9_1 < (t228.length : Int) := of_decide_eq_true (by first | (with_reducible assumption) | assumption)
                    obtain ⟨ad231, e231, hx231_0⟩ := Kd.at_bool (Kd.R_reads' HO_7.out).2.2 x9_1 p231 q231
                    (try rw [← Nbq11.out] at hx231_0)
                    cases e231
                    replace p231 := eq_true p231
                    replace q231 := eq_true q231
                    go_wp2
                    go_meet
                    case rel => exact ⟨_, (true), (by first | rfl | (simp; done) | (simp [*]; done)), H', ⟨by have := HK1.out; first | omega | exact Nat.le_refl _⟩, ⟨by (with_reducible repeat (first | apply Kd.R_alloc | apply Kd.R_drewN | apply Kd.R_drew)); exact HO_7.out⟩, ⟨by (with_reducible repeat (first | apply Kd.R_alloc | apply Kd.R_drewN | apply Kd.R_drew)); exact HO_8.out⟩, ⟨by repeat (first | (with_reducible first | exact HB.out | apply below_alloc | apply pw_below_drewN | apply below_drew1) | exact HB.out)⟩⟩
                  · rw [if_neg c13] at H
                    have c13b0 : (x9_1 == 0) = false := beq_eq_false_iff_ne.mpr c13
                    have c13b1 : (x9_1 != 0) = true := bne_iff_ne.mpr c13
                    obtain ⟨ji15, hji15⟩ : ∃ j_ : Int, (wrap64 (x9_1 - 1)) = j_ := ⟨_, rfl⟩
                    replace H : (if 0 ≤ (ji15) then (if (ji15) < (t228.length : Int) then (torrentref4_Runs.j1 k1 a0 t228 x8_1 x9_1 (!(rdOf false t228 (ji15)))) else (none)) else (none)) = some (r1, r2) := by first | (rw [hji15] at H; exact H) | (simp only [hji15] at H ⊢; exact H)
                    have hji15w : (IntKind.i64.wrap (x9_1 - 1)) = ji15 := (i64_w _).trans hji15
                    by_cases c16 : 0 ≤ (ji15)
                    · rw [if_pos c16] at H
                      have c16b0 : decide (0 ≤ (ji15)) = true := decide_eq_true c16
                      clear c16
                      by_cases c17 : (ji15) < (t228.length : Int)
                      · rw [if_pos c17] at H
                        have c17b0 : decide ((ji15) < (t228.length : Int)) = true := decide_eq_true c17
                        clear c17
                        have H' := Aside0.mk H
                        clear H
                        obtain ⟨Ao18, co18, eo18⟩ := Kd.R_slice HO_7.out
                        subst eo18
                        have p231 : 0 ≤ (x9_1 : Int) := of_decide_eq_true (by first | (with_reducible assumption) | assumption)
                        have q231 : x9_1 < (t228.length : Int) := of_decide_eq_true (by first | (with_reducible assumption) | assumption)
                        obtain ⟨ad231, e231, hx231_0⟩ := Kd.at_bool (Kd.R_reads' HO_7.out).2.2 x9_1 p231 q231
                        (try rw [← Nbq11.out] at hx231_0)
                        cases e231
                        replace p231 := eq_true p231
                        replace q231 := eq_true q231
                        have p232 : 0 ≤ ((ji15) : Int) := of_decide_eq_true (by first | (with_reducible assumption) | assumption)
                        have q232 : (ji15) < (t228.length : Int) := of_decide_eq_true (by first | (with_reducible assumption) | assumption)
                        obtain ⟨ad232, e232, hx232_0⟩ := Kd.at_bool (Kd.R_reads' HO_7.out).2.2 (ji15) p232 q232
                        (try rw [← Nbq11.out] at hx232_0)
                        obtain rfl : ad231 = ad232 := (by injection e232)
                        replace p232 := eq_true p232
                        replace q232 := eq_true q232
                        go_wp2
                        go_meet
                        case rel => exact ⟨_, (!(rdOf false t228 (ji15))), (by first | rfl | (simp; done) | (simp only [← hji15] <;> (first | rfl | simp)) | (simp [*]; done)), H', ⟨by have := HK1.out; first | omega | exact Nat.le_refl _⟩, ⟨by (with_reducible repeat (first | apply Kd.R_alloc | apply Kd.R_drewN | apply Kd.R_drew)); exact HO_7.out⟩, ⟨by (with_reducible repeat (first | apply Kd.R_alloc | apply Kd.R_drewN | apply Kd.R_drew)); exact HO_8.out⟩, ⟨by repeat (first | (with_reducible first | exact HB.out | apply below_alloc | apply pw_below_drewN | apply below_drew1) | exact HB.out)⟩⟩
                      · rw [if_neg c17] at H
                        exact absurd H (by simp)
                    · rw [if_neg c16] at H
                      exact absurd H (by simp)
                · replace c12 := Bool.eq_false_iff.mpr c12
                  subst c12
                  have H1 : (torrentref4_Runs.j1 k1 a0 t228 x8_1 x9_1 false) = some (r1, r2) := by rw [if_neg (show ¬ (false = true) by decide)] at H; exact H
                  clear H
                  have H := H1
                  clear H1
                  have H' := Aside0.mk H
                  clear H
                  obtain ⟨Ao19, co19, eo19⟩ := Kd.R_slice HO_7.out
                  subst eo19
                  have p231 : 0 ≤ (x9_1 : Int) := of_decide_eq_true (by first | (with_reducible assumption) | assumption)
                  have q231 : x9_1 < (t228.length : Int) := of_decide_eq_true (by first | (with_reducible assumption) | assumption)
                  obtain ⟨ad231, e231, hx231_0⟩ := Kd.at_bool (Kd.R_reads' HO_7.out).2.2 x9_1 p231 q231
                  (try rw [← Nbq11.out] at hx231_0)
                  cases e231
                  replace p231 := eq_true p231
                  replace q231 := eq_true q231
                  go_wp2
                  go_meet
                  case rel => exact ⟨_, (false), (by first | rfl | (simp; done) | (simp [*]; done)), H', ⟨by have := HK1.out; first | omega | exact Nat.le_refl _⟩, ⟨by (with_reducible repeat (first | apply Kd.R_alloc | apply Kd.R_drewN | apply Kd.R_drew)); exact HO_7.out⟩, ⟨by (with_reducible repeat (first | apply Kd.R_alloc | apply Kd.R_drewN | apply Kd.R_drew)); exact HO_8.out⟩, ⟨by repeat (first | (with_reducible first | exact HB.out | apply below_alloc | apply pw_below_drewN | apply below_drew1) | exact HB.out)⟩⟩
              · rw [if_neg c10] at H
                exact absurd H (by simp)
            · rw [if_neg c9] at H
              exact absurd H (by simp)
          case rest =>
            clear HC8
            try clear c1
            try clear q1
            try clear c2
            try clear p2
            try clear q2
            try clear hx2
            try clear c4
            try clear c4b0
            try clear c4b1
            try clear c5
            try clear c6
            try clear p6
            try clear c7
            try clear c7b0
            try clear c9
            try clear c9b0
            try clear c10
            try clear c10b0
            try clear q11
            try clear c12
            try clear c13
            try clear c13b0
            try clear c13b1
            try clear c16
            try clear c16b0
            try clear c17
            try clear c17b0
            try clear hx231_0
            try clear hx232_0
            try clear p2
            try clear p231
            try clear p232
            try clear q231
            try clear q232
            obtain ⟨kq, x39_7, rfl, HA, HJ7, HO_7, HO_8, HB⟩ := hcut
            cases kq with
            | zero => exact absurd HA.out (by simp [torrentref4_Runs.j1])
            | succ kj7 =>
              have H := HA.out
              clear HA
              simp only [torrentref4_Runs.j1] at H
              by_cases c20 : x39_7 = true
              · subst c20
                have H1 : (torrentref4_Runs.l1 kj7 a0 t228 x8_1 x9_1 x9_1) = some (r1, r2) := by rw [if_pos rfl] at H; exact H
                clear H
                have H := H1
                clear H1
                have H' := Aside0.mk H
                clear H
                go_wp2
                go_loopg [10] kj7 (fun kq v10 w' => ∃ (x10_3 : Int), v10 = .int .i64 x10_3 ∧ Aside0 (torrentref4_Runs.l1 kq a0 t228 x8_1 x9_1 x10_3 = some (r1, r2)) ∧ Aside0 (kq ≤ kj7) ∧ Aside0 (Kd.R Kd.bool 4 w' w.heap.size (fun _ => True) v229 t228) ∧ Aside0 (Kd.R k59 59 w' w.heap.size (fun _ => True) u8 x8_1) ∧ Aside0 (Below w.heap.size w w'))
                case atStart => exact ⟨(x9_1), (by first | rfl | (simp; done) | (simp [*]; done)), H', ⟨Nat.le_refl _⟩, ⟨by (with_reducible repeat (first | apply Kd.R_alloc | apply Kd.R_drewN | apply Kd.R_drew)); exact HO_7.out⟩, ⟨by (with_reducible repeat (first | apply Kd.R_alloc | apply Kd.R_drewN | apply Kd.R_drew)); exact HO_8.out⟩, ⟨by repeat (first | (with_reducible first | exact HB.out | apply below_alloc | apply pw_below_drewN | apply below_drew1) | exact HB.out)⟩⟩
                case round =>
                  clear H'
                  try clear c1
                  try clear q1
                  try clear c2
                  try clear p2
                  try clear q2
                  try clear hx2
                  try clear c4
                  try clear c4b0
                  try clear c4b1
                  try clear c5
                  try clear c6
                  try clear p6
                  try clear c7
                  try clear c7b0
                  try clear c9
                  try clear c9b0
                  try clear c10
                  try clear c10b0
                  try clear q11
                  try clear c12
                  try clear c13
                  try clear c13b0
                  try clear c13b1
                  try clear c16
                  try clear c16b0
                  try clear c17
                  try clear c17b0
                  try clear c20
                  try clear hx231_0
                  try clear hx232_0
                  try clear p2
                  try clear p231
                  try clear p232
                  try clear p6
                  try clear q1
                  try clear q11
                  try clear q2
                  try clear q231
                  try clear q232
                  obtain ⟨x10_3, rfl, HA, HK3, HO_7, HO_8, HB⟩ := hrel
                  cases gk with
                  | zero => exact absurd HA.out (by simp [torrentref4_Runs.l1])
                  | succ k3 =>
                    have H := HA.out
                    clear HA
                    simp only [torrentref4_Runs.l1] at H
                    by_cases c21 : x10_3 < a0
                    · rw [if_pos c21] at H
                      have c21b0 : decide (x10_3 < a0) = true := decide_eq_true c21
                      clear c21
                      by_cases c22 : 0 ≤ x10_3
                      · rw [if_pos c22] at H
                        have c22b0 : decide (0 ≤ x10_3) = true := decide_eq_true c22
                        clear c22
                        by_cases c23 : x10_3 < (t228.length : Int)
                        · rw [if_pos c23] at H
                          have c23b0 : decide (x10_3 < (t228.length : Int)) = true := decide_eq_true c23
                          clear c23
                          obtain ⟨bq24, hbq24⟩ : ∃ b_ : Bool, b_ = (rdOf false t228 x10_3) := ⟨_, rfl⟩
                          replace H : (if bq24 = true then (torrentref4_Runs.l1 k3 a0 t228 x8_1 x9_1 (wrap64 (x10_3 + 1))) else (if x8_1.length < 8796093022208 then (torrentref4_Runs.l0 k3 a0 t228 (x8_1 ++ [(⟨x9_1, wrap64 (x10_3 - x9_1)⟩ : S59)]) (wrap64 (x9_1 + 1))) else (none))) = some (r1, r2) := by rw [← hbq24] at H; exact H
                          have Nbq24 := Aside0.mk hbq24
                          clear hbq24
                          by_cases c25 : bq24 = true
                          · subst c25
                            have H1 : (torrentref4_Runs.l1 k3 a0 t228 x8_1 x9_1 (wrap64 (x10_3 + 1))) = some (r1, r2) := by rw [if_pos rfl] at H; exact H
                            clear H
                            have H := H1
                            clear H1
                            have H' := Aside0.mk H
                            clear H
                            obtain ⟨Ao26, co26, eo26⟩ := Kd.R_slice HO_7.out
                            subst eo26
                            have p233 : 0 ≤ (x10_3 : Int) := of_decide_eq_true (by first | (with_reducible assumption) | assumption)
                            have q233 : x10_3 < (t228.length : Int) := of_decide_eq_true (by first | (with_reducible assumption) | assumption)
                            obtain ⟨ad233, e233, hx233_0⟩ := Kd.at_bool (Kd.R_reads' HO_7.out).2.2 x10_3 p233 q233
                            (try rw [← Nbq24.out] at hx233_0)
                            cases e233
                            replace p233 := eq_true p233
                            replace q233 := eq_true q233
                            go_wp2
                            go_roundg k3
                            case measure => have := HK1.out; have := HJ7.out; have := HK3.out; omega
                            case rel => exact ⟨(wrap64 (x10_3 + 1)), (by first | rfl | (simp; done) | (simp [*]; done)), H', ⟨by have := HK1.out; have := HJ7.out; have := HK3.out; omega⟩, ⟨by (with_reducible repeat (first | apply Kd.R_alloc | apply Kd.R_drewN | apply Kd.R_drew)); exact HO_7.out⟩, ⟨by (with_reducible repeat (first | apply Kd.R_alloc | apply Kd.R_drewN | apply Kd.R_drew)); exact HO_8.out⟩, ⟨by repeat (first | (with_reducible first | exact HB.out | apply below_alloc | apply pw_below_drewN | apply below_drew1) | exact HB.out)⟩⟩
                          · replace c25 := Bool.eq_false_iff.mpr c25
                            subst c25
                            have H1 : (if x8_1.length < 8796093022208 then (torrentref4_Runs.l0 k3 a0 t228 (x8_1 ++ [(⟨x9_1, wrap64 (x10_3 - x9_1)⟩ : S59)]) (wrap64 (x9_1 + 1))) else (none)) = some (r1, r2) := by rw [if_neg (show ¬ (false = true) by decide)] at H; exact H
                            clear H
                            have H := H1
                            clear H1
                            by_cases c27 : x8_1.length < 8796093022208
                            · rw [if_pos c27] at H
                              have LMc27 := Aside0.mk c27
                              clear c27
                              obtain ⟨y234, hy234⟩ : ∃ y_ : List (S59), y_ = (x8_1 ++ [(⟨x9_1, wrap64 (x10_3 - x9_1)⟩ : S59)]) := ⟨_, rfl⟩
                              replace H : (torrentref4_Runs.l0 k3 a0 t228 y234 (wrap64 (x9_1 + 1))) = some (r1, r2) := by first | (rw [hy234]; with_reducible exact H) | (have H2_ := (Option.bind_some _ _).symm.trans H; rw [hy234]; with_reducible exact H2_) | (have H2_ := (Option.bind_some _ _).symm.trans H; with_reducible exact H2_) | with_reducible exact H | (rw [hy234]; exact H) | exact H
                              have Ny234 := Aside0.mk hy234
                              clear hy234
                              have H' := Aside0.mk H
                              clear H
                              obtain ⟨Ao28, co28, eo28⟩ := Kd.R_slice HO_7.out
                              subst eo28
                              have p233 : 0 ≤ (x10_3 : Int) := of_decide_eq_true (by first | (with_reducible assumption) | assumption)
                              have q233 : x10_3 < (t228.length : Int) := of_decide_eq_true (by first | (with_reducible assumption) | assumption)
                              obtain ⟨ad233, e233, hx233_0⟩ := Kd.at_bool (Kd.R_reads' HO_7.out).2.2 x10_3 p233 q233
                              (try rw [← Nbq24.out] at hx233_0)
                              cases e233
                              replace p233 := eq_true p233
                              replace q233 := eq_true q233
                              go_wp2_with (first | ((with_reducible refine gate_builtin (b := .append) (xs := #[.tmp 52, .tmp 58]) rfl ?_); at_builtin; refine Kd.R_append k59 (w0 := w) w.heap.size rfl (.tmp 52) (.tmp 58) 42 59 (.agg #[(.int .i64 0), (.int .i64 0)]) 16 rfl Try.underlying42 info59 rfl (by decide) (by omega) u8 x8_1 (⟨x9_1, wrap64 (x10_3 - x9_1)⟩ : S59) [.int .i64 x9_1, .int .i64 (wrap64 (x10_3 - x9_1))] (fun _ => True) (fun _ => False) rfl rfl ?aP (fun _ hk => hk.elim) ?aF ?aO ?aB ?aS ?aL ?_; (case aP => exact k59_mkM _ _ _ (⟨x9_1, wrap64 (x10_3 - x9_1)⟩ : S59)); (case aB => exact (by repeat (first | (with_reducible first | exact HB.out | apply below_alloc | apply pw_below_drewN | apply below_drew1) | exact HB.out))); (case aF => exact (fun _ _ => trivial)); (case aO => exact (by (with_reducible repeat (first | apply Kd.R_alloc | apply Kd.R_drewN | apply Kd.R_drew)); exact HO_8.out)); (case aS => exact (below_size (by repeat (first | (with_reducible first | exact HB.out | apply below_alloc | apply pw_below_drewN | apply below_drew1) | exact HB.out)))); (case aL => have := LMc27.out; omega); intro v235 w29 ho hb hg hat; rw [← Ny234.out] at ho; have n0_ := Aside0.mk (Kd.R_over' (by (with_reducible repeat (first | apply Kd.R_alloc | apply Kd.R_drewN | apply Kd.R_drew)); exact HO_7.out) (Kd.R_typed (by (with_reducible repeat (first | apply Kd.R_alloc | apply Kd.R_drewN | apply Kd.R_drew)); exact HO_8.out)) (by decide) hg); have n1_ := Aside0.mk (hb); have n2_ := Aside0.mk (ho); clear HO_7; clear HB; clear HO_8; have HO_7 := n0_; have HB := n1_; have HO236 := n2_; clear n0_ n1_ n2_; clear ho hb hg hat))
                              go_roundg k3
                              case measure => have := HK1.out; have := HJ7.out; have := HK3.out; omega
                              case rel => exact ⟨(y234), (wrap64 (x9_1 + 1)), (by first | rfl | (simp; done) | (simp [*]; done)), H', ⟨by have := HK1.out; have := HJ7.out; have := HK3.out; omega⟩, ⟨by (with_reducible repeat (first | apply Kd.R_alloc | apply Kd.R_drewN | apply Kd.R_drew)); exact HO_7.out⟩, ⟨by (with_reducible repeat (first | apply Kd.R_alloc | apply Kd.R_drewN | apply Kd.R_drew)); exact HO236.out⟩, ⟨by repeat (first | (with_reducible first | exact HB.out | apply below_alloc | apply pw_below_drewN | apply below_drew1) | exact HB.out)⟩⟩
                            · rw [if_neg c27] at H
                              exact absurd H (by simp)
                        · rw [if_neg c23] at H
                          exact absurd H (by simp)
                      · rw [if_neg c22] at H
                        exact absurd H (by simp)
                    · rw [if_neg c21] at H
                      have c21b0 : decide (x10_3 < a0) = false := decide_eq_false c21
                      clear c21
                      by_cases c30 : x8_1.length < 8796093022208
                      · rw [if_pos c30] at H
                        have LMc30 := Aside0.mk c30
                        clear c30
                        obtain ⟨y237, hy237⟩ : ∃ y_ : List (S59), y_ = (x8_1 ++ [(⟨x9_1, wrap64 (x10_3 - x9_1)⟩ : S59)]) := ⟨_, rfl⟩
                        replace H : (torrentref4_Runs.l0 k3 a0 t228 y237 (wrap64 (x9_1 + 1))) = some (r1, r2) := by first | (rw [hy237]; with_reducible exact H) | (have H2_ := (Option.bind_some _ _).symm.trans H; rw [hy237]; with_reducible exact H2_) | (have H2_ := (Option.bind_some _ _).symm.trans H; with_reducible exact H2_) | with_reducible exact H | (rw [hy237]; exact H) | exact H
                        have Ny237 := Aside0.mk hy237
                        clear hy237
                        have H' := Aside0.mk H
                        clear H
                        go_wp2_with (first | ((with_reducible refine gate_builtin (b := .append) (xs := #[.tmp 52, .tmp 58]) rfl ?_); at_builtin; refine Kd.R_append k59 (w0 := w) w.heap.size rfl (.tmp 52) (.tmp 58) 42 59 (.agg #[(.int .i64 0), (.int .i64 0)]) 16 rfl Try.underlying42 info59 rfl (by decide) (by omega) u8 x8_1 (⟨x9_1, wrap64 (x10_3 - x9_1)⟩ : S59) [.int .i64 x9_1, .int .i64 (wrap64 (x10_3 - x9_1))] (fun _ => True) (fun _ => False) rfl rfl ?aP (fun _ hk => hk.elim) ?aF ?aO ?aB ?aS ?aL ?_; (case aP => exact k59_mkM _ _ _ (⟨x9_1, wrap64 (x10_3 - x9_1)⟩ : S59)); (case aB => exact (by repeat (first | (with_reducible first | exact HB.out | apply below_alloc | apply pw_below_drewN | apply below_drew1) | exact HB.out))); (case aF => exact (fun _ _ => trivial)); (case aO => exact (by (with_reducible repeat (first | apply Kd.R_alloc | apply Kd.R_drewN | apply Kd.R_drew)); exact HO_8.out)); (case aS => exact (below_size (by repeat (first | (with_reducible first | exact HB.out | apply below_alloc | apply pw_below_drewN | apply below_drew1) | exact HB.out)))); (case aL => have := LMc30.out; omega); intro v238 w31 ho hb hg hat; rw [← Ny237.out] at ho; have n0_ := Aside0.mk (Kd.R_over' (by (with_reducible repeat (first | apply Kd.R_alloc | apply Kd.R_drewN | apply Kd.R_drew)); exact HO_7.out) (Kd.R_typed (by (with_reducible repeat (first | apply Kd.R_alloc | apply Kd.R_drewN | apply Kd.R_drew)); exact HO_8.out)) (by decide) hg); have n1_ := Aside0.mk (hb); have n2_ := Aside0.mk (ho); clear HO_7; clear HB; clear HO_8; have HO_7 := n0_; have HB := n1_; have HO239 := n2_; clear n0_ n1_ n2_; clear ho hb hg hat))
                        go_roundg k3
                        case measure => have := HK1.out; have := HJ7.out; have := HK3.out; omega
                        case rel => exact ⟨(y237), (wrap64 (x9_1 + 1)), (by first | rfl | (simp; done) | (simp [*]; done)), H', ⟨by have := HK1.out; have := HJ7.out; have := HK3.out; omega⟩, ⟨by (with_reducible repeat (first | apply Kd.R_alloc | apply Kd.R_drewN | apply Kd.R_drew)); exact HO_7.out⟩, ⟨by (with_reducible repeat (first | apply Kd.R_alloc | apply Kd.R_drewN | apply Kd.R_drew)); exact HO239.out⟩, ⟨by repeat (first | (with_reducible first | exact HB.out | apply below_alloc | apply pw_below_drewN | apply below_drew1) | exact HB.out)⟩⟩
                      · rw [if_neg c30] at H
                        exact absurd H (by simp)
              · replace c20 := Bool.eq_false_iff.mpr c20
                subst c20
                have H1 : (torrentref4_Runs.l0 kj7 a0 t228 x8_1 (wrap64 (x9_1 + 1))) = some (r1, r2) := by rw [if_neg (show ¬ (false = true) by decide)] at H; exact H
                clear H
                have H := H1
                clear H1
                have H' := Aside0.mk H
                clear H
                go_wp2
                go_roundg kj7
                case measure => have := HK1.out; have := HJ7.out; omega
                case rel => exact ⟨(x8_1), (wrap64 (x9_1 + 1)), (by first | rfl | (simp; done) | (simp [*]; done)), H', ⟨by have := HK1.out; have := HJ7.out; omega⟩, ⟨by (with_reducible repeat (first | apply Kd.R_alloc | apply Kd.R_drewN | apply Kd.R_drew)); exact HO_7.out⟩, ⟨by (with_reducible repeat (first | apply Kd.R_alloc | apply Kd.R_drewN | apply Kd.R_drew)); exact HO_8.out⟩, ⟨by repeat (first | (with_reducible first | exact HB.out | apply below_alloc | apply pw_below_drewN | apply below_drew1) | exact HB.out)⟩⟩
        · rw [if_neg c7] at H
          have c7b0 : decide (x9_1 < a0) = false := decide_eq_false c7
          clear c7
          simp only [Option.some.injEq, Prod.mk.injEq] at H
          obtain ⟨rfl, rfl⟩ := H
          go_wp2
          go_ret2
          exact ⟨_, by first | rfl | (simp [errW_none, errW_some] <;> rfl) | (simp [*, errW_none, errW_some] <;> rfl), by (with_reducible repeat (first | apply Kd.R_alloc | apply Kd.R_drewN | apply Kd.R_drew)); exact HO_8.out, by repeat (first | (with_reducible first | exact HB.out | apply below_alloc | apply pw_below_drewN | apply below_drew1) | exact HB.out)⟩
  · rw [if_neg c4] at H
    have c4b0 : (t227 == 0) = false := beq_eq_false_iff_ne.mpr c4
    have c4b1 : (t227 != 0) = true := bne_iff_ne.mpr c4
    simp only [Option.some.injEq, Prod.mk.injEq] at H
    obtain ⟨rfl, rfl⟩ := H
    go_enter Try.func29, Try.ntmps29
    go_wp2_with (first | ((with_reducible refine gate_callee (f := 59) rfl ?_); refine goesL_ (some 13) rfl rfl Try.func59 (by kernel_rfl) rfl #[.int .i64 a0, .slice A1 l1.length c1] rfl (by (try simp only [List.map_toArray, List.map_cons, List.map_nil]); first | done | rfl | (simp only [List.length_drop, List.length_take]; rfl)) ?_; (with_reducible refine (torrentref4_Check.calls k a0 _ _ l1 t227 _ ?side1 ?side2 A3.out).mono ?_); (case side1 => repeat (first | exact HR1.out | (with_reducible refine Kd.C_alloc ?_ _) | (with_reducible refine Kd.C_drewN ?_ _) | (with_reducible refine Kd.C_drew ?_))); (case side2 => exact HC1.out); rintro e w' ⟨rfl, ⟨nd, rfl⟩⟩; refine ⟨_, rfl, ?_⟩))
    go_ret2
    exact ⟨_, by first | rfl | (simp [errW_none, errW_some] <;> rfl) | (simp [*, errW_none, errW_some] <;> rfl), by first | exact Kd.R_nil _ _ _ _ _ | exact Kd.N_nil _ _ _ _ _ | exact Kd.V_nil _ _ _ _ _ | exact Kd.Q_nil _ _ _ _ _ | exact Kd.S_nil _ _ _ _ _, by repeat (first | (with_reducible first | exact HB.out | apply below_alloc | apply pw_below_drewN | apply below_drew1) | exact HB.out)⟩

end Go.Proofs.Ytoohpdamndgdlaa.P

-- Made by a program of this session (the print of the kit over a neighbour), for this claim.
namespace Go.Proofs.Ytoohpdamndgdlaa.P
open Go.RowKit Go.Proofs.YtoohpdamndgdlaaW.PrintWords Go.Proofs.YtoohpdamndgdlaaW.PrintLast Go.Proofs.YtoohpdamndgdlaaW.PrintMore
attribute [local go_sem] max2_int min2_int max_two min_two max_three min_three max_four min_four   -- for this text's walks alone
set_option linter.unusedVariables false
set_option linter.unusedSimpArgs false

theorem eqA59 (d : Nat) (w : World) (x0 y0 : Int) (x1 y1 : Int) :
    (Op.equalIn (d + 2) 59 (.agg #[.int .i64 x0, .int .i64 x1]) (.agg #[.int .i64 y0, .int .i64 y1])).run Try.prog w = .ok (x0 == y0 && (x1 == y1)) w := by
  refine eqA_of Try.underlying59 (by kernel_rfl) ?_
  refine eqf_cons (by rfl) (by go_simp; rfl) (by go_simp; rfl) (by go_simp) ?_
  exact eqf_last (by rfl) (by go_simp; rfl) (by go_simp; rfl) (by go_simp)
end Go.Proofs.Ytoohpdamndgdlaa.P

-- Made by a program of this session (the print of the kit over a neighbour), for this claim.
namespace Go.Proofs.Ytoohpdamndgdlaa.P
open Go.RowKit Go.Proofs.YtoohpdamndgdlaaW.PrintWords Go.Proofs.YtoohpdamndgdlaaW.PrintLast Go.Proofs.YtoohpdamndgdlaaW.PrintMore
attribute [local go_sem] max2_int min2_int max_two min_two max_three min_three max_four min_four   -- for this text's walks alone
set_option linter.unusedVariables false
set_option linter.unusedSimpArgs false

attribute [local go_sem high] eqA59
/-! ### torrentlaw4_sameRuns: function 30 -/
def torrentlaw4_sameRuns.l0 : Nat → List (S59) → List (S59) → Int → Option (Bool)
  | 0, _, _, _ => none
  | k + 1, x0, x1, x5 => if x5 < (x0.length : Int) then (if 0 ≤ x5 then (if x5 < (x1.length : Int) then (if (!(((rd_T59 x0 x5).f0) == ((rd_T59 x1 x5).f0)) || (!(((rd_T59 x0 x5).f1) == ((rd_T59 x1 x5).f1)))) = true then (some false) else (torrentlaw4_sameRuns.l0 k x0 x1 (wrap64 (x5 + 1)))) else (none)) else (none)) else (some true)
def torrentlaw4_sameRuns.f (k : Nat) (l0 : List (S59)) (l1 : List (S59)) : Option (Bool) := if (l0.length : Int) = (l1.length : Int) then (torrentlaw4_sameRuns.l0 k l0 l1 0) else (some false)
theorem torrentlaw4_sameRuns.mono_l : ∀ k, (∀ y0 y1 y2, LeO (torrentlaw4_sameRuns.l0 k y0 y1 y2) (torrentlaw4_sameRuns.l0 (k + 1) y0 y1 y2))
  | 0 => fun _ _ _ r h => by simp [torrentlaw4_sameRuns.l0] at h
  | k + 1 => by
    have ih0 := torrentlaw4_sameRuns.mono_l k
    · intro y0 y1 y2
      unfold torrentlaw4_sameRuns.l0
      repeat' first
      | (with_reducible exact ih0 _ _ _)
      | (with_reducible exact LeO.refl _)
      | (with_reducible exact LeO.none _)
      | (with_reducible refine LeO.ite ?_ ?_)
      | (with_reducible refine LeO.bind ?_ (fun _ => ?_))
      | exact ih0 _ _ _
      | exact LeO.none _
      | refine LeO.ite ?_ ?_
      | refine LeO.bind ?_ (fun _ => ?_)
theorem torrentlaw4_sameRuns.mono : ∀ a0 a1 k, LeO (torrentlaw4_sameRuns.f k a0 a1) (torrentlaw4_sameRuns.f (k + 1) a0 a1) := by
  intro a0 a1 k
  have ih0 := torrentlaw4_sameRuns.mono_l k
  unfold torrentlaw4_sameRuns.f
  repeat' first
      | (with_reducible exact ih0 _ _ _)
      | (with_reducible exact LeO.refl _)
      | (with_reducible exact LeO.none _)
      | (with_reducible refine LeO.ite ?_ ?_)
      | (with_reducible refine LeO.bind ?_ (fun _ => ?_))
      | exact ih0 _ _ _
      | exact LeO.none _
      | refine LeO.ite ?_ ?_
      | refine LeO.bind ?_ (fun _ => ?_)
set_option maxHeartbeats 8000000 in
set_option maxRecDepth 100000 in
theorem torrentlaw4_sameRuns.calls (k : Nat) (A0 : Option Addr) (c0 : Nat) (l0 : List (S59)) (A1 : Option Addr) (c1 : Nat) (l1 : List (S59)) (r : Bool) (w : World) (hr0 : Kd.C k59 w A0 l0.length l0) (hc0 : l0.length ≤ c0) (hr1 : Kd.C k59 w A1 l1.length l1) (hc1 : l1.length ≤ c1) (h : torrentlaw4_sameRuns.f k l0 l1 = some r) :
    Calls Try.prog 30 #[.slice A0 l0.length c0, .slice A1 l1.length c1] w fun e w' => e = .returned (.bool r) ∧ Drawn0 w w' := by
  have hu59 := Try.underlying59
  have HR0 := Aside0.mk hr0
  have HC0 := Aside0.mk hc0
  clear hr0 hc0
  have HR1 := Aside0.mk hr1
  have HC1 := Aside0.mk hc1
  clear hr1 hc1
  have H : (if (l0.length : Int) = (l1.length : Int) then (torrentlaw4_sameRuns.l0 k l0 l1 0) else (some false)) = some r := h
  clear h
  by_cases c3 : (l0.length : Int) = (l1.length : Int)
  · rw [if_pos c3] at H
    have c3b0 : ((l0.length : Int) == (l1.length : Int)) = true := beq_iff_eq.mpr c3
    have c3b1 : ((l0.length : Int) != (l1.length : Int)) = false := bne_eq_false_iff_eq.mpr c3
    have c3b2 : (l0.length == l1.length) = true := by first | simpa using c3 | (simp at c3 ⊢; omega)
    clear c3
    have H' := Aside0.mk H
    clear H
    go_enter Try.func30, Try.ntmps30
    go_wp2
    repeat (go_quiet (fail); try go_wp2)
    go_loopg [5] k (fun kq v5 w' => ∃ (x5_1 : Int), v5 = .int .i64 x5_1 ∧ Aside0 (torrentlaw4_sameRuns.l0 kq l0 l1 x5_1 = some r) ∧ Aside0 (kq ≤ k) ∧ Drawn0 w w')
    case atStart => exact ⟨(0), (by first | rfl | (simp; done) | (simp [*]; done)), H', ⟨Nat.le_refl _⟩, by repeat (first | exact Drawn0.refl _ | apply Drawn0.step)⟩
    case round =>
      clear H'
      try clear c1
      try clear p2
      try clear c3
      try clear c3b0
      try clear c3b1
      try clear c3b2
      obtain ⟨x5_1, rfl, HA, HK1, ⟨m1, rfl⟩⟩ := hrel
      cases gk with
      | zero => exact absurd HA.out (by simp [torrentlaw4_sameRuns.l0])
      | succ k1 =>
        have H := HA.out
        clear HA
        simp only [torrentlaw4_sameRuns.l0] at H
        by_cases c4 : x5_1 < (l0.length : Int)
        · rw [if_pos c4] at H
          have c4b0 : decide (x5_1 < (l0.length : Int)) = true := decide_eq_true c4
          clear c4
          by_cases c5 : 0 ≤ x5_1
          · rw [if_pos c5] at H
            have c5b0 : decide (0 ≤ x5_1) = true := decide_eq_true c5
            clear c5
            by_cases c6 : x5_1 < (l1.length : Int)
            · rw [if_pos c6] at H
              have c6b0 : decide (x5_1 < (l1.length : Int)) = true := decide_eq_true c6
              clear c6
              by_cases c7 : (!(((rd_T59 l0 x5_1).f0) == ((rd_T59 l1 x5_1).f0)) || (!(((rd_T59 l0 x5_1).f1) == ((rd_T59 l1 x5_1).f1)))) = true
              · rw [if_pos c7] at H
                have c7b0 : (!(((rd_T59 l0 x5_1).f0) == ((rd_T59 l1 x5_1).f0)) || (!(((rd_T59 l0 x5_1).f1) == ((rd_T59 l1 x5_1).f1)))) = true := c7
                clear c7
                obtain rfl := Option.some.inj H
                have p240 : 0 ≤ (x5_1 : Int) := of_decide_eq_true (by first | (with_reducible assumption) | assumption)
                have q240 : x5_1 < (l0.length : Int) := of_decide_eq_true (by first | (with_reducible assumption) | assumption)
                obtain ⟨ad240, e240, hx240_0, hx240_1⟩ := at_T59 HR0.out x5_1 p240 q240
                cases e240
                replace p240 := eq_true p240
                replace q240 := eq_true q240
                have p241 : 0 ≤ (x5_1 : Int) := of_decide_eq_true (by first | (with_reducible assumption) | assumption)
                have q241 : x5_1 < (l1.length : Int) := of_decide_eq_true (by first | (with_reducible assumption) | assumption)
                obtain ⟨ad241, e241, hx241_0, hx241_1⟩ := at_T59 HR1.out x5_1 p241 q241
                cases e241
                replace p241 := eq_true p241
                replace q241 := eq_true q241
                go_wp2
                repeat (go_quiet (fail); try go_wp2)
                go_ret
                exact ⟨by first | rfl | (simp; done) | (simp [*]; done), by repeat (first | exact Drawn0.refl _ | apply Drawn0.step)⟩
              · rw [if_neg c7] at H
                have c7b0 : (!(((rd_T59 l0 x5_1).f0) == ((rd_T59 l1 x5_1).f0)) || (!(((rd_T59 l0 x5_1).f1) == ((rd_T59 l1 x5_1).f1)))) = false := by simpa using c7
                clear c7
                have H' := Aside0.mk H
                clear H
                have p240 : 0 ≤ (x5_1 : Int) := of_decide_eq_true (by first | (with_reducible assumption) | assumption)
                have q240 : x5_1 < (l0.length : Int) := of_decide_eq_true (by first | (with_reducible assumption) | assumption)
                obtain ⟨ad240, e240, hx240_0, hx240_1⟩ := at_T59 HR0.out x5_1 p240 q240
                cases e240
                replace p240 := eq_true p240
                replace q240 := eq_true q240
                have p241 : 0 ≤ (x5_1 : Int) := of_decide_eq_true (by first | (with_reducible assumption) | assumption)
                have q241 : x5_1 < (l1.length : Int) := of_decide_eq_true (by first | (with_reducible assumption) | assumption)
                obtain ⟨ad241, e241, hx241_0, hx241_1⟩ := at_T59 HR1.out x5_1 p241 q241
                cases e241
                replace p241 := eq_true p241
                replace q241 := eq_true q241
                go_wp2
                repeat (go_quiet (fail); try go_wp2)
                go_roundg k1
                case measure => have := HK1.out; omega
                case rel => exact ⟨(wrap64 (x5_1 + 1)), (by first | rfl | (simp; done) | (simp [*]; done)), H', ⟨by have := HK1.out; omega⟩, by repeat (first | exact Drawn0.refl _ | apply Drawn0.step)⟩
            · rw [if_neg c6] at H
              exact absurd H (by simp)
          · rw [if_neg c5] at H
            exact absurd H (by simp)
        · rw [if_neg c4] at H
          have c4b0 : decide (x5_1 < (l0.length : Int)) = false := decide_eq_false c4
          clear c4
          obtain rfl := Option.some.inj H
          go_wp2
          repeat (go_quiet (fail); try go_wp2)
          go_ret
          exact ⟨by first | rfl | (simp; done) | (simp [*]; done), by repeat (first | exact Drawn0.refl _ | apply Drawn0.step)⟩
  · rw [if_neg c3] at H
    have c3b0 : ((l0.length : Int) == (l1.length : Int)) = false := beq_eq_false_iff_ne.mpr c3
    have c3b1 : ((l0.length : Int) != (l1.length : Int)) = true := bne_iff_ne.mpr c3
    have c3b2 : (l0.length == l1.length) = false := by first | simpa using c3 | (simp at c3 ⊢; omega)
    obtain rfl := Option.some.inj H
    go_enter Try.func30, Try.ntmps30
    go_wp2
    repeat (go_quiet (fail); try go_wp2)
    go_ret
    exact ⟨by first | rfl | (simp; done) | (simp [*]; done), by repeat (first | exact Drawn0.refl _ | apply Drawn0.step)⟩

end Go.Proofs.Ytoohpdamndgdlaa.P

/- Runs, the program's and the reference's, in plain words: the same answers. Condition: bytes. -/
set_option linter.unusedVariables false
set_option linter.unusedSimpArgs false
namespace Go.Proofs.Ytoohpdamndgdlaa.B
open Go.RowKit Go.Proofs.Ytoohpdamndgdlaa.P Go.Proofs.YtoohpdamndgdlaaW.PrintWords Go.Proofs.YtoohpdamndgdlaaW.PrintLast Go.Proofs.YtoohpdamndgdlaaW.PrintMore
/-- How many of the next d bits are one, up to the first that is none. -/
def lenR (g : Nat → Bool) : Nat → Nat → Nat
  | 0, _ => 0
  | d + 1, a => if g a then lenR g d (a + 1) + 1 else 0
theorem lenR_is (g : Nat → Bool) : ∀ (d a b : Nat), a ≤ b → b ≤ a + d → (∀ q, a ≤ q → q < b → g q = true) → (b < a + d → g b = false) → lenR g d a = b - a
  | 0, a, b, h1, h2, _, _ => by
    simp only [lenR]
    omega
  | d + 1, a, b, h1, h2, h3, h4 => by
    simp only [lenR]
    by_cases hab : a = b
    · subst hab
      rw [h4 (by omega)]
      simp
    · rw [h3 a (Nat.le_refl _) (by omega), if_pos rfl, lenR_is g d (a + 1) b (by omega) (by omega) (fun q hq hb => h3 q (by omega) hb) (fun hb => h4 (by omega))]
      omega
theorem lenR_le (g : Nat → Bool) : ∀ (d a : Nat), lenR g d a ≤ d
  | 0, a => by simp [lenR]
  | d + 1, a => by
    have := lenR_le g d (a + 1)
    simp only [lenR]
    split <;> omega
/-- The runs that begin ahead of place i, each whole. -/
def rr (g : Nat → Bool) (m : Nat) : Nat → List S59
  | 0 => []
  | i + 1 => if g i = true ∧ (i = 0 ∨ g (i - 1) = false) then rr g m i ++ [⟨(i : Int), (lenR g (m - i) i : Nat)⟩] else rr g m i
theorem rr_length (g : Nat → Bool) (m : Nat) : ∀ i, (rr g m i).length ≤ i
  | 0 => by simp [rr]
  | i + 1 => by
    have := rr_length g m i
    simp only [rr]
    split
    · rw [List.length_append]; simp; omega
    · omega
theorem refRuns_l1 (m : Nat) (hm : m ≤ 65536) (l : List Int) (hl : l.length = (m + 7) / 8) (S : List S59) (hS : S.length ≤ 65536) (i : Nat) (hi : i < m) (R : List S59 × Int) : ∀ (d j : Nat), j + d = m → i ≤ j →
    Ev (fun k => torrentref4_Runs.l0 k (m : Int) (bitsL l (8 * l.length)) (S ++ [⟨(i : Int), ((j + lenR (gbit l) d j - i : Nat) : Int)⟩]) ((i + 1 : Nat) : Int)) R →
    Ev (fun k => torrentref4_Runs.l1 k (m : Int) (bitsL l (8 * l.length)) S (i : Int) (j : Int)) R
  | 0, j, h, hj, hR => by
    refine Ev.step (fun k => ?_) hR
    simp only [torrentref4_Runs.l1]
    rw [if_neg (by omega), if_pos (by omega), inc i (by omega), w64 _ (by omega) (by omega)]
    simp only [lenR]
    rw [show ((j + 0 - i : Nat) : Int) = (j : Int) - i by omega]
  | d + 1, j, h, hj, hR => by
    cases hb : gbit l j with
    | true =>
      refine Ev.step (fun k => ?_) (refRuns_l1 m hm l hl S hS i hi R d (j + 1) (by omega) (by omega) ?_)
      · simp only [torrentref4_Runs.l1]
        rw [if_pos (by omega), if_pos (by omega), if_pos (by rw [bitsL_length]; omega), rdOf_nat, bitsL_at l _ j (by omega), hb, if_pos rfl, inc j (by omega)]
      · simp only [lenR, hb, if_true] at hR
        rw [show j + 1 + lenR (gbit l) d (j + 1) - i = j + (lenR (gbit l) d (j + 1) + 1) - i by omega]
        exact hR
    | false =>
      refine Ev.step (fun k => ?_) hR
      simp only [torrentref4_Runs.l1]
      rw [if_pos (by omega), if_pos (by omega), if_pos (by rw [bitsL_length]; omega), rdOf_nat, bitsL_at l _ j (by omega), hb, if_neg (by decide), if_pos (by omega), inc i (by omega), w64 _ (by omega) (by omega)]
      simp only [lenR, hb]
      rw [show ((j + (if false = true then lenR (gbit l) d (j + 1) + 1 else 0) - i : Nat) : Int) = (j : Int) - i by simp; omega]
theorem refRuns_l0 (m : Nat) (hm : m ≤ 65536) (l : List Int) (hl : l.length = (m + 7) / 8) : ∀ (d i : Nat), i + d = m → Ev (fun k => torrentref4_Runs.l0 k (m : Int) (bitsL l (8 * l.length)) (rr (gbit l) m i) (i : Int)) (rr (gbit l) m m, 0)
  | 0, i, h => by
    refine Ev.step (f := fun _ => some (rr (gbit l) m m, 0)) (fun k => ?_) (Ev.now _)
    simp only [torrentref4_Runs.l0]
    rw [if_neg (by omega), show i = m by omega]
  | d + 1, i, h => by
    have ih := refRuns_l0 m hm l hl d (i + 1) (by omega)
    have hS := rr_length (gbit l) m i
    have no : rr (gbit l) m (i + 1) = rr (gbit l) m i → Ev (fun k => torrentref4_Runs.j1 k (m : Int) (bitsL l (8 * l.length)) (rr (gbit l) m i) (i : Int) false) (rr (gbit l) m m, 0) := fun e => by
      rw [e] at ih
      refine Ev.step (fun k => ?_) ih
      simp only [torrentref4_Runs.j1]
      rw [if_neg (by decide), inc i (by omega)]
    have yes : rr (gbit l) m (i + 1) = rr (gbit l) m i ++ [⟨(i : Int), (lenR (gbit l) (m - i) i : Nat)⟩] → Ev (fun k => torrentref4_Runs.j1 k (m : Int) (bitsL l (8 * l.length)) (rr (gbit l) m i) (i : Int) true) (rr (gbit l) m m, 0) := fun e => by
      rw [e] at ih
      refine Ev.step (fun k => ?_) (refRuns_l1 m hm l hl (rr (gbit l) m i) (by omega) i (by omega) (rr (gbit l) m m, 0) (m - i) i (by omega) (Nat.le_refl _) ?_)
      · simp only [torrentref4_Runs.j1]
        rw [if_pos trivial]
      · rw [show i + lenR (gbit l) (m - i) i - i = lenR (gbit l) (m - i) i by omega]
        exact ih
    cases hb : gbit l i with
    | false =>
      refine Ev.step (fun k => ?_) (no (by simp [rr, hb]))
      simp only [torrentref4_Runs.l0]
      rw [if_pos (by omega), if_pos (by omega), if_pos (by rw [bitsL_length]; omega), rdOf_nat, bitsL_at l _ i (by omega), hb, if_neg (by decide)]
    | true =>
      by_cases h0 : i = 0
      · refine Ev.step (fun k => ?_) (yes (by simp only [rr]; rw [if_pos ⟨hb, Or.inl h0⟩]))
        simp only [torrentref4_Runs.l0]
        rw [if_pos (by omega), if_pos (by omega), if_pos (by rw [bitsL_length]; omega), rdOf_nat, bitsL_at l _ i (by omega), hb, if_pos rfl, if_pos (by omega)]
      · have e1 : wrap64 ((i : Int) - 1) = ((i - 1 : Nat) : Int) := by rw [w64 _ (by omega) (by omega)]; omega
        have e2 : ∀ k, torrentref4_Runs.l0 (k + 1) (m : Int) (bitsL l (8 * l.length)) (rr (gbit l) m i) (i : Int) = torrentref4_Runs.j1 k (m : Int) (bitsL l (8 * l.length)) (rr (gbit l) m i) (i : Int) (!gbit l (i - 1)) := fun k => by
          simp only [torrentref4_Runs.l0]
          rw [if_pos (by omega), if_pos (by omega), if_pos (by rw [bitsL_length]; omega), rdOf_nat, bitsL_at l _ i (by omega), hb, if_pos rfl, if_neg (by omega), e1, if_pos (by omega), if_pos (by rw [bitsL_length]; omega), rdOf_nat, bitsL_at l _ (i - 1) (by omega)]
        cases hp : gbit l (i - 1) with
        | true =>
          exact Ev.step (fun k => by rw [e2, hp]; rfl) (no (by simp [rr, hb, h0, hp]))
        | false =>
          exact Ev.step (fun k => by rw [e2, hp]; rfl) (yes (by simp [rr, hb, hp]))

/-! ### the program's own -/
theorem rd59_last (S : List S59) (x : S59) : rd_T59 (S ++ [x]) ((S.length : Nat) : Int) = x := by
  unfold rd_T59
  rw [Int.toNat_natCast, List.getD_eq_getElem?_getD, List.getElem?_append_right (Nat.le_refl _)]
  simp
theorem set_last {α : Type} (S : List α) (x y : α) : (S ++ [x]).set S.length y = S ++ [y] := by
  rw [List.set_append_right _ _ (Nat.le_refl _)]
  simp
mutual
/-- Behind a place that is none: every run told is whole and none ends here. -/
theorem runs_a (m : Nat) (hm : m ≤ 65536) (l : List Int) (hx : IsB l) (hl : l.length = (m + 7) / 8) : ∀ (d i : Nat), i + d = m → (i = 0 ∨ gbit l (i - 1) = false) → (∀ S x, rr (gbit l) m i = S ++ [x] → ∃ p q : Nat, x = ⟨(p : Int), (q : Int)⟩ ∧ p + q < i) →
    Ev (fun k => bitset_Runs.l0 k (m : Int) l (rr (gbit l) m i) (i : Int)) (rr (gbit l) m m, 0)
  | 0, i, h, _, _ => by
    refine Ev.step (f := fun _ => some (rr (gbit l) m m, 0)) (fun k => ?_) (Ev.now _)
    simp only [bitset_Runs.l0]
    rw [if_neg (by omega), show i = m by omega]
  | d + 1, i, h, hp, hlast => by
    obtain ⟨g1, g2, g3⟩ := tests_in l i (by omega) (by omega)
    have hS := rr_length (gbit l) m i
    have e0 : ∀ k (T : List S59), bitset_Runs.l0 (k + 1) (m : Int) l T (i : Int) = _ := fun k T => by
      simp only [bitset_Runs.l0]
      rw [if_pos (by omega), if_pos g1, if_pos g2, if_pos g3, inc i (by omega)]
    have on : gbit l i = true → ¬ (Go.bits .and .u8 (rd l (wrap64 (Int.tdiv (i : Int) 8))) (shr .u8 128 (Int.tmod (i : Int) 8))) = 0 := fun hb hz => by
      rw [(get_mask l hx i (by omega)).1 hz] at hb
      cases hb
    have off := (get_mask l hx i (by omega)).2
    cases hb : gbit l i with
    | false =>
      have er : rr (gbit l) m (i + 1) = rr (gbit l) m i := by simp [rr, hb]
      have ih := runs_a m hm l hx hl d (i + 1) (by omega) (Or.inr (by simpa using hb)) (fun S x e => by
        rw [er] at e
        obtain ⟨p, q, h1, h2⟩ := hlast S x e
        exact ⟨p, q, h1, by omega⟩)
      rw [er] at ih
      exact Ev.step (fun k => by rw [e0, if_pos (off hb)]) ih
    | true =>
      have er : rr (gbit l) m (i + 1) = rr (gbit l) m i ++ [⟨(i : Int), (lenR (gbit l) (m - i) i : Nat)⟩] := by simp only [rr]; rw [if_pos ⟨hb, hp⟩]
      have ih := runs_b m hm l hx hl d (i + 1) (by omega) (rr (gbit l) m i) i (by omega) er (fun q h1 h2 => by rw [show q = i by omega]; exact hb)
      rw [show ((i + 1 - i : Nat) : Int) = 1 by omega] at ih
      refine Ev.step (fun k => ?_) ih
      rw [e0, if_neg (on hb)]
      rcases List.eq_nil_or_concat (rr (gbit l) m i) with hn | ⟨S, x, hn⟩
      · rw [hn, if_neg (by show ¬ wrap64 (((0 : Nat) : Int) - 1) ≥ 0; rw [w64 _ (by omega) (by omega)]; omega), if_pos (by simp)]
      · rw [List.concat_eq_append] at hn
        obtain ⟨p, q, h1, h2⟩ := hlast S x hn
        have hlen : (rr (gbit l) m i).length = S.length + 1 := by rw [hn]; simp
        have e1 : wrap64 (((rr (gbit l) m i).length : Int) - 1) = (S.length : Int) := by rw [w64 _ (by omega) (by omega)]; omega
        rw [e1, if_pos (by omega), if_pos (by omega), if_pos (by omega), hn, rd59_last, h1, if_neg (by show ¬ wrap64 ((p : Int) + q) = i; rw [w64 _ (by omega) (by omega)]; omega), if_pos (by simp; omega)]
/-- Behind a place that is one: the last run ends here. -/
theorem runs_b (m : Nat) (hm : m ≤ 65536) (l : List Int) (hx : IsB l) (hl : l.length = (m + 7) / 8) : ∀ (d i : Nat), i + d = m → ∀ (S : List S59) (a : Nat), a < i → rr (gbit l) m i = S ++ [⟨(a : Int), (lenR (gbit l) (m - a) a : Nat)⟩] → (∀ q, a ≤ q → q < i → gbit l q = true) →
    Ev (fun k => bitset_Runs.l0 k (m : Int) l (S ++ [⟨(a : Int), ((i - a : Nat) : Int)⟩]) (i : Int)) (rr (gbit l) m m, 0)
  | 0, i, h, S, a, ha, hr, hg => by
    refine Ev.step (f := fun _ => some (rr (gbit l) m m, 0)) (fun k => ?_) (Ev.now _)
    simp only [bitset_Runs.l0]
    obtain rfl : i = m := by omega
    rw [if_neg (by omega), hr, lenR_is (gbit l) (i - a) a i (by omega) (by omega) hg (fun h => by omega)]
  | d + 1, i, h, S, a, ha, hr, hg => by
    obtain ⟨g1, g2, g3⟩ := tests_in l i (by omega) (by omega)
    have hS := rr_length (gbit l) m i
    have hlen : (rr (gbit l) m i).length = S.length + 1 := by rw [hr]; simp
    have e0 : ∀ k (T : List S59), bitset_Runs.l0 (k + 1) (m : Int) l T (i : Int) = _ := fun k T => by
      simp only [bitset_Runs.l0]
      rw [if_pos (by omega), if_pos g1, if_pos g2, if_pos g3, inc i (by omega)]
    have on : gbit l i = true → ¬ (Go.bits .and .u8 (rd l (wrap64 (Int.tdiv (i : Int) 8))) (shr .u8 128 (Int.tmod (i : Int) 8))) = 0 := fun hb hz => by
      rw [(get_mask l hx i (by omega)).1 hz] at hb
      cases hb
    have off := (get_mask l hx i (by omega)).2
    cases hb : gbit l i with
    | false =>
      have er : rr (gbit l) m (i + 1) = rr (gbit l) m i := by simp [rr, hb]
      have el : lenR (gbit l) (m - a) a = i - a := lenR_is (gbit l) (m - a) a i (by omega) (by omega) hg (fun _ => hb)
      rw [el] at hr
      have ih := runs_a m hm l hx hl d (i + 1) (by omega) (Or.inr (by simpa using hb)) (fun T x e => by
        rw [er, hr] at e
        obtain ⟨_, e⟩ := List.append_inj' e rfl
        refine ⟨a, i - a, ?_, by omega⟩
        simpa using e.symm)
      rw [er, hr] at ih
      exact Ev.step (fun k => by rw [e0, if_pos (off hb)]) ih
    | true =>
      have er : rr (gbit l) m (i + 1) = rr (gbit l) m i := by
        simp only [rr]
        rw [if_neg (fun hh => by
          rcases hh.2 with h1 | h1
          · omega
          · rw [hg (i - 1) (by omega) (by omega)] at h1
            cases h1)]
      have ih := runs_b m hm l hx hl d (i + 1) (by omega) S a (by omega) (by rw [er]; exact hr) (fun q h1 h2 => by
        by_cases hq : q = i
        · subst hq; exact hb
        · exact hg q h1 (by omega))
      refine Ev.step (fun k => ?_) ih
      have e1 : wrap64 (((S ++ [(⟨(a : Int), ((i - a : Nat) : Int)⟩ : S59)]).length : Int) - 1) = (S.length : Int) := by rw [List.length_append, List.length_singleton, w64 _ (by omega) (by omega)]; omega
      rw [e0, if_neg (on hb), e1, if_pos (by omega), if_pos (by omega), if_pos (by rw [List.length_append, List.length_singleton]; omega), rd59_last, if_pos (by show wrap64 ((a : Int) + ((i - a : Nat) : Int)) = i; rw [w64 _ (by omega) (by omega)]; omega), Int.toNat_natCast, set_last]
      show bitset_Runs.l0 k (m : Int) l (S ++ [⟨(a : Int), wrap64 (((i - a : Nat) : Int) + 1)⟩]) _ = _
      rw [inc (i - a) (by omega), show i - a + 1 = i + 1 - a by omega]
end
/-- What the two Runs answer. -/
theorem runs_same (n : Int) (l : List Int) (hx : IsB l) (hl : l.length ≤ 140737488351232) : ∃ r e, Ev (fun k => bitset_Runs.f k n l) (r, e) ∧ Ev (fun k => torrentref4_Runs.f k n l) (r, e) ∧ r.length ≤ 65536 := by
  obtain ⟨c, hc, hd⟩ := check_both n l hx hl
  by_cases h0 : c = 0
  · subst h0
    obtain ⟨m, rfl, hm, hlen⟩ := check_ok hc
    have hle := rr_length (gbit l) m m
    exact ⟨rr (gbit l) m m, 0, Ev.bind hc (Ev.congr (fun k => if_pos rfl) (runs_a m hm l hx hlen m 0 (by omega) (Or.inl rfl) (fun S x e => by simp [rr] at e))),
      Ev.bind hd (Ev.congr (fun k => if_pos rfl) (Ev.bind (open_f l hx (by omega)) (refRuns_l0 m hm l hlen m 0 (by omega)))), by omega⟩
  · exact ⟨[], c, Ev.bind hc (Ev.congr (fun k => if_neg h0) (Ev.now _)), Ev.bind hd (Ev.congr (fun k => if_neg h0) (Ev.now _)), by simp⟩
theorem sameRuns_l (l : List S59) (hl : l.length ≤ 9223372036854775807) : ∀ (d i : Nat), i + d = l.length → Ev (fun k => torrentlaw4_sameRuns.l0 k l l (i : Int)) true
  | 0, i, h => Ev.step (f := fun _ => some true) (fun k => by
      simp only [torrentlaw4_sameRuns.l0]
      rw [if_neg (by omega)]) (Ev.now _)
  | d + 1, i, h => Ev.step (f := fun k => torrentlaw4_sameRuns.l0 k l l ((i + 1 : Nat) : Int)) (fun k => by
      simp only [torrentlaw4_sameRuns.l0]
      rw [if_pos (by omega), if_pos (by omega), if_pos (by omega), if_neg (by simp), inc i (by omega)]) (sameRuns_l l hl d (i + 1) (by omega))
theorem sameRuns_f (l : List S59) (hl : l.length ≤ 9223372036854775807) : Ev (fun k => torrentlaw4_sameRuns.f k l l) true := by
  unfold torrentlaw4_sameRuns.f
  refine Ev.congr (fun k => if_pos rfl) ?_
  exact sameRuns_l l hl l.length 0 (by omega)
end Go.Proofs.Ytoohpdamndgdlaa.B

-- Made by a program of this session (the print of the kit over a neighbour), for this claim.
namespace Go.Proofs.Ytoohpdamndgdlaa.P
open Go.RowKit Go.Proofs.YtoohpdamndgdlaaW.PrintWords Go.Proofs.YtoohpdamndgdlaaW.PrintLast Go.Proofs.YtoohpdamndgdlaaW.PrintMore
attribute [local go_sem] max2_int min2_int max_two min_two max_three min_three max_four min_four   -- for this text's walks alone
set_option linter.unusedVariables false
set_option linter.unusedSimpArgs false

/-! ### torrentref4_Of: function 21 -/
mutual
def torrentref4_Of.j0 : Nat → Int → List Int → Bool → Option (List Int × Int)
  | 0, _, _, _ => none
  | k + 1, x0, x1, x14 => if x14 = true then (some (([] : List Int), 40)) else (if 0 ≤ x0 then (if (x0 : Int).toNat ≤ 281474976710656 then (torrentref4_Of.l0 k x0 x1 (List.replicate (x0 : Int).toNat false) 0) else (none)) else (none))
def torrentref4_Of.l0 : Nat → Int → List Int → List Bool → Int → Option (List Int × Int)
  | 0, _, _, _, _ => none
  | k + 1, x0, x1, x6, x7 => if x7 < (x1.length : Int) then (if 0 ≤ x7 then (if (rd x1 x7) < 0 then (some (([] : List Int), 43)) else (if (rd x1 x7) ≥ x0 then (some (([] : List Int), 43)) else (if 0 ≤ (rd x1 x7) then (if (rd x1 x7) < (x6.length : Int) then (torrentref4_Of.l0 k x0 x1 (x6.set ((rd x1 x7) : Int).toNat true) (wrap64 (x7 + 1))) else (none)) else (none)))) else (none)) else ((torrentref4_pack.f k x6).bind fun t168 => (some (t168, 0)))
end
def torrentref4_Of.f (k : Nat) (a0 : Int) (l1 : List Int) : Option (List Int × Int) := if a0 < 0 then (torrentref4_Of.j0 k a0 l1 true) else (torrentref4_Of.j0 k a0 l1 (decide (a0 > 65536)))
theorem torrentref4_Of.mono_l : ∀ k, (∀ y0 y1 y2, LeO (torrentref4_Of.j0 k y0 y1 y2) (torrentref4_Of.j0 (k + 1) y0 y1 y2)) ∧ (∀ y0 y1 y2 y3, LeO (torrentref4_Of.l0 k y0 y1 y2 y3) (torrentref4_Of.l0 (k + 1) y0 y1 y2 y3))
  | 0 => ⟨fun _ _ _ r h => by simp [torrentref4_Of.j0] at h, fun _ _ _ _ r h => by simp [torrentref4_Of.l0] at h⟩
  | k + 1 => by
    obtain ⟨ih0, ih1⟩ := torrentref4_Of.mono_l k
    refine ⟨?_, ?_⟩
    · intro y0 y1 y2
      unfold torrentref4_Of.j0
      repeat' first
      | (with_reducible exact ih0 _ _ _)
      | (with_reducible exact ih1 _ _ _ _)
      | (with_reducible exact torrentref4_pack.mono _ _)
      | (with_reducible exact LeO.refl _)
      | (with_reducible exact LeO.none _)
      | (with_reducible refine LeO.ite ?_ ?_)
      | (with_reducible refine LeO.bind ?_ (fun _ => ?_))
      | exact ih0 _ _ _
      | exact ih1 _ _ _ _
      | exact torrentref4_pack.mono _ _
      | exact LeO.none _
      | refine LeO.ite ?_ ?_
      | refine LeO.bind ?_ (fun _ => ?_)
    · intro y0 y1 y2 y3
      unfold torrentref4_Of.l0
      repeat' first
      | (with_reducible exact ih0 _ _ _)
      | (with_reducible exact ih1 _ _ _ _)
      | (with_reducible exact torrentref4_pack.mono _ _)
      | (with_reducible exact LeO.refl _)
      | (with_reducible exact LeO.none _)
      | (with_reducible refine LeO.ite ?_ ?_)
      | (with_reducible refine LeO.bind ?_ (fun _ => ?_))
      | exact ih0 _ _ _
      | exact ih1 _ _ _ _
      | exact torrentref4_pack.mono _ _
      | exact LeO.none _
      | refine LeO.ite ?_ ?_
      | refine LeO.bind ?_ (fun _ => ?_)
theorem torrentref4_Of.mono : ∀ a0 a1 k, LeO (torrentref4_Of.f k a0 a1) (torrentref4_Of.f (k + 1) a0 a1) := by
  intro a0 a1 k
  obtain ⟨ih0, ih1⟩ := torrentref4_Of.mono_l k
  unfold torrentref4_Of.f
  repeat' first
      | (with_reducible exact ih0 _ _ _)
      | (with_reducible exact ih1 _ _ _ _)
      | (with_reducible exact torrentref4_pack.mono _ _)
      | (with_reducible exact LeO.refl _)
      | (with_reducible exact LeO.none _)
      | (with_reducible refine LeO.ite ?_ ?_)
      | (with_reducible refine LeO.bind ?_ (fun _ => ?_))
      | exact ih0 _ _ _
      | exact ih1 _ _ _ _
      | exact torrentref4_pack.mono _ _
      | exact LeO.none _
      | refine LeO.ite ?_ ?_
      | refine LeO.bind ?_ (fun _ => ?_)
set_option maxHeartbeats 8000000 in
set_option maxRecDepth 100000 in
theorem torrentref4_Of.calls (k : Nat) (a0 : Int) (A1 : Option Addr) (c1 : Nat) (l1 : List Int) (r1 : List Int) (r2 : Int) (w : World) (hr1 : Kd.C (Kd.int .i64) w A1 l1.length l1) (hc1 : l1.length ≤ c1) (h : torrentref4_Of.f k a0 l1 = some (r1, r2)) :
    Calls Try.prog 21 #[.int .i64 a0, .slice A1 l1.length c1] w fun e w' => ∃ v0_ : Value, e = .returned (.tuple #[v0_, .int .i64 r2]) ∧ Kd.R (Kd.int .u8) 5 w' w.heap.size (fun _ => True) v0_ r1 ∧ Below w.heap.size w w' := by
  have HR1 := Aside0.mk hr1
  have HC1 := Aside0.mk hc1
  clear hr1 hc1
  have HB := Aside0.mk (Below.refl w.heap.size w)
  have H : (if a0 < 0 then (torrentref4_Of.j0 k a0 l1 true) else (torrentref4_Of.j0 k a0 l1 (decide (a0 > 65536)))) = some (r1, r2) := h
  clear h
  have HC3 := Aside0.mk H
  clear H
  go_enter Try.func21, Try.ntmps21
  go_upto_region 1 with (fail)
  go_cut [14] (fun v14 wc => ∃ (kq : Nat) (x14_2 : Bool), v14 = .bool x14_2 ∧ Aside0 (torrentref4_Of.j0 kq a0 l1 x14_2 = some (r1, r2)) ∧ Aside0 (kq ≤ k) ∧ Aside0 (Below w.heap.size w wc))
  case first =>
    have H := HC3.out
    clear HC3
    by_cases c4 : a0 < 0
    · rw [if_pos c4] at H
      have c4b0 : decide (a0 < 0) = true := decide_eq_true c4
      clear c4
      (first | rw [c4b0] | (simp only [i64_w, i32_w]; rw [c4b0]) | skip)
      have H' := Aside0.mk H
      clear H
      go_wp2
      go_meet
      case rel => exact ⟨_, (true), (by first | rfl | (simp; done) | (simp [*]; done)), H', ⟨by first | omega | exact Nat.le_refl _⟩, ⟨by repeat (first | (with_reducible first | exact HB.out | apply below_alloc | apply pw_below_drewN | apply below_drew1) | exact HB.out)⟩⟩
    · rw [if_neg c4] at H
      have c4b0 : decide (a0 < 0) = false := decide_eq_false c4
      clear c4
      (first | rw [c4b0] | (simp only [i64_w, i32_w]; rw [c4b0]) | skip)
      have H' := Aside0.mk H
      clear H
      go_wp2
      go_meet
      case rel => exact ⟨_, (decide (a0 > 65536)), (by first | rfl | (simp; done) | (simp [*]; done)), H', ⟨by first | omega | exact Nat.le_refl _⟩, ⟨by repeat (first | (with_reducible first | exact HB.out | apply below_alloc | apply pw_below_drewN | apply below_drew1) | exact HB.out)⟩⟩
  case rest =>
    clear HC3
    try clear c1
    try clear c2
    try clear p2
    try clear c4
    try clear c4b0
    obtain ⟨kq, x14_2, rfl, HA, HJ2, HB⟩ := hcut
    cases kq with
    | zero => exact absurd HA.out (by simp [torrentref4_Of.j0])
    | succ kj2 =>
      have H := HA.out
      clear HA
      simp only [torrentref4_Of.j0] at H
      by_cases c5 : x14_2 = true
      · subst c5
        have H1 : (some (([] : List Int), 40)) = some (r1, r2) := by rw [if_pos rfl] at H; exact H
        clear H
        have H := H1
        clear H1
        simp only [Option.some.injEq, Prod.mk.injEq] at H
        obtain ⟨rfl, rfl⟩ := H
        go_wp2
        go_ret2
        exact ⟨_, by first | rfl | (simp [errW_none, errW_some] <;> rfl) | (simp [*, errW_none, errW_some] <;> rfl), by first | exact Kd.R_nil _ _ _ _ _ | exact Kd.N_nil _ _ _ _ _ | exact Kd.V_nil _ _ _ _ _ | exact Kd.Q_nil _ _ _ _ _ | exact Kd.S_nil _ _ _ _ _, by repeat (first | (with_reducible first | exact HB.out | apply below_alloc | apply pw_below_drewN | apply below_drew1) | exact HB.out)⟩
      · replace c5 := Bool.eq_false_iff.mpr c5
        subst c5
        have H1 : (if 0 ≤ a0 then (if (a0 : Int).toNat ≤ 281474976710656 then (torrentref4_Of.l0 kj2 a0 l1 (List.replicate (a0 : Int).toNat false) 0) else (none)) else (none)) = some (r1, r2) := by rw [if_neg (show ¬ (false = true) by decide)] at H; exact H
        clear H
        have H := H1
        clear H1
        by_cases c6 : 0 ≤ a0
        · rw [if_pos c6] at H
          have c6b0 := eq_true c6
          have c6b1 : decide (0 ≤ a0) = true := decide_eq_true c6
          clear c6
          by_cases c7 : (a0 : Int).toNat ≤ 281474976710656
          · rw [if_pos c7] at H
            have c7b0 := eq_true c7
            have c7b1 : decide ((a0 : Int).toNat ≤ 281474976710656) = true := decide_eq_true c7
            clear c7
            obtain ⟨y161, hy161⟩ : ∃ y_ : List Bool, y_ = (List.replicate (a0 : Int).toNat false) := ⟨_, rfl⟩
            replace H : (torrentref4_Of.l0 kj2 a0 l1 y161 0) = some (r1, r2) := by first | (rw [hy161]; with_reducible exact H) | (have H2_ := (Option.bind_some _ _).symm.trans H; rw [hy161]; with_reducible exact H2_) | (have H2_ := (Option.bind_some _ _).symm.trans H; with_reducible exact H2_) | with_reducible exact H | (rw [hy161]; exact H) | exact H
            have Ny161 := Aside0.mk hy161
            clear hy161
            have H' := Aside0.mk H
            clear H
            go_wp2_with (first | ((with_reducible refine gate_dst (N := 16) rfl ?_); refine Kd.R_make Kd.bool _ 4 rfl (N := 16) rfl 66 _ _ rfl a0 rfl rfl Try.underlying66 (.bool false) 1 info4 rfl (by decide) (by omega) false (ok := fun _ => True) (okp := fun _ => True) rfl (fun _ hk => hk) trivial (of_decide_eq_true (by first | (with_reducible assumption) | assumption)) (Nat.le_trans (Nat.mul_le_mul_right _ (of_decide_eq_true (by first | (with_reducible assumption) | assumption) : a0.toNat ≤ 281474976710656)) (by omega)) (Below.refl _ _) (Nat.le_refl _) ?_; intro v162 w8 ho9 hb hg_ hnew_; clear hg_ hnew_; (first | rw [← Ny161.out] at ho9 | (simp only [Int.reduceToNat] at ho9; rw [← Ny161.out] at ho9)); have n0_ := Aside0.mk (Kd.R_lower ho9 (below_size (by repeat (first | (with_reducible first | exact HB.out | apply below_alloc | apply pw_below_drewN | apply below_drew1) | exact HB.out)))); have n1_ := Aside0.mk (below_step (by repeat (first | (with_reducible first | exact HB.out | apply below_alloc | apply pw_below_drewN | apply below_drew1) | exact HB.out)) hb); clear HB; have HO163 := n0_; have HB := n1_; clear n0_ n1_; clear hb ho9))
            go_loopg [7] kj2 (fun kq v7 w' => ∃ (x6_2 : List Bool) (x7_2 : Int), v7 = .int .i64 x7_2 ∧ Aside0 (torrentref4_Of.l0 kq a0 l1 x6_2 x7_2 = some (r1, r2)) ∧ Aside0 (kq ≤ kj2) ∧ Aside0 (Kd.R Kd.bool 4 w' w.heap.size (fun _ => True) v162 x6_2) ∧ Aside0 (Below w.heap.size w w'))
            case atStart => exact ⟨(y161), (0), (by first | rfl | (simp; done) | (simp [*]; done)), H', ⟨Nat.le_refl _⟩, ⟨by (with_reducible repeat (first | apply Kd.R_alloc | apply Kd.R_drewN | apply Kd.R_drew)); exact HO163.out⟩, ⟨by repeat (first | (with_reducible first | exact HB.out | apply below_alloc | apply pw_below_drewN | apply below_drew1) | exact HB.out)⟩⟩
            case round =>
              clear H'
              try clear c1
              try clear c2
              try clear p2
              try clear c4
              try clear c4b0
              try clear c5
              try clear c6
              try clear c6b0
              try clear c6b1
              try clear c7
              try clear c7b0
              try clear c7b1
              try clear p2
              obtain ⟨x6_2, x7_2, rfl, HA, HK2, HO_6, HB⟩ := hrel
              cases gk with
              | zero => exact absurd HA.out (by simp [torrentref4_Of.l0])
              | succ k2 =>
                have H := HA.out
                clear HA
                simp only [torrentref4_Of.l0] at H
                by_cases c10 : x7_2 < (l1.length : Int)
                · rw [if_pos c10] at H
                  have c10b0 : decide (x7_2 < (l1.length : Int)) = true := decide_eq_true c10
                  clear c10
                  by_cases c11 : 0 ≤ x7_2
                  · rw [if_pos c11] at H
                    have c11b0 : decide (0 ≤ x7_2) = true := decide_eq_true c11
                    clear c11
                    by_cases c12 : (rd l1 x7_2) < 0
                    · rw [if_pos c12] at H
                      have c12b0 : decide ((rd l1 x7_2) < 0) = true := decide_eq_true c12
                      clear c12
                      simp only [Option.some.injEq, Prod.mk.injEq] at H
                      obtain ⟨rfl, rfl⟩ := H
                      have p164 : 0 ≤ (x7_2 : Int) := of_decide_eq_true (by first | (with_reducible assumption) | assumption)
                      have q164 : x7_2 < (l1.length : Int) := of_decide_eq_true (by first | (with_reducible assumption) | assumption)
                      obtain ⟨ad164, e164, hx164_0⟩ := Kd.at_int HR1.out x7_2 p164 q164
                      cases e164
                      replace hx164_0 := (HB.out.cell (World.block_lt_of_cell? w _ hx164_0)).trans hx164_0
                      replace p164 := eq_true p164
                      replace q164 := eq_true q164
                      go_wp2
                      go_ret2
                      exact ⟨_, by first | rfl | (simp [errW_none, errW_some] <;> rfl) | (simp [*, errW_none, errW_some] <;> rfl), by first | exact Kd.R_nil _ _ _ _ _ | exact Kd.N_nil _ _ _ _ _ | exact Kd.V_nil _ _ _ _ _ | exact Kd.Q_nil _ _ _ _ _ | exact Kd.S_nil _ _ _ _ _, by repeat (first | (with_reducible first | exact HB.out | apply below_alloc | apply pw_below_drewN | apply below_drew1) | exact HB.out)⟩
                    · rw [if_neg c12] at H
                      have c12b0 : decide ((rd l1 x7_2) < 0) = false := decide_eq_false c12
                      clear c12
                      by_cases c13 : (rd l1 x7_2) ≥ a0
                      · rw [if_pos c13] at H
                        have c13b0 : decide (a0 ≤ (rd l1 x7_2)) = true := decide_eq_true c13
                        clear c13
                        simp only [Option.some.injEq, Prod.mk.injEq] at H
                        obtain ⟨rfl, rfl⟩ := H
                        have p164 : 0 ≤ (x7_2 : Int) := of_decide_eq_true (by first | (with_reducible assumption) | assumption)
                        have q164 : x7_2 < (l1.length : Int) := of_decide_eq_true (by first | (with_reducible assumption) | assumption)
                        obtain ⟨ad164, e164, hx164_0⟩ := Kd.at_int HR1.out x7_2 p164 q164
                        cases e164
                        replace hx164_0 := (HB.out.cell (World.block_lt_of_cell? w _ hx164_0)).trans hx164_0
                        replace p164 := eq_true p164
                        replace q164 := eq_true q164
                        have p165 : 0 ≤ (x7_2 : Int) := of_decide_eq_true (by first | (with_reducible assumption) | assumption)
                        have q165 : x7_2 < (l1.length : Int) := of_decide_eq_true (by first | (with_reducible assumption) | assumption)
                        obtain ⟨ad165, e165, hx165_0⟩ := Kd.at_int HR1.out x7_2 p165 q165
                        obtain rfl : ad164 = ad165 := (by injection e165)
                        replace hx165_0 := (HB.out.cell (World.block_lt_of_cell? w _ hx165_0)).trans hx165_0
                        replace p165 := eq_true p165
                        replace q165 := eq_true q165
                        go_wp2
                        go_ret2
                        exact ⟨_, by first | rfl | (simp [errW_none, errW_some] <;> rfl) | (simp [*, errW_none, errW_some] <;> rfl), by first | exact Kd.R_nil _ _ _ _ _ | exact Kd.N_nil _ _ _ _ _ | exact Kd.V_nil _ _ _ _ _ | exact Kd.Q_nil _ _ _ _ _ | exact Kd.S_nil _ _ _ _ _, by repeat (first | (with_reducible first | exact HB.out | apply below_alloc | apply pw_below_drewN | apply below_drew1) | exact HB.out)⟩
                      · rw [if_neg c13] at H
                        have c13b0 : decide (a0 ≤ (rd l1 x7_2)) = false := decide_eq_false c13
                        clear c13
                        by_cases c14 : 0 ≤ (rd l1 x7_2)
                        · rw [if_pos c14] at H
                          have c14b0 : decide (0 ≤ (rd l1 x7_2)) = true := decide_eq_true c14
                          clear c14
                          by_cases c15 : (rd l1 x7_2) < (x6_2.length : Int)
                          · rw [if_pos c15] at H
                            have c15b0 : decide ((rd l1 x7_2) < (x6_2.length : Int)) = true := decide_eq_true c15
                            clear c15
                            obtain ⟨y167, hy167⟩ : ∃ y_ : List Bool, y_ = (x6_2.set ((rd l1 x7_2) : Int).toNat true) := ⟨_, rfl⟩
                            replace H : (torrentref4_Of.l0 k2 a0 l1 y167 (wrap64 (x7_2 + 1))) = some (r1, r2) := by first | (rw [hy167]; with_reducible exact H) | (have H2_ := (Option.bind_some _ _).symm.trans H; rw [hy167]; with_reducible exact H2_) | (have H2_ := (Option.bind_some _ _).symm.trans H; with_reducible exact H2_) | with_reducible exact H | (rw [hy167]; exact H) | exact H
                            have Ny167 := Aside0.mk hy167
                            clear hy167
                            have H' := Aside0.mk H
                            clear H
                            have p164 : 0 ≤ (x7_2 : Int) := of_decide_eq_true (by first | (with_reducible assumption) | assumption)
                            have q164 : x7_2 < (l1.length : Int) := of_decide_eq_true (by first | (with_reducible assumption) | assumption)
                            obtain ⟨ad164, e164, hx164_0⟩ := Kd.at_int HR1.out x7_2 p164 q164
                            cases e164
                            replace hx164_0 := (HB.out.cell (World.block_lt_of_cell? w _ hx164_0)).trans hx164_0
                            replace p164 := eq_true p164
                            replace q164 := eq_true q164
                            have p165 : 0 ≤ (x7_2 : Int) := of_decide_eq_true (by first | (with_reducible assumption) | assumption)
                            have q165 : x7_2 < (l1.length : Int) := of_decide_eq_true (by first | (with_reducible assumption) | assumption)
                            obtain ⟨ad165, e165, hx165_0⟩ := Kd.at_int HR1.out x7_2 p165 q165
                            obtain rfl : ad164 = ad165 := (by injection e165)
                            replace hx165_0 := (HB.out.cell (World.block_lt_of_cell? w _ hx165_0)).trans hx165_0
                            replace p165 := eq_true p165
                            replace q165 := eq_true q165
                            have p166 : 0 ≤ (x7_2 : Int) := of_decide_eq_true (by first | (with_reducible assumption) | assumption)
                            have q166 : x7_2 < (l1.length : Int) := of_decide_eq_true (by first | (with_reducible assumption) | assumption)
                            obtain ⟨ad166, e166, hx166_0⟩ := Kd.at_int HR1.out x7_2 p166 q166
                            obtain rfl : ad164 = ad166 := (by injection e166)
                            replace hx166_0 := (HB.out.cell (World.block_lt_of_cell? w _ hx166_0)).trans hx166_0
                            replace p166 := eq_true p166
                            replace q166 := eq_true q166
                            have p16 : 0 ≤ ((rd l1 x7_2) : Int) := of_decide_eq_true (by first | (with_reducible assumption) | assumption)
                            have q16 : ((rd l1 x7_2) : Int) < ((x6_2.length : Int) : Int) := of_decide_eq_true (by first | (with_reducible assumption) | assumption)
                            obtain ⟨go16, co16, eo16, gb16, gl16, cl16, HG16⟩ := Kd.R_form HO_6.out (by omega)
                            (first | cases eo16 | (injection eo16 with ea_ en_ ec_; (first | subst ea_ | (injection ea_ with ea_; subst ea_)); subst ec_; clear en_))
                            have GB16 := Aside0.mk gb16
                            have GG16 := Aside0.mk HG16
                            clear gb16 gl16 HG16
                            obtain ⟨hx16_0, hf16_0⟩ := Kd.R_celln false HO_6.out ((rd l1 x7_2) : Int) p16 q16
                            replace p16 := eq_true p16
                            replace q16 := eq_true q16
                            have HP17 := Kd.R_putg HO_6.out ((rd l1 x7_2) : Int) true
                            go_wp2_with (first | ((with_reducible refine gate_store (t := 4) (p := 41) rfl ?_); refine store_event (t := 4) (p := 41) (v := ?vo_w18) (w1 := (wr.setCell ⟨go16, ((rd l1 x7_2) : Int).toNat, none⟩ (.bool true))) ?hg ?ho ?hn ?hr ?_; (case ho => rfl); (case hg => rfl); (case hn => rfl); (case hr => first | (go_simp; done) | (go_simp; rfl)); intro w18 hw; have hg : wr.grownBy w18 (some go16) := (by rw [hw]; exact HP17.2); have hp_ : Kd.R Kd.bool 4 w18 w.heap.size (fun _ => True) (.slice (some ⟨go16, 0, none⟩) x6_2.length co16) y167 := (by rw [hw, Ny167.out]; exact HP17.1); clear HP17; have n0_ := Aside0.mk (hp_); have n1_ := Aside0.mk ((by rw [hw]; exact below_set (HB.out) GB16.out : Below w.heap.size w w18)); clear HO_6; clear HB; have HO_6 := n0_; have HB := n1_; clear n0_ n1_; clear hg hw hp_))
                            go_roundg k2
                            case measure => have := HJ2.out; have := HK2.out; omega
                            case rel => exact ⟨(y167), (wrap64 (x7_2 + 1)), (by first | rfl | (simp; done) | (simp [*]; done)), H', ⟨by have := HJ2.out; have := HK2.out; omega⟩, ⟨by (with_reducible repeat (first | apply Kd.R_alloc | apply Kd.R_drewN | apply Kd.R_drew)); exact HO_6.out⟩, ⟨by repeat (first | (with_reducible first | exact HB.out | apply below_alloc | apply pw_below_drewN | apply below_drew1) | exact HB.out)⟩⟩
                          · rw [if_neg c15] at H
                            exact absurd H (by simp)
                        · rw [if_neg c14] at H
                          exact absurd H (by simp)
                  · rw [if_neg c11] at H
                    exact absurd H (by simp)
                · rw [if_neg c10] at H
                  have c10b0 : decide (x7_2 < (l1.length : Int)) = false := decide_eq_false c10
                  clear c10
                  replace H := Option.bind_eq_some_iff.mp H
                  obtain ⟨t168, A190, H⟩ := H
                  replace H : (some (t168, 0)) = some (r1, r2) := H
                  have A19 := Aside0.mk A190
                  clear A190
                  simp only [Option.some.injEq, Prod.mk.injEq] at H
                  obtain ⟨rfl, rfl⟩ := H
                  obtain ⟨Ao20, co20, eo20⟩ := Kd.R_slice HO_6.out
                  subst eo20
                  go_wp2_with (first | ((with_reducible refine gate_callee (f := 57) rfl ?_); refine goesL_ (some 43) rfl rfl Try.func57 (by kernel_rfl) rfl #[.slice Ao20 x6_2.length co20] rfl (by (try simp only [List.map_toArray, List.map_cons, List.map_nil]); first | done | rfl | (simp only [List.length_drop, List.length_take]; rfl)) ?_; (with_reducible refine (torrentref4_pack.calls k2 _ _ x6_2 t168 _ ?side1 ?side2 A19.out).mono ?_); (case side1 => repeat (first | exact (Kd.R_reads' HO_6.out).2.2 | (with_reducible refine Kd.C_alloc ?_ _) | (with_reducible refine Kd.C_drewN ?_ _) | (with_reducible refine Kd.C_drew ?_))); (case side2 => exact (Kd.R_reads' HO_6.out).2.1); rintro e w21 ⟨v169, rfl, ho0, hb⟩; refine ⟨_, rfl, ?_⟩; have n0_ := Aside0.mk (Kd.R_below (by (with_reducible repeat (first | apply Kd.R_alloc | apply Kd.R_drewN | apply Kd.R_drew)); exact HO_6.out) hb); have n1_ := Aside0.mk (Kd.R_lower ho0 (below_size (by repeat (first | (with_reducible first | exact HB.out | apply below_alloc | apply pw_below_drewN | apply below_drew1) | exact HB.out)))); have n2_ := Aside0.mk (below_step (by repeat (first | (with_reducible first | exact HB.out | apply below_alloc | apply pw_below_drewN | apply below_drew1) | exact HB.out)) hb); clear HO_6; clear HB; have HO_6 := n0_; have HO170 := n1_; have HB := n2_; clear n0_ n1_ n2_; (try clear hb); (try clear hb2); (try clear hk); (try clear hi); (try clear ho0)))
                  go_ret2
                  exact ⟨_, by first | rfl | (simp [errW_none, errW_some] <;> rfl) | (simp [*, errW_none, errW_some] <;> rfl), by (with_reducible repeat (first | apply Kd.R_alloc | apply Kd.R_drewN | apply Kd.R_drew)); exact HO170.out, by repeat (first | (with_reducible first | exact HB.out | apply below_alloc | apply pw_below_drewN | apply below_drew1) | exact HB.out)⟩
          · rw [if_neg c7] at H
            exact absurd H (by simp)
        · rw [if_neg c6] at H
          exact absurd H (by simp)

end Go.Proofs.Ytoohpdamndgdlaa.P

/- What Of answers, the program's and the reference's, in plain words: an error, or the packed bits of the places. -/
set_option linter.unusedVariables false
set_option linter.unusedSimpArgs false
namespace Go.Proofs.Ytoohpdamndgdlaa.B
open Go.RowKit Go.Proofs.Ytoohpdamndgdlaa.P Go.Proofs.YtoohpdamndgdlaaW.PrintWords Go.Proofs.YtoohpdamndgdlaaW.PrintLast Go.Proofs.YtoohpdamndgdlaaW.PrintMore

/-- Does the place j stand among these? -/
def among (l : List Int) (j : Nat) : Bool := l.any fun x => decide (x = (j : Int))
theorem among_nil (j : Nat) : among [] j = false := rfl
theorem among_take_succ (l : List Int) (i j : Nat) (hi : i < l.length) : among (l.take (i + 1)) j = (among (l.take i) j || decide (l.getD i 0 = (j : Int))) := by
  unfold among
  rw [List.take_succ_eq_append_getElem hi, List.any_append]
  simp [List.getD_eq_getElem?_getD, List.getElem?_eq_getElem hi]
/-- All places lie below n. -/
def inside (n : Nat) (l : List Int) : Prop := ∀ i, i < l.length → 0 ≤ l.getD i 0 ∧ l.getD i 0 < (n : Int)

theorem of_l (n : Nat) (hn : n ≤ 65536) (l : List Int) (hl : l.length ≤ 9223372036854775807) : ∀ (d i : Nat) (xs : List Int), i + d = l.length → IsB xs → xs.length = (n + 7) / 8 → (∀ j, j < 8 * xs.length → gbit xs j = among (l.take i) j) → (∀ q, q < i → 0 ≤ l.getD q 0 ∧ l.getD q 0 < (n : Int)) →
    (inside n l ∧ ∃ r, Ev (fun k => bitset_Of.l0 k (n : Int) xs l (l.length : Int) (i : Int)) (r, 0) ∧ Packed (among l) n r) ∨ (¬ inside n l ∧ Ev (fun k => bitset_Of.l0 k (n : Int) xs l (l.length : Int) (i : Int)) ([], 43))
  | 0, i, xs, hd, hx, hlen, hb, hin => by
    obtain rfl : i = l.length := by omega
    refine .inl ⟨hin, xs, Ev.step (f := fun _ => some (xs, 0)) (fun k => ?_) (Ev.now _), hlen, hx, fun j hj => ?_⟩
    · simp only [bitset_Of.l0]
      rw [if_neg (by omega)]
    · rw [hb j hj, List.take_length]
      by_cases hjn : j < n
      · simp [hjn]
      · have : among l j = false := by
          unfold among
          rw [List.any_eq_false]
          intro x hx2
          obtain ⟨q, hq, rfl⟩ := List.getElem_of_mem hx2
          have := hin q hq
          rw [List.getD_eq_getElem?_getD, List.getElem?_eq_getElem hq, Option.getD_some] at this
          simp
          omega
        simp [this]
  | d + 1, i, xs, hd, hx, hlen, hb, hin => by
    have hi : i < l.length := by omega
    have e1 : ((i : Nat) : Int) < (l.length : Int) := by omega
    by_cases h0 : l.getD i 0 < 0
    · refine .inr ⟨fun h => by have := h i hi; omega, Ev.step (f := fun _ => some ([], 43)) (fun k => ?_) (Ev.now _)⟩
      simp only [bitset_Of.l0]
      rw [if_pos e1, if_pos (by omega), if_pos e1, rd_nat, if_pos h0]
    · by_cases h1 : l.getD i 0 ≥ (n : Int)
      · refine .inr ⟨fun h => by have := h i hi; omega, Ev.step (f := fun _ => some ([], 43)) (fun k => ?_) (Ev.now _)⟩
        simp only [bitset_Of.l0]
        rw [if_pos e1, if_pos (by omega), if_pos e1, rd_nat, if_neg h0, if_pos h1]
      · obtain ⟨p, hp⟩ : ∃ p : Nat, l.getD i 0 = (p : Int) := ⟨(l.getD i 0).toNat, by omega⟩
        have hpn : p < n := by omega
        have ih := of_l n hn l hl d (i + 1) (put1 xs p) (by omega) (put1_isB hx p) (by rw [put1_length]; exact hlen) (fun j hj => by
          rw [put1_length] at hj
          rw [put1_bit hx p j (by omega), hb j hj, among_take_succ l i j hi, hp]
          congr 1
          exact decide_eq_decide.mpr ⟨fun h => by omega, fun h => by omega⟩) (fun q hq => by
          by_cases hqi : q = i
          · subst hqi; omega
          · exact hin q (by omega))
        have st : ∀ k, bitset_Of.l0 (k + 1) (n : Int) xs l (l.length : Int) (i : Int) = bitset_Of.l0 k (n : Int) (put1 xs p) l (l.length : Int) ((i + 1 : Nat) : Int) := fun k => by
          obtain ⟨g1, g2, g3⟩ := tests_in xs p (by omega) (by omega)
          simp only [bitset_Of.l0]
          rw [if_pos e1, if_pos (by omega), if_pos e1, rd_nat, if_neg h0, if_neg h1, hp, if_pos g1, if_pos g2, if_pos g3, set_mask xs p (by omega), inc i (by omega)]
        rcases ih with ⟨h2, r, hr, hp2⟩ | ⟨h2, hr⟩
        · exact .inl ⟨h2, r, Ev.step st hr, hp2⟩
        · exact .inr ⟨h2, Ev.step st hr⟩
theorem of_ok (n : Nat) (hn : n ≤ 65536) (l : List Int) (hl : l.length ≤ 9223372036854775807) :
    (inside n l ∧ ∃ r, Ev (fun k => bitset_Of.f k (n : Int) l) (r, 0) ∧ Packed (among l) n r) ∨ (¬ inside n l ∧ Ev (fun k => bitset_Of.f k (n : Int) l) ([], 43)) := by
  have e : ∀ k, bitset_Of.f k (n : Int) l = bitset_Of.l0 k (n : Int) (List.replicate ((n + 7) / 8) 0) l (l.length : Int) ((0 : Nat) : Int) := fun k => by
    unfold bitset_Of.f
    rw [make_ok n hn]
    simp only [Option.bind_some]
    rw [if_pos trivial]
    rfl
  rcases of_l n hn l hl l.length 0 (List.replicate ((n + 7) / 8) 0) (by omega) (IsB.replicate _) (by simp) (fun j hj => by rw [gbit_replicate]; rfl) (fun q hq => by omega) with ⟨h, r, hr, hp⟩ | ⟨h, hr⟩
  · exact .inl ⟨h, r, Ev.congr e hr, hp⟩
  · exact .inr ⟨h, Ev.congr e hr⟩
theorem of_no (n : Int) (l : List Int) (h : n < 0 ∨ 65536 < n) (k : Nat) : bitset_Of.f k n l = some ([], 40) := by
  unfold bitset_Of.f
  rw [make_no n h]
  rfl

theorem refOf_l (n : Nat) (hn : n ≤ 65536) (l : List Int) (hl : l.length ≤ 9223372036854775807) : ∀ (d i : Nat) (bs : List Bool), i + d = l.length → bs.length = n → (∀ j, j < n → bs.getD j false = among (l.take i) j) → (∀ q, q < i → 0 ≤ l.getD q 0 ∧ l.getD q 0 < (n : Int)) →
    (inside n l ∧ ∃ r, Ev (fun k => torrentref4_Of.l0 k (n : Int) l bs (i : Int)) (r, 0) ∧ Packed (among l) n r) ∨ (¬ inside n l ∧ Ev (fun k => torrentref4_Of.l0 k (n : Int) l bs (i : Int)) ([], 43))
  | 0, i, bs, hd, hlen, hb, hin => by
    obtain rfl : i = l.length := by omega
    obtain ⟨r, hr, hp⟩ := pack_f bs (by omega)
    refine .inl ⟨hin, r, Ev.step (f := fun k => (torrentref4_pack.f k bs).bind fun t => some (t, 0)) (fun k => ?_) (Ev.bind hr (Ev.now _)), ?_⟩
    · simp only [torrentref4_Of.l0]
      rw [if_neg (by omega)]
    · rw [hlen] at hp
      exact hp.congr fun j hj => by rw [hb j hj, List.take_length]
  | d + 1, i, bs, hd, hlen, hb, hin => by
    have hi : i < l.length := by omega
    have e1 : ((i : Nat) : Int) < (l.length : Int) := by omega
    by_cases h0 : l.getD i 0 < 0
    · refine .inr ⟨fun h => by have := h i hi; omega, Ev.step (f := fun _ => some ([], 43)) (fun k => ?_) (Ev.now _)⟩
      simp only [torrentref4_Of.l0]
      rw [if_pos e1, if_pos (by omega), rd_nat, if_pos h0]
    · by_cases h1 : l.getD i 0 ≥ (n : Int)
      · refine .inr ⟨fun h => by have := h i hi; omega, Ev.step (f := fun _ => some ([], 43)) (fun k => ?_) (Ev.now _)⟩
        simp only [torrentref4_Of.l0]
        rw [if_pos e1, if_pos (by omega), rd_nat, if_neg h0, if_pos h1]
      · obtain ⟨p, hp⟩ : ∃ p : Nat, l.getD i 0 = (p : Int) := ⟨(l.getD i 0).toNat, by omega⟩
        have hpn : p < n := by omega
        have ih := refOf_l n hn l hl d (i + 1) (bs.set p true) (by omega) (by simpa using hlen) (fun j hj => by
          rw [among_take_succ l i j hi, hp, ← hb j hj]
          simp only [List.getD_eq_getElem?_getD]
          by_cases hjp : p = j
          · subst hjp; rw [List.getElem?_set_self (by omega)]; simp
          · rw [List.getElem?_set_ne hjp]
            have : ¬ ((p : Int) = (j : Int)) := by omega
            simp [this]) (fun q hq => by
          by_cases hqi : q = i
          · subst hqi; omega
          · exact hin q (by omega))
        have st : ∀ k, torrentref4_Of.l0 (k + 1) (n : Int) l bs (i : Int) = torrentref4_Of.l0 k (n : Int) l (bs.set p true) ((i + 1 : Nat) : Int) := fun k => by
          simp only [torrentref4_Of.l0]
          rw [if_pos e1, if_pos (by omega), rd_nat, if_neg h0, if_neg h1, hp, if_pos (by omega), if_pos (by omega), Int.toNat_natCast, inc i (by omega)]
        rcases ih with ⟨h2, r, hr, hp2⟩ | ⟨h2, hr⟩
        · exact .inl ⟨h2, r, Ev.step st hr, hp2⟩
        · exact .inr ⟨h2, Ev.step st hr⟩
theorem refOf_ok (n : Nat) (hn : n ≤ 65536) (l : List Int) (hl : l.length ≤ 9223372036854775807) :
    (inside n l ∧ ∃ r, Ev (fun k => torrentref4_Of.f k (n : Int) l) (r, 0) ∧ Packed (among l) n r) ∨ (¬ inside n l ∧ Ev (fun k => torrentref4_Of.f k (n : Int) l) ([], 43)) := by
  have e : ∀ k, torrentref4_Of.f k (n : Int) l = torrentref4_Of.j0 k (n : Int) l false := fun k => by
    unfold torrentref4_Of.f
    rw [if_neg (by omega), decide_eq_false (by omega)]
  have e2 : ∀ k, torrentref4_Of.j0 (k + 1) (n : Int) l false = torrentref4_Of.l0 k (n : Int) l (List.replicate n false) ((0 : Nat) : Int) := fun k => by
    simp only [torrentref4_Of.j0]
    rw [if_neg (by decide), if_pos (by omega), if_pos (by omega), Int.toNat_natCast]
    rfl
  rcases refOf_l n hn l hl l.length 0 (List.replicate n false) (by omega) (by simp) (fun j hj => by simp [among, hj]) (fun q hq => by omega) with ⟨h, r, hr, hp⟩ | ⟨h, hr⟩
  · exact .inl ⟨h, r, Ev.congr e (Ev.step e2 hr), hp⟩
  · exact .inr ⟨h, Ev.congr e (Ev.step e2 hr)⟩
theorem refOf_no (n : Int) (l : List Int) (h : n < 0 ∨ 65536 < n) : Ev (fun k => torrentref4_Of.f k n l) ([], 40) := by
  refine Ev.congr (f := fun k => torrentref4_Of.j0 k n l true) (fun k => ?_) (Ev.step (f := fun _ => some ([], 40)) (fun k => by simp only [torrentref4_Of.j0]; rfl) (Ev.now _))
  unfold torrentref4_Of.f
  by_cases h0 : n < 0
  · rw [if_pos h0]
  · rw [if_neg h0, decide_eq_true (by omega)]
end Go.Proofs.Ytoohpdamndgdlaa.B
