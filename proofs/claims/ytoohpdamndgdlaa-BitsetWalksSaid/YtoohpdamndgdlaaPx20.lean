-- Made by a program of this session (the print of the kit over a neighbour), for this claim.
import Derived.Test.YtoohpdamndgdlaaPx0
import Derived.Test.YtoohpdamndgdlaaPx4
import Derived.Test.YtoohpdamndgdlaaPx19
namespace Go.Proofs.Ytoohpdamndgdlaa.P
open Go.RowKit Go.Proofs.YtoohpdamndgdlaaW.PrintWords Go.Proofs.YtoohpdamndgdlaaW.PrintLast Go.Proofs.YtoohpdamndgdlaaW.PrintMore
attribute [local go_sem] max2_int min2_int max_two min_two max_three min_three max_four min_four   -- for this text's walks alone
set_option linter.unusedVariables false
set_option linter.unusedSimpArgs false

/-! ### torrentref4_Check: function 59 -/
def torrentref4_Check.j0 : Nat → Int → List Int → Bool → Option (Int)
  | 0, _, _, _ => none
  | k + 1, x0, x1, x11 => if x11 = true then (some 40) else ((torrentref4_size.f x0).bind fun t194 => (if (x1.length : Int) = t194 then (if (Int.tmod x0 8) > 0 then (if 0 ≤ (wrap64 ((x1.length : Int) - 1)) then (if (wrap64 ((x1.length : Int) - 1)) < (x1.length : Int) then ((torrentref4_weight.f k x0).bind fun t196 => (if (wrap64 (2 * t196)) = 0 then (none) else (if (Int.tmod (wrap64 (rd x1 (wrap64 ((x1.length : Int) - 1)))) (wrap64 (2 * t196))) = 0 then (some 0) else (some 42)))) else (none)) else (none)) else (some 0)) else (some 41)))
def torrentref4_Check.f (k : Nat) (a0 : Int) (l1 : List Int) : Option (Int) := if a0 < 0 then (torrentref4_Check.j0 k a0 l1 true) else (torrentref4_Check.j0 k a0 l1 (decide (a0 > 65536)))
theorem torrentref4_Check.mono_l : ∀ k, (∀ y0 y1 y2, LeO (torrentref4_Check.j0 k y0 y1 y2) (torrentref4_Check.j0 (k + 1) y0 y1 y2))
  | 0 => fun _ _ _ r h => by simp [torrentref4_Check.j0] at h
  | k + 1 => by
    have ih0 := torrentref4_Check.mono_l k
    · intro y0 y1 y2
      unfold torrentref4_Check.j0
      repeat' first
      | (with_reducible exact ih0 _ _ _)
      | (with_reducible exact torrentref4_weight.mono _ _)
      | (with_reducible exact LeO.refl _)
      | (with_reducible exact LeO.none _)
      | (with_reducible refine LeO.ite ?_ ?_)
      | (with_reducible refine LeO.bind ?_ (fun _ => ?_))
      | exact ih0 _ _ _
      | exact torrentref4_weight.mono _ _
      | exact LeO.none _
      | refine LeO.ite ?_ ?_
      | refine LeO.bind ?_ (fun _ => ?_)
theorem torrentref4_Check.mono : ∀ a0 a1 k, LeO (torrentref4_Check.f k a0 a1) (torrentref4_Check.f (k + 1) a0 a1) := by
  intro a0 a1 k
  have ih0 := torrentref4_Check.mono_l k
  unfold torrentref4_Check.f
  repeat' first
      | (with_reducible exact ih0 _ _ _)
      | (with_reducible exact torrentref4_weight.mono _ _)
      | (with_reducible exact LeO.refl _)
      | (with_reducible exact LeO.none _)
      | (with_reducible refine LeO.ite ?_ ?_)
      | (with_reducible refine LeO.bind ?_ (fun _ => ?_))
      | exact ih0 _ _ _
      | exact torrentref4_weight.mono _ _
      | exact LeO.none _
      | refine LeO.ite ?_ ?_
      | refine LeO.bind ?_ (fun _ => ?_)
set_option maxHeartbeats 8000000 in
set_option maxRecDepth 100000 in
theorem torrentref4_Check.calls (k : Nat) (a0 : Int) (A1 : Option Addr) (c1 : Nat) (l1 : List Int) (r : Int) (w : World) (hr1 : Kd.C (Kd.int .u8) w A1 l1.length l1) (hc1 : l1.length ≤ c1) (h : torrentref4_Check.f k a0 l1 = some r) :
    Calls Try.prog 59 #[.int .i64 a0, .slice A1 l1.length c1] w fun e w' => e = .returned (.int .i64 r) ∧ Drawn0 w w' := by
  have HR1 := Aside0.mk hr1
  have HC1 := Aside0.mk hc1
  clear hr1 hc1
  have H : (if a0 < 0 then (torrentref4_Check.j0 k a0 l1 true) else (torrentref4_Check.j0 k a0 l1 (decide (a0 > 65536)))) = some r := h
  clear h
  have HC3 := Aside0.mk H
  clear H
  go_enter Try.func59, Try.ntmps59
  go_upto_region 1 with (fail)
  go_cut [11] (fun v11 wc => ∃ (kq : Nat) (x11_2 : Bool), v11 = .bool x11_2 ∧ Aside0 (torrentref4_Check.j0 kq a0 l1 x11_2 = some r) ∧ Aside0 (kq ≤ k) ∧ Drawn0 w wc)
  case first =>
    have H := HC3.out
    clear HC3
    by_cases c4 : a0 < 0
    · rw [if_pos c4] at H
      have c4b0 : decide (a0 < 0) = true := decide_eq_true c4
      clear c4
      (first | rw [c4b0] | (simp only [i64_w, i32_w]; rw [c4b0]) | skip)
      have H' := Aside0.mk H
      clear H
      go_wp2
      go_meet
      case rel => exact ⟨_, (true), (by first | rfl | (simp; done) | (simp [*]; done)), H', ⟨by first | omega | exact Nat.le_refl _⟩, by repeat (first | exact Drawn0.refl _ | apply Drawn0.step)⟩
    · rw [if_neg c4] at H
      have c4b0 : decide (a0 < 0) = false := decide_eq_false c4
      clear c4
      (first | rw [c4b0] | (simp only [i64_w, i32_w]; rw [c4b0]) | skip)
      have H' := Aside0.mk H
      clear H
      go_wp2
      go_meet
      case rel => exact ⟨_, (decide (a0 > 65536)), (by first | rfl | (simp; done) | (simp [*]; done)), H', ⟨by first | omega | exact Nat.le_refl _⟩, by repeat (first | exact Drawn0.refl _ | apply Drawn0.step)⟩
  case rest =>
    clear HC3
    try clear c1
    try clear p2
    try clear c4
    try clear c4b0
    obtain ⟨kq, x11_2, rfl, HA, HJ2, ⟨mc2, rfl⟩⟩ := hcut
    cases kq with
    | zero => exact absurd HA.out (by simp [torrentref4_Check.j0])
    | succ kj2 =>
      have H := HA.out
      clear HA
      simp only [torrentref4_Check.j0] at H
      by_cases c5 : x11_2 = true
      · subst c5
        have H1 : (some 40) = some r := by rw [if_pos rfl] at H; exact H
        clear H
        have H := H1
        clear H1
        obtain rfl := Option.some.inj H
        go_wp2
        go_ret
        exact ⟨by first | rfl | (simp; done) | (simp [*]; done), by repeat (first | exact Drawn0.refl _ | apply Drawn0.step)⟩
      · replace c5 := Bool.eq_false_iff.mpr c5
        subst c5
        have H1 : ((torrentref4_size.f a0).bind fun t194 => (if (l1.length : Int) = t194 then (if (Int.tmod a0 8) > 0 then (if 0 ≤ (wrap64 ((l1.length : Int) - 1)) then (if (wrap64 ((l1.length : Int) - 1)) < (l1.length : Int) then ((torrentref4_weight.f kj2 a0).bind fun t196 => (if (wrap64 (2 * t196)) = 0 then (none) else (if (Int.tmod (wrap64 (rd l1 (wrap64 ((l1.length : Int) - 1)))) (wrap64 (2 * t196))) = 0 then (some 0) else (some 42)))) else (none)) else (none)) else (some 0)) else (some 41))) = some r := by rw [if_neg (show ¬ (false = true) by decide)] at H; exact H
        clear H
        have H := H1
        clear H1
        replace H := Option.bind_eq_some_iff.mp H
        obtain ⟨t194, A60, H⟩ := H
        replace H : (if (l1.length : Int) = t194 then (if (Int.tmod a0 8) > 0 then (if 0 ≤ (wrap64 ((l1.length : Int) - 1)) then (if (wrap64 ((l1.length : Int) - 1)) < (l1.length : Int) then ((torrentref4_weight.f kj2 a0).bind fun t196 => (if (wrap64 (2 * t196)) = 0 then (none) else (if (Int.tmod (wrap64 (rd l1 (wrap64 ((l1.length : Int) - 1)))) (wrap64 (2 * t196))) = 0 then (some 0) else (some 42)))) else (none)) else (none)) else (some 0)) else (some 41)) = some r := H
        have A6 := Aside0.mk A60
        clear A60
        by_cases c7 : (l1.length : Int) = t194
        · rw [if_pos c7] at H
          have c7b0 : ((l1.length : Int) == t194) = true := beq_iff_eq.mpr c7
          have c7b1 : ((l1.length : Int) != t194) = false := bne_eq_false_iff_eq.mpr c7
          clear c7
          by_cases c8 : (Int.tmod a0 8) > 0
          · rw [if_pos c8] at H
            have c8b0 : decide (0 < (Int.tmod a0 8)) = true := decide_eq_true c8
            clear c8
            obtain ⟨ji9, hji9⟩ : ∃ j_ : Int, (wrap64 ((l1.length : Int) - 1)) = j_ := ⟨_, rfl⟩
            replace H : (if 0 ≤ (ji9) then (if (ji9) < (l1.length : Int) then ((torrentref4_weight.f kj2 a0).bind fun t196 => (if (wrap64 (2 * t196)) = 0 then (none) else (if (Int.tmod (wrap64 (rd l1 (ji9))) (wrap64 (2 * t196))) = 0 then (some 0) else (some 42)))) else (none)) else (none)) = some r := by first | (rw [hji9] at H; exact H) | (simp only [hji9] at H ⊢; exact H)
            (try rw [hji9] at A6)
            have hji9w : (IntKind.i64.wrap ((l1.length : Int) - 1)) = ji9 := (i64_w _).trans hji9
            by_cases c10 : 0 ≤ (ji9)
            · rw [if_pos c10] at H
              have c10b0 : decide (0 ≤ (ji9)) = true := decide_eq_true c10
              clear c10
              by_cases c11 : (ji9) < (l1.length : Int)
              · rw [if_pos c11] at H
                have c11b0 : decide ((ji9) < (l1.length : Int)) = true := decide_eq_true c11
                clear c11
                replace H := Option.bind_eq_some_iff.mp H
                obtain ⟨t196, A120, H⟩ := H
                replace H : (if (wrap64 (2 * t196)) = 0 then (none) else (if (Int.tmod (wrap64 (rd l1 (ji9))) (wrap64 (2 * t196))) = 0 then (some 0) else (some 42))) = some r := H
                have A12 := Aside0.mk A120
                clear A120
                by_cases c13 : (wrap64 (2 * t196)) = 0
                · rw [if_pos c13] at H
                  exact absurd H (by simp)
                · rw [if_neg c13] at H
                  have c13b0 : ((wrap64 (2 * t196)) == 0) = false := beq_eq_false_iff_ne.mpr c13
                  have c13b1 : ((wrap64 (2 * t196)) != 0) = true := bne_iff_ne.mpr c13
                  by_cases c14 : (Int.tmod (wrap64 (rd l1 (ji9))) (wrap64 (2 * t196))) = 0
                  · rw [if_pos c14] at H
                    have c14b0 : ((Int.tmod (wrap64 (rd l1 (ji9))) (wrap64 (2 * t196))) == 0) = true := beq_iff_eq.mpr c14
                    have c14b1 : ((Int.tmod (wrap64 (rd l1 (ji9))) (wrap64 (2 * t196))) != 0) = false := bne_eq_false_iff_eq.mpr c14
                    clear c14
                    obtain rfl := Option.some.inj H
                    go_wp2_with (first | ((with_reducible refine gate_callee (f := 72) rfl ?_); refine goesL_ (some 15) rfl rfl Try.func72 (by kernel_rfl) rfl #[.int .i64 a0] rfl (by (try simp only [List.map_toArray, List.map_cons, List.map_nil]); first | done | rfl | (simp only [List.length_drop, List.length_take]; rfl)) ?_; (with_reducible refine (torrentref4_size.calls a0 t194 _ A6.out).mono ?_); rintro e w' ⟨rfl, ⟨nd, rfl⟩⟩; refine ⟨_, rfl, ?_⟩; have p195 : 0 ≤ ((ji9) : Int) := of_decide_eq_true (by first | (with_reducible assumption) | assumption); have q195 : (ji9) < (l1.length : Int) := of_decide_eq_true (by first | (with_reducible assumption) | assumption); obtain ⟨ad195, e195, hx195_0⟩ := Kd.at_int HR1.out (ji9) p195 q195; cases e195; replace p195 := eq_true p195; replace q195 := eq_true q195) | ((with_reducible refine gate_callee (f := 71) rfl ?_); refine goesL_ (some 29) rfl rfl Try.func71 (by kernel_rfl) rfl #[.int .i64 a0] rfl (by (try simp only [List.map_toArray, List.map_cons, List.map_nil]); first | done | rfl | (simp only [List.length_drop, List.length_take]; rfl)) ?_; (with_reducible refine (torrentref4_weight.calls kj2 a0 t196 _ A12.out).mono ?_); rintro e w' ⟨rfl, ⟨nd, rfl⟩⟩; refine ⟨_, rfl, ?_⟩))
                    go_ret
                    exact ⟨by first | rfl | (simp; done) | (simp only [← hji9] <;> (first | rfl | simp)) | (simp [*]; done), by repeat (first | exact Drawn0.refl _ | apply Drawn0.step)⟩
                  · rw [if_neg c14] at H
                    have c14b0 : ((Int.tmod (wrap64 (rd l1 (ji9))) (wrap64 (2 * t196))) == 0) = false := beq_eq_false_iff_ne.mpr c14
                    have c14b1 : ((Int.tmod (wrap64 (rd l1 (ji9))) (wrap64 (2 * t196))) != 0) = true := bne_iff_ne.mpr c14
                    obtain rfl := Option.some.inj H
                    go_wp2_with (first | ((with_reducible refine gate_callee (f := 72) rfl ?_); refine goesL_ (some 15) rfl rfl Try.func72 (by kernel_rfl) rfl #[.int .i64 a0] rfl (by (try simp only [List.map_toArray, List.map_cons, List.map_nil]); first | done | rfl | (simp only [List.length_drop, List.length_take]; rfl)) ?_; (with_reducible refine (torrentref4_size.calls a0 t194 _ A6.out).mono ?_); rintro e w' ⟨rfl, ⟨nd, rfl⟩⟩; refine ⟨_, rfl, ?_⟩; have p195 : 0 ≤ ((ji9) : Int) := of_decide_eq_true (by first | (with_reducible assumption) | assumption); have q195 : (ji9) < (l1.length : Int) := of_decide_eq_true (by first | (with_reducible assumption) | assumption); obtain ⟨ad195, e195, hx195_0⟩ := Kd.at_int HR1.out (ji9) p195 q195; cases e195; replace p195 := eq_true p195; replace q195 := eq_true q195) | ((with_reducible refine gate_callee (f := 71) rfl ?_); refine goesL_ (some 29) rfl rfl Try.func71 (by kernel_rfl) rfl #[.int .i64 a0] rfl (by (try simp only [List.map_toArray, List.map_cons, List.map_nil]); first | done | rfl | (simp only [List.length_drop, List.length_take]; rfl)) ?_; (with_reducible refine (torrentref4_weight.calls kj2 a0 t196 _ A12.out).mono ?_); rintro e w' ⟨rfl, ⟨nd, rfl⟩⟩; refine ⟨_, rfl, ?_⟩))
                    go_ret
                    exact ⟨by first | rfl | (simp; done) | (simp only [← hji9] <;> (first | rfl | simp)) | (simp [*]; done), by repeat (first | exact Drawn0.refl _ | apply Drawn0.step)⟩
              · rw [if_neg c11] at H
                exact absurd H (by simp)
            · rw [if_neg c10] at H
              exact absurd H (by simp)
          · rw [if_neg c8] at H
            have c8b0 : decide (0 < (Int.tmod a0 8)) = false := decide_eq_false c8
            clear c8
            obtain rfl := Option.some.inj H
            go_wp2_with (first | ((with_reducible refine gate_callee (f := 72) rfl ?_); refine goesL_ (some 15) rfl rfl Try.func72 (by kernel_rfl) rfl #[.int .i64 a0] rfl (by (try simp only [List.map_toArray, List.map_cons, List.map_nil]); first | done | rfl | (simp only [List.length_drop, List.length_take]; rfl)) ?_; (with_reducible refine (torrentref4_size.calls a0 t194 _ A6.out).mono ?_); rintro e w' ⟨rfl, ⟨nd, rfl⟩⟩; refine ⟨_, rfl, ?_⟩))
            go_ret
            exact ⟨by first | rfl | (simp; done) | (simp [*]; done), by repeat (first | exact Drawn0.refl _ | apply Drawn0.step)⟩
        · rw [if_neg c7] at H
          have c7b0 : ((l1.length : Int) == t194) = false := beq_eq_false_iff_ne.mpr c7
          have c7b1 : ((l1.length : Int) != t194) = true := bne_iff_ne.mpr c7
          obtain rfl := Option.some.inj H
          go_wp2_with (first | ((with_reducible refine gate_callee (f := 72) rfl ?_); refine goesL_ (some 15) rfl rfl Try.func72 (by kernel_rfl) rfl #[.int .i64 a0] rfl (by (try simp only [List.map_toArray, List.map_cons, List.map_nil]); first | done | rfl | (simp only [List.length_drop, List.length_take]; rfl)) ?_; (with_reducible refine (torrentref4_size.calls a0 t194 _ A6.out).mono ?_); rintro e w' ⟨rfl, ⟨nd, rfl⟩⟩; refine ⟨_, rfl, ?_⟩))
          go_ret
          exact ⟨by first | rfl | (simp; done) | (simp [*]; done), by repeat (first | exact Drawn0.refl _ | apply Drawn0.step)⟩

end Go.Proofs.Ytoohpdamndgdlaa.P
