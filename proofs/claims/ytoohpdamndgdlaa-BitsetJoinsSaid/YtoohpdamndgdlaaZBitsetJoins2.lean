-- Merged by a program of this session out of the texts Px53, Px54, Bits, QPack, QMake, QCheck, QOpen, QSpare, QJoins, PureBitsetJoins of this claim's own.
import Derived.Test.YtoohpdamndgdlaaZBitsetJoins1
import Derived.Laws.Entries
import Derived.Laws.BitsLemmas
import Derived.RowKit
import Derived.Test.YtoohpdamndgdlaaWWords
import Derived.Test.YtoohpdamndgdlaaWMore

-- Made by a program of this session (the print of the kit over a neighbour), for this claim.
namespace Go.Proofs.Ytoohpdamndgdlaa.P
open Go.RowKit Go.Proofs.YtoohpdamndgdlaaW.PrintWords Go.Proofs.YtoohpdamndgdlaaW.PrintLast Go.Proofs.YtoohpdamndgdlaaW.PrintMore
attribute [local go_sem] max2_int min2_int max_two min_two max_three min_three max_four min_four   -- for this text's walks alone
set_option linter.unusedVariables false
set_option linter.unusedSimpArgs false

/-! ### torrentref4_Covers: function 47 -/
def torrentref4_Covers.l0 : Nat → Int → List Bool → List Bool → Int → Option (Bool × Int)
  | 0, _, _, _, _ => none
  | k + 1, x0, x9, x10, x11 => if x11 < x0 then (if 0 ≤ x11 then (if x11 < (x10.length : Int) then (if rdOf false x10 x11 = true then (if x11 < (x9.length : Int) then (if rdOf false x9 x11 = true then (torrentref4_Covers.l0 k x0 x9 x10 (wrap64 (x11 + 1))) else (some (false, 0))) else (none)) else (torrentref4_Covers.l0 k x0 x9 x10 (wrap64 (x11 + 1)))) else (none)) else (none)) else (some (true, 0))
def torrentref4_Covers.f (k : Nat) (a0 : Int) (l1 : List Int) (l2 : List Int) : Option (Bool × Int) := (torrentref4_both.f k a0 l1 l2).bind fun t432 => (if t432 = 0 then ((torrentref4_open.f k l1).bind fun t433 => ((torrentref4_open.f k l2).bind fun t436 => (torrentref4_Covers.l0 k a0 t433 t436 0))) else (some (false, t432)))
theorem torrentref4_Covers.mono_l : ∀ k, (∀ y0 y1 y2 y3, LeO (torrentref4_Covers.l0 k y0 y1 y2 y3) (torrentref4_Covers.l0 (k + 1) y0 y1 y2 y3))
  | 0 => fun _ _ _ _ r h => by simp [torrentref4_Covers.l0] at h
  | k + 1 => by
    have ih0 := torrentref4_Covers.mono_l k
    · intro y0 y1 y2 y3
      unfold torrentref4_Covers.l0
      repeat' first
      | (with_reducible exact ih0 _ _ _ _)
      | (with_reducible exact torrentref4_both.mono _ _ _ _)
      | (with_reducible exact torrentref4_open.mono _ _)
      | (with_reducible exact LeO.refl _)
      | (with_reducible exact LeO.none _)
      | (with_reducible refine LeO.ite ?_ ?_)
      | (with_reducible refine LeO.bind ?_ (fun _ => ?_))
      | exact ih0 _ _ _ _
      | exact torrentref4_both.mono _ _ _ _
      | exact torrentref4_open.mono _ _
      | exact LeO.none _
      | refine LeO.ite ?_ ?_
      | refine LeO.bind ?_ (fun _ => ?_)
theorem torrentref4_Covers.mono : ∀ a0 a1 a2 k, LeO (torrentref4_Covers.f k a0 a1 a2) (torrentref4_Covers.f (k + 1) a0 a1 a2) := by
  intro a0 a1 a2 k
  have ih0 := torrentref4_Covers.mono_l k
  unfold torrentref4_Covers.f
  repeat' first
      | (with_reducible exact ih0 _ _ _ _)
      | (with_reducible exact torrentref4_both.mono _ _ _ _)
      | (with_reducible exact torrentref4_open.mono _ _)
      | (with_reducible exact LeO.refl _)
      | (with_reducible exact LeO.none _)
      | (with_reducible refine LeO.ite ?_ ?_)
      | (with_reducible refine LeO.bind ?_ (fun _ => ?_))
      | exact ih0 _ _ _ _
      | exact torrentref4_both.mono _ _ _ _
      | exact torrentref4_open.mono _ _
      | exact LeO.none _
      | refine LeO.ite ?_ ?_
      | refine LeO.bind ?_ (fun _ => ?_)
set_option maxHeartbeats 8000000 in
set_option maxRecDepth 100000 in
theorem torrentref4_Covers.calls (k : Nat) (a0 : Int) (A1 : Option Addr) (c1 : Nat) (l1 : List Int) (A2 : Option Addr) (c2 : Nat) (l2 : List Int) (r1 : Bool) (r2 : Int) (w : World) (hr1 : Kd.C (Kd.int .u8) w A1 l1.length l1) (hc1 : l1.length ≤ c1) (hr2 : Kd.C (Kd.int .u8) w A2 l2.length l2) (hc2 : l2.length ≤ c2) (h : torrentref4_Covers.f k a0 l1 l2 = some (r1, r2)) :
    Calls Try.prog 47 #[.int .i64 a0, .slice A1 l1.length c1, .slice A2 l2.length c2] w fun e w' => e = .returned (.tuple #[.bool r1, .int .i64 r2]) ∧ Below w.heap.size w w' := by
  have HR1 := Aside0.mk hr1
  have HC1 := Aside0.mk hc1
  clear hr1 hc1
  have HR2 := Aside0.mk hr2
  have HC2 := Aside0.mk hc2
  clear hr2 hc2
  have HB := Aside0.mk (Below.refl w.heap.size w)
  have H : ((torrentref4_both.f k a0 l1 l2).bind fun t432 => (if t432 = 0 then ((torrentref4_open.f k l1).bind fun t433 => ((torrentref4_open.f k l2).bind fun t436 => (torrentref4_Covers.l0 k a0 t433 t436 0))) else (some (false, t432)))) = some (r1, r2) := h
  clear h
  replace H := Option.bind_eq_some_iff.mp H
  obtain ⟨t432, A40, H⟩ := H
  replace H : (if t432 = 0 then ((torrentref4_open.f k l1).bind fun t433 => ((torrentref4_open.f k l2).bind fun t436 => (torrentref4_Covers.l0 k a0 t433 t436 0))) else (some (false, t432))) = some (r1, r2) := H
  have A4 := Aside0.mk A40
  clear A40
  by_cases c5 : t432 = 0
  · rw [if_pos c5] at H
    have c5b0 : (t432 == 0) = true := beq_iff_eq.mpr c5
    have c5b1 : (t432 != 0) = false := bne_eq_false_iff_eq.mpr c5
    clear c5
    replace H := Option.bind_eq_some_iff.mp H
    obtain ⟨t433, A60, H⟩ := H
    replace H : ((torrentref4_open.f k l2).bind fun t436 => (torrentref4_Covers.l0 k a0 t433 t436 0)) = some (r1, r2) := H
    have A6 := Aside0.mk A60
    clear A60
    replace H := Option.bind_eq_some_iff.mp H
    obtain ⟨t436, A70, H⟩ := H
    replace H : (torrentref4_Covers.l0 k a0 t433 t436 0) = some (r1, r2) := H
    have A7 := Aside0.mk A70
    clear A70
    have H' := Aside0.mk H
    clear H
    go_enter Try.func47, Try.ntmps47
    go_wp2_with (first | ((with_reducible refine gate_callee (f := 70) rfl ?_); refine goesL_ (some 15) rfl rfl Try.func70 (by kernel_rfl) rfl #[.int .i64 a0, .slice A1 l1.length c1, .slice A2 l2.length c2] rfl (by (try simp only [List.map_toArray, List.map_cons, List.map_nil]); first | done | rfl | (simp only [List.length_drop, List.length_take]; rfl)) ?_; (with_reducible refine (torrentref4_both.calls k a0 _ _ l1 _ _ l2 t432 _ ?side1 ?side2 ?side3 ?side4 A4.out).mono ?_); (case side1 => repeat (first | exact HR1.out | (with_reducible refine Kd.C_alloc ?_ _) | (with_reducible refine Kd.C_drewN ?_ _) | (with_reducible refine Kd.C_drew ?_))); (case side2 => exact HC1.out); (case side3 => repeat (first | exact HR2.out | (with_reducible refine Kd.C_alloc ?_ _) | (with_reducible refine Kd.C_drewN ?_ _) | (with_reducible refine Kd.C_drew ?_))); (case side4 => exact HC2.out); rintro e w' ⟨rfl, ⟨nd, rfl⟩⟩; refine ⟨_, rfl, ?_⟩) | ((with_reducible refine gate_callee (f := 60) rfl ?_); refine goesL_ (some 20) rfl rfl Try.func60 (by kernel_rfl) rfl #[.slice A1 l1.length c1] rfl (by (try simp only [List.map_toArray, List.map_cons, List.map_nil]); first | done | rfl | (simp only [List.length_drop, List.length_take]; rfl)) ?_; (with_reducible refine (torrentref4_open.calls k _ _ l1 t433 _ ?side1 ?side2 A6.out).mono ?_); (case side1 => repeat (first | exact HR1.out | (with_reducible refine Kd.C_alloc ?_ _) | (with_reducible refine Kd.C_drewN ?_ _) | (with_reducible refine Kd.C_drew ?_))); (case side2 => exact HC1.out); rintro e w8 ⟨v434, rfl, ho0, hb⟩; refine ⟨_, rfl, ?_⟩; have n0_ := Aside0.mk (Kd.R_lower ho0 (below_size (by repeat (first | (with_reducible first | exact HB.out | apply below_alloc | apply pw_below_drewN | apply below_drew1) | exact HB.out)))); have n1_ := Aside0.mk (below_step (by repeat (first | (with_reducible first | exact HB.out | apply below_alloc | apply pw_below_drewN | apply below_drew1) | exact HB.out)) hb); clear HB; have HO435 := n0_; have HB := n1_; clear n0_ n1_; (try clear hb); (try clear hb2); (try clear hk); (try clear hi); (try clear ho0)) | ((with_reducible refine gate_callee (f := 60) rfl ?_); refine goesL_ (some 22) rfl rfl Try.func60 (by kernel_rfl) rfl #[.slice A2 l2.length c2] rfl (by (try simp only [List.map_toArray, List.map_cons, List.map_nil]); first | done | rfl | (simp only [List.length_drop, List.length_take]; rfl)) ?_; (with_reducible refine (torrentref4_open.calls k _ _ l2 t436 _ ?side1 ?side2 A7.out).mono ?_); (case side1 => repeat (first | exact (Kd.C_below HR2.out HB.out) | (with_reducible refine Kd.C_alloc ?_ _) | (with_reducible refine Kd.C_drewN ?_ _) | (with_reducible refine Kd.C_drew ?_))); (case side2 => exact HC2.out); rintro e w9 ⟨v437, rfl, ho0, hb⟩; refine ⟨_, rfl, ?_⟩; have n0_ := Aside0.mk (Kd.R_elder' (by (with_reducible repeat (first | apply Kd.R_alloc | apply Kd.R_drewN | apply Kd.R_drew)); exact HO435.out) (Kd.R_base ho0) hb); have n1_ := Aside0.mk (Kd.R_lower (Kd.R_new' ho0 (Kd.R_lt (by (with_reducible repeat (first | apply Kd.R_alloc | apply Kd.R_drewN | apply Kd.R_drew)); exact HO435.out))) (below_size (by repeat (first | (with_reducible first | exact HB.out | apply below_alloc | apply pw_below_drewN | apply below_drew1) | exact HB.out)))); have n2_ := Aside0.mk (below_step (by repeat (first | (with_reducible first | exact HB.out | apply below_alloc | apply pw_below_drewN | apply below_drew1) | exact HB.out)) hb); clear HO435; clear HB; have HO435 := n0_; have HO438 := n1_; have HB := n2_; clear n0_ n1_ n2_; (try clear hb); (try clear hb2); (try clear hk); (try clear hi); (try clear ho0)))
    go_loopg [11] k (fun kq v11 w' => ∃ (x11_1 : Int), v11 = .int .i64 x11_1 ∧ Aside0 (torrentref4_Covers.l0 kq a0 t433 t436 x11_1 = some (r1, r2)) ∧ Aside0 (kq ≤ k) ∧ Aside0 (Kd.R Kd.bool 4 w' w.heap.size (fun k_ => some k_ ≠ (v437 : Value).ownBlock) v434 t433) ∧ Aside0 (Kd.R Kd.bool 4 w' w.heap.size (fun k_ => some k_ ≠ (v434 : Value).ownBlock) v437 t436) ∧ Aside0 (Below w.heap.size w w'))
    case atStart => exact ⟨(0), (by first | rfl | (simp; done) | (simp [*]; done)), H', ⟨Nat.le_refl _⟩, ⟨by (with_reducible repeat (first | apply Kd.R_alloc | apply Kd.R_drewN | apply Kd.R_drew)); exact Kd.R_mono HO435.out (fun _ hk => hk.2)⟩, ⟨by (with_reducible repeat (first | apply Kd.R_alloc | apply Kd.R_drewN | apply Kd.R_drew)); exact Kd.R_mono HO438.out (fun _ hk => hk.2)⟩, ⟨by repeat (first | (with_reducible first | exact HB.out | apply below_alloc | apply pw_below_drewN | apply below_drew1) | exact HB.out)⟩⟩
    case round =>
      clear H'
      try clear c1
      try clear c2
      try clear p2
      try clear c4
      try clear c5
      try clear c5b0
      try clear c5b1
      try clear c6
      try clear c7
      obtain ⟨x11_1, rfl, HA, HK1, HO_9, HO_10, HB⟩ := hrel
      cases gk with
      | zero => exact absurd HA.out (by simp [torrentref4_Covers.l0])
      | succ k1 =>
        have H := HA.out
        clear HA
        simp only [torrentref4_Covers.l0] at H
        by_cases c10 : x11_1 < a0
        · rw [if_pos c10] at H
          have c10b0 : decide (x11_1 < a0) = true := decide_eq_true c10
          clear c10
          by_cases c11 : 0 ≤ x11_1
          · rw [if_pos c11] at H
            have c11b0 : decide (0 ≤ x11_1) = true := decide_eq_true c11
            clear c11
            by_cases c12 : x11_1 < (t436.length : Int)
            · rw [if_pos c12] at H
              have c12b0 : decide (x11_1 < (t436.length : Int)) = true := decide_eq_true c12
              clear c12
              obtain ⟨bq13, hbq13⟩ : ∃ b_ : Bool, b_ = (rdOf false t436 x11_1) := ⟨_, rfl⟩
              replace H : (if bq13 = true then (if x11_1 < (t433.length : Int) then (if rdOf false t433 x11_1 = true then (torrentref4_Covers.l0 k1 a0 t433 t436 (wrap64 (x11_1 + 1))) else (some (false, 0))) else (none)) else (torrentref4_Covers.l0 k1 a0 t433 t436 (wrap64 (x11_1 + 1)))) = some (r1, r2) := by rw [← hbq13] at H; exact H
              have Nbq13 := Aside0.mk hbq13
              clear hbq13
              by_cases c14 : bq13 = true
              · subst c14
                have H1 : (if x11_1 < (t433.length : Int) then (if rdOf false t433 x11_1 = true then (torrentref4_Covers.l0 k1 a0 t433 t436 (wrap64 (x11_1 + 1))) else (some (false, 0))) else (none)) = some (r1, r2) := by rw [if_pos rfl] at H; exact H
                clear H
                have H := H1
                clear H1
                by_cases c15 : x11_1 < (t433.length : Int)
                · rw [if_pos c15] at H
                  have c15b0 : decide (x11_1 < (t433.length : Int)) = true := decide_eq_true c15
                  clear c15
                  obtain ⟨bq16, hbq16⟩ : ∃ b_ : Bool, b_ = (rdOf false t433 x11_1) := ⟨_, rfl⟩
                  replace H : (if bq16 = true then (torrentref4_Covers.l0 k1 a0 t433 t436 (wrap64 (x11_1 + 1))) else (some (false, 0))) = some (r1, r2) := by rw [← hbq16] at H; exact H
                  have Nbq16 := Aside0.mk hbq16
                  clear hbq16
                  by_cases c17 : bq16 = true
                  · subst c17
                    have H1 : (torrentref4_Covers.l0 k1 a0 t433 t436 (wrap64 (x11_1 + 1))) = some (r1, r2) := by rw [if_pos rfl] at H; exact H
                    clear H
                    have H := H1
                    clear H1
                    have H' := Aside0.mk H
                    clear H
                    obtain ⟨Ao18, co18, eo18⟩ := Kd.R_slice HO_10.out
                    subst eo18
                    have p439 : 0 ≤ (x11_1 : Int) := of_decide_eq_true (by first | (with_reducible assumption) | assumption)
                    have q439 : x11_1 < (t436.length : Int) := of_decide_eq_true (by first | (with_reducible assumption) | assumption)
                    obtain ⟨ad439, e439, hx439_0⟩ := Kd.at_bool (Kd.R_reads' HO_10.out).2.2 x11_1 p439 q439
                    (try rw [← Nbq13.out] at hx439_0)
                    (try rw [← Nbq16.out] at hx439_0)
                    cases e439
                    replace p439 := eq_true p439
                    replace q439 := eq_true q439
                    obtain ⟨Ao19, co19, eo19⟩ := Kd.R_slice HO_9.out
                    subst eo19
                    have p440 : 0 ≤ (x11_1 : Int) := of_decide_eq_true (by first | (with_reducible assumption) | assumption)
                    have q440 : x11_1 < (t433.length : Int) := of_decide_eq_true (by first | (with_reducible assumption) | assumption)
                    obtain ⟨ad440, e440, hx440_0⟩ := Kd.at_bool (Kd.R_reads' HO_9.out).2.2 x11_1 p440 q440
                    (try rw [← Nbq13.out] at hx440_0)
                    (try rw [← Nbq16.out] at hx440_0)
                    cases e440
                    replace p440 := eq_true p440
                    replace q440 := eq_true q440
                    go_wp2
                    go_roundg k1
                    case measure => have := HK1.out; omega
                    case rel => exact ⟨(wrap64 (x11_1 + 1)), (by first | rfl | (simp; done) | (simp [*]; done)), H', ⟨by have := HK1.out; omega⟩, ⟨by (with_reducible repeat (first | apply Kd.R_alloc | apply Kd.R_drewN | apply Kd.R_drew)); exact HO_9.out⟩, ⟨by (with_reducible repeat (first | apply Kd.R_alloc | apply Kd.R_drewN | apply Kd.R_drew)); exact HO_10.out⟩, ⟨by repeat (first | (with_reducible first | exact HB.out | apply below_alloc | apply pw_below_drewN | apply below_drew1) | exact HB.out)⟩⟩
                  · replace c17 := Bool.eq_false_iff.mpr c17
                    subst c17
                    have H1 : (some (false, 0)) = some (r1, r2) := by rw [if_neg (show ¬ (false = true) by decide)] at H; exact H
                    clear H
                    have H := H1
                    clear H1
                    simp only [Option.some.injEq, Prod.mk.injEq] at H
                    obtain ⟨rfl, rfl⟩ := H
                    obtain ⟨Ao20, co20, eo20⟩ := Kd.R_slice HO_10.out
                    subst eo20
                    have p439 : 0 ≤ (x11_1 : Int) := of_decide_eq_true (by first | (with_reducible assumption) | assumption)
                    have q439 : x11_1 < (t436.length : Int) := of_decide_eq_true (by first | (with_reducible assumption) | assumption)
                    obtain ⟨ad439, e439, hx439_0⟩ := Kd.at_bool (Kd.R_reads' HO_10.out).2.2 x11_1 p439 q439
                    (try rw [← Nbq13.out] at hx439_0)
                    (try rw [← Nbq16.out] at hx439_0)
                    cases e439
                    replace p439 := eq_true p439
                    replace q439 := eq_true q439
                    obtain ⟨Ao21, co21, eo21⟩ := Kd.R_slice HO_9.out
                    subst eo21
                    have p440 : 0 ≤ (x11_1 : Int) := of_decide_eq_true (by first | (with_reducible assumption) | assumption)
                    have q440 : x11_1 < (t433.length : Int) := of_decide_eq_true (by first | (with_reducible assumption) | assumption)
                    obtain ⟨ad440, e440, hx440_0⟩ := Kd.at_bool (Kd.R_reads' HO_9.out).2.2 x11_1 p440 q440
                    (try rw [← Nbq13.out] at hx440_0)
                    (try rw [← Nbq16.out] at hx440_0)
                    cases e440
                    replace p440 := eq_true p440
                    replace q440 := eq_true q440
                    go_wp2
                    go_ret2
                    exact ⟨by first | rfl | (simp [errW_none, errW_some] <;> rfl) | (simp [*, errW_none, errW_some] <;> rfl), by repeat (first | (with_reducible first | exact HB.out | apply below_alloc | apply pw_below_drewN | apply below_drew1) | exact HB.out)⟩
                · rw [if_neg c15] at H
                  exact absurd H (by simp)
              · replace c14 := Bool.eq_false_iff.mpr c14
                subst c14
                have H1 : (torrentref4_Covers.l0 k1 a0 t433 t436 (wrap64 (x11_1 + 1))) = some (r1, r2) := by rw [if_neg (show ¬ (false = true) by decide)] at H; exact H
                clear H
                have H := H1
                clear H1
                have H' := Aside0.mk H
                clear H
                obtain ⟨Ao22, co22, eo22⟩ := Kd.R_slice HO_10.out
                subst eo22
                have p439 : 0 ≤ (x11_1 : Int) := of_decide_eq_true (by first | (with_reducible assumption) | assumption)
                have q439 : x11_1 < (t436.length : Int) := of_decide_eq_true (by first | (with_reducible assumption) | assumption)
                obtain ⟨ad439, e439, hx439_0⟩ := Kd.at_bool (Kd.R_reads' HO_10.out).2.2 x11_1 p439 q439
                (try rw [← Nbq13.out] at hx439_0)
                cases e439
                replace p439 := eq_true p439
                replace q439 := eq_true q439
                go_wp2
                go_roundg k1
                case measure => have := HK1.out; omega
                case rel => exact ⟨(wrap64 (x11_1 + 1)), (by first | rfl | (simp; done) | (simp [*]; done)), H', ⟨by have := HK1.out; omega⟩, ⟨by (with_reducible repeat (first | apply Kd.R_alloc | apply Kd.R_drewN | apply Kd.R_drew)); exact HO_9.out⟩, ⟨by (with_reducible repeat (first | apply Kd.R_alloc | apply Kd.R_drewN | apply Kd.R_drew)); exact HO_10.out⟩, ⟨by repeat (first | (with_reducible first | exact HB.out | apply below_alloc | apply pw_below_drewN | apply below_drew1) | exact HB.out)⟩⟩
            · rw [if_neg c12] at H
              exact absurd H (by simp)
          · rw [if_neg c11] at H
            exact absurd H (by simp)
        · rw [if_neg c10] at H
          have c10b0 : decide (x11_1 < a0) = false := decide_eq_false c10
          clear c10
          simp only [Option.some.injEq, Prod.mk.injEq] at H
          obtain ⟨rfl, rfl⟩ := H
          go_wp2
          go_ret2
          exact ⟨by first | rfl | (simp [errW_none, errW_some] <;> rfl) | (simp [*, errW_none, errW_some] <;> rfl), by repeat (first | (with_reducible first | exact HB.out | apply below_alloc | apply pw_below_drewN | apply below_drew1) | exact HB.out)⟩
  · rw [if_neg c5] at H
    have c5b0 : (t432 == 0) = false := beq_eq_false_iff_ne.mpr c5
    have c5b1 : (t432 != 0) = true := bne_iff_ne.mpr c5
    simp only [Option.some.injEq, Prod.mk.injEq] at H
    obtain ⟨rfl, rfl⟩ := H
    go_enter Try.func47, Try.ntmps47
    go_wp2_with (first | ((with_reducible refine gate_callee (f := 70) rfl ?_); refine goesL_ (some 15) rfl rfl Try.func70 (by kernel_rfl) rfl #[.int .i64 a0, .slice A1 l1.length c1, .slice A2 l2.length c2] rfl (by (try simp only [List.map_toArray, List.map_cons, List.map_nil]); first | done | rfl | (simp only [List.length_drop, List.length_take]; rfl)) ?_; (with_reducible refine (torrentref4_both.calls k a0 _ _ l1 _ _ l2 t432 _ ?side1 ?side2 ?side3 ?side4 A4.out).mono ?_); (case side1 => repeat (first | exact HR1.out | (with_reducible refine Kd.C_alloc ?_ _) | (with_reducible refine Kd.C_drewN ?_ _) | (with_reducible refine Kd.C_drew ?_))); (case side2 => exact HC1.out); (case side3 => repeat (first | exact HR2.out | (with_reducible refine Kd.C_alloc ?_ _) | (with_reducible refine Kd.C_drewN ?_ _) | (with_reducible refine Kd.C_drew ?_))); (case side4 => exact HC2.out); rintro e w' ⟨rfl, ⟨nd, rfl⟩⟩; refine ⟨_, rfl, ?_⟩))
    go_ret2
    exact ⟨by first | rfl | (simp [errW_none, errW_some] <;> rfl) | (simp [*, errW_none, errW_some] <;> rfl), by repeat (first | (with_reducible first | exact HB.out | apply below_alloc | apply pw_below_drewN | apply below_drew1) | exact HB.out)⟩

end Go.Proofs.Ytoohpdamndgdlaa.P

-- Made by a program of this session (the print of the kit over a neighbour), for this claim.
namespace Go.Proofs.Ytoohpdamndgdlaa.P
open Go.RowKit Go.Proofs.YtoohpdamndgdlaaW.PrintWords Go.Proofs.YtoohpdamndgdlaaW.PrintLast Go.Proofs.YtoohpdamndgdlaaW.PrintMore
attribute [local go_sem] max2_int min2_int max_two min_two max_three min_three max_four min_four   -- for this text's walks alone
set_option linter.unusedVariables false
set_option linter.unusedSimpArgs false

/-! ### torrentlaw4_BitsetJoins: function 10 -/
mutual
def torrentlaw4_BitsetJoins.j0 : Nat → Int → List Int → List Int → List Int → List Int → Bool → Option (Bool)
  | 0, _, _, _, _, _, _ => none
  | k + 1, x0, x1, x2, x7, x8, x41 => if x41 = true then (some false) else ((bitset_Or.f k x0 x7 x8).bind fun bt456 => ((torrentref4_Or.f k x0 x1 x2).bind fun bt460 => (if bt456.2 = bt460.2 then ((torrentlaw4_sameBytes.f k bt456.1 bt460.1).bind fun t464 => (torrentlaw4_BitsetJoins.j1 k x0 x1 x2 x7 x8 (!t464))) else (torrentlaw4_BitsetJoins.j1 k x0 x1 x2 x7 x8 true))))
def torrentlaw4_BitsetJoins.j1 : Nat → Int → List Int → List Int → List Int → List Int → Bool → Option (Bool)
  | 0, _, _, _, _, _, _ => none
  | k + 1, x0, x1, x2, x7, x8, x64 => if x64 = true then (some false) else ((bitset_Minus.f k x0 x7 x8).bind fun bt465 => ((torrentref4_Minus.f k x0 x1 x2).bind fun bt469 => (if bt465.2 = bt469.2 then ((torrentlaw4_sameBytes.f k bt465.1 bt469.1).bind fun t473 => (torrentlaw4_BitsetJoins.j2 k x0 x1 x2 x7 x8 (!t473))) else (torrentlaw4_BitsetJoins.j2 k x0 x1 x2 x7 x8 true))))
def torrentlaw4_BitsetJoins.j2 : Nat → Int → List Int → List Int → List Int → List Int → Bool → Option (Bool)
  | 0, _, _, _, _, _, _ => none
  | k + 1, x0, x1, x2, x7, x8, x87 => if x87 = true then (some false) else ((bitset_Not.f k x0 x8).bind fun bt474 => ((torrentref4_Not.f k x0 x2).bind fun bt478 => (if bt474.2 = bt478.2 then ((torrentlaw4_sameBytes.f k bt474.1 bt478.1).bind fun t482 => (torrentlaw4_BitsetJoins.j3 k x0 x1 x2 x7 x8 (!t482))) else (torrentlaw4_BitsetJoins.j3 k x0 x1 x2 x7 x8 true))))
def torrentlaw4_BitsetJoins.j3 : Nat → Int → List Int → List Int → List Int → List Int → Bool → Option (Bool)
  | 0, _, _, _, _, _, _ => none
  | k + 1, x0, x1, x2, x7, x8, x108 => if x108 = true then (some false) else ((bitset_Covers.f k x0 x7 x8).bind fun bt483 => ((torrentref4_Covers.f k x0 x1 x2).bind fun bt485 => (if bt483.2 = bt485.2 then (if (bt483.1 == bt485.1) = true then ((torrentlaw4_sameBytes.f k x7 x1).bind fun t487 => (if t487 = true then ((torrentlaw4_sameBytes.f k x8 x2).bind fun t488 => (some t488)) else (some false))) else (some false)) else (some false))))
end
def torrentlaw4_BitsetJoins.f (k : Nat) (a0 : Int) (l1 : List Int) (l2 : List Int) : Option (Bool) := (torrentlaw4_copied.f k l1).bind fun t441 => ((torrentlaw4_copied.f k l2).bind fun t444 => ((bitset_And.f k a0 t441 t444).bind fun bt447 => ((torrentref4_And.f k a0 l1 l2).bind fun bt451 => (if bt447.2 = bt451.2 then ((torrentlaw4_sameBytes.f k bt447.1 bt451.1).bind fun t455 => (torrentlaw4_BitsetJoins.j0 k a0 l1 l2 t441 t444 (!t455))) else (torrentlaw4_BitsetJoins.j0 k a0 l1 l2 t441 t444 true)))))
theorem torrentlaw4_BitsetJoins.mono_l : ∀ k, (∀ y0 y1 y2 y3 y4 y5, LeO (torrentlaw4_BitsetJoins.j0 k y0 y1 y2 y3 y4 y5) (torrentlaw4_BitsetJoins.j0 (k + 1) y0 y1 y2 y3 y4 y5)) ∧ (∀ y0 y1 y2 y3 y4 y5, LeO (torrentlaw4_BitsetJoins.j1 k y0 y1 y2 y3 y4 y5) (torrentlaw4_BitsetJoins.j1 (k + 1) y0 y1 y2 y3 y4 y5)) ∧ (∀ y0 y1 y2 y3 y4 y5, LeO (torrentlaw4_BitsetJoins.j2 k y0 y1 y2 y3 y4 y5) (torrentlaw4_BitsetJoins.j2 (k + 1) y0 y1 y2 y3 y4 y5)) ∧ (∀ y0 y1 y2 y3 y4 y5, LeO (torrentlaw4_BitsetJoins.j3 k y0 y1 y2 y3 y4 y5) (torrentlaw4_BitsetJoins.j3 (k + 1) y0 y1 y2 y3 y4 y5))
  | 0 => ⟨fun _ _ _ _ _ _ r h => by simp [torrentlaw4_BitsetJoins.j0] at h, fun _ _ _ _ _ _ r h => by simp [torrentlaw4_BitsetJoins.j1] at h, fun _ _ _ _ _ _ r h => by simp [torrentlaw4_BitsetJoins.j2] at h, fun _ _ _ _ _ _ r h => by simp [torrentlaw4_BitsetJoins.j3] at h⟩
  | k + 1 => by
    obtain ⟨ih0, ih1, ih2, ih3⟩ := torrentlaw4_BitsetJoins.mono_l k
    refine ⟨?_, ?_, ?_, ?_⟩
    · intro y0 y1 y2 y3 y4 y5
      unfold torrentlaw4_BitsetJoins.j0
      repeat' first
      | (with_reducible exact ih0 _ _ _ _ _ _)
      | (with_reducible exact ih1 _ _ _ _ _ _)
      | (with_reducible exact ih2 _ _ _ _ _ _)
      | (with_reducible exact ih3 _ _ _ _ _ _)
      | (with_reducible exact bitset_And.mono _ _ _ _)
      | (with_reducible exact bitset_Covers.mono _ _ _ _)
      | (with_reducible exact bitset_Minus.mono _ _ _ _)
      | (with_reducible exact bitset_Not.mono _ _ _)
      | (with_reducible exact bitset_Or.mono _ _ _ _)
      | (with_reducible exact torrentlaw4_copied.mono _ _)
      | (with_reducible exact torrentlaw4_sameBytes.mono _ _ _)
      | (with_reducible exact torrentref4_And.mono _ _ _ _)
      | (with_reducible exact torrentref4_Covers.mono _ _ _ _)
      | (with_reducible exact torrentref4_Minus.mono _ _ _ _)
      | (with_reducible exact torrentref4_Not.mono _ _ _)
      | (with_reducible exact torrentref4_Or.mono _ _ _ _)
      | (with_reducible exact LeO.refl _)
      | (with_reducible exact LeO.none _)
      | (with_reducible refine LeO.ite ?_ ?_)
      | (with_reducible refine LeO.bind ?_ (fun _ => ?_))
      | exact ih0 _ _ _ _ _ _
      | exact ih1 _ _ _ _ _ _
      | exact ih2 _ _ _ _ _ _
      | exact ih3 _ _ _ _ _ _
      | exact bitset_And.mono _ _ _ _
      | exact bitset_Covers.mono _ _ _ _
      | exact bitset_Minus.mono _ _ _ _
      | exact bitset_Not.mono _ _ _
      | exact bitset_Or.mono _ _ _ _
      | exact torrentlaw4_copied.mono _ _
      | exact torrentlaw4_sameBytes.mono _ _ _
      | exact torrentref4_And.mono _ _ _ _
      | exact torrentref4_Covers.mono _ _ _ _
      | exact torrentref4_Minus.mono _ _ _ _
      | exact torrentref4_Not.mono _ _ _
      | exact torrentref4_Or.mono _ _ _ _
      | exact LeO.none _
      | refine LeO.ite ?_ ?_
      | refine LeO.bind ?_ (fun _ => ?_)
    · intro y0 y1 y2 y3 y4 y5
      unfold torrentlaw4_BitsetJoins.j1
      repeat' first
      | (with_reducible exact ih0 _ _ _ _ _ _)
      | (with_reducible exact ih1 _ _ _ _ _ _)
      | (with_reducible exact ih2 _ _ _ _ _ _)
      | (with_reducible exact ih3 _ _ _ _ _ _)
      | (with_reducible exact bitset_And.mono _ _ _ _)
      | (with_reducible exact bitset_Covers.mono _ _ _ _)
      | (with_reducible exact bitset_Minus.mono _ _ _ _)
      | (with_reducible exact bitset_Not.mono _ _ _)
      | (with_reducible exact bitset_Or.mono _ _ _ _)
      | (with_reducible exact torrentlaw4_copied.mono _ _)
      | (with_reducible exact torrentlaw4_sameBytes.mono _ _ _)
      | (with_reducible exact torrentref4_And.mono _ _ _ _)
      | (with_reducible exact torrentref4_Covers.mono _ _ _ _)
      | (with_reducible exact torrentref4_Minus.mono _ _ _ _)
      | (with_reducible exact torrentref4_Not.mono _ _ _)
      | (with_reducible exact torrentref4_Or.mono _ _ _ _)
      | (with_reducible exact LeO.refl _)
      | (with_reducible exact LeO.none _)
      | (with_reducible refine LeO.ite ?_ ?_)
      | (with_reducible refine LeO.bind ?_ (fun _ => ?_))
      | exact ih0 _ _ _ _ _ _
      | exact ih1 _ _ _ _ _ _
      | exact ih2 _ _ _ _ _ _
      | exact ih3 _ _ _ _ _ _
      | exact bitset_And.mono _ _ _ _
      | exact bitset_Covers.mono _ _ _ _
      | exact bitset_Minus.mono _ _ _ _
      | exact bitset_Not.mono _ _ _
      | exact bitset_Or.mono _ _ _ _
      | exact torrentlaw4_copied.mono _ _
      | exact torrentlaw4_sameBytes.mono _ _ _
      | exact torrentref4_And.mono _ _ _ _
      | exact torrentref4_Covers.mono _ _ _ _
      | exact torrentref4_Minus.mono _ _ _ _
      | exact torrentref4_Not.mono _ _ _
      | exact torrentref4_Or.mono _ _ _ _
      | exact LeO.none _
      | refine LeO.ite ?_ ?_
      | refine LeO.bind ?_ (fun _ => ?_)
    · intro y0 y1 y2 y3 y4 y5
      unfold torrentlaw4_BitsetJoins.j2
      repeat' first
      | (with_reducible exact ih0 _ _ _ _ _ _)
      | (with_reducible exact ih1 _ _ _ _ _ _)
      | (with_reducible exact ih2 _ _ _ _ _ _)
      | (with_reducible exact ih3 _ _ _ _ _ _)
      | (with_reducible exact bitset_And.mono _ _ _ _)
      | (with_reducible exact bitset_Covers.mono _ _ _ _)
      | (with_reducible exact bitset_Minus.mono _ _ _ _)
      | (with_reducible exact bitset_Not.mono _ _ _)
      | (with_reducible exact bitset_Or.mono _ _ _ _)
      | (with_reducible exact torrentlaw4_copied.mono _ _)
      | (with_reducible exact torrentlaw4_sameBytes.mono _ _ _)
      | (with_reducible exact torrentref4_And.mono _ _ _ _)
      | (with_reducible exact torrentref4_Covers.mono _ _ _ _)
      | (with_reducible exact torrentref4_Minus.mono _ _ _ _)
      | (with_reducible exact torrentref4_Not.mono _ _ _)
      | (with_reducible exact torrentref4_Or.mono _ _ _ _)
      | (with_reducible exact LeO.refl _)
      | (with_reducible exact LeO.none _)
      | (with_reducible refine LeO.ite ?_ ?_)
      | (with_reducible refine LeO.bind ?_ (fun _ => ?_))
      | exact ih0 _ _ _ _ _ _
      | exact ih1 _ _ _ _ _ _
      | exact ih2 _ _ _ _ _ _
      | exact ih3 _ _ _ _ _ _
      | exact bitset_And.mono _ _ _ _
      | exact bitset_Covers.mono _ _ _ _
      | exact bitset_Minus.mono _ _ _ _
      | exact bitset_Not.mono _ _ _
      | exact bitset_Or.mono _ _ _ _
      | exact torrentlaw4_copied.mono _ _
      | exact torrentlaw4_sameBytes.mono _ _ _
      | exact torrentref4_And.mono _ _ _ _
      | exact torrentref4_Covers.mono _ _ _ _
      | exact torrentref4_Minus.mono _ _ _ _
      | exact torrentref4_Not.mono _ _ _
      | exact torrentref4_Or.mono _ _ _ _
      | exact LeO.none _
      | refine LeO.ite ?_ ?_
      | refine LeO.bind ?_ (fun _ => ?_)
    · intro y0 y1 y2 y3 y4 y5
      unfold torrentlaw4_BitsetJoins.j3
      repeat' first
      | (with_reducible exact ih0 _ _ _ _ _ _)
      | (with_reducible exact ih1 _ _ _ _ _ _)
      | (with_reducible exact ih2 _ _ _ _ _ _)
      | (with_reducible exact ih3 _ _ _ _ _ _)
      | (with_reducible exact bitset_And.mono _ _ _ _)
      | (with_reducible exact bitset_Covers.mono _ _ _ _)
      | (with_reducible exact bitset_Minus.mono _ _ _ _)
      | (with_reducible exact bitset_Not.mono _ _ _)
      | (with_reducible exact bitset_Or.mono _ _ _ _)
      | (with_reducible exact torrentlaw4_copied.mono _ _)
      | (with_reducible exact torrentlaw4_sameBytes.mono _ _ _)
      | (with_reducible exact torrentref4_And.mono _ _ _ _)
      | (with_reducible exact torrentref4_Covers.mono _ _ _ _)
      | (with_reducible exact torrentref4_Minus.mono _ _ _ _)
      | (with_reducible exact torrentref4_Not.mono _ _ _)
      | (with_reducible exact torrentref4_Or.mono _ _ _ _)
      | (with_reducible exact LeO.refl _)
      | (with_reducible exact LeO.none _)
      | (with_reducible refine LeO.ite ?_ ?_)
      | (with_reducible refine LeO.bind ?_ (fun _ => ?_))
      | exact ih0 _ _ _ _ _ _
      | exact ih1 _ _ _ _ _ _
      | exact ih2 _ _ _ _ _ _
      | exact ih3 _ _ _ _ _ _
      | exact bitset_And.mono _ _ _ _
      | exact bitset_Covers.mono _ _ _ _
      | exact bitset_Minus.mono _ _ _ _
      | exact bitset_Not.mono _ _ _
      | exact bitset_Or.mono _ _ _ _
      | exact torrentlaw4_copied.mono _ _
      | exact torrentlaw4_sameBytes.mono _ _ _
      | exact torrentref4_And.mono _ _ _ _
      | exact torrentref4_Covers.mono _ _ _ _
      | exact torrentref4_Minus.mono _ _ _ _
      | exact torrentref4_Not.mono _ _ _
      | exact torrentref4_Or.mono _ _ _ _
      | exact LeO.none _
      | refine LeO.ite ?_ ?_
      | refine LeO.bind ?_ (fun _ => ?_)
theorem torrentlaw4_BitsetJoins.mono : ∀ a0 a1 a2 k, LeO (torrentlaw4_BitsetJoins.f k a0 a1 a2) (torrentlaw4_BitsetJoins.f (k + 1) a0 a1 a2) := by
  intro a0 a1 a2 k
  obtain ⟨ih0, ih1, ih2, ih3⟩ := torrentlaw4_BitsetJoins.mono_l k
  unfold torrentlaw4_BitsetJoins.f
  repeat' first
      | (with_reducible exact ih0 _ _ _ _ _ _)
      | (with_reducible exact ih1 _ _ _ _ _ _)
      | (with_reducible exact ih2 _ _ _ _ _ _)
      | (with_reducible exact ih3 _ _ _ _ _ _)
      | (with_reducible exact bitset_And.mono _ _ _ _)
      | (with_reducible exact bitset_Covers.mono _ _ _ _)
      | (with_reducible exact bitset_Minus.mono _ _ _ _)
      | (with_reducible exact bitset_Not.mono _ _ _)
      | (with_reducible exact bitset_Or.mono _ _ _ _)
      | (with_reducible exact torrentlaw4_copied.mono _ _)
      | (with_reducible exact torrentlaw4_sameBytes.mono _ _ _)
      | (with_reducible exact torrentref4_And.mono _ _ _ _)
      | (with_reducible exact torrentref4_Covers.mono _ _ _ _)
      | (with_reducible exact torrentref4_Minus.mono _ _ _ _)
      | (with_reducible exact torrentref4_Not.mono _ _ _)
      | (with_reducible exact torrentref4_Or.mono _ _ _ _)
      | (with_reducible exact LeO.refl _)
      | (with_reducible exact LeO.none _)
      | (with_reducible refine LeO.ite ?_ ?_)
      | (with_reducible refine LeO.bind ?_ (fun _ => ?_))
      | exact ih0 _ _ _ _ _ _
      | exact ih1 _ _ _ _ _ _
      | exact ih2 _ _ _ _ _ _
      | exact ih3 _ _ _ _ _ _
      | exact bitset_And.mono _ _ _ _
      | exact bitset_Covers.mono _ _ _ _
      | exact bitset_Minus.mono _ _ _ _
      | exact bitset_Not.mono _ _ _
      | exact bitset_Or.mono _ _ _ _
      | exact torrentlaw4_copied.mono _ _
      | exact torrentlaw4_sameBytes.mono _ _ _
      | exact torrentref4_And.mono _ _ _ _
      | exact torrentref4_Covers.mono _ _ _ _
      | exact torrentref4_Minus.mono _ _ _ _
      | exact torrentref4_Not.mono _ _ _
      | exact torrentref4_Or.mono _ _ _ _
      | exact LeO.none _
      | refine LeO.ite ?_ ?_
      | refine LeO.bind ?_ (fun _ => ?_)
set_option maxHeartbeats 8000000 in
set_option maxRecDepth 100000 in
theorem torrentlaw4_BitsetJoins.calls (k : Nat) (a0 : Int) (A1 : Option Addr) (c1 : Nat) (l1 : List Int) (A2 : Option Addr) (c2 : Nat) (l2 : List Int) (r : Bool) (w : World) (hr1 : Kd.C (Kd.int .u8) w A1 l1.length l1) (hc1 : l1.length ≤ c1) (hr2 : Kd.C (Kd.int .u8) w A2 l2.length l2) (hc2 : l2.length ≤ c2) (h : torrentlaw4_BitsetJoins.f k a0 l1 l2 = some r) :
    Calls Try.prog 10 #[.int .i64 a0, .slice A1 l1.length c1, .slice A2 l2.length c2] w fun e w' => e = .returned (.bool r) ∧ Below w.heap.size w w' := by
  have HR1 := Aside0.mk hr1
  have HC1 := Aside0.mk hc1
  clear hr1 hc1
  have HR2 := Aside0.mk hr2
  have HC2 := Aside0.mk hc2
  clear hr2 hc2
  have HB := Aside0.mk (Below.refl w.heap.size w)
  have H : ((torrentlaw4_copied.f k l1).bind fun t441 => ((torrentlaw4_copied.f k l2).bind fun t444 => ((bitset_And.f k a0 t441 t444).bind fun bt447 => ((torrentref4_And.f k a0 l1 l2).bind fun bt451 => (if bt447.2 = bt451.2 then ((torrentlaw4_sameBytes.f k bt447.1 bt451.1).bind fun t455 => (torrentlaw4_BitsetJoins.j0 k a0 l1 l2 t441 t444 (!t455))) else (torrentlaw4_BitsetJoins.j0 k a0 l1 l2 t441 t444 true)))))) = some r := h
  clear h
  replace H := Option.bind_eq_some_iff.mp H
  obtain ⟨t441, A40, H⟩ := H
  replace H : ((torrentlaw4_copied.f k l2).bind fun t444 => ((bitset_And.f k a0 t441 t444).bind fun bt447 => ((torrentref4_And.f k a0 l1 l2).bind fun bt451 => (if bt447.2 = bt451.2 then ((torrentlaw4_sameBytes.f k bt447.1 bt451.1).bind fun t455 => (torrentlaw4_BitsetJoins.j0 k a0 l1 l2 t441 t444 (!t455))) else (torrentlaw4_BitsetJoins.j0 k a0 l1 l2 t441 t444 true))))) = some r := H
  have A4 := Aside0.mk A40
  clear A40
  replace H := Option.bind_eq_some_iff.mp H
  obtain ⟨t444, A50, H⟩ := H
  replace H : ((bitset_And.f k a0 t441 t444).bind fun bt447 => ((torrentref4_And.f k a0 l1 l2).bind fun bt451 => (if bt447.2 = bt451.2 then ((torrentlaw4_sameBytes.f k bt447.1 bt451.1).bind fun t455 => (torrentlaw4_BitsetJoins.j0 k a0 l1 l2 t441 t444 (!t455))) else (torrentlaw4_BitsetJoins.j0 k a0 l1 l2 t441 t444 true)))) = some r := H
  have A5 := Aside0.mk A50
  clear A50
  replace H := Option.bind_eq_some_iff.mp H
  obtain ⟨⟨t447, t448⟩, A60, H⟩ := H
  replace H : ((torrentref4_And.f k a0 l1 l2).bind fun bt451 => (if t448 = bt451.2 then ((torrentlaw4_sameBytes.f k t447 bt451.1).bind fun t455 => (torrentlaw4_BitsetJoins.j0 k a0 l1 l2 t441 t444 (!t455))) else (torrentlaw4_BitsetJoins.j0 k a0 l1 l2 t441 t444 true))) = some r := H
  have A6 := Aside0.mk A60
  clear A60
  replace H := Option.bind_eq_some_iff.mp H
  obtain ⟨⟨t451, t452⟩, A70, H⟩ := H
  replace H : (if t448 = t452 then ((torrentlaw4_sameBytes.f k t447 t451).bind fun t455 => (torrentlaw4_BitsetJoins.j0 k a0 l1 l2 t441 t444 (!t455))) else (torrentlaw4_BitsetJoins.j0 k a0 l1 l2 t441 t444 true)) = some r := H
  have A7 := Aside0.mk A70
  clear A70
  have HC8 := Aside0.mk H
  clear H
  go_enter Try.func10, Try.ntmps10
  go_upto_region 5 with (first | ((with_reducible refine gate_callee (f := 24) rfl ?_); refine goesL_ (some 16) rfl rfl Try.func24 (by kernel_rfl) rfl #[.slice A1 l1.length c1] rfl (by (try simp only [List.map_toArray, List.map_cons, List.map_nil]); first | done | rfl | (simp only [List.length_drop, List.length_take]; rfl)) ?_; (with_reducible refine (torrentlaw4_copied.calls k _ _ l1 t441 _ ?side1 ?side2 A4.out).mono ?_); (case side1 => repeat (first | exact HR1.out | (with_reducible refine Kd.C_alloc ?_ _) | (with_reducible refine Kd.C_drewN ?_ _) | (with_reducible refine Kd.C_drew ?_))); (case side2 => exact HC1.out); rintro e w9 ⟨v442, rfl, ho0, hb⟩; refine ⟨_, rfl, ?_⟩; have n0_ := Aside0.mk (Kd.R_lower ho0 (below_size (by repeat (first | (with_reducible first | exact HB.out | apply below_alloc | apply pw_below_drewN | apply below_drew1) | exact HB.out)))); have n1_ := Aside0.mk (below_step (by repeat (first | (with_reducible first | exact HB.out | apply below_alloc | apply pw_below_drewN | apply below_drew1) | exact HB.out)) hb); clear HB; have HO443 := n0_; have HB := n1_; clear n0_ n1_; (try clear hb); (try clear hb2); (try clear hk); (try clear hi); (try clear ho0)) | ((with_reducible refine gate_callee (f := 24) rfl ?_); refine goesL_ (some 18) rfl rfl Try.func24 (by kernel_rfl) rfl #[.slice A2 l2.length c2] rfl (by (try simp only [List.map_toArray, List.map_cons, List.map_nil]); first | done | rfl | (simp only [List.length_drop, List.length_take]; rfl)) ?_; (with_reducible refine (torrentlaw4_copied.calls k _ _ l2 t444 _ ?side1 ?side2 A5.out).mono ?_); (case side1 => repeat (first | exact (Kd.C_below HR2.out HB.out) | (with_reducible refine Kd.C_alloc ?_ _) | (with_reducible refine Kd.C_drewN ?_ _) | (with_reducible refine Kd.C_drew ?_))); (case side2 => exact HC2.out); rintro e w10 ⟨v445, rfl, ho0, hb⟩; refine ⟨_, rfl, ?_⟩; have n0_ := Aside0.mk (Kd.R_elder' (by (with_reducible repeat (first | apply Kd.R_alloc | apply Kd.R_drewN | apply Kd.R_drew)); exact HO443.out) (Kd.R_base ho0) hb); have n1_ := Aside0.mk (Kd.R_lower (Kd.R_new' ho0 (Kd.R_lt (by (with_reducible repeat (first | apply Kd.R_alloc | apply Kd.R_drewN | apply Kd.R_drew)); exact HO443.out))) (below_size (by repeat (first | (with_reducible first | exact HB.out | apply below_alloc | apply pw_below_drewN | apply below_drew1) | exact HB.out)))); have n2_ := Aside0.mk (below_step (by repeat (first | (with_reducible first | exact HB.out | apply below_alloc | apply pw_below_drewN | apply below_drew1) | exact HB.out)) hb); clear HO443; clear HB; have HO443 := n0_; have HO446 := n1_; have HB := n2_; clear n0_ n1_ n2_; (try clear hb); (try clear hb2); (try clear hk); (try clear hi); (try clear ho0); obtain ⟨Ao11, co11, eo11⟩ := Kd.R_slice HO443.out; subst eo11; obtain ⟨Ao12, co12, eo12⟩ := Kd.R_slice HO446.out; subst eo12) | ((with_reducible refine gate_callee (f := 38) rfl ?_); refine goesL_ (some 23) rfl rfl Try.func38 (by kernel_rfl) rfl #[.int .i64 a0, .slice Ao11 t441.length co11, .slice Ao12 t444.length co12] rfl (by (try simp only [List.map_toArray, List.map_cons, List.map_nil]); first | done | rfl | (simp only [List.length_drop, List.length_take]; rfl)) ?_; (with_reducible refine (bitset_And.calls k a0 _ _ t441 _ _ t444 t447 t448 _ ?side1 ?side2 ?side3 ?side4 A6.out).mono ?_); (case side1 => repeat (first | exact (Kd.R_reads' HO443.out).2.2 | (with_reducible refine Kd.C_alloc ?_ _) | (with_reducible refine Kd.C_drewN ?_ _) | (with_reducible refine Kd.C_drew ?_))); (case side2 => exact (Kd.R_reads' HO443.out).2.1); (case side3 => repeat (first | exact (Kd.R_reads' HO446.out).2.2 | (with_reducible refine Kd.C_alloc ?_ _) | (with_reducible refine Kd.C_drewN ?_ _) | (with_reducible refine Kd.C_drew ?_))); (case side4 => exact (Kd.R_reads' HO446.out).2.1); rintro e w13 ⟨v449, rfl, ho0, hb⟩; refine ⟨_, rfl, ?_⟩; have n0_ := Aside0.mk (Kd.R_elder' (by (with_reducible repeat (first | apply Kd.R_alloc | apply Kd.R_drewN | apply Kd.R_drew)); exact HO443.out) (Kd.R_base ho0) hb); have n1_ := Aside0.mk (Kd.R_elder' (by (with_reducible repeat (first | apply Kd.R_alloc | apply Kd.R_drewN | apply Kd.R_drew)); exact HO446.out) (Kd.R_base ho0) hb); have n2_ := Aside0.mk (Kd.R_lower (Kd.R_new' (Kd.R_new' ho0 (Kd.R_lt (by (with_reducible repeat (first | apply Kd.R_alloc | apply Kd.R_drewN | apply Kd.R_drew)); exact HO443.out))) (Kd.R_lt (by (with_reducible repeat (first | apply Kd.R_alloc | apply Kd.R_drewN | apply Kd.R_drew)); exact HO446.out))) (below_size (by repeat (first | (with_reducible first | exact HB.out | apply below_alloc | apply pw_below_drewN | apply below_drew1) | exact HB.out)))); have n3_ := Aside0.mk (below_step (by repeat (first | (with_reducible first | exact HB.out | apply below_alloc | apply pw_below_drewN | apply below_drew1) | exact HB.out)) hb); clear HO443; clear HO446; clear HB; have HO443 := n0_; have HO446 := n1_; have HO450 := n2_; have HB := n3_; clear n0_ n1_ n2_ n3_; (try clear hb); (try clear hb2); (try clear hk); (try clear hi); (try clear ho0)) | ((with_reducible refine gate_callee (f := 39) rfl ?_); refine goesL_ (some 30) rfl rfl Try.func39 (by kernel_rfl) rfl #[.int .i64 a0, .slice A1 l1.length c1, .slice A2 l2.length c2] rfl (by (try simp only [List.map_toArray, List.map_cons, List.map_nil]); first | done | rfl | (simp only [List.length_drop, List.length_take]; rfl)) ?_; (with_reducible refine (torrentref4_And.calls k a0 _ _ l1 _ _ l2 t451 t452 _ ?side1 ?side2 ?side3 ?side4 A7.out).mono ?_); (case side1 => repeat (first | exact (Kd.C_below HR1.out HB.out) | (with_reducible refine Kd.C_alloc ?_ _) | (with_reducible refine Kd.C_drewN ?_ _) | (with_reducible refine Kd.C_drew ?_))); (case side2 => exact HC1.out); (case side3 => repeat (first | exact (Kd.C_below HR2.out HB.out) | (with_reducible refine Kd.C_alloc ?_ _) | (with_reducible refine Kd.C_drewN ?_ _) | (with_reducible refine Kd.C_drew ?_))); (case side4 => exact HC2.out); rintro e w14 ⟨v453, rfl, ho0, hb⟩; refine ⟨_, rfl, ?_⟩; have n0_ := Aside0.mk (Kd.R_elder' (by (with_reducible repeat (first | apply Kd.R_alloc | apply Kd.R_drewN | apply Kd.R_drew)); exact HO443.out) (Kd.R_base ho0) hb); have n1_ := Aside0.mk (Kd.R_elder' (by (with_reducible repeat (first | apply Kd.R_alloc | apply Kd.R_drewN | apply Kd.R_drew)); exact HO446.out) (Kd.R_base ho0) hb); have n2_ := Aside0.mk (Kd.R_elder' (by (with_reducible repeat (first | apply Kd.R_alloc | apply Kd.R_drewN | apply Kd.R_drew)); exact HO450.out) (Kd.R_base ho0) hb); have n3_ := Aside0.mk (Kd.R_lower (Kd.R_new' (Kd.R_new' (Kd.R_new' ho0 (Kd.R_lt (by (with_reducible repeat (first | apply Kd.R_alloc | apply Kd.R_drewN | apply Kd.R_drew)); exact HO443.out))) (Kd.R_lt (by (with_reducible repeat (first | apply Kd.R_alloc | apply Kd.R_drewN | apply Kd.R_drew)); exact HO446.out))) (Kd.R_lt (by (with_reducible repeat (first | apply Kd.R_alloc | apply Kd.R_drewN | apply Kd.R_drew)); exact HO450.out))) (below_size (by repeat (first | (with_reducible first | exact HB.out | apply below_alloc | apply pw_below_drewN | apply below_drew1) | exact HB.out)))); have n4_ := Aside0.mk (below_step (by repeat (first | (with_reducible first | exact HB.out | apply below_alloc | apply pw_below_drewN | apply below_drew1) | exact HB.out)) hb); clear HO443; clear HO446; clear HO450; clear HB; have HO443 := n0_; have HO446 := n1_; have HO450 := n2_; have HO454 := n3_; have HB := n4_; clear n0_ n1_ n2_ n3_ n4_; (try clear hb); (try clear hb2); (try clear hk); (try clear hi); (try clear ho0)))
  (try simp only [Act.put, List.setIfInBounds_toArray, List.set_cons_zero, List.set_cons_succ])
  go_cut [41] (fun v41 wc => ∃ (kq : Nat) (x41_7 : Bool), v41 = .bool x41_7 ∧ Aside0 (torrentlaw4_BitsetJoins.j0 kq a0 l1 l2 t441 t444 x41_7 = some r) ∧ Aside0 (kq ≤ k) ∧ Aside0 (Kd.R (Kd.int .u8) 5 wc w.heap.size (fun k_ => some k_ ≠ ((.slice Ao12 t444.length co12) : Value).ownBlock) (.slice Ao11 t441.length co11) t441) ∧ Aside0 (Kd.R (Kd.int .u8) 5 wc w.heap.size (fun k_ => some k_ ≠ ((.slice Ao11 t441.length co11) : Value).ownBlock) (.slice Ao12 t444.length co12) t444) ∧ Aside0 (Below w.heap.size w wc))
  case first =>
    have H := HC8.out
    clear HC8
    by_cases c15 : t448 = t452
    · rw [if_pos c15] at H
      have c15b0 : (t448 == t452) = true := beq_iff_eq.mpr c15
      have c15b1 : (t448 != t452) = false := bne_eq_false_iff_eq.mpr c15
      clear c15
      (first | rw [c15b0] | (simp only [i64_w, i32_w]; rw [c15b0]) | skip)
      replace H := Option.bind_eq_some_iff.mp H
      obtain ⟨t455, A160, H⟩ := H
      replace H : (torrentlaw4_BitsetJoins.j0 k a0 l1 l2 t441 t444 (!t455)) = some r := H
      have A16 := Aside0.mk A160
      clear A160
      have H' := Aside0.mk H
      clear H
      obtain ⟨Ao17, co17, eo17⟩ := Kd.R_slice HO450.out
      subst eo17
      obtain ⟨Ao18, co18, eo18⟩ := Kd.R_slice HO454.out
      subst eo18
      go_wp2_with (first | (go_at_call 17; (with_reducible refine (torrentlaw4_sameBytes.calls k _ _ t447 _ _ t451 t455 _ ?side1 ?side2 ?side3 ?side4 A16.out).mono ?_); (case side1 => repeat (first | exact (Kd.R_reads' HO450.out).2.2 | (with_reducible refine Kd.C_alloc ?_ _) | (with_reducible refine Kd.C_drewN ?_ _) | (with_reducible refine Kd.C_drew ?_))); (case side2 => exact (Kd.R_reads' HO450.out).2.1); (case side3 => repeat (first | exact (Kd.R_reads' HO454.out).2.2 | (with_reducible refine Kd.C_alloc ?_ _) | (with_reducible refine Kd.C_drewN ?_ _) | (with_reducible refine Kd.C_drew ?_))); (case side4 => exact (Kd.R_reads' HO454.out).2.1); rintro e w' ⟨rfl, ⟨nd, rfl⟩⟩))
      go_meet
      case rel => exact ⟨_, (!t455), (by first | rfl | (simp; done) | (simp [*]; done)), H', ⟨by first | omega | exact Nat.le_refl _⟩, ⟨by (with_reducible repeat (first | apply Kd.R_alloc | apply Kd.R_drewN | apply Kd.R_drew)); exact Kd.R_mono HO443.out (fun _ hk => hk.1.1.2)⟩, ⟨by (with_reducible repeat (first | apply Kd.R_alloc | apply Kd.R_drewN | apply Kd.R_drew)); exact Kd.R_mono HO446.out (fun _ hk => hk.1.1.2)⟩, ⟨by repeat (first | (with_reducible first | exact HB.out | apply below_alloc | apply pw_below_drewN | apply below_drew1) | exact HB.out)⟩⟩
    · rw [if_neg c15] at H
      have c15b0 : (t448 == t452) = false := beq_eq_false_iff_ne.mpr c15
      have c15b1 : (t448 != t452) = true := bne_iff_ne.mpr c15
      (first | rw [c15b0] | (simp only [i64_w, i32_w]; rw [c15b0]) | skip)
      have H' := Aside0.mk H
      clear H
      go_wp2
      go_meet
      case rel => exact ⟨_, (true), (by first | rfl | (simp; done) | (simp [*]; done)), H', ⟨by first | omega | exact Nat.le_refl _⟩, ⟨by (with_reducible repeat (first | apply Kd.R_alloc | apply Kd.R_drewN | apply Kd.R_drew)); exact Kd.R_mono HO443.out (fun _ hk => hk.1.1.2)⟩, ⟨by (with_reducible repeat (first | apply Kd.R_alloc | apply Kd.R_drewN | apply Kd.R_drew)); exact Kd.R_mono HO446.out (fun _ hk => hk.1.1.2)⟩, ⟨by repeat (first | (with_reducible first | exact HB.out | apply below_alloc | apply pw_below_drewN | apply below_drew1) | exact HB.out)⟩⟩
  case rest =>
    clear HC8
    try clear c1
    try clear c2
    try clear p2
    try clear c3
    try clear c10
    try clear c15
    try clear c15b0
    try clear c15b1
    obtain ⟨kq, x41_7, rfl, HA, HJ7, HO_7, HO_8, HB⟩ := hcut
    cases kq with
    | zero => exact absurd HA.out (by simp [torrentlaw4_BitsetJoins.j0])
    | succ kj7 =>
      have H := HA.out
      clear HA
      simp only [torrentlaw4_BitsetJoins.j0] at H
      by_cases c19 : x41_7 = true
      · subst c19
        have H1 : (some false) = some r := by rw [if_pos rfl] at H; exact H
        clear H
        have H := H1
        clear H1
        obtain rfl := Option.some.inj H
        go_wp2
        go_ret
        exact ⟨by first | rfl | (simp [errW_none, errW_some] <;> rfl) | (simp [*, errW_none, errW_some] <;> rfl), by repeat (first | (with_reducible first | exact HB.out | apply below_alloc | apply pw_below_drewN | apply below_drew1) | exact HB.out)⟩
      · replace c19 := Bool.eq_false_iff.mpr c19
        subst c19
        have H1 : ((bitset_Or.f kj7 a0 t441 t444).bind fun bt456 => ((torrentref4_Or.f kj7 a0 l1 l2).bind fun bt460 => (if bt456.2 = bt460.2 then ((torrentlaw4_sameBytes.f kj7 bt456.1 bt460.1).bind fun t464 => (torrentlaw4_BitsetJoins.j1 kj7 a0 l1 l2 t441 t444 (!t464))) else (torrentlaw4_BitsetJoins.j1 kj7 a0 l1 l2 t441 t444 true)))) = some r := by rw [if_neg (show ¬ (false = true) by decide)] at H; exact H
        clear H
        have H := H1
        clear H1
        replace H := Option.bind_eq_some_iff.mp H
        obtain ⟨⟨t456, t457⟩, A200, H⟩ := H
        replace H : ((torrentref4_Or.f kj7 a0 l1 l2).bind fun bt460 => (if t457 = bt460.2 then ((torrentlaw4_sameBytes.f kj7 t456 bt460.1).bind fun t464 => (torrentlaw4_BitsetJoins.j1 kj7 a0 l1 l2 t441 t444 (!t464))) else (torrentlaw4_BitsetJoins.j1 kj7 a0 l1 l2 t441 t444 true))) = some r := H
        have A20 := Aside0.mk A200
        clear A200
        replace H := Option.bind_eq_some_iff.mp H
        obtain ⟨⟨t460, t461⟩, A210, H⟩ := H
        replace H : (if t457 = t461 then ((torrentlaw4_sameBytes.f kj7 t456 t460).bind fun t464 => (torrentlaw4_BitsetJoins.j1 kj7 a0 l1 l2 t441 t444 (!t464))) else (torrentlaw4_BitsetJoins.j1 kj7 a0 l1 l2 t441 t444 true)) = some r := H
        have A21 := Aside0.mk A210
        clear A210
        have HC22 := Aside0.mk H
        clear H
        go_upto_region 9 with (first | ((with_reducible refine gate_callee (f := 40) rfl ?_); refine goesL_ (some 46) rfl rfl Try.func40 (by kernel_rfl) rfl #[.int .i64 a0, .slice Ao11 t441.length co11, .slice Ao12 t444.length co12] rfl (by (try simp only [List.map_toArray, List.map_cons, List.map_nil]); first | done | rfl | (simp only [List.length_drop, List.length_take]; rfl)) ?_; (with_reducible refine (bitset_Or.calls kj7 a0 _ _ t441 _ _ t444 t456 t457 _ ?side1 ?side2 ?side3 ?side4 A20.out).mono ?_); (case side1 => repeat (first | exact (Kd.R_reads' HO_7.out).2.2 | (with_reducible refine Kd.C_alloc ?_ _) | (with_reducible refine Kd.C_drewN ?_ _) | (with_reducible refine Kd.C_drew ?_))); (case side2 => exact (Kd.R_reads' HO_7.out).2.1); (case side3 => repeat (first | exact (Kd.R_reads' HO_8.out).2.2 | (with_reducible refine Kd.C_alloc ?_ _) | (with_reducible refine Kd.C_drewN ?_ _) | (with_reducible refine Kd.C_drew ?_))); (case side4 => exact (Kd.R_reads' HO_8.out).2.1); rintro e w23 ⟨v458, rfl, ho0, hb⟩; refine ⟨_, rfl, ?_⟩; have n0_ := Aside0.mk (Kd.R_elder' (by (with_reducible repeat (first | apply Kd.R_alloc | apply Kd.R_drewN | apply Kd.R_drew)); exact HO_7.out) (Kd.R_base ho0) hb); have n1_ := Aside0.mk (Kd.R_elder' (by (with_reducible repeat (first | apply Kd.R_alloc | apply Kd.R_drewN | apply Kd.R_drew)); exact HO_8.out) (Kd.R_base ho0) hb); have n2_ := Aside0.mk (Kd.R_lower (Kd.R_new' (Kd.R_new' ho0 (Kd.R_lt (by (with_reducible repeat (first | apply Kd.R_alloc | apply Kd.R_drewN | apply Kd.R_drew)); exact HO_7.out))) (Kd.R_lt (by (with_reducible repeat (first | apply Kd.R_alloc | apply Kd.R_drewN | apply Kd.R_drew)); exact HO_8.out))) (below_size (by repeat (first | (with_reducible first | exact HB.out | apply below_alloc | apply pw_below_drewN | apply below_drew1) | exact HB.out)))); have n3_ := Aside0.mk (below_step (by repeat (first | (with_reducible first | exact HB.out | apply below_alloc | apply pw_below_drewN | apply below_drew1) | exact HB.out)) hb); clear HO_7; clear HO_8; clear HB; have HO_7 := n0_; have HO_8 := n1_; have HO459 := n2_; have HB := n3_; clear n0_ n1_ n2_ n3_; (try clear hb); (try clear hb2); (try clear hk); (try clear hi); (try clear ho0)) | ((with_reducible refine gate_callee (f := 41) rfl ?_); refine goesL_ (some 53) rfl rfl Try.func41 (by kernel_rfl) rfl #[.int .i64 a0, .slice A1 l1.length c1, .slice A2 l2.length c2] rfl (by (try simp only [List.map_toArray, List.map_cons, List.map_nil]); first | done | rfl | (simp only [List.length_drop, List.length_take]; rfl)) ?_; (with_reducible refine (torrentref4_Or.calls kj7 a0 _ _ l1 _ _ l2 t460 t461 _ ?side1 ?side2 ?side3 ?side4 A21.out).mono ?_); (case side1 => repeat (first | exact (Kd.C_below HR1.out HB.out) | (with_reducible refine Kd.C_alloc ?_ _) | (with_reducible refine Kd.C_drewN ?_ _) | (with_reducible refine Kd.C_drew ?_))); (case side2 => exact HC1.out); (case side3 => repeat (first | exact (Kd.C_below HR2.out HB.out) | (with_reducible refine Kd.C_alloc ?_ _) | (with_reducible refine Kd.C_drewN ?_ _) | (with_reducible refine Kd.C_drew ?_))); (case side4 => exact HC2.out); rintro e w24 ⟨v462, rfl, ho0, hb⟩; refine ⟨_, rfl, ?_⟩; have n0_ := Aside0.mk (Kd.R_elder' (by (with_reducible repeat (first | apply Kd.R_alloc | apply Kd.R_drewN | apply Kd.R_drew)); exact HO_7.out) (Kd.R_base ho0) hb); have n1_ := Aside0.mk (Kd.R_elder' (by (with_reducible repeat (first | apply Kd.R_alloc | apply Kd.R_drewN | apply Kd.R_drew)); exact HO_8.out) (Kd.R_base ho0) hb); have n2_ := Aside0.mk (Kd.R_elder' (by (with_reducible repeat (first | apply Kd.R_alloc | apply Kd.R_drewN | apply Kd.R_drew)); exact HO459.out) (Kd.R_base ho0) hb); have n3_ := Aside0.mk (Kd.R_lower (Kd.R_new' (Kd.R_new' (Kd.R_new' ho0 (Kd.R_lt (by (with_reducible repeat (first | apply Kd.R_alloc | apply Kd.R_drewN | apply Kd.R_drew)); exact HO_7.out))) (Kd.R_lt (by (with_reducible repeat (first | apply Kd.R_alloc | apply Kd.R_drewN | apply Kd.R_drew)); exact HO_8.out))) (Kd.R_lt (by (with_reducible repeat (first | apply Kd.R_alloc | apply Kd.R_drewN | apply Kd.R_drew)); exact HO459.out))) (below_size (by repeat (first | (with_reducible first | exact HB.out | apply below_alloc | apply pw_below_drewN | apply below_drew1) | exact HB.out)))); have n4_ := Aside0.mk (below_step (by repeat (first | (with_reducible first | exact HB.out | apply below_alloc | apply pw_below_drewN | apply below_drew1) | exact HB.out)) hb); clear HO_7; clear HO_8; clear HO459; clear HB; have HO_7 := n0_; have HO_8 := n1_; have HO459 := n2_; have HO463 := n3_; have HB := n4_; clear n0_ n1_ n2_ n3_ n4_; (try clear hb); (try clear hb2); (try clear hk); (try clear hi); (try clear ho0)))
        (try simp only [Act.put, List.setIfInBounds_toArray, List.set_cons_zero, List.set_cons_succ])
        go_cut [64] (fun v64 wc => ∃ (kq : Nat) (x64_21 : Bool), v64 = .bool x64_21 ∧ Aside0 (torrentlaw4_BitsetJoins.j1 kq a0 l1 l2 t441 t444 x64_21 = some r) ∧ Aside0 (kq ≤ kj7) ∧ Aside0 (Kd.R (Kd.int .u8) 5 wc w.heap.size (fun k_ => some k_ ≠ ((.slice Ao12 t444.length co12) : Value).ownBlock) (.slice Ao11 t441.length co11) t441) ∧ Aside0 (Kd.R (Kd.int .u8) 5 wc w.heap.size (fun k_ => some k_ ≠ ((.slice Ao11 t441.length co11) : Value).ownBlock) (.slice Ao12 t444.length co12) t444) ∧ Aside0 (Below w.heap.size w wc))
        case first =>
          have H := HC22.out
          clear HC22
          by_cases c25 : t457 = t461
          · rw [if_pos c25] at H
            have c25b0 : (t457 == t461) = true := beq_iff_eq.mpr c25
            have c25b1 : (t457 != t461) = false := bne_eq_false_iff_eq.mpr c25
            clear c25
            (first | rw [c25b0] | (simp only [i64_w, i32_w]; rw [c25b0]) | skip)
            replace H := Option.bind_eq_some_iff.mp H
            obtain ⟨t464, A260, H⟩ := H
            replace H : (torrentlaw4_BitsetJoins.j1 kj7 a0 l1 l2 t441 t444 (!t464)) = some r := H
            have A26 := Aside0.mk A260
            clear A260
            have H' := Aside0.mk H
            clear H
            obtain ⟨Ao27, co27, eo27⟩ := Kd.R_slice HO459.out
            subst eo27
            obtain ⟨Ao28, co28, eo28⟩ := Kd.R_slice HO463.out
            subst eo28
            go_wp2_with (first | (go_at_call 17; (with_reducible refine (torrentlaw4_sameBytes.calls kj7 _ _ t456 _ _ t460 t464 _ ?side1 ?side2 ?side3 ?side4 A26.out).mono ?_); (case side1 => repeat (first | exact (Kd.R_reads' HO459.out).2.2 | (with_reducible refine Kd.C_alloc ?_ _) | (with_reducible refine Kd.C_drewN ?_ _) | (with_reducible refine Kd.C_drew ?_))); (case side2 => exact (Kd.R_reads' HO459.out).2.1); (case side3 => repeat (first | exact (Kd.R_reads' HO463.out).2.2 | (with_reducible refine Kd.C_alloc ?_ _) | (with_reducible refine Kd.C_drewN ?_ _) | (with_reducible refine Kd.C_drew ?_))); (case side4 => exact (Kd.R_reads' HO463.out).2.1); rintro e w' ⟨rfl, ⟨nd, rfl⟩⟩))
            go_meet
            case rel => exact ⟨_, (!t464), (by first | rfl | (simp; done) | (simp [*]; done)), H', ⟨by have := HJ7.out; first | omega | exact Nat.le_refl _⟩, ⟨by (with_reducible repeat (first | apply Kd.R_alloc | apply Kd.R_drewN | apply Kd.R_drew)); exact Kd.R_mono HO_7.out (fun _ hk => hk.1.1)⟩, ⟨by (with_reducible repeat (first | apply Kd.R_alloc | apply Kd.R_drewN | apply Kd.R_drew)); exact Kd.R_mono HO_8.out (fun _ hk => hk.1.1)⟩, ⟨by repeat (first | (with_reducible first | exact HB.out | apply below_alloc | apply pw_below_drewN | apply below_drew1) | exact HB.out)⟩⟩
          · rw [if_neg c25] at H
            have c25b0 : (t457 == t461) = false := beq_eq_false_iff_ne.mpr c25
            have c25b1 : (t457 != t461) = true := bne_iff_ne.mpr c25
            (first | rw [c25b0] | (simp only [i64_w, i32_w]; rw [c25b0]) | skip)
            have H' := Aside0.mk H
            clear H
            go_wp2
            go_meet
            case rel => exact ⟨_, (true), (by first | rfl | (simp; done) | (simp [*]; done)), H', ⟨by have := HJ7.out; first | omega | exact Nat.le_refl _⟩, ⟨by (with_reducible repeat (first | apply Kd.R_alloc | apply Kd.R_drewN | apply Kd.R_drew)); exact Kd.R_mono HO_7.out (fun _ hk => hk.1.1)⟩, ⟨by (with_reducible repeat (first | apply Kd.R_alloc | apply Kd.R_drewN | apply Kd.R_drew)); exact Kd.R_mono HO_8.out (fun _ hk => hk.1.1)⟩, ⟨by repeat (first | (with_reducible first | exact HB.out | apply below_alloc | apply pw_below_drewN | apply below_drew1) | exact HB.out)⟩⟩
        case rest =>
          clear HC22
          try clear c1
          try clear c2
          try clear p2
          try clear c3
          try clear c4
          try clear c10
          try clear c15
          try clear c15b0
          try clear c15b1
          try clear c19
          try clear c24
          try clear c25
          try clear c25b0
          try clear c25b1
          try clear p2
          obtain ⟨kq, x64_21, rfl, HA, HJ21, HO_7, HO_8, HB⟩ := hcut
          cases kq with
          | zero => exact absurd HA.out (by simp [torrentlaw4_BitsetJoins.j1])
          | succ kj21 =>
            have H := HA.out
            clear HA
            simp only [torrentlaw4_BitsetJoins.j1] at H
            by_cases c29 : x64_21 = true
            · subst c29
              have H1 : (some false) = some r := by rw [if_pos rfl] at H; exact H
              clear H
              have H := H1
              clear H1
              obtain rfl := Option.some.inj H
              go_wp2
              go_ret
              exact ⟨by first | rfl | (simp [errW_none, errW_some] <;> rfl) | (simp [*, errW_none, errW_some] <;> rfl), by repeat (first | (with_reducible first | exact HB.out | apply below_alloc | apply pw_below_drewN | apply below_drew1) | exact HB.out)⟩
            · replace c29 := Bool.eq_false_iff.mpr c29
              subst c29
              have H1 : ((bitset_Minus.f kj21 a0 t441 t444).bind fun bt465 => ((torrentref4_Minus.f kj21 a0 l1 l2).bind fun bt469 => (if bt465.2 = bt469.2 then ((torrentlaw4_sameBytes.f kj21 bt465.1 bt469.1).bind fun t473 => (torrentlaw4_BitsetJoins.j2 kj21 a0 l1 l2 t441 t444 (!t473))) else (torrentlaw4_BitsetJoins.j2 kj21 a0 l1 l2 t441 t444 true)))) = some r := by rw [if_neg (show ¬ (false = true) by decide)] at H; exact H
              clear H
              have H := H1
              clear H1
              replace H := Option.bind_eq_some_iff.mp H
              obtain ⟨⟨t465, t466⟩, A300, H⟩ := H
              replace H : ((torrentref4_Minus.f kj21 a0 l1 l2).bind fun bt469 => (if t466 = bt469.2 then ((torrentlaw4_sameBytes.f kj21 t465 bt469.1).bind fun t473 => (torrentlaw4_BitsetJoins.j2 kj21 a0 l1 l2 t441 t444 (!t473))) else (torrentlaw4_BitsetJoins.j2 kj21 a0 l1 l2 t441 t444 true))) = some r := H
              have A30 := Aside0.mk A300
              clear A300
              replace H := Option.bind_eq_some_iff.mp H
              obtain ⟨⟨t469, t470⟩, A310, H⟩ := H
              replace H : (if t466 = t470 then ((torrentlaw4_sameBytes.f kj21 t465 t469).bind fun t473 => (torrentlaw4_BitsetJoins.j2 kj21 a0 l1 l2 t441 t444 (!t473))) else (torrentlaw4_BitsetJoins.j2 kj21 a0 l1 l2 t441 t444 true)) = some r := H
              have A31 := Aside0.mk A310
              clear A310
              have HC32 := Aside0.mk H
              clear H
              go_upto_region 13 with (first | ((with_reducible refine gate_callee (f := 42) rfl ?_); refine goesL_ (some 69) rfl rfl Try.func42 (by kernel_rfl) rfl #[.int .i64 a0, .slice Ao11 t441.length co11, .slice Ao12 t444.length co12] rfl (by (try simp only [List.map_toArray, List.map_cons, List.map_nil]); first | done | rfl | (simp only [List.length_drop, List.length_take]; rfl)) ?_; (with_reducible refine (bitset_Minus.calls kj21 a0 _ _ t441 _ _ t444 t465 t466 _ ?side1 ?side2 ?side3 ?side4 A30.out).mono ?_); (case side1 => repeat (first | exact (Kd.R_reads' HO_7.out).2.2 | (with_reducible refine Kd.C_alloc ?_ _) | (with_reducible refine Kd.C_drewN ?_ _) | (with_reducible refine Kd.C_drew ?_))); (case side2 => exact (Kd.R_reads' HO_7.out).2.1); (case side3 => repeat (first | exact (Kd.R_reads' HO_8.out).2.2 | (with_reducible refine Kd.C_alloc ?_ _) | (with_reducible refine Kd.C_drewN ?_ _) | (with_reducible refine Kd.C_drew ?_))); (case side4 => exact (Kd.R_reads' HO_8.out).2.1); rintro e w33 ⟨v467, rfl, ho0, hb⟩; refine ⟨_, rfl, ?_⟩; have n0_ := Aside0.mk (Kd.R_elder' (by (with_reducible repeat (first | apply Kd.R_alloc | apply Kd.R_drewN | apply Kd.R_drew)); exact HO_7.out) (Kd.R_base ho0) hb); have n1_ := Aside0.mk (Kd.R_elder' (by (with_reducible repeat (first | apply Kd.R_alloc | apply Kd.R_drewN | apply Kd.R_drew)); exact HO_8.out) (Kd.R_base ho0) hb); have n2_ := Aside0.mk (Kd.R_lower (Kd.R_new' (Kd.R_new' ho0 (Kd.R_lt (by (with_reducible repeat (first | apply Kd.R_alloc | apply Kd.R_drewN | apply Kd.R_drew)); exact HO_7.out))) (Kd.R_lt (by (with_reducible repeat (first | apply Kd.R_alloc | apply Kd.R_drewN | apply Kd.R_drew)); exact HO_8.out))) (below_size (by repeat (first | (with_reducible first | exact HB.out | apply below_alloc | apply pw_below_drewN | apply below_drew1) | exact HB.out)))); have n3_ := Aside0.mk (below_step (by repeat (first | (with_reducible first | exact HB.out | apply below_alloc | apply pw_below_drewN | apply below_drew1) | exact HB.out)) hb); clear HO_7; clear HO_8; clear HB; have HO_7 := n0_; have HO_8 := n1_; have HO468 := n2_; have HB := n3_; clear n0_ n1_ n2_ n3_; (try clear hb); (try clear hb2); (try clear hk); (try clear hi); (try clear ho0)) | ((with_reducible refine gate_callee (f := 43) rfl ?_); refine goesL_ (some 76) rfl rfl Try.func43 (by kernel_rfl) rfl #[.int .i64 a0, .slice A1 l1.length c1, .slice A2 l2.length c2] rfl (by (try simp only [List.map_toArray, List.map_cons, List.map_nil]); first | done | rfl | (simp only [List.length_drop, List.length_take]; rfl)) ?_; (with_reducible refine (torrentref4_Minus.calls kj21 a0 _ _ l1 _ _ l2 t469 t470 _ ?side1 ?side2 ?side3 ?side4 A31.out).mono ?_); (case side1 => repeat (first | exact (Kd.C_below HR1.out HB.out) | (with_reducible refine Kd.C_alloc ?_ _) | (with_reducible refine Kd.C_drewN ?_ _) | (with_reducible refine Kd.C_drew ?_))); (case side2 => exact HC1.out); (case side3 => repeat (first | exact (Kd.C_below HR2.out HB.out) | (with_reducible refine Kd.C_alloc ?_ _) | (with_reducible refine Kd.C_drewN ?_ _) | (with_reducible refine Kd.C_drew ?_))); (case side4 => exact HC2.out); rintro e w34 ⟨v471, rfl, ho0, hb⟩; refine ⟨_, rfl, ?_⟩; have n0_ := Aside0.mk (Kd.R_elder' (by (with_reducible repeat (first | apply Kd.R_alloc | apply Kd.R_drewN | apply Kd.R_drew)); exact HO_7.out) (Kd.R_base ho0) hb); have n1_ := Aside0.mk (Kd.R_elder' (by (with_reducible repeat (first | apply Kd.R_alloc | apply Kd.R_drewN | apply Kd.R_drew)); exact HO_8.out) (Kd.R_base ho0) hb); have n2_ := Aside0.mk (Kd.R_elder' (by (with_reducible repeat (first | apply Kd.R_alloc | apply Kd.R_drewN | apply Kd.R_drew)); exact HO468.out) (Kd.R_base ho0) hb); have n3_ := Aside0.mk (Kd.R_lower (Kd.R_new' (Kd.R_new' (Kd.R_new' ho0 (Kd.R_lt (by (with_reducible repeat (first | apply Kd.R_alloc | apply Kd.R_drewN | apply Kd.R_drew)); exact HO_7.out))) (Kd.R_lt (by (with_reducible repeat (first | apply Kd.R_alloc | apply Kd.R_drewN | apply Kd.R_drew)); exact HO_8.out))) (Kd.R_lt (by (with_reducible repeat (first | apply Kd.R_alloc | apply Kd.R_drewN | apply Kd.R_drew)); exact HO468.out))) (below_size (by repeat (first | (with_reducible first | exact HB.out | apply below_alloc | apply pw_below_drewN | apply below_drew1) | exact HB.out)))); have n4_ := Aside0.mk (below_step (by repeat (first | (with_reducible first | exact HB.out | apply below_alloc | apply pw_below_drewN | apply below_drew1) | exact HB.out)) hb); clear HO_7; clear HO_8; clear HO468; clear HB; have HO_7 := n0_; have HO_8 := n1_; have HO468 := n2_; have HO472 := n3_; have HB := n4_; clear n0_ n1_ n2_ n3_ n4_; (try clear hb); (try clear hb2); (try clear hk); (try clear hi); (try clear ho0)))
              (try simp only [Act.put, List.setIfInBounds_toArray, List.set_cons_zero, List.set_cons_succ])
              go_cut [87] (fun v87 wc => ∃ (kq : Nat) (x87_31 : Bool), v87 = .bool x87_31 ∧ Aside0 (torrentlaw4_BitsetJoins.j2 kq a0 l1 l2 t441 t444 x87_31 = some r) ∧ Aside0 (kq ≤ kj21) ∧ Aside0 (Kd.R (Kd.int .u8) 5 wc w.heap.size (fun k_ => some k_ ≠ ((.slice Ao12 t444.length co12) : Value).ownBlock) (.slice Ao11 t441.length co11) t441) ∧ Aside0 (Kd.R (Kd.int .u8) 5 wc w.heap.size (fun k_ => some k_ ≠ ((.slice Ao11 t441.length co11) : Value).ownBlock) (.slice Ao12 t444.length co12) t444) ∧ Aside0 (Below w.heap.size w wc))
              case first =>
                have H := HC32.out
                clear HC32
                by_cases c35 : t466 = t470
                · rw [if_pos c35] at H
                  have c35b0 : (t466 == t470) = true := beq_iff_eq.mpr c35
                  have c35b1 : (t466 != t470) = false := bne_eq_false_iff_eq.mpr c35
                  clear c35
                  (first | rw [c35b0] | (simp only [i64_w, i32_w]; rw [c35b0]) | skip)
                  replace H := Option.bind_eq_some_iff.mp H
                  obtain ⟨t473, A360, H⟩ := H
                  replace H : (torrentlaw4_BitsetJoins.j2 kj21 a0 l1 l2 t441 t444 (!t473)) = some r := H
                  have A36 := Aside0.mk A360
                  clear A360
                  have H' := Aside0.mk H
                  clear H
                  obtain ⟨Ao37, co37, eo37⟩ := Kd.R_slice HO468.out
                  subst eo37
                  obtain ⟨Ao38, co38, eo38⟩ := Kd.R_slice HO472.out
                  subst eo38
                  go_wp2_with (first | (go_at_call 17; (with_reducible refine (torrentlaw4_sameBytes.calls kj21 _ _ t465 _ _ t469 t473 _ ?side1 ?side2 ?side3 ?side4 A36.out).mono ?_); (case side1 => repeat (first | exact (Kd.R_reads' HO468.out).2.2 | (with_reducible refine Kd.C_alloc ?_ _) | (with_reducible refine Kd.C_drewN ?_ _) | (with_reducible refine Kd.C_drew ?_))); (case side2 => exact (Kd.R_reads' HO468.out).2.1); (case side3 => repeat (first | exact (Kd.R_reads' HO472.out).2.2 | (with_reducible refine Kd.C_alloc ?_ _) | (with_reducible refine Kd.C_drewN ?_ _) | (with_reducible refine Kd.C_drew ?_))); (case side4 => exact (Kd.R_reads' HO472.out).2.1); rintro e w' ⟨rfl, ⟨nd, rfl⟩⟩))
                  go_meet
                  case rel => exact ⟨_, (!t473), (by first | rfl | (simp; done) | (simp [*]; done)), H', ⟨by have := HJ7.out; have := HJ21.out; first | omega | exact Nat.le_refl _⟩, ⟨by (with_reducible repeat (first | apply Kd.R_alloc | apply Kd.R_drewN | apply Kd.R_drew)); exact Kd.R_mono HO_7.out (fun _ hk => hk.1.1)⟩, ⟨by (with_reducible repeat (first | apply Kd.R_alloc | apply Kd.R_drewN | apply Kd.R_drew)); exact Kd.R_mono HO_8.out (fun _ hk => hk.1.1)⟩, ⟨by repeat (first | (with_reducible first | exact HB.out | apply below_alloc | apply pw_below_drewN | apply below_drew1) | exact HB.out)⟩⟩
                · rw [if_neg c35] at H
                  have c35b0 : (t466 == t470) = false := beq_eq_false_iff_ne.mpr c35
                  have c35b1 : (t466 != t470) = true := bne_iff_ne.mpr c35
                  (first | rw [c35b0] | (simp only [i64_w, i32_w]; rw [c35b0]) | skip)
                  have H' := Aside0.mk H
                  clear H
                  go_wp2
                  go_meet
                  case rel => exact ⟨_, (true), (by first | rfl | (simp; done) | (simp [*]; done)), H', ⟨by have := HJ7.out; have := HJ21.out; first | omega | exact Nat.le_refl _⟩, ⟨by (with_reducible repeat (first | apply Kd.R_alloc | apply Kd.R_drewN | apply Kd.R_drew)); exact Kd.R_mono HO_7.out (fun _ hk => hk.1.1)⟩, ⟨by (with_reducible repeat (first | apply Kd.R_alloc | apply Kd.R_drewN | apply Kd.R_drew)); exact Kd.R_mono HO_8.out (fun _ hk => hk.1.1)⟩, ⟨by repeat (first | (with_reducible first | exact HB.out | apply below_alloc | apply pw_below_drewN | apply below_drew1) | exact HB.out)⟩⟩
              case rest =>
                clear HC32
                try clear c1
                try clear c2
                try clear p2
                try clear c3
                try clear c4
                try clear c10
                try clear c15
                try clear c15b0
                try clear c15b1
                try clear c19
                try clear c24
                try clear c25
                try clear c25b0
                try clear c25b1
                try clear c29
                try clear c35
                try clear c35b0
                try clear c35b1
                try clear c38
                try clear p2
                obtain ⟨kq, x87_31, rfl, HA, HJ31, HO_7, HO_8, HB⟩ := hcut
                cases kq with
                | zero => exact absurd HA.out (by simp [torrentlaw4_BitsetJoins.j2])
                | succ kj31 =>
                  have H := HA.out
                  clear HA
                  simp only [torrentlaw4_BitsetJoins.j2] at H
                  by_cases c39 : x87_31 = true
                  · subst c39
                    have H1 : (some false) = some r := by rw [if_pos rfl] at H; exact H
                    clear H
                    have H := H1
                    clear H1
                    obtain rfl := Option.some.inj H
                    go_wp2
                    go_ret
                    exact ⟨by first | rfl | (simp [errW_none, errW_some] <;> rfl) | (simp [*, errW_none, errW_some] <;> rfl), by repeat (first | (with_reducible first | exact HB.out | apply below_alloc | apply pw_below_drewN | apply below_drew1) | exact HB.out)⟩
                  · replace c39 := Bool.eq_false_iff.mpr c39
                    subst c39
                    have H1 : ((bitset_Not.f kj31 a0 t444).bind fun bt474 => ((torrentref4_Not.f kj31 a0 l2).bind fun bt478 => (if bt474.2 = bt478.2 then ((torrentlaw4_sameBytes.f kj31 bt474.1 bt478.1).bind fun t482 => (torrentlaw4_BitsetJoins.j3 kj31 a0 l1 l2 t441 t444 (!t482))) else (torrentlaw4_BitsetJoins.j3 kj31 a0 l1 l2 t441 t444 true)))) = some r := by rw [if_neg (show ¬ (false = true) by decide)] at H; exact H
                    clear H
                    have H := H1
                    clear H1
                    replace H := Option.bind_eq_some_iff.mp H
                    obtain ⟨⟨t474, t475⟩, A400, H⟩ := H
                    replace H : ((torrentref4_Not.f kj31 a0 l2).bind fun bt478 => (if t475 = bt478.2 then ((torrentlaw4_sameBytes.f kj31 t474 bt478.1).bind fun t482 => (torrentlaw4_BitsetJoins.j3 kj31 a0 l1 l2 t441 t444 (!t482))) else (torrentlaw4_BitsetJoins.j3 kj31 a0 l1 l2 t441 t444 true))) = some r := H
                    have A40 := Aside0.mk A400
                    clear A400
                    replace H := Option.bind_eq_some_iff.mp H
                    obtain ⟨⟨t478, t479⟩, A410, H⟩ := H
                    replace H : (if t475 = t479 then ((torrentlaw4_sameBytes.f kj31 t474 t478).bind fun t482 => (torrentlaw4_BitsetJoins.j3 kj31 a0 l1 l2 t441 t444 (!t482))) else (torrentlaw4_BitsetJoins.j3 kj31 a0 l1 l2 t441 t444 true)) = some r := H
                    have A41 := Aside0.mk A410
                    clear A410
                    have HC42 := Aside0.mk H
                    clear H
                    go_upto_region 17 with (first | ((with_reducible refine gate_callee (f := 44) rfl ?_); refine goesL_ (some 91) rfl rfl Try.func44 (by kernel_rfl) rfl #[.int .i64 a0, .slice Ao12 t444.length co12] rfl (by (try simp only [List.map_toArray, List.map_cons, List.map_nil]); first | done | rfl | (simp only [List.length_drop, List.length_take]; rfl)) ?_; (with_reducible refine (bitset_Not.calls kj31 a0 _ _ t444 t474 t475 _ ?side1 ?side2 A40.out).mono ?_); (case side1 => repeat (first | exact (Kd.R_reads' HO_8.out).2.2 | (with_reducible refine Kd.C_alloc ?_ _) | (with_reducible refine Kd.C_drewN ?_ _) | (with_reducible refine Kd.C_drew ?_))); (case side2 => exact (Kd.R_reads' HO_8.out).2.1); rintro e w43 ⟨v476, rfl, ho0, hb⟩; refine ⟨_, rfl, ?_⟩; have n0_ := Aside0.mk (Kd.R_elder' (by (with_reducible repeat (first | apply Kd.R_alloc | apply Kd.R_drewN | apply Kd.R_drew)); exact HO_7.out) (Kd.R_base ho0) hb); have n1_ := Aside0.mk (Kd.R_elder' (by (with_reducible repeat (first | apply Kd.R_alloc | apply Kd.R_drewN | apply Kd.R_drew)); exact HO_8.out) (Kd.R_base ho0) hb); have n2_ := Aside0.mk (Kd.R_lower (Kd.R_new' (Kd.R_new' ho0 (Kd.R_lt (by (with_reducible repeat (first | apply Kd.R_alloc | apply Kd.R_drewN | apply Kd.R_drew)); exact HO_7.out))) (Kd.R_lt (by (with_reducible repeat (first | apply Kd.R_alloc | apply Kd.R_drewN | apply Kd.R_drew)); exact HO_8.out))) (below_size (by repeat (first | (with_reducible first | exact HB.out | apply below_alloc | apply pw_below_drewN | apply below_drew1) | exact HB.out)))); have n3_ := Aside0.mk (below_step (by repeat (first | (with_reducible first | exact HB.out | apply below_alloc | apply pw_below_drewN | apply below_drew1) | exact HB.out)) hb); clear HO_7; clear HO_8; clear HB; have HO_7 := n0_; have HO_8 := n1_; have HO477 := n2_; have HB := n3_; clear n0_ n1_ n2_ n3_; (try clear hb); (try clear hb2); (try clear hk); (try clear hi); (try clear ho0)) | ((with_reducible refine gate_callee (f := 45) rfl ?_); refine goesL_ (some 97) rfl rfl Try.func45 (by kernel_rfl) rfl #[.int .i64 a0, .slice A2 l2.length c2] rfl (by (try simp only [List.map_toArray, List.map_cons, List.map_nil]); first | done | rfl | (simp only [List.length_drop, List.length_take]; rfl)) ?_; (with_reducible refine (torrentref4_Not.calls kj31 a0 _ _ l2 t478 t479 _ ?side1 ?side2 A41.out).mono ?_); (case side1 => repeat (first | exact (Kd.C_below HR2.out HB.out) | (with_reducible refine Kd.C_alloc ?_ _) | (with_reducible refine Kd.C_drewN ?_ _) | (with_reducible refine Kd.C_drew ?_))); (case side2 => exact HC2.out); rintro e w44 ⟨v480, rfl, ho0, hb⟩; refine ⟨_, rfl, ?_⟩; have n0_ := Aside0.mk (Kd.R_elder' (by (with_reducible repeat (first | apply Kd.R_alloc | apply Kd.R_drewN | apply Kd.R_drew)); exact HO_7.out) (Kd.R_base ho0) hb); have n1_ := Aside0.mk (Kd.R_elder' (by (with_reducible repeat (first | apply Kd.R_alloc | apply Kd.R_drewN | apply Kd.R_drew)); exact HO_8.out) (Kd.R_base ho0) hb); have n2_ := Aside0.mk (Kd.R_elder' (by (with_reducible repeat (first | apply Kd.R_alloc | apply Kd.R_drewN | apply Kd.R_drew)); exact HO477.out) (Kd.R_base ho0) hb); have n3_ := Aside0.mk (Kd.R_lower (Kd.R_new' (Kd.R_new' (Kd.R_new' ho0 (Kd.R_lt (by (with_reducible repeat (first | apply Kd.R_alloc | apply Kd.R_drewN | apply Kd.R_drew)); exact HO_7.out))) (Kd.R_lt (by (with_reducible repeat (first | apply Kd.R_alloc | apply Kd.R_drewN | apply Kd.R_drew)); exact HO_8.out))) (Kd.R_lt (by (with_reducible repeat (first | apply Kd.R_alloc | apply Kd.R_drewN | apply Kd.R_drew)); exact HO477.out))) (below_size (by repeat (first | (with_reducible first | exact HB.out | apply below_alloc | apply pw_below_drewN | apply below_drew1) | exact HB.out)))); have n4_ := Aside0.mk (below_step (by repeat (first | (with_reducible first | exact HB.out | apply below_alloc | apply pw_below_drewN | apply below_drew1) | exact HB.out)) hb); clear HO_7; clear HO_8; clear HO477; clear HB; have HO_7 := n0_; have HO_8 := n1_; have HO477 := n2_; have HO481 := n3_; have HB := n4_; clear n0_ n1_ n2_ n3_ n4_; (try clear hb); (try clear hb2); (try clear hk); (try clear hi); (try clear ho0)))
                    (try simp only [Act.put, List.setIfInBounds_toArray, List.set_cons_zero, List.set_cons_succ])
                    go_cut [108] (fun v108 wc => ∃ (kq : Nat) (x108_41 : Bool), v108 = .bool x108_41 ∧ Aside0 (torrentlaw4_BitsetJoins.j3 kq a0 l1 l2 t441 t444 x108_41 = some r) ∧ Aside0 (kq ≤ kj31) ∧ Aside0 (Kd.R (Kd.int .u8) 5 wc w.heap.size (fun k_ => some k_ ≠ ((.slice Ao12 t444.length co12) : Value).ownBlock) (.slice Ao11 t441.length co11) t441) ∧ Aside0 (Kd.R (Kd.int .u8) 5 wc w.heap.size (fun k_ => some k_ ≠ ((.slice Ao11 t441.length co11) : Value).ownBlock) (.slice Ao12 t444.length co12) t444) ∧ Aside0 (Below w.heap.size w wc))
                    case first =>
                      have H := HC42.out
                      clear HC42
                      by_cases c45 : t475 = t479
                      · rw [if_pos c45] at H
                        have c45b0 : (t475 == t479) = true := beq_iff_eq.mpr c45
                        have c45b1 : (t475 != t479) = false := bne_eq_false_iff_eq.mpr c45
                        clear c45
                        (first | rw [c45b0] | (simp only [i64_w, i32_w]; rw [c45b0]) | skip)
                        replace H := Option.bind_eq_some_iff.mp H
                        obtain ⟨t482, A460, H⟩ := H
                        replace H : (torrentlaw4_BitsetJoins.j3 kj31 a0 l1 l2 t441 t444 (!t482)) = some r := H
                        have A46 := Aside0.mk A460
                        clear A460
                        have H' := Aside0.mk H
                        clear H
                        obtain ⟨Ao47, co47, eo47⟩ := Kd.R_slice HO477.out
                        subst eo47
                        obtain ⟨Ao48, co48, eo48⟩ := Kd.R_slice HO481.out
                        subst eo48
                        go_wp2_with (first | (go_at_call 17; (with_reducible refine (torrentlaw4_sameBytes.calls kj31 _ _ t474 _ _ t478 t482 _ ?side1 ?side2 ?side3 ?side4 A46.out).mono ?_); (case side1 => repeat (first | exact (Kd.R_reads' HO477.out).2.2 | (with_reducible refine Kd.C_alloc ?_ _) | (with_reducible refine Kd.C_drewN ?_ _) | (with_reducible refine Kd.C_drew ?_))); (case side2 => exact (Kd.R_reads' HO477.out).2.1); (case side3 => repeat (first | exact (Kd.R_reads' HO481.out).2.2 | (with_reducible refine Kd.C_alloc ?_ _) | (with_reducible refine Kd.C_drewN ?_ _) | (with_reducible refine Kd.C_drew ?_))); (case side4 => exact (Kd.R_reads' HO481.out).2.1); rintro e w' ⟨rfl, ⟨nd, rfl⟩⟩))
                        go_meet
                        case rel => exact ⟨_, (!t482), (by first | rfl | (simp; done) | (simp [*]; done)), H', ⟨by have := HJ7.out; have := HJ21.out; have := HJ31.out; first | omega | exact Nat.le_refl _⟩, ⟨by (with_reducible repeat (first | apply Kd.R_alloc | apply Kd.R_drewN | apply Kd.R_drew)); exact Kd.R_mono HO_7.out (fun _ hk => hk.1.1)⟩, ⟨by (with_reducible repeat (first | apply Kd.R_alloc | apply Kd.R_drewN | apply Kd.R_drew)); exact Kd.R_mono HO_8.out (fun _ hk => hk.1.1)⟩, ⟨by repeat (first | (with_reducible first | exact HB.out | apply below_alloc | apply pw_below_drewN | apply below_drew1) | exact HB.out)⟩⟩
                      · rw [if_neg c45] at H
                        have c45b0 : (t475 == t479) = false := beq_eq_false_iff_ne.mpr c45
                        have c45b1 : (t475 != t479) = true := bne_iff_ne.mpr c45
                        (first | rw [c45b0] | (simp only [i64_w, i32_w]; rw [c45b0]) | skip)
                        have H' := Aside0.mk H
                        clear H
                        go_wp2
                        go_meet
                        case rel => exact ⟨_, (true), (by first | rfl | (simp; done) | (simp [*]; done)), H', ⟨by have := HJ7.out; have := HJ21.out; have := HJ31.out; first | omega | exact Nat.le_refl _⟩, ⟨by (with_reducible repeat (first | apply Kd.R_alloc | apply Kd.R_drewN | apply Kd.R_drew)); exact Kd.R_mono HO_7.out (fun _ hk => hk.1.1)⟩, ⟨by (with_reducible repeat (first | apply Kd.R_alloc | apply Kd.R_drewN | apply Kd.R_drew)); exact Kd.R_mono HO_8.out (fun _ hk => hk.1.1)⟩, ⟨by repeat (first | (with_reducible first | exact HB.out | apply below_alloc | apply pw_below_drewN | apply below_drew1) | exact HB.out)⟩⟩
                    case rest =>
                      clear HC42
                      try clear c1
                      try clear c2
                      try clear p2
                      try clear c3
                      try clear c4
                      try clear c10
                      try clear c15
                      try clear c15b0
                      try clear c15b1
                      try clear c19
                      try clear c24
                      try clear c25
                      try clear c25b0
                      try clear c25b1
                      try clear c29
                      try clear c35
                      try clear c35b0
                      try clear c35b1
                      try clear c38
                      try clear c39
                      try clear c40
                      try clear c41
                      try clear c42
                      try clear c43
                      try clear c44
                      try clear c45
                      try clear c45b0
                      try clear c45b1
                      try clear p2
                      obtain ⟨kq, x108_41, rfl, HA, HJ41, HO_7, HO_8, HB⟩ := hcut
                      cases kq with
                      | zero => exact absurd HA.out (by simp [torrentlaw4_BitsetJoins.j3])
                      | succ kj41 =>
                        have H := HA.out
                        clear HA
                        simp only [torrentlaw4_BitsetJoins.j3] at H
                        by_cases c49 : x108_41 = true
                        · subst c49
                          have H1 : (some false) = some r := by rw [if_pos rfl] at H; exact H
                          clear H
                          have H := H1
                          clear H1
                          obtain rfl := Option.some.inj H
                          go_wp2
                          go_ret
                          exact ⟨by first | rfl | (simp [errW_none, errW_some] <;> rfl) | (simp [*, errW_none, errW_some] <;> rfl), by repeat (first | (with_reducible first | exact HB.out | apply below_alloc | apply pw_below_drewN | apply below_drew1) | exact HB.out)⟩
                        · replace c49 := Bool.eq_false_iff.mpr c49
                          subst c49
                          have H1 : ((bitset_Covers.f kj41 a0 t441 t444).bind fun bt483 => ((torrentref4_Covers.f kj41 a0 l1 l2).bind fun bt485 => (if bt483.2 = bt485.2 then (if (bt483.1 == bt485.1) = true then ((torrentlaw4_sameBytes.f kj41 t441 l1).bind fun t487 => (if t487 = true then ((torrentlaw4_sameBytes.f kj41 t444 l2).bind fun t488 => (some t488)) else (some false))) else (some false)) else (some false)))) = some r := by rw [if_neg (show ¬ (false = true) by decide)] at H; exact H
                          clear H
                          have H := H1
                          clear H1
                          replace H := Option.bind_eq_some_iff.mp H
                          obtain ⟨⟨t483, t484⟩, A500, H⟩ := H
                          replace H : ((torrentref4_Covers.f kj41 a0 l1 l2).bind fun bt485 => (if t484 = bt485.2 then (if (t483 == bt485.1) = true then ((torrentlaw4_sameBytes.f kj41 t441 l1).bind fun t487 => (if t487 = true then ((torrentlaw4_sameBytes.f kj41 t444 l2).bind fun t488 => (some t488)) else (some false))) else (some false)) else (some false))) = some r := H
                          have A50 := Aside0.mk A500
                          clear A500
                          replace H := Option.bind_eq_some_iff.mp H
                          obtain ⟨⟨t485, t486⟩, A510, H⟩ := H
                          replace H : (if t484 = t486 then (if (t483 == t485) = true then ((torrentlaw4_sameBytes.f kj41 t441 l1).bind fun t487 => (if t487 = true then ((torrentlaw4_sameBytes.f kj41 t444 l2).bind fun t488 => (some t488)) else (some false))) else (some false)) else (some false)) = some r := H
                          have A51 := Aside0.mk A510
                          clear A510
                          by_cases c52 : t484 = t486
                          · rw [if_pos c52] at H
                            have c52b0 : (t484 == t486) = true := beq_iff_eq.mpr c52
                            have c52b1 : (t484 != t486) = false := bne_eq_false_iff_eq.mpr c52
                            clear c52
                            by_cases c53 : (t483 == t485) = true
                            · rw [if_pos c53] at H
                              have c53b0 : (t483 == t485) = true := c53
                              (try (have c53b1 : decide (t483 = t485) = true := by simpa using c53))
                              (try (have c53b2 : (t483 == t485) = true := by simpa using c53))
                              clear c53
                              replace H := Option.bind_eq_some_iff.mp H
                              obtain ⟨t487, A540, H⟩ := H
                              replace H : (if t487 = true then ((torrentlaw4_sameBytes.f kj41 t444 l2).bind fun t488 => (some t488)) else (some false)) = some r := H
                              have A54 := Aside0.mk A540
                              clear A540
                              by_cases c55 : t487 = true
                              · subst c55
                                have H1 : ((torrentlaw4_sameBytes.f kj41 t444 l2).bind fun t488 => (some t488)) = some r := by rw [if_pos rfl] at H; exact H
                                clear H
                                have H := H1
                                clear H1
                                replace H := Option.bind_eq_some_iff.mp H
                                obtain ⟨t488, A560, H⟩ := H
                                replace H : (some t488) = some r := H
                                have A56 := Aside0.mk A560
                                clear A560
                                obtain rfl := Option.some.inj H
                                go_wp2_with (first | ((with_reducible refine gate_callee (f := 46) rfl ?_); refine goesL_ (some 113) rfl rfl Try.func46 (by kernel_rfl) rfl #[.int .i64 a0, .slice Ao11 t441.length co11, .slice Ao12 t444.length co12] rfl (by (try simp only [List.map_toArray, List.map_cons, List.map_nil]); first | done | rfl | (simp only [List.length_drop, List.length_take]; rfl)) ?_; (with_reducible refine (bitset_Covers.calls kj41 a0 _ _ t441 _ _ t444 t483 t484 _ ?side1 ?side2 ?side3 ?side4 A50.out).mono ?_); (case side1 => repeat (first | exact (Kd.R_reads' HO_7.out).2.2 | (with_reducible refine Kd.C_alloc ?_ _) | (with_reducible refine Kd.C_drewN ?_ _) | (with_reducible refine Kd.C_drew ?_))); (case side2 => exact (Kd.R_reads' HO_7.out).2.1); (case side3 => repeat (first | exact (Kd.R_reads' HO_8.out).2.2 | (with_reducible refine Kd.C_alloc ?_ _) | (with_reducible refine Kd.C_drewN ?_ _) | (with_reducible refine Kd.C_drew ?_))); (case side4 => exact (Kd.R_reads' HO_8.out).2.1); rintro e w' ⟨rfl, ⟨nd, rfl⟩⟩; refine ⟨_, rfl, ?_⟩) | ((with_reducible refine gate_callee (f := 47) rfl ?_); refine goesL_ (some 120) rfl rfl Try.func47 (by kernel_rfl) rfl #[.int .i64 a0, .slice A1 l1.length c1, .slice A2 l2.length c2] rfl (by (try simp only [List.map_toArray, List.map_cons, List.map_nil]); first | done | rfl | (simp only [List.length_drop, List.length_take]; rfl)) ?_; (with_reducible refine (torrentref4_Covers.calls kj41 a0 _ _ l1 _ _ l2 t485 t486 _ ?side1 ?side2 ?side3 ?side4 A51.out).mono ?_); (case side1 => repeat (first | exact (Kd.C_below HR1.out (by repeat (first | (with_reducible first | exact HB.out | apply below_alloc | apply pw_below_drewN | apply below_drew1) | exact HB.out))) | (with_reducible refine Kd.C_alloc ?_ _) | (with_reducible refine Kd.C_drewN ?_ _) | (with_reducible refine Kd.C_drew ?_))); (case side2 => exact HC1.out); (case side3 => repeat (first | exact (Kd.C_below HR2.out (by repeat (first | (with_reducible first | exact HB.out | apply below_alloc | apply pw_below_drewN | apply below_drew1) | exact HB.out))) | (with_reducible refine Kd.C_alloc ?_ _) | (with_reducible refine Kd.C_drewN ?_ _) | (with_reducible refine Kd.C_drew ?_))); (case side4 => exact HC2.out); rintro e w57 ⟨rfl, hb⟩; refine ⟨_, rfl, ?_⟩; have n0_ := Aside0.mk (Kd.R_below (by (with_reducible repeat (first | apply Kd.R_alloc | apply Kd.R_drewN | apply Kd.R_drew)); exact HO_7.out) hb); have n1_ := Aside0.mk (Kd.R_below (by (with_reducible repeat (first | apply Kd.R_alloc | apply Kd.R_drewN | apply Kd.R_drew)); exact HO_8.out) hb); have n2_ := Aside0.mk (below_step (by repeat (first | (with_reducible first | exact HB.out | apply below_alloc | apply pw_below_drewN | apply below_drew1) | exact HB.out)) hb); clear HO_7; clear HO_8; clear HB; have HO_7 := n0_; have HO_8 := n1_; have HB := n2_; clear n0_ n1_ n2_; (try clear hb); (try clear hb2); (try clear hk); (try clear hi)) | (go_at_call 17; (with_reducible refine (torrentlaw4_sameBytes.calls kj41 _ _ t441 _ _ l1 true _ ?side1 ?side2 ?side3 ?side4 A54.out).mono ?_); (case side1 => repeat (first | exact (Kd.R_reads' HO_7.out).2.2 | (with_reducible refine Kd.C_alloc ?_ _) | (with_reducible refine Kd.C_drewN ?_ _) | (with_reducible refine Kd.C_drew ?_))); (case side2 => exact (Kd.R_reads' HO_7.out).2.1); (case side3 => repeat (first | exact (Kd.C_below HR1.out HB.out) | (with_reducible refine Kd.C_alloc ?_ _) | (with_reducible refine Kd.C_drewN ?_ _) | (with_reducible refine Kd.C_drew ?_))); (case side4 => exact HC1.out); rintro e w' ⟨rfl, ⟨nd, rfl⟩⟩) | (go_at_call 17; (with_reducible refine (torrentlaw4_sameBytes.calls kj41 _ _ t444 _ _ l2 t488 _ ?side1 ?side2 ?side3 ?side4 A56.out).mono ?_); (case side1 => repeat (first | exact (Kd.R_reads' HO_8.out).2.2 | (with_reducible refine Kd.C_alloc ?_ _) | (with_reducible refine Kd.C_drewN ?_ _) | (with_reducible refine Kd.C_drew ?_))); (case side2 => exact (Kd.R_reads' HO_8.out).2.1); (case side3 => repeat (first | exact (Kd.C_below HR2.out (by repeat (first | (with_reducible first | exact HB.out | apply below_alloc | apply pw_below_drewN | apply below_drew1) | exact HB.out))) | (with_reducible refine Kd.C_alloc ?_ _) | (with_reducible refine Kd.C_drewN ?_ _) | (with_reducible refine Kd.C_drew ?_))); (case side4 => exact HC2.out); rintro e w' ⟨rfl, ⟨nd, rfl⟩⟩))
                                go_ret
                                exact ⟨by first | rfl | (simp [errW_none, errW_some] <;> rfl) | (simp [*, errW_none, errW_some] <;> rfl), by repeat (first | (with_reducible first | exact HB.out | apply below_alloc | apply pw_below_drewN | apply below_drew1) | exact HB.out)⟩
                              · replace c55 := Bool.eq_false_iff.mpr c55
                                subst c55
                                have H1 : (some false) = some r := by rw [if_neg (show ¬ (false = true) by decide)] at H; exact H
                                clear H
                                have H := H1
                                clear H1
                                obtain rfl := Option.some.inj H
                                go_wp2_with (first | ((with_reducible refine gate_callee (f := 46) rfl ?_); refine goesL_ (some 113) rfl rfl Try.func46 (by kernel_rfl) rfl #[.int .i64 a0, .slice Ao11 t441.length co11, .slice Ao12 t444.length co12] rfl (by (try simp only [List.map_toArray, List.map_cons, List.map_nil]); first | done | rfl | (simp only [List.length_drop, List.length_take]; rfl)) ?_; (with_reducible refine (bitset_Covers.calls kj41 a0 _ _ t441 _ _ t444 t483 t484 _ ?side1 ?side2 ?side3 ?side4 A50.out).mono ?_); (case side1 => repeat (first | exact (Kd.R_reads' HO_7.out).2.2 | (with_reducible refine Kd.C_alloc ?_ _) | (with_reducible refine Kd.C_drewN ?_ _) | (with_reducible refine Kd.C_drew ?_))); (case side2 => exact (Kd.R_reads' HO_7.out).2.1); (case side3 => repeat (first | exact (Kd.R_reads' HO_8.out).2.2 | (with_reducible refine Kd.C_alloc ?_ _) | (with_reducible refine Kd.C_drewN ?_ _) | (with_reducible refine Kd.C_drew ?_))); (case side4 => exact (Kd.R_reads' HO_8.out).2.1); rintro e w' ⟨rfl, ⟨nd, rfl⟩⟩; refine ⟨_, rfl, ?_⟩) | ((with_reducible refine gate_callee (f := 47) rfl ?_); refine goesL_ (some 120) rfl rfl Try.func47 (by kernel_rfl) rfl #[.int .i64 a0, .slice A1 l1.length c1, .slice A2 l2.length c2] rfl (by (try simp only [List.map_toArray, List.map_cons, List.map_nil]); first | done | rfl | (simp only [List.length_drop, List.length_take]; rfl)) ?_; (with_reducible refine (torrentref4_Covers.calls kj41 a0 _ _ l1 _ _ l2 t485 t486 _ ?side1 ?side2 ?side3 ?side4 A51.out).mono ?_); (case side1 => repeat (first | exact (Kd.C_below HR1.out (by repeat (first | (with_reducible first | exact HB.out | apply below_alloc | apply pw_below_drewN | apply below_drew1) | exact HB.out))) | (with_reducible refine Kd.C_alloc ?_ _) | (with_reducible refine Kd.C_drewN ?_ _) | (with_reducible refine Kd.C_drew ?_))); (case side2 => exact HC1.out); (case side3 => repeat (first | exact (Kd.C_below HR2.out (by repeat (first | (with_reducible first | exact HB.out | apply below_alloc | apply pw_below_drewN | apply below_drew1) | exact HB.out))) | (with_reducible refine Kd.C_alloc ?_ _) | (with_reducible refine Kd.C_drewN ?_ _) | (with_reducible refine Kd.C_drew ?_))); (case side4 => exact HC2.out); rintro e w58 ⟨rfl, hb⟩; refine ⟨_, rfl, ?_⟩; have n0_ := Aside0.mk (Kd.R_below (by (with_reducible repeat (first | apply Kd.R_alloc | apply Kd.R_drewN | apply Kd.R_drew)); exact HO_7.out) hb); have n1_ := Aside0.mk (Kd.R_below (by (with_reducible repeat (first | apply Kd.R_alloc | apply Kd.R_drewN | apply Kd.R_drew)); exact HO_8.out) hb); have n2_ := Aside0.mk (below_step (by repeat (first | (with_reducible first | exact HB.out | apply below_alloc | apply pw_below_drewN | apply below_drew1) | exact HB.out)) hb); clear HO_7; clear HO_8; clear HB; have HO_7 := n0_; have HO_8 := n1_; have HB := n2_; clear n0_ n1_ n2_; (try clear hb); (try clear hb2); (try clear hk); (try clear hi)) | (go_at_call 17; (with_reducible refine (torrentlaw4_sameBytes.calls kj41 _ _ t441 _ _ l1 false _ ?side1 ?side2 ?side3 ?side4 A54.out).mono ?_); (case side1 => repeat (first | exact (Kd.R_reads' HO_7.out).2.2 | (with_reducible refine Kd.C_alloc ?_ _) | (with_reducible refine Kd.C_drewN ?_ _) | (with_reducible refine Kd.C_drew ?_))); (case side2 => exact (Kd.R_reads' HO_7.out).2.1); (case side3 => repeat (first | exact (Kd.C_below HR1.out HB.out) | (with_reducible refine Kd.C_alloc ?_ _) | (with_reducible refine Kd.C_drewN ?_ _) | (with_reducible refine Kd.C_drew ?_))); (case side4 => exact HC1.out); rintro e w' ⟨rfl, ⟨nd, rfl⟩⟩))
                                go_ret
                                exact ⟨by first | rfl | (simp [errW_none, errW_some] <;> rfl) | (simp [*, errW_none, errW_some] <;> rfl), by repeat (first | (with_reducible first | exact HB.out | apply below_alloc | apply pw_below_drewN | apply below_drew1) | exact HB.out)⟩
                            · rw [if_neg c53] at H
                              have c53b0 : (t483 == t485) = false := by simpa using c53
                              (try (have c53b1 : decide (t483 = t485) = false := by simpa using c53))
                              (try (have c53b2 : (t483 == t485) = false := by simpa using c53))
                              (try (have c53b3 : ¬ (t483 = t485) := by simpa using c53))
                              clear c53
                              obtain rfl := Option.some.inj H
                              go_wp2_with (first | ((with_reducible refine gate_callee (f := 46) rfl ?_); refine goesL_ (some 113) rfl rfl Try.func46 (by kernel_rfl) rfl #[.int .i64 a0, .slice Ao11 t441.length co11, .slice Ao12 t444.length co12] rfl (by (try simp only [List.map_toArray, List.map_cons, List.map_nil]); first | done | rfl | (simp only [List.length_drop, List.length_take]; rfl)) ?_; (with_reducible refine (bitset_Covers.calls kj41 a0 _ _ t441 _ _ t444 t483 t484 _ ?side1 ?side2 ?side3 ?side4 A50.out).mono ?_); (case side1 => repeat (first | exact (Kd.R_reads' HO_7.out).2.2 | (with_reducible refine Kd.C_alloc ?_ _) | (with_reducible refine Kd.C_drewN ?_ _) | (with_reducible refine Kd.C_drew ?_))); (case side2 => exact (Kd.R_reads' HO_7.out).2.1); (case side3 => repeat (first | exact (Kd.R_reads' HO_8.out).2.2 | (with_reducible refine Kd.C_alloc ?_ _) | (with_reducible refine Kd.C_drewN ?_ _) | (with_reducible refine Kd.C_drew ?_))); (case side4 => exact (Kd.R_reads' HO_8.out).2.1); rintro e w' ⟨rfl, ⟨nd, rfl⟩⟩; refine ⟨_, rfl, ?_⟩) | ((with_reducible refine gate_callee (f := 47) rfl ?_); refine goesL_ (some 120) rfl rfl Try.func47 (by kernel_rfl) rfl #[.int .i64 a0, .slice A1 l1.length c1, .slice A2 l2.length c2] rfl (by (try simp only [List.map_toArray, List.map_cons, List.map_nil]); first | done | rfl | (simp only [List.length_drop, List.length_take]; rfl)) ?_; (with_reducible refine (torrentref4_Covers.calls kj41 a0 _ _ l1 _ _ l2 t485 t486 _ ?side1 ?side2 ?side3 ?side4 A51.out).mono ?_); (case side1 => repeat (first | exact (Kd.C_below HR1.out (by repeat (first | (with_reducible first | exact HB.out | apply below_alloc | apply pw_below_drewN | apply below_drew1) | exact HB.out))) | (with_reducible refine Kd.C_alloc ?_ _) | (with_reducible refine Kd.C_drewN ?_ _) | (with_reducible refine Kd.C_drew ?_))); (case side2 => exact HC1.out); (case side3 => repeat (first | exact (Kd.C_below HR2.out (by repeat (first | (with_reducible first | exact HB.out | apply below_alloc | apply pw_below_drewN | apply below_drew1) | exact HB.out))) | (with_reducible refine Kd.C_alloc ?_ _) | (with_reducible refine Kd.C_drewN ?_ _) | (with_reducible refine Kd.C_drew ?_))); (case side4 => exact HC2.out); rintro e w59 ⟨rfl, hb⟩; refine ⟨_, rfl, ?_⟩; have n0_ := Aside0.mk (Kd.R_below (by (with_reducible repeat (first | apply Kd.R_alloc | apply Kd.R_drewN | apply Kd.R_drew)); exact HO_7.out) hb); have n1_ := Aside0.mk (Kd.R_below (by (with_reducible repeat (first | apply Kd.R_alloc | apply Kd.R_drewN | apply Kd.R_drew)); exact HO_8.out) hb); have n2_ := Aside0.mk (below_step (by repeat (first | (with_reducible first | exact HB.out | apply below_alloc | apply pw_below_drewN | apply below_drew1) | exact HB.out)) hb); clear HO_7; clear HO_8; clear HB; have HO_7 := n0_; have HO_8 := n1_; have HB := n2_; clear n0_ n1_ n2_; (try clear hb); (try clear hb2); (try clear hk); (try clear hi)))
                              go_ret
                              exact ⟨by first | rfl | (simp [errW_none, errW_some] <;> rfl) | (simp [*, errW_none, errW_some] <;> rfl), by repeat (first | (with_reducible first | exact HB.out | apply below_alloc | apply pw_below_drewN | apply below_drew1) | exact HB.out)⟩
                          · rw [if_neg c52] at H
                            have c52b0 : (t484 == t486) = false := beq_eq_false_iff_ne.mpr c52
                            have c52b1 : (t484 != t486) = true := bne_iff_ne.mpr c52
                            obtain rfl := Option.some.inj H
                            go_wp2_with (first | ((with_reducible refine gate_callee (f := 46) rfl ?_); refine goesL_ (some 113) rfl rfl Try.func46 (by kernel_rfl) rfl #[.int .i64 a0, .slice Ao11 t441.length co11, .slice Ao12 t444.length co12] rfl (by (try simp only [List.map_toArray, List.map_cons, List.map_nil]); first | done | rfl | (simp only [List.length_drop, List.length_take]; rfl)) ?_; (with_reducible refine (bitset_Covers.calls kj41 a0 _ _ t441 _ _ t444 t483 t484 _ ?side1 ?side2 ?side3 ?side4 A50.out).mono ?_); (case side1 => repeat (first | exact (Kd.R_reads' HO_7.out).2.2 | (with_reducible refine Kd.C_alloc ?_ _) | (with_reducible refine Kd.C_drewN ?_ _) | (with_reducible refine Kd.C_drew ?_))); (case side2 => exact (Kd.R_reads' HO_7.out).2.1); (case side3 => repeat (first | exact (Kd.R_reads' HO_8.out).2.2 | (with_reducible refine Kd.C_alloc ?_ _) | (with_reducible refine Kd.C_drewN ?_ _) | (with_reducible refine Kd.C_drew ?_))); (case side4 => exact (Kd.R_reads' HO_8.out).2.1); rintro e w' ⟨rfl, ⟨nd, rfl⟩⟩; refine ⟨_, rfl, ?_⟩) | ((with_reducible refine gate_callee (f := 47) rfl ?_); refine goesL_ (some 120) rfl rfl Try.func47 (by kernel_rfl) rfl #[.int .i64 a0, .slice A1 l1.length c1, .slice A2 l2.length c2] rfl (by (try simp only [List.map_toArray, List.map_cons, List.map_nil]); first | done | rfl | (simp only [List.length_drop, List.length_take]; rfl)) ?_; (with_reducible refine (torrentref4_Covers.calls kj41 a0 _ _ l1 _ _ l2 t485 t486 _ ?side1 ?side2 ?side3 ?side4 A51.out).mono ?_); (case side1 => repeat (first | exact (Kd.C_below HR1.out (by repeat (first | (with_reducible first | exact HB.out | apply below_alloc | apply pw_below_drewN | apply below_drew1) | exact HB.out))) | (with_reducible refine Kd.C_alloc ?_ _) | (with_reducible refine Kd.C_drewN ?_ _) | (with_reducible refine Kd.C_drew ?_))); (case side2 => exact HC1.out); (case side3 => repeat (first | exact (Kd.C_below HR2.out (by repeat (first | (with_reducible first | exact HB.out | apply below_alloc | apply pw_below_drewN | apply below_drew1) | exact HB.out))) | (with_reducible refine Kd.C_alloc ?_ _) | (with_reducible refine Kd.C_drewN ?_ _) | (with_reducible refine Kd.C_drew ?_))); (case side4 => exact HC2.out); rintro e w60 ⟨rfl, hb⟩; refine ⟨_, rfl, ?_⟩; have n0_ := Aside0.mk (Kd.R_below (by (with_reducible repeat (first | apply Kd.R_alloc | apply Kd.R_drewN | apply Kd.R_drew)); exact HO_7.out) hb); have n1_ := Aside0.mk (Kd.R_below (by (with_reducible repeat (first | apply Kd.R_alloc | apply Kd.R_drewN | apply Kd.R_drew)); exact HO_8.out) hb); have n2_ := Aside0.mk (below_step (by repeat (first | (with_reducible first | exact HB.out | apply below_alloc | apply pw_below_drewN | apply below_drew1) | exact HB.out)) hb); clear HO_7; clear HO_8; clear HB; have HO_7 := n0_; have HO_8 := n1_; have HB := n2_; clear n0_ n1_ n2_; (try clear hb); (try clear hb2); (try clear hk); (try clear hi)))
                            go_ret
                            exact ⟨by first | rfl | (simp [errW_none, errW_some] <;> rfl) | (simp [*, errW_none, errW_some] <;> rfl), by repeat (first | (with_reducible first | exact HB.out | apply below_alloc | apply pw_below_drewN | apply below_drew1) | exact HB.out)⟩

/-- THE ONE PURE STATEMENT of torrentlaw4_BitsetJoins: yours. -/
def torrentlaw4_BitsetJoins.Pure : Prop := ∀ (a0 : Int) (l1 : List Int) (l2 : List Int), (Lit.int .i64 a0).wf = true → l1.length ≤ maxLen → l1.length * 1 ≤ 140737488351232 → (∀ x ∈ l1, (Lit.int .u8 x).wf = true) → l2.length ≤ maxLen → l2.length * 1 ≤ 140737488351232 → (∀ x ∈ l2, (Lit.int .u8 x).wf = true) → ∃ k, torrentlaw4_BitsetJoins.f k a0 l1 l2 = some true
theorem torrentlaw4_BitsetJoins.walk (P : torrentlaw4_BitsetJoins.Pure) (a0 : Int) (a1 : Option Addr) (len1 cap1 : Nat) (z1 : List Int) (a2 : Option Addr) (len2 cap2 : Nat) (z2 : List Int) (w : World) (w0 : (Lit.int .i64 a0).wf = true) (w1 : (a1 = none ∧ len1 = 0 ∧ cap1 = 0 ∧ z1 = []) ∨ ∃ x, a1 = some x ∧ len1 ≤ cap1 ∧ cap1 ≤ maxLen ∧ z1.length = cap1 ∧ (∀ i, i < z1.length → w.cell? (x.add i) = some (.int .u8 (z1.getD i 0))) ∧ ∀ n ∈ z1, (Lit.int .u8 n).wf = true) (y1 : len1 * 1 ≤ 140737488351232) (w2 : (a2 = none ∧ len2 = 0 ∧ cap2 = 0 ∧ z2 = []) ∨ ∃ x, a2 = some x ∧ len2 ≤ cap2 ∧ cap2 ≤ maxLen ∧ z2.length = cap2 ∧ (∀ i, i < z2.length → w.cell? (x.add i) = some (.int .u8 (z2.getD i 0))) ∧ ∀ n ∈ z2, (Lit.int .u8 n).wf = true) (y2 : len2 * 1 ≤ 140737488351232) :
    Calls Try.prog 10 #[.int .i64 a0, .slice a1 len1 cap1, .slice a2 len2 cap2] w fun e w' => e = .returned (.bool true) ∧ Below w.heap.size w w' := by
  obtain ⟨l1, rfl, hr1, hm1, hw1, hc1⟩ := ReadsInt.ofRowC w1
  obtain ⟨l2, rfl, hr2, hm2, hw2, hc2⟩ := ReadsInt.ofRowC w2
  obtain ⟨k, h⟩ := P a0 l1 l2 w0 hm1 y1 hw1 hm2 y2 hw2
  refine (torrentlaw4_BitsetJoins.calls k a0 _ _ l1 _ _ l2 true w (Kd.C_of_reads (d := (0 : Int)) (h1 := fun _ => rfl) hr1) hc1 (Kd.C_of_reads (d := (0 : Int)) (h1 := fun _ => rfl) hr2) hc2 h).mono ?_
  rintro e w' ⟨rfl, hd⟩
  exact ⟨rfl, hd⟩

end Go.Proofs.Ytoohpdamndgdlaa.P

/- Plain arithmetic of bytes and bits for the statements of chapter 4: a list of bytes as a sequence of bits, the high bit first. No condition, no program. -/
set_option linter.unusedVariables false
set_option linter.unusedSimpArgs false
namespace Go.Proofs.Ytoohpdamndgdlaa.B
open Go.RowKit Go.Proofs.YtoohpdamndgdlaaW.PrintWords Go.Proofs.YtoohpdamndgdlaaW.PrintLast Go.Proofs.YtoohpdamndgdlaaW.PrintMore

/-! ### whole numbers -/
theorem w64 (n : Int) (h0 : -9223372036854775808 ≤ n) (h1 : n ≤ 9223372036854775807) : wrap64 n = n := by unfold wrap64; omega
theorem wf64 {n : Int} (h : (Lit.int .i64 n).wf = true) : -9223372036854775808 ≤ n ∧ n ≤ 9223372036854775807 := by
  simp [Lit.wf, IntKind.min, IntKind.max, IntKind.bits, IntKind.signed] at h
  omega
theorem wf8 {n : Int} (h : (Lit.int .u8 n).wf = true) : 0 ≤ n ∧ n < 256 := by
  simp [Lit.wf, IntKind.min, IntKind.max, IntKind.bits, IntKind.signed] at h
  omega

/-! ### one byte -/
theorem tb8 (m i : Nat) (h : m < 256) (hi : 8 ≤ i) : m.testBit i = false := by
  refine Nat.testBit_lt_two_pow (Nat.lt_of_lt_of_le h ?_)
  exact (show 256 = 2 ^ 8 by decide) ▸ Nat.pow_le_pow_right (by decide) hi
theorem nat_ext8 (m n : Nat) (hm : m < 256) (hn : n < 256) (h : ∀ i, i < 8 → m.testBit i = n.testBit i) : m = n := by
  refine Nat.eq_of_testBit_eq fun i => ?_
  by_cases hi : i < 8
  · exact h i hi
  · rw [tb8 m i hm (by omega), tb8 n i hn (by omega)]
theorem bits_and8 (a b : Nat) (ha : a < 256) (hb : b < 256) : Go.bits .and .u8 a b = ((a &&& b : Nat) : Int) := (bits_nat .u8 8 (by decide) wraps_u8 a b ha hb).1
theorem bits_or8 (a b : Nat) (ha : a < 256) (hb : b < 256) : Go.bits .or .u8 a b = ((a ||| b : Nat) : Int) := (bits_nat .u8 8 (by decide) wraps_u8 a b ha hb).2
theorem bits_not8 (a b : Nat) (ha : a < 256) (hb : b < 256) : ∃ r : Nat, Go.bits .andNot .u8 a b = (r : Int) ∧ r < 256 ∧ ∀ i, i < 8 → r.testBit i = (a.testBit i && !b.testBit i) := by
  refine ⟨(BitVec.ofNat 8 a &&& ~~~ BitVec.ofNat 8 b).toNat, ?_, ?_, ?_⟩
  · simp only [Go.bits, BitVec.ofInt_natCast]
    exact wraps_u8 _ (Int.natCast_nonneg _) (by exact_mod_cast (BitVec.ofNat 8 a &&& ~~~ BitVec.ofNat 8 b).isLt)
  · exact (BitVec.ofNat 8 a &&& ~~~ BitVec.ofNat 8 b).isLt
  · intro i hi
    have e : ∀ x : BitVec 8, x.toNat.testBit i = x.getLsbD i := fun x => rfl
    rw [e, BitVec.getLsbD_and, BitVec.getLsbD_not, BitVec.getLsbD_ofNat, BitVec.getLsbD_ofNat]
    simp [hi]

/-- What an operation on two bytes gives, bit by bit. -/
def opb : BinOp → Bool → Bool → Bool
  | .and, x, y => x && y
  | .or, x, y => x || y
  | _, x, y => x && !y
theorem bits_byte (op : BinOp) (hop : op = .and ∨ op = .or ∨ op = .andNot) (x y : Int) (hx : 0 ≤ x ∧ x < 256) (hy : 0 ≤ y ∧ y < 256) :
    (0 ≤ Go.bits op .u8 x y ∧ Go.bits op .u8 x y < 256) ∧ ∀ i, i < 8 → (Go.bits op .u8 x y).toNat.testBit i = opb op (x.toNat.testBit i) (y.toNat.testBit i) := by
  obtain ⟨a, rfl⟩ : ∃ a : Nat, x = a := ⟨x.toNat, by omega⟩
  obtain ⟨b, rfl⟩ : ∃ b : Nat, y = b := ⟨y.toNat, by omega⟩
  have ha : a < 256 := by omega
  have hb : b < 256 := by omega
  simp only [Int.toNat_natCast]
  rcases hop with rfl | rfl | rfl
  · rw [bits_and8 a b ha hb]
    have h : a &&& b < 256 := Nat.and_lt_two_pow (n := 8) _ hb
    exact ⟨by omega, fun i _ => by simp [opb, Nat.testBit_and]⟩
  · rw [bits_or8 a b ha hb]
    have h : a ||| b < 256 := Nat.or_lt_two_pow (n := 8) ha hb
    exact ⟨by omega, fun i _ => by simp [opb, Nat.testBit_or]⟩
  · obtain ⟨r, hr, hl, ht⟩ := bits_not8 a b ha hb
    rw [hr]
    exact ⟨by omega, fun i hi => by simpa [opb] using ht i hi⟩

/-! ### the masks -/
def mk8 (t : Nat) : Int := (2 ^ (7 - t) : Nat)
theorem shr_mask (t : Nat) (h : t < 8) : shr .u8 128 (t : Int) = mk8 t := by
  match t, h with
  | 0, _ | 1, _ | 2, _ | 3, _ | 4, _ | 5, _ | 6, _ | 7, _ => decide
theorem mk8_range (t : Nat) (h : t < 8) : 0 ≤ mk8 t ∧ mk8 t < 256 := by
  match t, h with
  | 0, _ | 1, _ | 2, _ | 3, _ | 4, _ | 5, _ | 6, _ | 7, _ => decide
theorem mk8_bit (t i : Nat) (h : t < 8) : (mk8 t).toNat.testBit i = decide (i = 7 - t) := by
  unfold mk8
  rw [Int.toNat_natCast, Nat.testBit_two_pow]
  exact decide_eq_decide.mpr ⟨fun h => h.symm, fun h => h.symm⟩
/-- A byte and a mask: is the bit set? -/
theorem and_mask (x : Int) (hx : 0 ≤ x ∧ x < 256) (t : Nat) (h : t < 8) : (Go.bits .and .u8 x (mk8 t) = 0) ↔ x.toNat.testBit (7 - t) = false := by
  obtain ⟨hr, hb⟩ := bits_byte .and (.inl rfl) x (mk8 t) hx (mk8_range t h)
  constructor
  · intro h0
    have := hb (7 - t) (by omega)
    rw [h0, mk8_bit t _ h] at this
    simpa [opb] using this.symm
  · intro h0
    have : (Go.bits .and .u8 x (mk8 t)).toNat = 0 := nat_ext8 _ _ (by omega) (by decide) fun i hi => by
      rw [hb i hi, mk8_bit t _ h]
      by_cases hit : i = 7 - t
      · subst hit; simp [opb, h0]
      · simp [opb, hit]
    omega
theorem add_bit (a t : Nat) (ha : a < 256) (ht : t < 8) (h : a.testBit t = false) : a + 2 ^ t = a ||| 2 ^ t := by
  have key : ∀ t : Fin 8, ∀ a : Fin 256, a.val.testBit t.val = false → a.val + 2 ^ t.val = a.val ||| 2 ^ t.val := by decide +kernel
  exact key ⟨t, ht⟩ ⟨a, ha⟩ h
/-- A mask is added to a byte that lacks the bit. -/
theorem add_mask (x : Int) (hx : 0 ≤ x ∧ x < 256) (t : Nat) (h : t < 8) (h0 : x.toNat.testBit (7 - t) = false) :
    (x + mk8 t % 256) % 256 = Go.bits .or .u8 x (mk8 t) := by
  obtain ⟨a, rfl⟩ : ∃ a : Nat, x = a := ⟨x.toNat, by omega⟩
  have hm := mk8_range t h
  rw [Int.toNat_natCast] at h0
  have ha : a < 256 := by omega
  have e := add_bit a (7 - t) ha (by omega) h0
  have hl : a ||| 2 ^ (7 - t) < 256 := Nat.or_lt_two_pow (n := 8) ha (by unfold mk8 at hm; omega)
  have e2 : Go.bits .or .u8 (a : Int) (mk8 t) = ((a ||| 2 ^ (7 - t) : Nat) : Int) := bits_or8 a _ ha (by unfold mk8 at hm; omega)
  rw [e2, ← e]
  have e3 : mk8 t % 256 = mk8 t := by omega
  rw [e3]
  unfold mk8
  rw [← Int.natCast_add]
  omega

/-! ### a list of bytes as bits -/
def gbit (xs : List Int) (i : Nat) : Bool := (xs.getD (i / 8) 0).toNat.testBit (7 - i % 8)
def IsB (xs : List Int) : Prop := ∀ x ∈ xs, 0 ≤ x ∧ x < 256
theorem IsB.nil : IsB [] := fun x hx => by simp at hx
theorem IsB.getD {xs : List Int} (h : IsB xs) (j : Nat) : 0 ≤ xs.getD j 0 ∧ xs.getD j 0 < 256 := by
  by_cases hj : j < xs.length
  · rw [List.getD_eq_getElem?_getD, List.getElem?_eq_getElem hj, Option.getD_some]
    exact h _ (List.getElem_mem hj)
  · rw [List.getD_eq_getElem?_getD, List.getElem?_eq_none (by omega)]
    exact ⟨by simp, by simp⟩
theorem IsB.set {xs : List Int} (h : IsB xs) (j : Nat) {v : Int} (hv : 0 ≤ v ∧ v < 256) : IsB (xs.set j v) := fun x hx => by
  rcases List.mem_or_eq_of_mem_set hx with hx | rfl
  · exact h x hx
  · exact hv
theorem IsB.append {xs ys : List Int} (h : IsB xs) (k : IsB ys) : IsB (xs ++ ys) := fun x hx => by
  rcases List.mem_append.1 hx with hx | hx
  · exact h x hx
  · exact k x hx
theorem IsB.replicate (n : Nat) : IsB (List.replicate n 0) := fun x hx => by
  obtain rfl := List.eq_of_mem_replicate hx
  decide
theorem IsB.of_wf {xs : List Int} (h : ∀ x ∈ xs, (Lit.int .u8 x).wf = true) : IsB xs := fun x hx => wf8 (h x hx)
theorem gbit_ext {xs ys : List Int} (hl : xs.length = ys.length) (hx : IsB xs) (hy : IsB ys) (h : ∀ i, i < 8 * xs.length → gbit xs i = gbit ys i) : xs = ys := by
  refine List.ext_getElem hl fun j h1 h2 => ?_
  have ex : xs.getD j 0 = xs[j] := by rw [List.getD_eq_getElem?_getD, List.getElem?_eq_getElem h1, Option.getD_some]
  have ey : ys.getD j 0 = ys[j] := by rw [List.getD_eq_getElem?_getD, List.getElem?_eq_getElem h2, Option.getD_some]
  have bx := hx.getD j
  have by_ := hy.getD j
  have : (xs.getD j 0).toNat = (ys.getD j 0).toNat := nat_ext8 _ _ (by omega) (by omega) fun i hi => by
    have := h (8 * j + (7 - i)) (by omega)
    unfold gbit at this
    rw [show (8 * j + (7 - i)) / 8 = j by omega, show 7 - (8 * j + (7 - i)) % 8 = i by omega] at this
    exact this
  rw [← ex, ← ey]
  omega
theorem gbit_set (xs : List Int) (q : Nat) (v : Int) (j : Nat) (hq : q < xs.length) : gbit (xs.set q v) j = if j / 8 = q then v.toNat.testBit (7 - j % 8) else gbit xs j := by
  unfold gbit
  by_cases h : j / 8 = q
  · subst h
    rw [if_pos rfl, List.getD_eq_getElem?_getD, List.getElem?_set_self hq, Option.getD_some]
  · rw [if_neg h, List.getD_eq_getElem?_getD, List.getElem?_set_ne (Ne.symm h), ← List.getD_eq_getElem?_getD]
theorem gbit_replicate (n i : Nat) : gbit (List.replicate n 0) i = false := by
  unfold gbit
  have : (List.replicate n (0 : Int)).getD (i / 8) 0 = 0 := by
    rw [List.getD_eq_getElem?_getD, List.getElem?_replicate]
    split <;> rfl
  rw [this]
  simp
theorem gbit_append_zero (xs : List Int) (i : Nat) : gbit (xs ++ [0]) i = gbit xs i := by
  unfold gbit
  have : (xs ++ [(0 : Int)]).getD (i / 8) 0 = xs.getD (i / 8) 0 := by
    simp only [List.getD_eq_getElem?_getD]
    by_cases h : i / 8 < xs.length
    · rw [List.getElem?_append_left h]
    · rw [List.getElem?_eq_none (by omega : xs.length ≤ i / 8)]
      by_cases h2 : i / 8 = xs.length
      · rw [h2, List.getElem?_append_right (by omega)]
        simp
      · rw [List.getElem?_eq_none (by simp; omega)]
  rw [this]
theorem gbit_beyond (xs : List Int) (i : Nat) (h : 8 * xs.length ≤ i) : gbit xs i = false := by
  unfold gbit
  rw [List.getD_eq_getElem?_getD, List.getElem?_eq_none (by omega)]
  simp

/-! ### the bit i set, taken out -/
def put1 (xs : List Int) (i : Nat) : List Int := xs.set (i / 8) (Go.bits .or .u8 (xs.getD (i / 8) 0) (mk8 (i % 8)))
def put0 (xs : List Int) (i : Nat) : List Int := xs.set (i / 8) (Go.bits .andNot .u8 (xs.getD (i / 8) 0) (mk8 (i % 8)))
theorem put1_length (xs : List Int) (i : Nat) : (put1 xs i).length = xs.length := by simp [put1]
theorem put0_length (xs : List Int) (i : Nat) : (put0 xs i).length = xs.length := by simp [put0]
theorem put1_isB {xs : List Int} (h : IsB xs) (i : Nat) : IsB (put1 xs i) := h.set _ (bits_byte .or (.inr (.inl rfl)) _ _ (h.getD _) (mk8_range _ (Nat.mod_lt _ (by decide)))).1
theorem put0_isB {xs : List Int} (h : IsB xs) (i : Nat) : IsB (put0 xs i) := h.set _ (bits_byte .andNot (.inr (.inr rfl)) _ _ (h.getD _) (mk8_range _ (Nat.mod_lt _ (by decide)))).1
theorem put1_bit {xs : List Int} (h : IsB xs) (i j : Nat) (hi : i < 8 * xs.length) : gbit (put1 xs i) j = (gbit xs j || decide (j = i)) := by
  unfold put1
  rw [gbit_set _ _ _ _ (by omega)]
  split
  · rename_i hj
    rw [(bits_byte .or (.inr (.inl rfl)) _ _ (h.getD _) (mk8_range _ (Nat.mod_lt _ (by decide)))).2 _ (by omega), mk8_bit _ _ (Nat.mod_lt _ (by decide))]
    show (_ || _) = _
    unfold gbit
    rw [hj]
    congr 1
    exact decide_eq_decide.mpr ⟨fun h => by omega, fun h => by subst h; rfl⟩
  · rename_i hj
    have : ¬ j = i := fun e => hj (by rw [e])
    simp [this]
theorem put0_bit {xs : List Int} (h : IsB xs) (i j : Nat) (hi : i < 8 * xs.length) : gbit (put0 xs i) j = (gbit xs j && !decide (j = i)) := by
  unfold put0
  rw [gbit_set _ _ _ _ (by omega)]
  split
  · rename_i hj
    rw [(bits_byte .andNot (.inr (.inr rfl)) _ _ (h.getD _) (mk8_range _ (Nat.mod_lt _ (by decide)))).2 _ (by omega), mk8_bit _ _ (Nat.mod_lt _ (by decide))]
    show (_ && !_) = _
    unfold gbit
    rw [hj]
    congr 2
    exact decide_eq_decide.mpr ⟨fun h => by omega, fun h => by subst h; rfl⟩
  · rename_i hj
    have : ¬ j = i := fun e => hj (by rw [e])
    simp [this]

/-! ### Go's spellings -/
theorem quo8 (n : Nat) (h : n ≤ 9223372036854775807) : wrap64 (Int.tdiv (n : Int) 8) = ((n / 8 : Nat) : Int) := by
  have : Int.tdiv (n : Int) 8 = ((n / 8 : Nat) : Int) := by
    rw [Int.tdiv_eq_ediv_of_nonneg (by omega)]
    omega
  rw [this, w64 _ (by omega) (by omega)]
theorem rem8 (n : Nat) : Int.tmod (n : Int) 8 = ((n % 8 : Nat) : Int) := by
  rw [Int.tmod_eq_emod_of_nonneg (by omega)]
  omega
theorem rd_nat (xs : List Int) (n : Nat) : rd xs (n : Int) = xs.getD n 0 := by unfold rd; rw [Int.toNat_natCast]
theorem inc (n : Nat) (h : n < 9223372036854775807) : wrap64 ((n : Int) + 1) = ((n + 1 : Nat) : Int) := by rw [w64 _ (by omega) (by omega)]; omega

/-! ### what a packed list of bits is -/
structure Packed (p : Nat → Bool) (n : Nat) (r : List Int) : Prop where
  len : r.length = (n + 7) / 8
  isB : IsB r
  bit : ∀ i, i < 8 * r.length → gbit r i = (decide (i < n) && p i)
theorem Packed.unique {p q : Nat → Bool} {n : Nat} {r s : List Int} (h : Packed p n r) (k : Packed q n s) (e : ∀ i, i < n → p i = q i) : r = s :=
  gbit_ext (h.len.trans k.len.symm) h.isB k.isB fun i hi => by
    rw [h.bit i hi, k.bit i (by have := h.len.trans k.len.symm; omega)]
    by_cases hn : i < n
    · rw [e i hn]
    · simp [hn]
theorem Packed.congr {p q : Nat → Bool} {n : Nat} {r : List Int} (h : Packed p n r) (e : ∀ i, i < n → p i = q i) : Packed q n r :=
  ⟨h.len, h.isB, fun i hi => by
    rw [h.bit i hi]
    by_cases hn : i < n
    · rw [e i hn]
    · simp [hn]⟩
end Go.Proofs.Ytoohpdamndgdlaa.B

/- What the reference's weight and pack and the law's sameBytes, sameInts answer, told in plain words. Condition of pack: at most 65536 bits. -/
set_option linter.unusedVariables false
set_option linter.unusedSimpArgs false
namespace Go.Proofs.Ytoohpdamndgdlaa.B
open Go.RowKit Go.Proofs.Ytoohpdamndgdlaa.P Go.Proofs.YtoohpdamndgdlaaW.PrintWords Go.Proofs.YtoohpdamndgdlaaW.PrintLast Go.Proofs.YtoohpdamndgdlaaW.PrintMore

/-! ### weight -/
theorem weight_l (i : Nat) : ∀ (d j : Nat), j + d = i % 8 → Ev (fun k => torrentref4_weight.l0 k (i : Int) (2 ^ (7 - j) : Nat) (j : Int)) (mk8 (i % 8))
  | 0, j, h => Ev.step (f := fun _ => some (mk8 (i % 8))) (fun k => by
      simp only [torrentref4_weight.l0]
      rw [rem8, if_neg (by omega), ← h]
      rfl) (Ev.now _)
  | d + 1, j, h => Ev.step (f := fun k => torrentref4_weight.l0 k (i : Int) (2 ^ (7 - (j + 1)) : Nat) ((j + 1 : Nat) : Int)) (fun k => by
      simp only [torrentref4_weight.l0]
      have h8 := Nat.mod_lt i (show 8 > 0 by decide)
      have e : wrap64 (Int.tdiv ((2 ^ (7 - j) : Nat) : Int) 2) = ((2 ^ (7 - (j + 1)) : Nat) : Int) := by
        have h7 : j < 7 := by omega
        match j, h7 with
        | 0, _ | 1, _ | 2, _ | 3, _ | 4, _ | 5, _ | 6, _ => decide +kernel
      rw [rem8, if_pos (by omega), e, inc j (by omega)]) (weight_l i d (j + 1) (by omega))
theorem weight_f (i : Nat) : Ev (fun k => torrentref4_weight.f k (i : Int)) (mk8 (i % 8)) := weight_l i (i % 8) 0 (by omega)

/-! ### pack -/
theorem rdOf_nat (l : List Bool) (i : Nat) : rdOf false l (i : Int) = l.getD i false := by unfold rdOf; rw [Int.toNat_natCast]
theorem pack_step (l : List Bool) (xs : List Int) (i : Nat) (hi : i < l.length) (hl : l.length ≤ 65536) (hx : IsB xs) (hlen : xs.length = (i + 7) / 8) (hb : ∀ j, j < 8 * xs.length → gbit xs j = (decide (j < i) && l.getD j false)) (r : List Int)
    (go : ∀ ys : List Int, IsB ys → ys.length = (i + 8) / 8 → (∀ j, j < 8 * ys.length → gbit ys j = (decide (j < i + 1) && l.getD j false)) → Ev (fun k => torrentref4_pack.l0 k l ys ((i + 1 : Nat) : Int)) r) :
    Ev (fun k => torrentref4_pack.l0 k l xs (i : Int)) r := by
  have hq : wrap64 (Int.tdiv (i : Int) 8) = ((i / 8 : Nat) : Int) := quo8 i (by omega)
  have hinc : wrap64 ((i : Int) + 1) = ((i + 1 : Nat) : Int) := inc i (by omega)
  -- what follows once the row is long enough
  have rest : ∀ ys : List Int, IsB ys → ys.length = (i + 8) / 8 → (∀ j, j < 8 * ys.length → gbit ys j = (decide (j < i) && l.getD j false)) →
      Ev (fun k => if l.getD i false = true then (torrentref4_weight.f k (i : Int)).bind fun t => torrentref4_pack.l0 k l (ys.set (i / 8) ((ys.getD (i / 8) 0 + t % 256) % 256)) ((i + 1 : Nat) : Int) else torrentref4_pack.l0 k l ys ((i + 1 : Nat) : Int)) r := by
    intro ys hy hyl hyb
    by_cases hon : l.getD i false = true
    · refine Ev.congr (fun k => if_pos hon) ?_
      refine Ev.bind (weight_f i) ?_
      have h8 := Nat.mod_lt i (show 8 > 0 by decide)
      have h0 : gbit ys i = false := by
        rw [hyb i (by omega)]
        simp
      rw [add_mask _ (hy.getD _) (i % 8) h8 h0]
      refine go (put1 ys i) (put1_isB hy i) (by rw [put1_length]; exact hyl) (fun j hj => ?_)
      rw [put1_length] at hj
      rw [put1_bit hy i j (by omega), hyb j hj]
      by_cases hji : j = i
      · subst hji; rw [hon]; simp
      · by_cases hlt : j < i
        · simp [hji, hlt, show j < i + 1 by omega]
        · simp [hji, hlt, show ¬ j < i + 1 by omega]
    · refine Ev.congr (fun k => if_neg hon) ?_
      refine go ys hy hyl (fun j hj => ?_)
      rw [hyb j hj]
      by_cases hji : j = i
      · subst hji; rw [Bool.eq_false_iff.mpr hon]; simp
      · by_cases hlt : j < i
        · simp [hlt, show j < i + 1 by omega]
        · simp [hlt, show ¬ j < i + 1 by omega]
  by_cases h8 : i % 8 = 0
  · refine Ev.step (f := fun k => if l.getD i false = true then (torrentref4_weight.f k (i : Int)).bind fun t => torrentref4_pack.l0 k l ((xs ++ [0]).set (i / 8) (((xs ++ [0]).getD (i / 8) 0 + t % 256) % 256)) ((i + 1 : Nat) : Int) else torrentref4_pack.l0 k l (xs ++ [0]) ((i + 1 : Nat) : Int)) (fun k => ?_) ?_
    · simp only [torrentref4_pack.l0]
      rw [if_pos (by omega), rem8, if_pos (by omega), if_pos (by omega)]
      simp only [Option.bind_some]
      have g1 : (0 : Int) ≤ ((i / 8 : Nat) : Int) := by omega
      have g2 : ((i / 8 : Nat) : Int) < (((xs ++ [0]).length : Nat) : Int) := by simp; omega
      rw [if_pos (by omega), rdOf_nat, hq, rd_nat, hinc, if_pos g1, if_pos g2, Int.toNat_natCast]
    · refine rest (xs ++ [0]) (hx.append (fun x h => by simp at h; subst h; decide)) (by simp; omega) (fun j hj => ?_)
      rw [gbit_append_zero]
      by_cases hj2 : j < 8 * xs.length
      · exact hb j hj2
      · rw [gbit_beyond _ _ (by omega)]
        simp [show ¬ j < i by omega]
  · refine Ev.step (f := fun k => if l.getD i false = true then (torrentref4_weight.f k (i : Int)).bind fun t => torrentref4_pack.l0 k l (xs.set (i / 8) ((xs.getD (i / 8) 0 + t % 256) % 256)) ((i + 1 : Nat) : Int) else torrentref4_pack.l0 k l xs ((i + 1 : Nat) : Int)) (fun k => ?_) ?_
    · simp only [torrentref4_pack.l0]
      rw [if_pos (by omega), rem8, if_neg (by omega)]
      have g1 : (0 : Int) ≤ ((i / 8 : Nat) : Int) := by omega
      have g2 : ((i / 8 : Nat) : Int) < ((xs.length : Nat) : Int) := by omega
      rw [if_pos (by omega), rdOf_nat, hq, rd_nat, hinc, if_pos g1, if_pos g2, Int.toNat_natCast]
    · exact rest xs hx (by omega) hb
theorem pack_l (l : List Bool) (hl : l.length ≤ 65536) : ∀ (d i : Nat) (xs : List Int), i + d = l.length → IsB xs → xs.length = (i + 7) / 8 → (∀ j, j < 8 * xs.length → gbit xs j = (decide (j < i) && l.getD j false)) →
    ∃ r, Ev (fun k => torrentref4_pack.l0 k l xs (i : Int)) r ∧ Packed (fun j => l.getD j false) l.length r
  | 0, i, xs, hd, hx, hlen, hb => by
    obtain rfl : i = l.length := by omega
    refine ⟨xs, Ev.step (f := fun _ => some xs) (fun k => ?_) (Ev.now _), hlen, hx, hb⟩
    simp only [torrentref4_pack.l0]
    rw [if_neg (by omega)]
  | d + 1, i, xs, hd, hx, hlen, hb => by
    have key : ∃ ys : List Int, IsB ys ∧ ys.length = (i + 8) / 8 ∧ (∀ j, j < 8 * ys.length → gbit ys j = (decide (j < i + 1) && l.getD j false)) := by
      have h8 : (i + 8) / 8 = (i + 7) / 8 ∨ (i + 8) / 8 = (i + 7) / 8 + 1 ∧ i % 8 = 0 := by omega
      have base : ∃ zs : List Int, IsB zs ∧ zs.length = (i + 8) / 8 ∧ (∀ j, j < 8 * zs.length → gbit zs j = (decide (j < i) && l.getD j false)) := by
        rcases h8 with h8 | ⟨h8, h9⟩
        · exact ⟨xs, hx, by omega, hb⟩
        · refine ⟨xs ++ [0], hx.append (fun x h => by simp at h; subst h; decide), by simp; omega, fun j hj => ?_⟩
          rw [gbit_append_zero]
          by_cases hj2 : j < 8 * xs.length
          · exact hb j hj2
          · rw [gbit_beyond _ _ (by omega)]
            simp [show ¬ j < i by omega]
      obtain ⟨zs, hz, hzl, hzb⟩ := base
      by_cases hon : l.getD i false = true
      · refine ⟨put1 zs i, put1_isB hz i, by rw [put1_length]; exact hzl, fun j hj => ?_⟩
        rw [put1_length] at hj
        rw [put1_bit hz i j (by omega), hzb j hj]
        by_cases hji : j = i
        · subst hji; rw [hon]; simp
        · by_cases hlt : j < i
          · simp [hji, hlt, show j < i + 1 by omega]
          · simp [hji, hlt, show ¬ j < i + 1 by omega]
      · refine ⟨zs, hz, hzl, fun j hj => ?_⟩
        rw [hzb j hj]
        by_cases hji : j = i
        · subst hji; rw [Bool.eq_false_iff.mpr hon]; simp
        · by_cases hlt : j < i
          · simp [hlt, show j < i + 1 by omega]
          · simp [hlt, show ¬ j < i + 1 by omega]
    obtain ⟨ys, hy, hyl, hyb⟩ := key
    obtain ⟨r, hr, hp⟩ := pack_l l hl d (i + 1) ys (by omega) hy (by omega) hyb
    refine ⟨r, pack_step l xs i (by omega) hl hx hlen hb r fun zs hz hzl hzb => ?_, hp⟩
    have : zs = ys := gbit_ext (by omega) hz hy fun j hj => by rw [hzb j hj, hyb j (by omega)]
    rw [this]
    exact hr
theorem pack_f (l : List Bool) (hl : l.length ≤ 65536) : ∃ r, Ev (fun k => torrentref4_pack.f k l) r ∧ Packed (fun j => l.getD j false) l.length r :=
  pack_l l hl l.length 0 [] (by omega) IsB.nil rfl (fun j hj => by simp at hj)

/-! ### sameBytes -/
theorem sameBytes_l (l : List Int) (hl : l.length ≤ 9223372036854775807) : ∀ (d i : Nat), i + d = l.length → Ev (fun k => torrentlaw4_sameBytes.l0 k l l (i : Int)) true
  | 0, i, h => Ev.step (f := fun _ => some true) (fun k => by
      simp only [torrentlaw4_sameBytes.l0]
      rw [if_neg (by omega)]) (Ev.now _)
  | d + 1, i, h => Ev.step (f := fun k => torrentlaw4_sameBytes.l0 k l l ((i + 1 : Nat) : Int)) (fun k => by
      simp only [torrentlaw4_sameBytes.l0]
      rw [if_pos (by omega), if_pos (by omega), if_pos (by omega), if_pos trivial, inc i (by omega)]) (sameBytes_l l hl d (i + 1) (by omega))
theorem sameBytes_f (l : List Int) (hl : l.length ≤ 9223372036854775807) : Ev (fun k => torrentlaw4_sameBytes.f k l l) true := by
  unfold torrentlaw4_sameBytes.f
  refine Ev.congr (fun k => if_pos rfl) ?_
  exact sameBytes_l l hl l.length 0 (by omega)
end Go.Proofs.Ytoohpdamndgdlaa.B

/- What Make answers, and one step of a loop that sets bits, in plain words. -/
set_option linter.unusedVariables false
set_option linter.unusedSimpArgs false
namespace Go.Proofs.Ytoohpdamndgdlaa.B
open Go.RowKit Go.Proofs.Ytoohpdamndgdlaa.P Go.Proofs.YtoohpdamndgdlaaW.PrintWords Go.Proofs.YtoohpdamndgdlaaW.PrintLast Go.Proofs.YtoohpdamndgdlaaW.PrintMore

theorem size_f (n : Nat) (h : n ≤ 65536) : bitset_size.f (n : Int) = some (((n + 7) / 8 : Nat) : Int) := by
  unfold bitset_size.f
  have e : wrap64 ((n : Int) + 7) = ((n + 7 : Nat) : Int) := by rw [w64 _ (by omega) (by omega)]; omega
  rw [e, quo8 _ (by omega)]
theorem make_ok (n : Nat) (h : n ≤ 65536) : bitset_Make.f (n : Int) = some (List.replicate ((n + 7) / 8) 0, 0) := by
  unfold bitset_Make.f
  rw [if_neg (by omega), if_neg (by omega), size_f n h]
  simp only [Option.bind_some]
  rw [if_pos (by omega), if_pos (by omega), Int.toNat_natCast]
theorem make_no (n : Int) (h : n < 0 ∨ 65536 < n) : bitset_Make.f n = some ([], 40) := by
  unfold bitset_Make.f
  by_cases h0 : n < 0
  · rw [if_pos h0]
  · rw [if_neg h0, if_pos (by omega)]
theorem isPacked_zero (n : Nat) : Packed (fun _ => false) n (List.replicate ((n + 7) / 8) 0) :=
  ⟨by simp, IsB.replicate _, fun i _ => by rw [gbit_replicate]; simp⟩
/-- The program's own spelling of 'the bit i set'. -/
theorem set_mask (xs : List Int) (i : Nat) (hi : i ≤ 65536) :
    xs.set (wrap64 (Int.tdiv (i : Int) 8)).toNat (Go.bits .or .u8 (rd xs (wrap64 (Int.tdiv (i : Int) 8))) (shr .u8 128 (Int.tmod (i : Int) 8))) = put1 xs i := by
  rw [quo8 i (by omega), rem8, shr_mask _ (Nat.mod_lt _ (by decide)), rd_nat, Int.toNat_natCast]
  rfl
theorem clear_mask (xs : List Int) (i : Nat) (hi : i ≤ 65536) :
    xs.set (wrap64 (Int.tdiv (i : Int) 8)).toNat (Go.bits .andNot .u8 (rd xs (wrap64 (Int.tdiv (i : Int) 8))) (shr .u8 128 (Int.tmod (i : Int) 8))) = put0 xs i := by
  rw [quo8 i (by omega), rem8, shr_mask _ (Nat.mod_lt _ (by decide)), rd_nat, Int.toNat_natCast]
  rfl
/-- The program's own spelling of 'is the bit i set?'. -/
theorem get_mask (xs : List Int) (hx : IsB xs) (i : Nat) (hi : i ≤ 65536) :
    (Go.bits .and .u8 (rd xs (wrap64 (Int.tdiv (i : Int) 8))) (shr .u8 128 (Int.tmod (i : Int) 8)) = 0) ↔ gbit xs i = false := by
  rw [quo8 i (by omega), rem8, shr_mask _ (Nat.mod_lt _ (by decide)), rd_nat]
  exact and_mask _ (hx.getD _) _ (Nat.mod_lt _ (by decide))
theorem tests_in (xs : List Int) (i : Nat) (hi : i ≤ 65536) (hl : i < 8 * xs.length) :
    0 ≤ wrap64 (Int.tdiv (i : Int) 8) ∧ wrap64 (Int.tdiv (i : Int) 8) < (xs.length : Int) ∧ 0 ≤ Int.tmod (i : Int) 8 := by
  rw [quo8 i (by omega), rem8]
  omega
end Go.Proofs.Ytoohpdamndgdlaa.B

/- What Check's 0 says of its arguments. -/
set_option linter.unusedVariables false
namespace Go.Proofs.Ytoohpdamndgdlaa.B
open Go.RowKit Go.Proofs.Ytoohpdamndgdlaa.P Go.Proofs.YtoohpdamndgdlaaW.PrintWords Go.Proofs.YtoohpdamndgdlaaW.PrintLast Go.Proofs.YtoohpdamndgdlaaW.PrintMore
theorem check_zero {k : Nat} {a : Int} {l : List Int} (h : bitset_Check.f k a l = some 0) : ∃ n : Nat, a = n ∧ n ≤ 65536 ∧ l.length = (n + 7) / 8 := by
  have h40 : ∀ (k : Nat), bitset_Check.j0 k a l true ≠ some 0 := fun k => by
    cases k with
    | zero => simp [bitset_Check.j0]
    | succ k =>
      simp only [bitset_Check.j0]
      rw [if_pos trivial]
      simp
  unfold bitset_Check.f at h
  by_cases h0 : a < 0
  · rw [if_pos h0] at h
    exact absurd h (h40 k)
  · rw [if_neg h0] at h
    by_cases h1 : a > 65536
    · rw [decide_eq_true h1] at h
      exact absurd h (h40 k)
    · rw [decide_eq_false h1] at h
      obtain ⟨n, rfl⟩ : ∃ n : Nat, a = n := ⟨a.toNat, by omega⟩
      refine ⟨n, rfl, by omega, ?_⟩
      cases k with
      | zero => simp [bitset_Check.j0] at h
      | succ k =>
        simp only [bitset_Check.j0] at h
        rw [if_neg (by decide), size_f n (by omega)] at h
        simp only [Option.bind_some] at h
        by_cases h2 : (l.length : Int) = (((n + 7) / 8 : Nat) : Int)
        · omega
        · rw [if_neg h2] at h
          simp at h
end Go.Proofs.Ytoohpdamndgdlaa.B

/- Check, open and copied, the program's and the reference's, in plain words. Conditions: bytes; open: at most 8192 of them. -/
set_option linter.unusedVariables false
set_option linter.unusedSimpArgs false
namespace Go.Proofs.Ytoohpdamndgdlaa.B
open Go.RowKit Go.Proofs.Ytoohpdamndgdlaa.P Go.Proofs.YtoohpdamndgdlaaW.PrintWords Go.Proofs.YtoohpdamndgdlaaW.PrintLast Go.Proofs.YtoohpdamndgdlaaW.PrintMore

/-! ### copied -/
theorem copied_l (l : List Int) (hl : l.length ≤ 140737488351232) : ∀ (d i : Nat), i + d = l.length → Ev (fun k => torrentlaw4_copied.l0 k l (l.take i) (i : Int)) l
  | 0, i, h => Ev.step (f := fun _ => some l) (fun k => by
      simp only [torrentlaw4_copied.l0]
      rw [if_neg (by omega), List.take_of_length_le (by omega)]) (Ev.now _)
  | d + 1, i, h => Ev.step (f := fun k => torrentlaw4_copied.l0 k l (l.take (i + 1)) ((i + 1 : Nat) : Int)) (fun k => by
      simp only [torrentlaw4_copied.l0]
      rw [if_pos (by omega), if_pos (by omega), if_pos (by rw [List.length_take]; omega), inc i (by omega), rd_nat, List.take_succ_eq_append_getElem (by omega)]
      congr 2
      rw [List.getD_eq_getElem?_getD, List.getElem?_eq_getElem (by omega)]
      rfl) (copied_l l hl d (i + 1) (by omega))
theorem copied_f (l : List Int) (hl : l.length ≤ 140737488351232) : Ev (fun k => torrentlaw4_copied.f k l) l := copied_l l hl l.length 0 (by omega)

/-! ### Check -/
theorem refSize_f (n : Nat) (h : n ≤ 65536) : torrentref4_size.f (n : Int) = some (((n + 7) / 8 : Nat) : Int) := by
  unfold torrentref4_size.f
  rw [rem8, quo8 n (by omega)]
  by_cases h0 : n % 8 = 0
  · rw [if_neg (by omega)]
    congr 1
    omega
  · rw [if_pos (by omega), inc _ (by omega)]
    congr 1
    omega
theorem spare_mask (x : Int) (hx : 0 ≤ x ∧ x < 256) (t : Nat) (h : t < 8) : Go.bits .and .u8 x (shr .u8 255 (t : Int)) = x % 2 ^ (8 - t) := by
  have e : shr .u8 255 (t : Int) = 2 ^ (8 - t) - 1 := by
    match t, h with
    | 0, _ | 1, _ | 2, _ | 3, _ | 4, _ | 5, _ | 6, _ | 7, _ => decide
  rw [e]
  exact bits_mask .u8 8 (by decide) wraps_u8 (8 - t) (by omega) x hx.1 (by omega)
theorem spare_ref (x : Int) (hx : 0 ≤ x ∧ x < 256) (t : Nat) (h : t < 8) (h0 : 0 < t) : wrap64 (2 * mk8 t) ≠ 0 ∧ Int.tmod (wrap64 x) (wrap64 (2 * mk8 t)) = x % 2 ^ (8 - t) := by
  have e : wrap64 (2 * mk8 t) = 2 ^ (8 - t) := by
    match t, h with
    | 0, _ | 1, _ | 2, _ | 3, _ | 4, _ | 5, _ | 6, _ | 7, _ => decide +kernel
  have ne : (2 : Int) ^ (8 - t) ≠ 0 := by
    match t, h with
    | 0, _ | 1, _ | 2, _ | 3, _ | 4, _ | 5, _ | 6, _ | 7, _ => decide
  rw [e, w64 x (by omega) (by omega), Int.tmod_eq_emod_of_nonneg hx.1]
  exact ⟨ne, rfl⟩
theorem check_both (n : Int) (l : List Int) (hx : IsB l) (hl : l.length ≤ 140737488351232) : ∃ c, Ev (fun k => bitset_Check.f k n l) c ∧ Ev (fun k => torrentref4_Check.f k n l) c := by
  by_cases hb : n < 0 ∨ 65536 < n
  · refine ⟨40, ?_, ?_⟩
    · refine Ev.congr (f := fun k => bitset_Check.j0 k n l true) (fun k => ?_) (Ev.step (f := fun _ => some 40) (fun k => by simp only [bitset_Check.j0]; rfl) (Ev.now _))
      unfold bitset_Check.f
      by_cases h0 : n < 0
      · rw [if_pos h0]
      · rw [if_neg h0, decide_eq_true (by omega)]
    · refine Ev.congr (f := fun k => torrentref4_Check.j0 k n l true) (fun k => ?_) (Ev.step (f := fun _ => some 40) (fun k => by simp only [torrentref4_Check.j0]; rfl) (Ev.now _))
      unfold torrentref4_Check.f
      by_cases h0 : n < 0
      · rw [if_pos h0]
      · rw [if_neg h0, decide_eq_true (by omega)]
  · obtain ⟨m, rfl⟩ : ∃ m : Nat, n = m := ⟨n.toNat, by omega⟩
    have hm : m ≤ 65536 := by omega
    have e1 : ∀ k, bitset_Check.f k (m : Int) l = bitset_Check.j0 k (m : Int) l false := fun k => by
      unfold bitset_Check.f
      rw [if_neg (by omega), decide_eq_false (by omega)]
    have e2 : ∀ k, torrentref4_Check.f k (m : Int) l = torrentref4_Check.j0 k (m : Int) l false := fun k => by
      unfold torrentref4_Check.f
      rw [if_neg (by omega), decide_eq_false (by omega)]
    by_cases hlen : l.length = (m + 7) / 8
    · by_cases h8 : m % 8 = 0
      · refine ⟨0, Ev.congr e1 (Ev.step (f := fun _ => some 0) (fun k => ?_) (Ev.now _)), Ev.congr e2 (Ev.step (f := fun _ => some 0) (fun k => ?_) (Ev.now _))⟩
        · simp only [bitset_Check.j0]
          rw [if_neg (by decide), size_f m hm]
          simp only [Option.bind_some]
          rw [if_pos (by omega), rem8, if_pos (by omega)]
        · simp only [torrentref4_Check.j0]
          rw [if_neg (by decide), refSize_f m hm]
          simp only [Option.bind_some]
          rw [if_pos (by omega), rem8, if_neg (by omega)]
      · have h88 := Nat.mod_lt m (show 8 > 0 by decide)
        have hxb := hx.getD (m / 8)
        have hs := spare_mask _ hxb (m % 8) h88
        obtain ⟨hr1, hr2⟩ := spare_ref _ hxb (m % 8) h88 (by omega)
        have eL : wrap64 ((l.length : Int) - 1) = ((m / 8 : Nat) : Int) := by rw [w64 _ (by omega) (by omega)]; omega
        refine ⟨if l.getD (m / 8) 0 % 2 ^ (8 - m % 8) = 0 then 0 else 42, Ev.congr e1 (Ev.step (f := fun _ => some (if l.getD (m / 8) 0 % 2 ^ (8 - m % 8) = 0 then 0 else 42)) (fun k => ?_) (Ev.now _)), Ev.congr e2 (Ev.step (f := fun k => (torrentref4_weight.f k (m : Int)).bind fun t => if wrap64 (2 * t) = 0 then none else if Int.tmod (wrap64 (l.getD (m / 8) 0)) (wrap64 (2 * t)) = 0 then some 0 else some 42) (fun k => ?_) (Ev.bind (weight_f m) ?_))⟩
        · simp only [bitset_Check.j0]
          rw [if_neg (by decide), size_f m hm]
          simp only [Option.bind_some]
          rw [if_pos (by omega), rem8, quo8 m (by omega), if_neg (by omega), if_pos (by omega), if_pos (by omega), if_pos (by omega), rd_nat, hs]
          split <;> rfl
        · simp only [torrentref4_Check.j0]
          rw [if_neg (by decide), refSize_f m hm]
          simp only [Option.bind_some]
          rw [if_pos (by omega), rem8, if_pos (by omega), eL, rd_nat, if_pos (by omega), if_pos (by omega)]
        · refine Ev.congr (f := fun _ => some (if l.getD (m / 8) 0 % 2 ^ (8 - m % 8) = 0 then 0 else 42)) (fun k => ?_) (Ev.now _)
          rw [if_neg hr1, hr2]
          split <;> rfl
    · refine ⟨41, Ev.congr e1 (Ev.step (f := fun _ => some 41) (fun k => ?_) (Ev.now _)), Ev.congr e2 (Ev.step (f := fun _ => some 41) (fun k => ?_) (Ev.now _))⟩
      · simp only [bitset_Check.j0]
        rw [if_neg (by decide), size_f m hm]
        simp only [Option.bind_some]
        rw [if_neg (by omega)]
      · simp only [torrentref4_Check.j0]
        rw [if_neg (by decide), refSize_f m hm]
        simp only [Option.bind_some]
        rw [if_neg (by omega)]
theorem check_ok {n : Int} {l : List Int} (h : Ev (fun k => bitset_Check.f k n l) 0) : ∃ m : Nat, n = m ∧ m ≤ 65536 ∧ l.length = (m + 7) / 8 := by
  obtain ⟨k, hk⟩ := h.rounds
  exact check_zero hk

/-! ### open -/
def bitsL (l : List Int) (j : Nat) : List Bool := (List.range j).map (gbit l)
theorem bitsL_succ (l : List Int) (j : Nat) : bitsL l (j + 1) = bitsL l j ++ [gbit l j] := by simp [bitsL, List.range_succ]
theorem bitsL_length (l : List Int) (j : Nat) : (bitsL l j).length = j := by simp [bitsL]
theorem bitsL_at (l : List Int) (j i : Nat) (h : i < j) : (bitsL l j).getD i false = gbit l i := by simp [bitsL, List.getD_eq_getElem?_getD, h]
theorem ref_bit (x : Int) (hx : 0 ≤ x ∧ x < 256) (t : Nat) (h : t < 8) : (Int.tmod (wrap64 (Int.tdiv (wrap64 x) (mk8 t))) 2 == 1) = x.toNat.testBit (7 - t) := by
  obtain ⟨a, rfl⟩ : ∃ a : Nat, x = a := ⟨x.toNat, by omega⟩
  have e1 : Int.tdiv (a : Int) (mk8 t) = ((a / 2 ^ (7 - t) : Nat) : Int) := by
    unfold mk8
    rw [Int.tdiv_eq_ediv_of_nonneg (by omega)]
    exact (Int.natCast_ediv a (2 ^ (7 - t))).symm
  have hle : a / 2 ^ (7 - t) ≤ a := Nat.div_le_self _ _
  rw [w64 (a : Int) (by omega) (by omega), e1, Int.toNat_natCast, Nat.testBit_eq_decide_div_mod_eq]
  generalize a / 2 ^ (7 - t) = d at *
  rw [w64 (d : Int) (by omega) (by omega), Int.tmod_eq_emod_of_nonneg (by omega)]
  have e2 : ((d : Int) % 2 = 1) ↔ (d % 2 = 1) := by omega
  rw [Bool.eq_iff_iff]
  simp only [beq_iff_eq, decide_eq_true_eq]
  exact e2
theorem open_l (l : List Int) (hx : IsB l) (hl : l.length ≤ 8192) : ∀ (d i : Nat), i + d = 8 * l.length → Ev (fun k => torrentref4_open.l0 k l (bitsL l i) (i : Int)) (bitsL l (8 * l.length))
  | 0, i, h => Ev.step (f := fun _ => some (bitsL l (8 * l.length))) (fun k => by
      simp only [torrentref4_open.l0]
      rw [w64 _ (by omega) (by omega), if_neg (by omega), show i = 8 * l.length by omega]) (Ev.now _)
  | d + 1, i, h => Ev.step (f := fun k => (torrentref4_weight.f k (i : Int)).bind fun t => if t = 0 then none else if (bitsL l i).length < 140737488355328 then torrentref4_open.l0 k l (bitsL l i ++ [((Int.tmod (wrap64 (Int.tdiv (wrap64 (l.getD (i / 8) 0)) t)) 2) == 1)]) ((i + 1 : Nat) : Int) else none) (fun k => by
      simp only [torrentref4_open.l0]
      rw [w64 (8 * (l.length : Int)) (by omega) (by omega), if_pos (by omega), quo8 i (by omega), rd_nat, if_pos (by omega), if_pos (by omega), inc i (by omega)]) (by
      refine Ev.bind (weight_f i) (Ev.congr (f := fun k => torrentref4_open.l0 k l (bitsL l (i + 1)) ((i + 1 : Nat) : Int)) (fun k => ?_) (open_l l hx hl d (i + 1) (by omega)))
      have h8 := Nat.mod_lt i (show 8 > 0 by decide)
      have hne : mk8 (i % 8) ≠ 0 := by
        unfold mk8
        have := Nat.two_pow_pos (7 - i % 8)
        omega
      rw [if_neg hne, if_pos (by rw [bitsL_length]; omega), ref_bit _ (hx.getD _) _ h8, bitsL_succ]
      rfl)
theorem open_f (l : List Int) (hx : IsB l) (hl : l.length ≤ 8192) : Ev (fun k => torrentref4_open.f k l) (bitsL l (8 * l.length)) := open_l l hx hl (8 * l.length) 0 (by omega)
end Go.Proofs.Ytoohpdamndgdlaa.B

/- What Check's content says of the spare bits. Condition: bytes. -/
set_option linter.unusedVariables false
set_option linter.unusedSimpArgs false
namespace Go.Proofs.Ytoohpdamndgdlaa.B
open Go.RowKit Go.Proofs.Ytoohpdamndgdlaa.P Go.Proofs.YtoohpdamndgdlaaW.PrintWords Go.Proofs.YtoohpdamndgdlaaW.PrintLast Go.Proofs.YtoohpdamndgdlaaW.PrintMore
/-- No spare bit is set, where Check is content. -/
theorem spare_none {m : Nat} {l : List Int} (hx : IsB l) (hl : l.length ≤ 140737488351232) (h : Ev (fun k => bitset_Check.f k (m : Int) l) 0) (i : Nat) (h1 : m ≤ i) (h2 : i < 8 * l.length) : gbit l i = false := by
  obtain ⟨m', e, hm, hlen⟩ := check_ok h
  obtain rfl : m = m' := by omega
  have h8 : m % 8 ≠ 0 := by omega
  have h88 := Nat.mod_lt m (show 8 > 0 by decide)
  have hxb := hx.getD (m / 8)
  have hs := spare_mask _ hxb (m % 8) h88
  have e1 : ∀ k, bitset_Check.f k (m : Int) l = bitset_Check.j0 k (m : Int) l false := fun k => by
    unfold bitset_Check.f
    rw [if_neg (by omega), decide_eq_false (by omega)]
  obtain ⟨K, hK⟩ := h
  have := hK (K + 1) (by omega)
  simp only [e1, bitset_Check.j0] at this
  rw [if_neg (by decide), size_f m hm] at this
  simp only [Option.bind_some] at this
  rw [if_pos (by omega), rem8, quo8 m (by omega), if_neg (by omega), if_pos (by omega), if_pos (by omega), if_pos (by omega), rd_nat, hs] at this
  have hz : l.getD (m / 8) 0 % 2 ^ (8 - m % 8) = 0 := by
    by_cases hz : l.getD (m / 8) 0 % 2 ^ (8 - m % 8) = 0
    · exact hz
    · rw [if_neg hz] at this
      simp at this
  unfold gbit
  rw [show i / 8 = m / 8 by omega]
  obtain ⟨a, ha⟩ : ∃ a : Nat, l.getD (m / 8) 0 = a := ⟨(l.getD (m / 8) 0).toNat, by omega⟩
  rw [ha] at hz ⊢
  rw [Int.toNat_natCast]
  have hz2 : a % 2 ^ (8 - m % 8) = 0 := by exact_mod_cast hz
  have := Nat.testBit_mod_two_pow a (8 - m % 8) (7 - i % 8)
  rw [hz2, Nat.zero_testBit] at this
  have hlt : 7 - i % 8 < 8 - m % 8 := by omega
  simpa [hlt] using this.symm
/-- A bitfield that Check takes is packed. -/
theorem packed_of_check {m : Nat} {l : List Int} (hx : IsB l) (hl : l.length ≤ 140737488351232) (h : Ev (fun k => bitset_Check.f k (m : Int) l) 0) : Packed (gbit l) m l := by
  obtain ⟨m', e, hm, hlen⟩ := check_ok h
  obtain rfl : m = m' := by omega
  refine ⟨hlen, hx, fun i hi => ?_⟩
  by_cases h1 : i < m
  · simp [h1]
  · rw [spare_none hx hl h i (by omega) hi]
    simp
end Go.Proofs.Ytoohpdamndgdlaa.B

/- And, Or, Minus, Not and Covers, the program's and the reference's, in plain words: the same answers. Condition: bytes. -/
set_option linter.unusedVariables false
set_option linter.unusedSimpArgs false
namespace Go.Proofs.Ytoohpdamndgdlaa.B
open Go.RowKit Go.Proofs.Ytoohpdamndgdlaa.P Go.Proofs.YtoohpdamndgdlaaW.PrintWords Go.Proofs.YtoohpdamndgdlaaW.PrintLast Go.Proofs.YtoohpdamndgdlaaW.PrintMore
theorem qfull_l (n : Nat) (hn : n ≤ 65536) : ∀ (d i : Nat) (xs : List Int), i + d = n → IsB xs → xs.length = (n + 7) / 8 → (∀ j, j < 8 * xs.length → gbit xs j = decide (j < i)) →
    ∃ r, Ev (fun k => bitset_Full.l0 k xs (n : Int) (i : Int)) (r, 0) ∧ Packed (fun _ => true) n r
  | 0, i, xs, hd, hx, hl, hb => by
    obtain rfl : i = n := by omega
    refine ⟨xs, Ev.step (f := fun _ => some (xs, 0)) (fun k => ?_) (Ev.now _), hl, hx, fun j hj => by rw [hb j hj]; simp⟩
    simp only [bitset_Full.l0]
    rw [if_neg (by omega)]
  | d + 1, i, xs, hd, hx, hl, hb => by
    obtain ⟨r, hr, hp⟩ := qfull_l n hn d (i + 1) (put1 xs i) (by omega) (put1_isB hx i) (by rw [put1_length]; exact hl) (fun j hj => by
      rw [put1_length] at hj
      rw [put1_bit hx i j (by omega), hb j hj]
      by_cases h : j = i
      · subst h; simp
      · by_cases h2 : j < i
        · simp [h, h2, show j < i + 1 by omega]
        · simp [h, h2, show ¬ j < i + 1 by omega])
    refine ⟨r, Ev.step (f := fun k => bitset_Full.l0 k (put1 xs i) (n : Int) ((i + 1 : Nat) : Int)) (fun k => ?_) hr, hp⟩
    obtain ⟨g1, g2, g3⟩ := tests_in xs i (by omega) (by omega)
    simp only [bitset_Full.l0]
    rw [if_pos (by omega), if_pos g1, if_pos g2, if_pos g3, set_mask xs i (by omega), inc i (by omega)]
theorem qfull_ok (n : Nat) (h : n ≤ 65536) : ∃ r, Ev (fun k => bitset_Full.f k (n : Int)) (r, 0) ∧ Packed (fun _ => true) n r := by
  obtain ⟨r, hr, hp⟩ := qfull_l n h n 0 (List.replicate ((n + 7) / 8) 0) (by omega) (IsB.replicate _) (by simp) (fun j hj => by rw [gbit_replicate]; simp)
  refine ⟨r, Ev.congr (fun k => ?_) hr, hp⟩
  unfold bitset_Full.f
  rw [make_ok n h]
  simp only [Option.bind_some]
  rw [if_pos trivial]
  rfl

/-- A packed bitfield passes Check. -/
theorem check_packed {p : Nat → Bool} {m : Nat} {l : List Int} (hm : m ≤ 65536) (hp : Packed p m l) : Ev (fun k => bitset_Check.f k (m : Int) l) 0 := by
  have hlen := hp.len
  have hx := hp.isB
  have e1 : ∀ k, bitset_Check.f k (m : Int) l = bitset_Check.j0 k (m : Int) l false := fun k => by
    unfold bitset_Check.f
    rw [if_neg (by omega), decide_eq_false (by omega)]
  refine Ev.congr e1 (Ev.step (f := fun _ => some 0) (fun k => ?_) (Ev.now _))
  simp only [bitset_Check.j0]
  rw [if_neg (by decide), size_f m hm]
  simp only [Option.bind_some]
  rw [if_pos (by omega), rem8]
  by_cases h8 : m % 8 = 0
  · rw [if_pos (by omega)]
  · have h88 := Nat.mod_lt m (show 8 > 0 by decide)
    have hxb := hx.getD (m / 8)
    rw [quo8 m (by omega), if_neg (by omega), if_pos (by omega), if_pos (by omega), if_pos (by omega), rd_nat, spare_mask _ hxb (m % 8) h88]
    have hz : l.getD (m / 8) 0 % 2 ^ (8 - m % 8) = 0 := by
      obtain ⟨a, ha⟩ : ∃ a : Nat, l.getD (m / 8) 0 = a := ⟨(l.getD (m / 8) 0).toNat, by omega⟩
      rw [ha]
      have hz2 : a % 2 ^ (8 - m % 8) = 0 := by
        apply Nat.eq_of_testBit_eq
        intro j
        rw [Nat.testBit_mod_two_pow, Nat.zero_testBit]
        by_cases hj : j < 8 - m % 8
        · have h1 := hp.bit (8 * (m / 8) + (7 - j)) (by omega)
          unfold gbit at h1
          rw [show (8 * (m / 8) + (7 - j)) / 8 = m / 8 by omega, show 7 - (8 * (m / 8) + (7 - j)) % 8 = j by omega, ha, Int.toNat_natCast, decide_eq_false (by omega)] at h1
          rw [h1]
          simp
        · simp [hj]
      exact_mod_cast hz2
    rw [if_pos hz]
theorem both_same (n : Int) (a b : List Int) (ha : IsB a) (hb : IsB b) (la : a.length ≤ 140737488351232) (lb : b.length ≤ 140737488351232) : ∃ c, Ev (fun k => bitset_both.f k n a b) c ∧ Ev (fun k => torrentref4_both.f k n a b) c ∧ (c = 0 → Ev (fun k => bitset_Check.f k n a) 0 ∧ Ev (fun k => bitset_Check.f k n b) 0) := by
  obtain ⟨c, hc, hd⟩ := check_both n a ha la
  obtain ⟨e, he, hf⟩ := check_both n b hb lb
  by_cases h0 : c = 0
  · subst h0
    exact ⟨e, Ev.bind hc (Ev.congr (fun k => if_pos rfl) (Ev.bind he (Ev.now _))), Ev.bind hd (Ev.congr (fun k => if_pos rfl) (Ev.bind hf (Ev.now _))), fun h => ⟨hc, h ▸ he⟩⟩
  · exact ⟨c, Ev.bind hc (Ev.congr (fun k => if_neg h0) (Ev.now _)), Ev.bind hd (Ev.congr (fun k => if_neg h0) (Ev.now _)), fun h => absurd h h0⟩
/-! ### bit by bit -/
def comb (how : Int) (x y : Bool) : Bool := if how = 1 then x && y else if how = 2 then x || y else x && !y
theorem byte_step (op : BinOp) (how : Int) (hop : op = .and ∧ how = 1 ∨ op = .or ∧ how = 2 ∨ op = .andNot ∧ how = 3) {a b c : List Int} (ha : IsB a) (hb : IsB b) (hc : IsB c) (i : Nat) (hi : i < c.length) (h : ∀ q, q < 8 * i → gbit c q = comb how (gbit a q) (gbit b q)) :
    IsB (c.set i (Go.bits op .u8 (a.getD i 0) (b.getD i 0))) ∧ ∀ q, q < 8 * (i + 1) → gbit (c.set i (Go.bits op .u8 (a.getD i 0) (b.getD i 0))) q = comb how (gbit a q) (gbit b q) := by
  obtain ⟨h1, h2⟩ := bits_byte op (by rcases hop with ⟨h, _⟩ | ⟨h, _⟩ | ⟨h, _⟩ <;> simp [h]) _ _ (ha.getD i) (hb.getD i)
  refine ⟨hc.set i h1, fun q hq => ?_⟩
  rw [gbit_set _ _ _ _ hi]
  by_cases hqi : q / 8 = i
  · rw [if_pos hqi, h2 _ (by omega)]
    unfold gbit
    rw [hqi]
    rcases hop with ⟨rfl, rfl⟩ | ⟨rfl, rfl⟩ | ⟨rfl, rfl⟩ <;> simp [opb, comb]
  · rw [if_neg hqi]
    exact h q (by omega)
/-- The bits of the reference's join, so far. -/
def jl (how : Int) (a b : List Int) (j : Nat) : List Bool := (List.range j).map fun q => comb how (gbit a q) (gbit b q)
theorem jl_succ (how : Int) (a b : List Int) (j : Nat) : jl how a b (j + 1) = jl how a b j ++ [comb how (gbit a j) (gbit b j)] := by simp [jl, List.range_succ]
theorem jl_length (how : Int) (a b : List Int) (j : Nat) : (jl how a b j).length = j := by simp [jl]
theorem joined_l (how : Int) (hh : how = 1 ∨ how = 2 ∨ how = 3) (m : Nat) (hm : m ≤ 65536) (a b : List Int) (la : a.length = (m + 7) / 8) (lb : b.length = (m + 7) / 8) (r : List Int) (hr : Ev (fun k => torrentref4_pack.f k (jl how a b m)) r) : ∀ (d i : Nat), i + d = m →
    Ev (fun k => torrentref4_joined.l0 k (m : Int) how (bitsL a (8 * a.length)) (bitsL b (8 * b.length)) (jl how a b i) (i : Int)) (r, 0)
  | 0, i, h => by
    obtain rfl : i = m := by omega
    refine Ev.step (f := fun k => (torrentref4_pack.f k (jl how a b i)).bind fun t => some (t, 0)) (fun k => ?_) (Ev.bind hr (Ev.now _))
    simp only [torrentref4_joined.l0]
    rw [if_neg (by omega)]
  | d + 1, i, h => by
    have ih := joined_l how hh m hm a b la lb r hr d (i + 1) (by omega)
    rw [jl_succ] at ih
    refine Ev.step (fun k => ?_) ih
    simp only [torrentref4_joined.l0]
    have hA : (i : Int) < ((bitsL a (8 * a.length)).length : Int) := by rw [bitsL_length]; omega
    have hB : (i : Int) < ((bitsL b (8 * b.length)).length : Int) := by rw [bitsL_length]; omega
    have hJ : (jl how a b i).length < 140737488355328 := by rw [jl_length]; omega
    have h0 : (0 : Int) ≤ i := by omega
    have him : (i : Int) < m := by omega
    simp only [rdOf_nat, bitsL_at a _ i (show i < 8 * a.length by omega), bitsL_at b _ i (show i < 8 * b.length by omega), inc i (show i < 9223372036854775807 by omega), if_pos hA, if_pos hB, if_pos hJ, if_pos h0, if_pos him]
    rcases hh with rfl | rfl | rfl <;> cases hx : gbit a i <;> simp [comb]
theorem joined_f (how : Int) (hh : how = 1 ∨ how = 2 ∨ how = 3) (m : Nat) (hm : m ≤ 65536) (a b : List Int) (ha : IsB a) (hb : IsB b) (la : a.length = (m + 7) / 8) (lb : b.length = (m + 7) / 8) (hc : Ev (fun k => torrentref4_both.f k (m : Int) a b) 0) :
    ∃ r, Ev (fun k => torrentref4_joined.f k (m : Int) a b how) (r, 0) ∧ Packed (fun q => comb how (gbit a q) (gbit b q)) m r := by
  obtain ⟨r, hr, hp⟩ := pack_f (jl how a b m) (by rw [jl_length]; exact hm)
  rw [jl_length] at hp
  refine ⟨r, Ev.bind hc (Ev.congr (fun k => if_pos rfl) (Ev.bind (open_f a ha (by omega)) (Ev.bind (open_f b hb (by omega)) (joined_l how hh m hm a b la lb r hr m 0 (by omega))))), hp.congr fun q hq => ?_⟩
  simp [jl, List.getD_eq_getElem?_getD, hq]
theorem comb_packed (how : Int) (hh : how = 1 ∨ how = 2 ∨ how = 3) {m : Nat} {a b r : List Int} {p q : Nat → Bool} (hp : Packed p m a) (hq : Packed q m b) (hl : r.length = a.length) (hx : IsB r) (h : ∀ q, q < 8 * a.length → gbit r q = comb how (gbit a q) (gbit b q)) : Packed (fun q => comb how (gbit a q) (gbit b q)) m r := by
  have h1 := hp.len
  have h2 := hq.len
  refine ⟨hl.trans h1, hx, fun i hi => ?_⟩
  rw [h i (by omega), hp.bit i (by omega), hq.bit i (by omega)]
  by_cases him : i < m
  · simp [him]
  · rcases hh with rfl | rfl | rfl <;> simp [him, comb]

theorem and_l {a b : List Int} (ha : IsB a) (hb : IsB b) (L : Nat) (la : a.length = L) (lb : b.length = L) (hL : L ≤ 8192) : ∀ (d i : Nat) (c : List Int), i + d = L → c.length = L → IsB c → (∀ q, q < 8 * i → gbit c q = comb 1 (gbit a q) (gbit b q)) →
    ∃ r, Ev (fun k => bitset_And.l0 k a b c (L : Int) (i : Int)) (r, 0) ∧ r.length = L ∧ IsB r ∧ ∀ q, q < 8 * L → gbit r q = comb 1 (gbit a q) (gbit b q)
  | 0, i, c, h, hc, hx, hq => by
    obtain rfl : i = L := by omega
    refine ⟨c, Ev.step (f := fun _ => some (c, 0)) (fun k => ?_) (Ev.now _), hc, hx, hq⟩
    simp only [bitset_And.l0]
    rw [if_neg (by omega)]
  | d + 1, i, c, h, hc, hx, hq => by
    obtain ⟨g1, g2⟩ := byte_step .and 1 (by simp) ha hb hx i (by omega) hq
    obtain ⟨r, hr, hs⟩ := and_l ha hb L la lb hL d (i + 1) _ (by omega) (by rw [List.length_set]; exact hc) g1 g2
    refine ⟨r, Ev.step (fun k => ?_) hr, hs⟩
    simp only [bitset_And.l0]
    rw [if_pos (by omega), if_pos (by omega), if_pos (by omega), if_pos (by omega), if_pos (by omega), rd_nat, rd_nat, inc i (by omega), Int.toNat_natCast]
theorem and_ok {m : Nat} (hm : m ≤ 65536) {a b : List Int} {p q : Nat → Bool} (hp : Packed p m a) (hq : Packed q m b) (hc : Ev (fun k => bitset_both.f k (m : Int) a b) 0) : ∃ r, Ev (fun k => bitset_And.f k (m : Int) a b) (r, 0) ∧ Packed (fun q => comb 1 (gbit a q) (gbit b q)) m r := by
  have h1 := hp.len
  have h2 := hq.len
  obtain ⟨r, hr, h3, h4, h5⟩ := and_l hp.isB hq.isB a.length rfl (by omega) (by omega) a.length 0 (List.replicate a.length 0) (by omega) (by simp) (IsB.replicate _) (fun q h => by omega)
  refine ⟨r, Ev.bind hc (Ev.congr (fun k => ?_) hr), comb_packed 1 (by simp) hp hq h3 h4 h5⟩
  rw [if_pos rfl, if_pos (by omega), if_pos (by omega), Int.toNat_natCast]
  simp only [Option.bind_some, List.length_replicate]
  rfl
theorem and_same (n : Int) (a b : List Int) (ha : IsB a) (hb : IsB b) (la : a.length ≤ 140737488351232) (lb : b.length ≤ 140737488351232) : ∃ r e, Ev (fun k => bitset_And.f k n a b) (r, e) ∧ Ev (fun k => torrentref4_And.f k n a b) (r, e) ∧ r.length ≤ 8192 := by
  obtain ⟨c, hc, hd, h00⟩ := both_same n a b ha hb la lb
  by_cases h0 : c = 0
  · subst h0
    obtain ⟨k1, k2⟩ := h00 rfl
    obtain ⟨m, rfl, hm, hla⟩ := check_ok k1
    have p1 := packed_of_check ha la k1
    have p2 := packed_of_check hb lb k2
    obtain ⟨r, hr, hp⟩ := and_ok hm p1 p2 hc
    obtain ⟨s, hs, hq⟩ := joined_f 1 (by simp) m hm a b ha hb p1.len p2.len hd
    obtain rfl := hp.unique hq (fun _ _ => rfl)
    exact ⟨r, 0, hr, Ev.bind hs (Ev.now _), by have := hp.len; omega⟩
  · exact ⟨[], c, Ev.bind hc (Ev.congr (fun k => if_neg h0) (Ev.now _)), Ev.bind (Ev.bind hd (Ev.congr (fun k => if_neg h0) (Ev.now _))) (Ev.now _), by simp⟩

theorem or_l {a b : List Int} (ha : IsB a) (hb : IsB b) (L : Nat) (la : a.length = L) (lb : b.length = L) (hL : L ≤ 8192) : ∀ (d i : Nat) (c : List Int), i + d = L → c.length = L → IsB c → (∀ q, q < 8 * i → gbit c q = comb 2 (gbit a q) (gbit b q)) →
    ∃ r, Ev (fun k => bitset_Or.l0 k a b c (L : Int) (i : Int)) (r, 0) ∧ r.length = L ∧ IsB r ∧ ∀ q, q < 8 * L → gbit r q = comb 2 (gbit a q) (gbit b q)
  | 0, i, c, h, hc, hx, hq => by
    obtain rfl : i = L := by omega
    refine ⟨c, Ev.step (f := fun _ => some (c, 0)) (fun k => ?_) (Ev.now _), hc, hx, hq⟩
    simp only [bitset_Or.l0]
    rw [if_neg (by omega)]
  | d + 1, i, c, h, hc, hx, hq => by
    obtain ⟨g1, g2⟩ := byte_step .or 2 (by simp) ha hb hx i (by omega) hq
    obtain ⟨r, hr, hs⟩ := or_l ha hb L la lb hL d (i + 1) _ (by omega) (by rw [List.length_set]; exact hc) g1 g2
    refine ⟨r, Ev.step (fun k => ?_) hr, hs⟩
    simp only [bitset_Or.l0]
    rw [if_pos (by omega), if_pos (by omega), if_pos (by omega), if_pos (by omega), if_pos (by omega), rd_nat, rd_nat, inc i (by omega), Int.toNat_natCast]
theorem or_ok {m : Nat} (hm : m ≤ 65536) {a b : List Int} {p q : Nat → Bool} (hp : Packed p m a) (hq : Packed q m b) (hc : Ev (fun k => bitset_both.f k (m : Int) a b) 0) : ∃ r, Ev (fun k => bitset_Or.f k (m : Int) a b) (r, 0) ∧ Packed (fun q => comb 2 (gbit a q) (gbit b q)) m r := by
  have h1 := hp.len
  have h2 := hq.len
  obtain ⟨r, hr, h3, h4, h5⟩ := or_l hp.isB hq.isB a.length rfl (by omega) (by omega) a.length 0 (List.replicate a.length 0) (by omega) (by simp) (IsB.replicate _) (fun q h => by omega)
  refine ⟨r, Ev.bind hc (Ev.congr (fun k => ?_) hr), comb_packed 2 (by simp) hp hq h3 h4 h5⟩
  rw [if_pos rfl, if_pos (by omega), if_pos (by omega), Int.toNat_natCast]
  simp only [Option.bind_some, List.length_replicate]
  rfl
theorem or_same (n : Int) (a b : List Int) (ha : IsB a) (hb : IsB b) (la : a.length ≤ 140737488351232) (lb : b.length ≤ 140737488351232) : ∃ r e, Ev (fun k => bitset_Or.f k n a b) (r, e) ∧ Ev (fun k => torrentref4_Or.f k n a b) (r, e) ∧ r.length ≤ 8192 := by
  obtain ⟨c, hc, hd, h00⟩ := both_same n a b ha hb la lb
  by_cases h0 : c = 0
  · subst h0
    obtain ⟨k1, k2⟩ := h00 rfl
    obtain ⟨m, rfl, hm, hla⟩ := check_ok k1
    have p1 := packed_of_check ha la k1
    have p2 := packed_of_check hb lb k2
    obtain ⟨r, hr, hp⟩ := or_ok hm p1 p2 hc
    obtain ⟨s, hs, hq⟩ := joined_f 2 (by simp) m hm a b ha hb p1.len p2.len hd
    obtain rfl := hp.unique hq (fun _ _ => rfl)
    exact ⟨r, 0, hr, Ev.bind hs (Ev.now _), by have := hp.len; omega⟩
  · exact ⟨[], c, Ev.bind hc (Ev.congr (fun k => if_neg h0) (Ev.now _)), Ev.bind (Ev.bind hd (Ev.congr (fun k => if_neg h0) (Ev.now _))) (Ev.now _), by simp⟩

theorem minus_l {a b : List Int} (ha : IsB a) (hb : IsB b) (L : Nat) (la : a.length = L) (lb : b.length = L) (hL : L ≤ 8192) : ∀ (d i : Nat) (c : List Int), i + d = L → c.length = L → IsB c → (∀ q, q < 8 * i → gbit c q = comb 3 (gbit a q) (gbit b q)) →
    ∃ r, Ev (fun k => bitset_Minus.l0 k a b c (L : Int) (i : Int)) (r, 0) ∧ r.length = L ∧ IsB r ∧ ∀ q, q < 8 * L → gbit r q = comb 3 (gbit a q) (gbit b q)
  | 0, i, c, h, hc, hx, hq => by
    obtain rfl : i = L := by omega
    refine ⟨c, Ev.step (f := fun _ => some (c, 0)) (fun k => ?_) (Ev.now _), hc, hx, hq⟩
    simp only [bitset_Minus.l0]
    rw [if_neg (by omega)]
  | d + 1, i, c, h, hc, hx, hq => by
    obtain ⟨g1, g2⟩ := byte_step .andNot 3 (by simp) ha hb hx i (by omega) hq
    obtain ⟨r, hr, hs⟩ := minus_l ha hb L la lb hL d (i + 1) _ (by omega) (by rw [List.length_set]; exact hc) g1 g2
    refine ⟨r, Ev.step (fun k => ?_) hr, hs⟩
    simp only [bitset_Minus.l0]
    rw [if_pos (by omega), if_pos (by omega), if_pos (by omega), if_pos (by omega), if_pos (by omega), rd_nat, rd_nat, inc i (by omega), Int.toNat_natCast]
theorem minus_ok {m : Nat} (hm : m ≤ 65536) {a b : List Int} {p q : Nat → Bool} (hp : Packed p m a) (hq : Packed q m b) (hc : Ev (fun k => bitset_both.f k (m : Int) a b) 0) : ∃ r, Ev (fun k => bitset_Minus.f k (m : Int) a b) (r, 0) ∧ Packed (fun q => comb 3 (gbit a q) (gbit b q)) m r := by
  have h1 := hp.len
  have h2 := hq.len
  obtain ⟨r, hr, h3, h4, h5⟩ := minus_l hp.isB hq.isB a.length rfl (by omega) (by omega) a.length 0 (List.replicate a.length 0) (by omega) (by simp) (IsB.replicate _) (fun q h => by omega)
  refine ⟨r, Ev.bind hc (Ev.congr (fun k => ?_) hr), comb_packed 3 (by simp) hp hq h3 h4 h5⟩
  rw [if_pos rfl, if_pos (by omega), if_pos (by omega), Int.toNat_natCast]
  simp only [Option.bind_some, List.length_replicate]
  rfl
theorem minus_same (n : Int) (a b : List Int) (ha : IsB a) (hb : IsB b) (la : a.length ≤ 140737488351232) (lb : b.length ≤ 140737488351232) : ∃ r e, Ev (fun k => bitset_Minus.f k n a b) (r, e) ∧ Ev (fun k => torrentref4_Minus.f k n a b) (r, e) ∧ r.length ≤ 8192 := by
  obtain ⟨c, hc, hd, h00⟩ := both_same n a b ha hb la lb
  by_cases h0 : c = 0
  · subst h0
    obtain ⟨k1, k2⟩ := h00 rfl
    obtain ⟨m, rfl, hm, hla⟩ := check_ok k1
    have p1 := packed_of_check ha la k1
    have p2 := packed_of_check hb lb k2
    obtain ⟨r, hr, hp⟩ := minus_ok hm p1 p2 hc
    obtain ⟨s, hs, hq⟩ := joined_f 3 (by simp) m hm a b ha hb p1.len p2.len hd
    obtain rfl := hp.unique hq (fun _ _ => rfl)
    exact ⟨r, 0, hr, Ev.bind hs (Ev.now _), by have := hp.len; omega⟩
  · exact ⟨[], c, Ev.bind hc (Ev.congr (fun k => if_neg h0) (Ev.now _)), Ev.bind (Ev.bind hd (Ev.congr (fun k => if_neg h0) (Ev.now _))) (Ev.now _), by simp⟩

/-! ### Not -/
def nl (b : List Int) (j : Nat) : List Bool := (List.range j).map fun q => !gbit b q
theorem nl_succ (b : List Int) (j : Nat) : nl b (j + 1) = nl b j ++ [!gbit b j] := by simp [nl, List.range_succ]
theorem nl_length (b : List Int) (j : Nat) : (nl b j).length = j := by simp [nl]
theorem refNot_l (m : Nat) (hm : m ≤ 65536) (b : List Int) (lb : b.length = (m + 7) / 8) (r : List Int) (hr : Ev (fun k => torrentref4_pack.f k (nl b m)) r) : ∀ (d i : Nat), i + d = m →
    Ev (fun k => torrentref4_Not.l0 k (m : Int) (bitsL b (8 * b.length)) (nl b i) (i : Int)) (r, 0)
  | 0, i, h => by
    obtain rfl : i = m := by omega
    refine Ev.step (f := fun k => (torrentref4_pack.f k (nl b i)).bind fun t => some (t, 0)) (fun k => ?_) (Ev.bind hr (Ev.now _))
    simp only [torrentref4_Not.l0]
    rw [if_neg (by omega)]
  | d + 1, i, h => by
    have ih := refNot_l m hm b lb r hr d (i + 1) (by omega)
    rw [nl_succ] at ih
    refine Ev.step (fun k => ?_) ih
    simp only [torrentref4_Not.l0]
    rw [if_pos (by omega), if_pos (by omega), if_pos (by rw [bitsL_length]; omega), if_pos (by rw [nl_length]; omega), rdOf_nat, bitsL_at b _ i (by omega), inc i (by omega)]
theorem not_same (n : Int) (b : List Int) (hb : IsB b) (lb : b.length ≤ 140737488351232) : ∃ r e, Ev (fun k => bitset_Not.f k n b) (r, e) ∧ Ev (fun k => torrentref4_Not.f k n b) (r, e) ∧ r.length ≤ 8192 := by
  obtain ⟨c, hc, hd⟩ := check_both n b hb lb
  by_cases h0 : c = 0
  · subst h0
    obtain ⟨m, rfl, hm, hlb⟩ := check_ok hc
    have p2 := packed_of_check hb lb hc
    obtain ⟨f, hf, p1⟩ := qfull_ok m hm
    have k1 := check_packed hm p1
    obtain ⟨r, hr, hp⟩ := minus_ok hm p1 p2 (Ev.bind k1 (Ev.congr (fun k => if_pos rfl) (Ev.bind hc (Ev.now _))))
    obtain ⟨s, hs, hq⟩ := pack_f (nl b m) (by rw [nl_length]; exact hm)
    rw [nl_length] at hq
    obtain rfl := hp.unique hq (fun q h => by
      have := p1.bit q (by have := p1.len; omega)
      simp [nl, List.getD_eq_getElem?_getD, h, comb, this])
    exact ⟨r, 0, Ev.bind hc (Ev.congr (fun k => if_pos rfl) (Ev.bind hf (Ev.bind hr (Ev.now _)))), Ev.bind hd (Ev.congr (fun k => if_pos rfl) (Ev.bind (open_f b hb (by omega)) (refNot_l m hm b hlb r hs m 0 (by omega)))), by have := hp.len; omega⟩
  · exact ⟨[], c, Ev.bind hc (Ev.congr (fun k => if_neg h0) (Ev.now _)), Ev.bind hd (Ev.congr (fun k => if_neg h0) (Ev.now _)), by simp⟩

/-! ### Covers -/
theorem none_byte (y x : Int) (hy : 0 ≤ y ∧ y < 256) (hx : 0 ≤ x ∧ x < 256) : Go.bits .andNot .u8 y x = 0 ↔ ∀ t, t < 8 → (y.toNat.testBit t && !x.toNat.testBit t) = false := by
  obtain ⟨h1, h2⟩ := bits_byte .andNot (by simp) y x hy hx
  constructor
  · intro h t ht
    have := h2 t ht
    rw [h] at this
    simpa [opb] using this.symm
  · intro h
    have : (Go.bits .andNot .u8 y x).toNat = 0 := nat_ext8 _ _ (by omega) (by decide) fun i hi => by
      rw [h2 i hi, Nat.zero_testBit]
      simpa [opb] using h i hi
    omega
theorem covers_l {a b : List Int} (ha : IsB a) (hb : IsB b) (L : Nat) (la : a.length = L) (lb : b.length = L) (hL : L ≤ 8192) : ∀ (d i : Nat), i + d = L → (∀ q, q < 8 * i → (gbit b q && !gbit a q) = false) →
    ∃ v, Ev (fun k => bitset_Covers.l0 k a b (L : Int) (i : Int)) (v, 0) ∧ (v = true ↔ ∀ q, q < 8 * L → (gbit b q && !gbit a q) = false)
  | 0, i, h, hq => by
    obtain rfl : i = L := by omega
    refine ⟨true, Ev.step (f := fun _ => some (true, 0)) (fun k => ?_) (Ev.now _), ⟨fun _ => hq, fun _ => rfl⟩⟩
    simp only [bitset_Covers.l0]
    rw [if_neg (by omega)]
  | d + 1, i, h, hq => by
    have e0 : ∀ k, bitset_Covers.l0 (k + 1) a b (L : Int) (i : Int) = if Go.bits .andNot .u8 (b.getD i 0) (a.getD i 0) = 0 then bitset_Covers.l0 k a b (L : Int) ((i + 1 : Nat) : Int) else some (false, 0) := fun k => by
      simp only [bitset_Covers.l0]
      rw [if_pos (by omega), if_pos (by omega), if_pos (by omega), if_pos (by omega), rd_nat, rd_nat, inc i (by omega)]
    have hn := none_byte _ _ (hb.getD i) (ha.getD i)
    by_cases hz : Go.bits .andNot .u8 (b.getD i 0) (a.getD i 0) = 0
    · obtain ⟨v, hv, hw⟩ := covers_l ha hb L la lb hL d (i + 1) (by omega) (fun q h1 => by
        by_cases hqi : q / 8 = i
        · have := hn.1 hz (7 - q % 8) (by omega)
          unfold gbit
          rw [hqi]
          exact this
        · exact hq q (by omega))
      exact ⟨v, Ev.step (fun k => by rw [e0, if_pos hz]) hv, hw⟩
    · refine ⟨false, Ev.step (f := fun _ => some (false, 0)) (fun k => by rw [e0, if_neg hz]) (Ev.now _), ⟨(fun h => by cases h), fun h => absurd (hn.2 fun t ht => ?_) hz⟩⟩
      have := h (8 * i + (7 - t)) (by omega)
      unfold gbit at this
      rw [show (8 * i + (7 - t)) / 8 = i by omega, show 7 - (8 * i + (7 - t)) % 8 = t by omega] at this
      exact this
theorem refCovers_l (m : Nat) (hm : m ≤ 65536) (a b : List Int) (la : a.length = (m + 7) / 8) (lb : b.length = (m + 7) / 8) : ∀ (d i : Nat), i + d = m → (∀ q, q < i → (gbit b q && !gbit a q) = false) →
    ∃ v, Ev (fun k => torrentref4_Covers.l0 k (m : Int) (bitsL a (8 * a.length)) (bitsL b (8 * b.length)) (i : Int)) (v, 0) ∧ (v = true ↔ ∀ q, q < m → (gbit b q && !gbit a q) = false)
  | 0, i, h, hq => by
    obtain rfl : i = m := by omega
    refine ⟨true, Ev.step (f := fun _ => some (true, 0)) (fun k => ?_) (Ev.now _), ⟨fun _ => hq, fun _ => rfl⟩⟩
    simp only [torrentref4_Covers.l0]
    rw [if_neg (by omega)]
  | d + 1, i, h, hq => by
    have e0 : ∀ k, torrentref4_Covers.l0 (k + 1) (m : Int) (bitsL a (8 * a.length)) (bitsL b (8 * b.length)) (i : Int) = if (gbit b i && !gbit a i) = false then torrentref4_Covers.l0 k (m : Int) (bitsL a (8 * a.length)) (bitsL b (8 * b.length)) ((i + 1 : Nat) : Int) else some (false, 0) := fun k => by
      simp only [torrentref4_Covers.l0]
      rw [if_pos (by omega), if_pos (by omega), if_pos (by rw [bitsL_length]; omega), rdOf_nat, bitsL_at b _ i (by omega), if_pos (show (i : Int) < ((bitsL a (8 * a.length)).length : Int) by rw [bitsL_length]; omega), rdOf_nat, bitsL_at a _ i (by omega), inc i (by omega)]
      cases gbit b i <;> cases gbit a i <;> rfl
    by_cases hz : (gbit b i && !gbit a i) = false
    · obtain ⟨v, hv, hw⟩ := refCovers_l m hm a b la lb d (i + 1) (by omega) (fun q h1 => by
        by_cases hqi : q = i
        · subst hqi; exact hz
        · exact hq q (by omega))
      exact ⟨v, Ev.step (fun k => by rw [e0, if_pos hz]) hv, hw⟩
    · exact ⟨false, Ev.step (f := fun _ => some (false, 0)) (fun k => by rw [e0, if_neg hz]) (Ev.now _), ⟨(fun h => by cases h), fun h => absurd (h i (by omega)) hz⟩⟩
theorem covers_same (n : Int) (a b : List Int) (ha : IsB a) (hb : IsB b) (la : a.length ≤ 140737488351232) (lb : b.length ≤ 140737488351232) : ∃ v e, Ev (fun k => bitset_Covers.f k n a b) (v, e) ∧ Ev (fun k => torrentref4_Covers.f k n a b) (v, e) := by
  obtain ⟨c, hc, hd, h00⟩ := both_same n a b ha hb la lb
  by_cases h0 : c = 0
  · subst h0
    obtain ⟨k1, k2⟩ := h00 rfl
    obtain ⟨m, rfl, hm, hla⟩ := check_ok k1
    have p1 := packed_of_check ha la k1
    have p2 := packed_of_check hb lb k2
    have hlb := p2.len
    obtain ⟨v, hv, hv2⟩ := covers_l ha hb b.length (by omega) rfl (by omega) b.length 0 (by omega) (fun q h => by omega)
    obtain ⟨w, hw, hw2⟩ := refCovers_l m hm a b hla hlb m 0 (by omega) (fun q h => by omega)
    have e : v = w := by
      rw [Bool.eq_iff_iff, hv2, hw2]
      constructor
      · intro h q hq
        exact h q (by omega)
      · intro h q hq
        by_cases hqm : q < m
        · exact h q hqm
        · rw [p2.bit q hq]
          simp [hqm]
    subst e
    exact ⟨v, 0, Ev.bind hc (Ev.congr (fun k => if_pos rfl) hv), Ev.bind hd (Ev.congr (fun k => if_pos rfl) (Ev.bind (open_f a ha (by omega)) (Ev.bind (open_f b hb (by omega)) hw)))⟩
  · exact ⟨false, c, Ev.bind hc (Ev.congr (fun k => if_neg h0) (Ev.now _)), Ev.bind hd (Ev.congr (fun k => if_neg h0) (Ev.now _))⟩
end Go.Proofs.Ytoohpdamndgdlaa.B

/- BitsetJoins: every And, Or, Minus, Not and Covers answers what the reference answers, and leaves the bytes as they were. No condition. -/
set_option linter.unusedVariables false
namespace Go.Proofs.Ytoohpdamndgdlaa.Pure
open Go.RowKit Go.Proofs.Ytoohpdamndgdlaa.P Go.Proofs.YtoohpdamndgdlaaW.PrintWords Go.Proofs.YtoohpdamndgdlaaW.PrintLast
open Go.Proofs.Ytoohpdamndgdlaa.B

theorem BitsetJoins : torrentlaw4_BitsetJoins.Pure := by
  intro n a b _ _ hla hwa _ hlb hwb
  have ha := IsB.of_wf hwa
  have hb := IsB.of_wf hwb
  obtain ⟨r1, e1, x1, y1, z1⟩ := and_same n a b ha hb (by omega) (by omega)
  obtain ⟨r2, e2, x2, y2, z2⟩ := or_same n a b ha hb (by omega) (by omega)
  obtain ⟨r3, e3, x3, y3, z3⟩ := minus_same n a b ha hb (by omega) (by omega)
  obtain ⟨r4, e4, x4, y4, z4⟩ := not_same n b hb (by omega)
  obtain ⟨v, e5, x5, y5⟩ := covers_same n a b ha hb (by omega) (by omega)
  have sa := sameBytes_f a (by omega)
  have sb := sameBytes_f b (by omega)
  have j3 : Ev (fun k => torrentlaw4_BitsetJoins.j3 k n a b a b (!true)) true := by
    refine Ev.step (f := fun k => (bitset_Covers.f k n a b).bind fun x => (torrentref4_Covers.f k n a b).bind fun y => if x.2 = y.2 then (if (x.1 == y.1) = true then ((torrentlaw4_sameBytes.f k a a).bind fun t => if t = true then ((torrentlaw4_sameBytes.f k b b).bind fun u => some u) else some false) else some false) else some false) (fun k => ?_) (Ev.bind x5 (Ev.bind y5 (Ev.congr (fun k => if_pos rfl) (Ev.congr (fun k => if_pos (beq_self_eq_true v)) (Ev.bind sa (Ev.congr (fun k => if_pos rfl) (Ev.bind sb (Ev.now true))))))))
    simp only [torrentlaw4_BitsetJoins.j3]
    rw [if_neg (by decide)]
  have j2 : Ev (fun k => torrentlaw4_BitsetJoins.j2 k n a b a b (!true)) true := by
    refine Ev.step (f := fun k => (bitset_Not.f k n b).bind fun x => (torrentref4_Not.f k n b).bind fun y => if x.2 = y.2 then ((torrentlaw4_sameBytes.f k x.1 y.1).bind fun t => torrentlaw4_BitsetJoins.j3 k n a b a b (!t)) else torrentlaw4_BitsetJoins.j3 k n a b a b true) (fun k => ?_) (Ev.bind x4 (Ev.bind y4 (Ev.congr (fun k => if_pos rfl) (Ev.bind (sameBytes_f r4 (by omega)) j3))))
    simp only [torrentlaw4_BitsetJoins.j2]
    rw [if_neg (by decide)]
  have j1 : Ev (fun k => torrentlaw4_BitsetJoins.j1 k n a b a b (!true)) true := by
    refine Ev.step (f := fun k => (bitset_Minus.f k n a b).bind fun x => (torrentref4_Minus.f k n a b).bind fun y => if x.2 = y.2 then ((torrentlaw4_sameBytes.f k x.1 y.1).bind fun t => torrentlaw4_BitsetJoins.j2 k n a b a b (!t)) else torrentlaw4_BitsetJoins.j2 k n a b a b true) (fun k => ?_) (Ev.bind x3 (Ev.bind y3 (Ev.congr (fun k => if_pos rfl) (Ev.bind (sameBytes_f r3 (by omega)) j2))))
    simp only [torrentlaw4_BitsetJoins.j1]
    rw [if_neg (by decide)]
  have j0 : Ev (fun k => torrentlaw4_BitsetJoins.j0 k n a b a b (!true)) true := by
    refine Ev.step (f := fun k => (bitset_Or.f k n a b).bind fun x => (torrentref4_Or.f k n a b).bind fun y => if x.2 = y.2 then ((torrentlaw4_sameBytes.f k x.1 y.1).bind fun t => torrentlaw4_BitsetJoins.j1 k n a b a b (!t)) else torrentlaw4_BitsetJoins.j1 k n a b a b true) (fun k => ?_) (Ev.bind x2 (Ev.bind y2 (Ev.congr (fun k => if_pos rfl) (Ev.bind (sameBytes_f r2 (by omega)) j1))))
    simp only [torrentlaw4_BitsetJoins.j0]
    rw [if_neg (by decide)]
  refine Ev.rounds (g := fun k => torrentlaw4_BitsetJoins.f k n a b) ?_
  exact Ev.bind (copied_f a (by omega)) (Ev.bind (copied_f b (by omega)) (Ev.bind x1 (Ev.bind y1 (Ev.congr (fun k => if_pos rfl) (Ev.bind (sameBytes_f r1 (by omega)) j0)))))
end Go.Proofs.Ytoohpdamndgdlaa.Pure
