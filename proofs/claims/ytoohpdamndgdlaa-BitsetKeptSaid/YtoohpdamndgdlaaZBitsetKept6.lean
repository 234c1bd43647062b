-- Merged by a program of this session out of the texts Px64 of this claim's own.
import Derived.Test.YtoohpdamndgdlaaZBitsetKept5

-- Made by a program of this session (the print of the kit over a neighbour), for this claim.
namespace Go.Proofs.Ytoohpdamndgdlaa.P
open Go.RowKit Go.Proofs.YtoohpdamndgdlaaW.PrintWords Go.Proofs.YtoohpdamndgdlaaW.PrintLast Go.Proofs.YtoohpdamndgdlaaW.PrintMore
attribute [local go_sem] max2_int min2_int max_two min_two max_three min_three max_four min_four   -- for this text's walks alone
set_option linter.unusedVariables false
set_option linter.unusedSimpArgs false

/-! ### torrentlaw4_anew: function 55 -/
mutual
def torrentlaw4_anew.l0 : Nat → Int → List Int → List Int → Int → List Int → List Int → Int → Option (Bool)
  | 0, _, _, _, _, _, _, _ => none
  | k + 1, x0, x1, x2, x3, x9, x10, x11 => if x11 < 5 then ((torrentlaw4_call.f k x11 x0 x9 x10 x3).bind fun t807 => (torrentlaw4_anew.l0 k x0 x1 x2 x3 x9 x10 (wrap64 (x11 + 1)))) else ((bitset_Get.f k x0 x9 x3).bind fun bt810 => ((bitset_Next.f k x0 x9 x3 true).bind fun bt812 => ((bitset_Covers.f k x0 x9 x10).bind fun bt814 => (torrentlaw4_anew.l1 k x0 x1 x2 x3 x9 x10 0))))
def torrentlaw4_anew.l1 : Nat → Int → List Int → List Int → Int → List Int → List Int → Int → Option (Bool)
  | 0, _, _, _, _, _, _, _ => none
  | k + 1, x0, x1, x2, x3, x9, x10, x12 => if x12 < (x1.length : Int) then (if 0 ≤ x12 then (if x12 < (x2.length : Int) then (if x12 < (x9.length : Int) then (if x12 < (x10.length : Int) then (torrentlaw4_anew.l1 k x0 x1 x2 x3 (x9.set (x12 : Int).toNat (rd x2 x12)) (x10.set (x12 : Int).toNat (rd x1 x12)) (wrap64 (x12 + 1))) else (none)) else (none)) else (none)) else (none)) else (torrentlaw4_anew.l2 k x0 x1 x2 x3 x9 x10 0)
def torrentlaw4_anew.l2 : Nat → Int → List Int → List Int → Int → List Int → List Int → Int → Option (Bool)
  | 0, _, _, _, _, _, _, _ => none
  | k + 1, x0, x1, x2, x3, x9, x10, x13 => if x13 < 5 then ((torrentlaw4_call.f k x13 x0 x9 x10 x3).bind fun t820 => ((torrentlaw4_copied.f k x2).bind fun t823 => ((torrentlaw4_copied.f k x1).bind fun t826 => ((torrentlaw4_call.f k x13 x0 t823 t826 x3).bind fun t829 => ((torrentlaw4_sameBytes.f k t820 t829).bind fun t832 => (if t832 = true then ((torrentlaw4_sameBytes.f k x9 x2).bind fun t833 => (if t833 = true then ((torrentlaw4_sameBytes.f k x10 x1).bind fun t834 => (if t834 = true then (torrentlaw4_anew.l2 k x0 x1 x2 x3 x9 x10 (wrap64 (x13 + 1))) else (some false))) else (some false))) else (some false))))))) else ((bitset_Get.f k x0 x9 x3).bind fun bt835 => ((torrentlaw4_copied.f k x2).bind fun t837 => ((bitset_Get.f k x0 t837 x3).bind fun bt840 => ((bitset_Next.f k x0 x9 x3 true).bind fun bt842 => ((torrentlaw4_copied.f k x2).bind fun t844 => ((bitset_Next.f k x0 t844 x3 true).bind fun bt847 => ((bitset_Covers.f k x0 x9 x10).bind fun bt849 => ((torrentlaw4_copied.f k x2).bind fun t851 => ((torrentlaw4_copied.f k x1).bind fun t854 => ((bitset_Covers.f k x0 t851 t854).bind fun bt857 => (if (bt835.1 != bt840.1) = true then (torrentlaw4_anew.j3 k x0 x1 true) else (if bt835.2 = bt840.2 then (if bt842.1 = bt847.1 then (if bt842.2 = bt847.2 then (if (bt849.1 != bt857.1) = true then (torrentlaw4_anew.j3 k x0 x1 true) else (if bt849.2 = bt857.2 then ((bitset_Check.f k x0 x9).bind fun t859 => (torrentlaw4_anew.j3 k x0 x1 (t859 != 0))) else (torrentlaw4_anew.j3 k x0 x1 true))) else (torrentlaw4_anew.j3 k x0 x1 true)) else (torrentlaw4_anew.j3 k x0 x1 true)) else (torrentlaw4_anew.j3 k x0 x1 true)))))))))))))
def torrentlaw4_anew.j3 : Nat → Int → List Int → Bool → Option (Bool)
  | 0, _, _, _ => none
  | k + 1, x0, x1, x195 => if x195 = true then (some false) else ((bitset_Ones.f k x0 x1).bind fun bt860 => ((bitset_Of.f k x0 bt860.1).bind fun bt864 => (torrentlaw4_anew.l3 k x0 bt860.1 ([] : List Int) 0)))
def torrentlaw4_anew.l3 : Nat → Int → List Int → List Int → Int → Option (Bool)
  | 0, _, _, _, _ => none
  | k + 1, x0, x28, x30, x31 => if x31 < (x28.length : Int) then (if 0 ≤ x31 then ((some (x28.set (x31 : Int).toNat (wrap64 ((wrap64 (x0 - 1)) - (rd x28 x31))) : List Int)).bind fun y869 => (if x30.length < 17592186044416 then (torrentlaw4_anew.l3 k x0 y869 (x30 ++ [rd y869 x31]) (wrap64 (x31 + 1))) else (none))) else (none)) else ((bitset_Of.f k x0 x28).bind fun bt874 => ((bitset_Of.f k x0 x30).bind fun bt878 => (if bt874.2 = bt878.2 then ((torrentlaw4_sameBytes.f k bt874.1 bt878.1).bind fun t882 => (some t882)) else (some false))))
end
def torrentlaw4_anew.f (k : Nat) (a0 : Int) (l1 : List Int) (l2 : List Int) (a3 : Int) : Option (Bool) := (torrentlaw4_copied.f k l1).bind fun t801 => ((torrentlaw4_copied.f k l2).bind fun t804 => (torrentlaw4_anew.l0 k a0 l1 l2 a3 t801 t804 0))
set_option maxHeartbeats 8000000 in
set_option maxRecDepth 100000 in
theorem torrentlaw4_anew.calls (k : Nat) (a0 : Int) (A1 : Option Addr) (c1 : Nat) (l1 : List Int) (A2 : Option Addr) (c2 : Nat) (l2 : List Int) (a3 : Int) (r : Bool) (w : World) (hr1 : Kd.C (Kd.int .u8) w A1 l1.length l1) (hc1 : l1.length ≤ c1) (hr2 : Kd.C (Kd.int .u8) w A2 l2.length l2) (hc2 : l2.length ≤ c2) (h : torrentlaw4_anew.f k a0 l1 l2 a3 = some r) :
    Calls Try.prog 55 #[.int .i64 a0, .slice A1 l1.length c1, .slice A2 l2.length c2, .int .i64 a3] w fun e w' => e = .returned (.bool r) ∧ Below w.heap.size w w' := by
  have HR1 := Aside0.mk hr1
  have HC1 := Aside0.mk hc1
  clear hr1 hc1
  have HR2 := Aside0.mk hr2
  have HC2 := Aside0.mk hc2
  clear hr2 hc2
  have HB := Aside0.mk (Below.refl w.heap.size w)
  have H : ((torrentlaw4_copied.f k l1).bind fun t801 => ((torrentlaw4_copied.f k l2).bind fun t804 => (torrentlaw4_anew.l0 k a0 l1 l2 a3 t801 t804 0))) = some r := h
  clear h
  replace H := Option.bind_eq_some_iff.mp H
  obtain ⟨t801, A50, H⟩ := H
  replace H : ((torrentlaw4_copied.f k l2).bind fun t804 => (torrentlaw4_anew.l0 k a0 l1 l2 a3 t801 t804 0)) = some r := H
  have A5 := Aside0.mk A50
  clear A50
  replace H := Option.bind_eq_some_iff.mp H
  obtain ⟨t804, A60, H⟩ := H
  replace H : (torrentlaw4_anew.l0 k a0 l1 l2 a3 t801 t804 0) = some r := H
  have A6 := Aside0.mk A60
  clear A60
  have H' := Aside0.mk H
  clear H
  go_enter Try.func55, Try.ntmps55
  go_wp2_with (first | ((with_reducible refine gate_callee (f := 24) rfl ?_); refine goesL_ (some 37) rfl rfl Try.func24 (by kernel_rfl) rfl #[.slice A1 l1.length c1] rfl (by (try simp only [List.map_toArray, List.map_cons, List.map_nil]); first | done | rfl) ?_; (with_reducible refine (torrentlaw4_copied.calls k _ _ l1 t801 _ ?side1 ?side2 A5.out).mono ?_); (case side1 => repeat (first | exact HR1.out | (with_reducible refine Kd.C_alloc ?_ _) | (with_reducible refine Kd.C_drewN ?_ _) | (with_reducible refine Kd.C_drew ?_))); (case side2 => exact HC1.out); rintro e w7 ⟨v802, rfl, ho0, hb⟩; refine ⟨_, rfl, ?_⟩; have n0_ := Aside0.mk (Kd.R_lower ho0 (below_size (by repeat (first | (with_reducible first | exact HB.out | apply below_alloc | apply pw_below_drewN | apply below_drew1) | exact HB.out)))); have n1_ := Aside0.mk (below_step (by repeat (first | (with_reducible first | exact HB.out | apply below_alloc | apply pw_below_drewN | apply below_drew1) | exact HB.out)) hb); clear HB; have HO803 := n0_; have HB := n1_; clear n0_ n1_; (try clear hb); (try clear ho0)) | ((with_reducible refine gate_callee (f := 24) rfl ?_); refine goesL_ (some 39) rfl rfl Try.func24 (by kernel_rfl) rfl #[.slice A2 l2.length c2] rfl (by (try simp only [List.map_toArray, List.map_cons, List.map_nil]); first | done | rfl) ?_; (with_reducible refine (torrentlaw4_copied.calls k _ _ l2 t804 _ ?side1 ?side2 A6.out).mono ?_); (case side1 => repeat (first | exact (Kd.C_below HR2.out HB.out) | (with_reducible refine Kd.C_alloc ?_ _) | (with_reducible refine Kd.C_drewN ?_ _) | (with_reducible refine Kd.C_drew ?_))); (case side2 => exact HC2.out); rintro e w8 ⟨v805, rfl, ho0, hb⟩; refine ⟨_, rfl, ?_⟩; have n0_ := Aside0.mk (Kd.R_elder' (by (with_reducible repeat (first | apply Kd.R_alloc | apply Kd.R_drewN | apply Kd.R_drew)); exact HO803.out) (Kd.R_base ho0) hb); have n1_ := Aside0.mk (Kd.R_lower (Kd.R_new' ho0 (Kd.R_lt (by (with_reducible repeat (first | apply Kd.R_alloc | apply Kd.R_drewN | apply Kd.R_drew)); exact HO803.out))) (below_size (by repeat (first | (with_reducible first | exact HB.out | apply below_alloc | apply pw_below_drewN | apply below_drew1) | exact HB.out)))); have n2_ := Aside0.mk (below_step (by repeat (first | (with_reducible first | exact HB.out | apply below_alloc | apply pw_below_drewN | apply below_drew1) | exact HB.out)) hb); clear HO803; clear HB; have HO803 := n0_; have HO806 := n1_; have HB := n2_; clear n0_ n1_ n2_; (try clear hb); (try clear ho0)))
  go_loopg [11] k (fun kq v11 w' => ∃ (x11_1 : Int), v11 = .int .i64 x11_1 ∧ Aside0 (torrentlaw4_anew.l0 kq a0 l1 l2 a3 t801 t804 x11_1 = some r) ∧ Aside0 (kq ≤ k) ∧ Aside0 (Kd.R (Kd.int .u8) 5 w' w.heap.size (fun k_ => some k_ ≠ (v805 : Value).ownBlock) v802 t801) ∧ Aside0 (Kd.R (Kd.int .u8) 5 w' w.heap.size (fun k_ => some k_ ≠ (v802 : Value).ownBlock) v805 t804) ∧ Aside0 (Below w.heap.size w w'))
  case atStart => exact ⟨(0), (by first | rfl | (simp; done) | (simp [*]; done)), H', ⟨Nat.le_refl _⟩, ⟨by (with_reducible repeat (first | apply Kd.R_alloc | apply Kd.R_drewN | apply Kd.R_drew)); exact Kd.R_mono HO803.out (fun _ hk => hk.2)⟩, ⟨by (with_reducible repeat (first | apply Kd.R_alloc | apply Kd.R_drewN | apply Kd.R_drew)); exact Kd.R_mono HO806.out (fun _ hk => hk.2)⟩, ⟨by repeat (first | (with_reducible first | exact HB.out | apply below_alloc | apply pw_below_drewN | apply below_drew1) | exact HB.out)⟩⟩
  case round =>
    clear H'
    try clear c1
    try clear c2
    try clear p2
    try clear c5
    obtain ⟨x11_1, rfl, HA, HK1, HO_9, HO_10, HB⟩ := hrel
    cases gk with
    | zero => exact absurd HA.out (by simp [torrentlaw4_anew.l0])
    | succ k1 =>
      have H := HA.out
      clear HA
      simp only [torrentlaw4_anew.l0] at H
      by_cases c9 : x11_1 < 5
      · rw [if_pos c9] at H
        have c9b0 : decide (x11_1 < 5) = true := decide_eq_true c9
        clear c9
        replace H := Option.bind_eq_some_iff.mp H
        obtain ⟨t807, A100, H⟩ := H
        replace H : (torrentlaw4_anew.l0 k1 a0 l1 l2 a3 t801 t804 (wrap64 (x11_1 + 1))) = some r := H
        have A10 := Aside0.mk A100
        clear A100
        have H' := Aside0.mk H
        clear H
        obtain ⟨Ao11, co11, eo11⟩ := Kd.R_slice HO_9.out
        subst eo11
        obtain ⟨Ao12, co12, eo12⟩ := Kd.R_slice HO_10.out
        subst eo12
        go_wp2_with (first | ((with_reducible refine gate_callee (f := 51) rfl ?_); refine goesL_ (some 49) rfl rfl Try.func51 (by kernel_rfl) rfl #[.int .i64 x11_1, .int .i64 a0, .slice Ao11 t801.length co11, .slice Ao12 t804.length co12, .int .i64 a3] rfl (by (try simp only [List.map_toArray, List.map_cons, List.map_nil]); first | done | rfl) ?_; (with_reducible refine (torrentlaw4_call.calls k1 x11_1 a0 _ _ t801 _ _ t804 a3 t807 _ ?side1 ?side2 ?side3 ?side4 A10.out).mono ?_); (case side1 => repeat (first | exact (Kd.R_reads' HO_9.out).2.2 | (with_reducible refine Kd.C_alloc ?_ _) | (with_reducible refine Kd.C_drewN ?_ _) | (with_reducible refine Kd.C_drew ?_))); (case side2 => exact (Kd.R_reads' HO_9.out).2.1); (case side3 => repeat (first | exact (Kd.R_reads' HO_10.out).2.2 | (with_reducible refine Kd.C_alloc ?_ _) | (with_reducible refine Kd.C_drewN ?_ _) | (with_reducible refine Kd.C_drew ?_))); (case side4 => exact (Kd.R_reads' HO_10.out).2.1); rintro e w13 ⟨v808, rfl, ho0, hb⟩; refine ⟨_, rfl, ?_⟩; have n0_ := Aside0.mk (Kd.R_elder' (by (with_reducible repeat (first | apply Kd.R_alloc | apply Kd.R_drewN | apply Kd.R_drew)); exact HO_9.out) (Kd.R_base ho0) hb); have n1_ := Aside0.mk (Kd.R_elder' (by (with_reducible repeat (first | apply Kd.R_alloc | apply Kd.R_drewN | apply Kd.R_drew)); exact HO_10.out) (Kd.R_base ho0) hb); have n2_ := Aside0.mk (Kd.R_lower (Kd.R_new' (Kd.R_new' ho0 (Kd.R_lt (by (with_reducible repeat (first | apply Kd.R_alloc | apply Kd.R_drewN | apply Kd.R_drew)); exact HO_9.out))) (Kd.R_lt (by (with_reducible repeat (first | apply Kd.R_alloc | apply Kd.R_drewN | apply Kd.R_drew)); exact HO_10.out))) (below_size (by repeat (first | (with_reducible first | exact HB.out | apply below_alloc | apply pw_below_drewN | apply below_drew1) | exact HB.out)))); have n3_ := Aside0.mk (below_step (by repeat (first | (with_reducible first | exact HB.out | apply below_alloc | apply pw_below_drewN | apply below_drew1) | exact HB.out)) hb); clear HO_9; clear HO_10; clear HB; have HO_9 := n0_; have HO_10 := n1_; have HO809 := n2_; have HB := n3_; clear n0_ n1_ n2_ n3_; (try clear hb); (try clear ho0)))
        go_roundg k1
        case measure => have := HK1.out; omega
        case rel => exact ⟨(wrap64 (x11_1 + 1)), (by first | rfl | (simp; done) | (simp [*]; done)), H', ⟨by have := HK1.out; omega⟩, ⟨by (with_reducible repeat (first | apply Kd.R_alloc | apply Kd.R_drewN | apply Kd.R_drew)); exact Kd.R_mono HO_9.out (fun _ hk => hk.1)⟩, ⟨by (with_reducible repeat (first | apply Kd.R_alloc | apply Kd.R_drewN | apply Kd.R_drew)); exact Kd.R_mono HO_10.out (fun _ hk => hk.1)⟩, ⟨by repeat (first | (with_reducible first | exact HB.out | apply below_alloc | apply pw_below_drewN | apply below_drew1) | exact HB.out)⟩⟩
      · rw [if_neg c9] at H
        have c9b0 : decide (x11_1 < 5) = false := decide_eq_false c9
        clear c9
        replace H := Option.bind_eq_some_iff.mp H
        obtain ⟨⟨t810, t811⟩, A140, H⟩ := H
        replace H : ((bitset_Next.f k1 a0 t801 a3 true).bind fun bt812 => ((bitset_Covers.f k1 a0 t801 t804).bind fun bt814 => (torrentlaw4_anew.l1 k1 a0 l1 l2 a3 t801 t804 0))) = some r := H
        have A14 := Aside0.mk A140
        clear A140
        replace H := Option.bind_eq_some_iff.mp H
        obtain ⟨⟨t812, t813⟩, A150, H⟩ := H
        replace H : ((bitset_Covers.f k1 a0 t801 t804).bind fun bt814 => (torrentlaw4_anew.l1 k1 a0 l1 l2 a3 t801 t804 0)) = some r := H
        have A15 := Aside0.mk A150
        clear A150
        replace H := Option.bind_eq_some_iff.mp H
        obtain ⟨⟨t814, t815⟩, A160, H⟩ := H
        replace H : (torrentlaw4_anew.l1 k1 a0 l1 l2 a3 t801 t804 0) = some r := H
        have A16 := Aside0.mk A160
        clear A160
        have H' := Aside0.mk H
        clear H
        obtain ⟨Ao17, co17, eo17⟩ := Kd.R_slice HO_9.out
        subst eo17
        go_wp2_with (first | ((with_reducible refine gate_callee (f := 31) rfl ?_); refine goesL_ (some 53) rfl rfl Try.func31 (by kernel_rfl) rfl #[.int .i64 a0, .slice Ao17 t801.length co17, .int .i64 a3] rfl (by (try simp only [List.map_toArray, List.map_cons, List.map_nil]); first | done | rfl) ?_; (with_reducible refine (bitset_Get.calls k1 a0 _ _ t801 a3 t810 t811 _ ?side1 ?side2 A14.out).mono ?_); (case side1 => repeat (first | exact (Kd.R_reads' HO_9.out).2.2 | (with_reducible refine Kd.C_alloc ?_ _) | (with_reducible refine Kd.C_drewN ?_ _) | (with_reducible refine Kd.C_drew ?_))); (case side2 => exact (Kd.R_reads' HO_9.out).2.1); rintro e w18 ⟨rfl, hb⟩; refine ⟨_, rfl, ?_⟩; have n0_ := Aside0.mk (Kd.R_below (by (with_reducible repeat (first | apply Kd.R_alloc | apply Kd.R_drewN | apply Kd.R_drew)); exact HO_9.out) hb); have n1_ := Aside0.mk (Kd.R_below (by (with_reducible repeat (first | apply Kd.R_alloc | apply Kd.R_drewN | apply Kd.R_drew)); exact HO_10.out) hb); have n2_ := Aside0.mk (below_step (by repeat (first | (with_reducible first | exact HB.out | apply below_alloc | apply pw_below_drewN | apply below_drew1) | exact HB.out)) hb); clear HO_9; clear HO_10; clear HB; have HO_9 := n0_; have HO_10 := n1_; have HB := n2_; clear n0_ n1_ n2_; (try clear hb)) | ((with_reducible refine gate_callee (f := 26) rfl ?_); refine goesL_ (some 57) rfl rfl Try.func26 (by kernel_rfl) rfl #[.int .i64 a0, .slice Ao17 t801.length co17, .int .i64 a3, .bool true] rfl (by (try simp only [List.map_toArray, List.map_cons, List.map_nil]); first | done | rfl) ?_; (with_reducible refine (bitset_Next.calls k1 a0 _ _ t801 a3 true t812 t813 _ ?side1 ?side2 A15.out).mono ?_); (case side1 => repeat (first | exact (Kd.R_reads' HO_9.out).2.2 | (with_reducible refine Kd.C_alloc ?_ _) | (with_reducible refine Kd.C_drewN ?_ _) | (with_reducible refine Kd.C_drew ?_))); (case side2 => exact (Kd.R_reads' HO_9.out).2.1); rintro e w19 ⟨rfl, hb⟩; refine ⟨_, rfl, ?_⟩; have n0_ := Aside0.mk (Kd.R_below (by (with_reducible repeat (first | apply Kd.R_alloc | apply Kd.R_drewN | apply Kd.R_drew)); exact HO_9.out) hb); have n1_ := Aside0.mk (Kd.R_below (by (with_reducible repeat (first | apply Kd.R_alloc | apply Kd.R_drewN | apply Kd.R_drew)); exact HO_10.out) hb); have n2_ := Aside0.mk (below_step (by repeat (first | (with_reducible first | exact HB.out | apply below_alloc | apply pw_below_drewN | apply below_drew1) | exact HB.out)) hb); clear HO_9; clear HO_10; clear HB; have HO_9 := n0_; have HO_10 := n1_; have HB := n2_; clear n0_ n1_ n2_; (try clear hb); obtain ⟨Ao20, co20, eo20⟩ := Kd.R_slice HO_10.out; subst eo20) | ((with_reducible refine gate_callee (f := 46) rfl ?_); refine goesL_ (some 61) rfl rfl Try.func46 (by kernel_rfl) rfl #[.int .i64 a0, .slice Ao17 t801.length co17, .slice Ao20 t804.length co20] rfl (by (try simp only [List.map_toArray, List.map_cons, List.map_nil]); first | done | rfl) ?_; (with_reducible refine (bitset_Covers.calls k1 a0 _ _ t801 _ _ t804 t814 t815 _ ?side1 ?side2 ?side3 ?side4 A16.out).mono ?_); (case side1 => repeat (first | exact (Kd.R_reads' HO_9.out).2.2 | (with_reducible refine Kd.C_alloc ?_ _) | (with_reducible refine Kd.C_drewN ?_ _) | (with_reducible refine Kd.C_drew ?_))); (case side2 => exact (Kd.R_reads' HO_9.out).2.1); (case side3 => repeat (first | exact (Kd.R_reads' HO_10.out).2.2 | (with_reducible refine Kd.C_alloc ?_ _) | (with_reducible refine Kd.C_drewN ?_ _) | (with_reducible refine Kd.C_drew ?_))); (case side4 => exact (Kd.R_reads' HO_10.out).2.1); rintro e w' ⟨rfl, ⟨nd, rfl⟩⟩; refine ⟨_, rfl, ?_⟩))
        go_loopg [12] k1 (fun kq v12 w' => ∃ (x9_2 : List Int) (x10_2 : List Int) (x12_2 : Int), v12 = .int .i64 x12_2 ∧ Aside0 (torrentlaw4_anew.l1 kq a0 l1 l2 a3 x9_2 x10_2 x12_2 = some r) ∧ Aside0 (kq ≤ k1) ∧ Aside0 (Kd.R (Kd.int .u8) 5 w' w.heap.size (fun k_ => some k_ ≠ ((.slice Ao20 t804.length co20) : Value).ownBlock) (.slice Ao17 t801.length co17) x9_2) ∧ Aside0 (Kd.R (Kd.int .u8) 5 w' w.heap.size (fun k_ => some k_ ≠ ((.slice Ao17 t801.length co17) : Value).ownBlock) (.slice Ao20 t804.length co20) x10_2) ∧ Aside0 (Below w.heap.size w w'))
        case atStart => exact ⟨(t801), (t804), (0), (by first | rfl | (simp; done) | (simp [*]; done)), H', ⟨Nat.le_refl _⟩, ⟨by (with_reducible repeat (first | apply Kd.R_alloc | apply Kd.R_drewN | apply Kd.R_drew)); exact HO_9.out⟩, ⟨by (with_reducible repeat (first | apply Kd.R_alloc | apply Kd.R_drewN | apply Kd.R_drew)); exact HO_10.out⟩, ⟨by repeat (first | (with_reducible first | exact HB.out | apply below_alloc | apply pw_below_drewN | apply below_drew1) | exact HB.out)⟩⟩
        case round =>
          clear H'
          try clear c1
          try clear c2
          try clear p2
          try clear c3
          try clear c4
          try clear c5
          try clear p6
          try clear c9
          try clear c9b0
          try clear p2
          obtain ⟨x9_2, x10_2, x12_2, rfl, HA, HK2, HO_9, HO_10, HB⟩ := hrel
          have hl9_2 := (Kd.R_reads' HO_9.out).1
          rw [hl9_2] at HO_9
          (try simp only [hl9_2])
          (try simp only [hl9_2] at HO_10)
          have hl10_2 := (Kd.R_reads' HO_10.out).1
          rw [hl10_2] at HO_10
          (try simp only [hl10_2])
          (try simp only [hl10_2] at HO_9)
          cases gk with
          | zero => exact absurd HA.out (by simp [torrentlaw4_anew.l1])
          | succ k2 =>
            have H := HA.out
            clear HA
            simp only [torrentlaw4_anew.l1] at H
            by_cases c21 : x12_2 < (l1.length : Int)
            · rw [if_pos c21] at H
              have c21b0 : decide (x12_2 < (l1.length : Int)) = true := decide_eq_true c21
              clear c21
              by_cases c22 : 0 ≤ x12_2
              · rw [if_pos c22] at H
                have c22b0 : decide (0 ≤ x12_2) = true := decide_eq_true c22
                clear c22
                by_cases c23 : x12_2 < (l2.length : Int)
                · rw [if_pos c23] at H
                  have c23b0 : decide (x12_2 < (l2.length : Int)) = true := decide_eq_true c23
                  clear c23
                  by_cases c24 : x12_2 < (x9_2.length : Int)
                  · rw [if_pos c24] at H
                    have c24b0 : decide (x12_2 < (x9_2.length : Int)) = true := decide_eq_true c24
                    clear c24
                    obtain ⟨y817, hy817⟩ : ∃ y_ : List Int, y_ = (x9_2.set (x12_2 : Int).toNat (rd l2 x12_2)) := ⟨_, rfl⟩
                    replace H : (if x12_2 < (x10_2.length : Int) then (torrentlaw4_anew.l1 k2 a0 l1 l2 a3 y817 (x10_2.set (x12_2 : Int).toNat (rd l1 x12_2)) (wrap64 (x12_2 + 1))) else (none)) = some r := by first | (rw [hy817]; with_reducible exact H) | (have H2_ := (Option.bind_some _ _).symm.trans H; rw [hy817]; with_reducible exact H2_) | (have H2_ := (Option.bind_some _ _).symm.trans H; with_reducible exact H2_) | with_reducible exact H | (rw [hy817]; exact H) | exact H
                    have Ny817 := Aside0.mk hy817
                    clear hy817
                    by_cases c26 : x12_2 < (x10_2.length : Int)
                    · rw [if_pos c26] at H
                      have c26b0 : decide (x12_2 < (x10_2.length : Int)) = true := decide_eq_true c26
                      clear c26
                      obtain ⟨y819, hy819⟩ : ∃ y_ : List Int, y_ = (x10_2.set (x12_2 : Int).toNat (rd l1 x12_2)) := ⟨_, rfl⟩
                      replace H : (torrentlaw4_anew.l1 k2 a0 l1 l2 a3 y817 y819 (wrap64 (x12_2 + 1))) = some r := by first | (rw [hy819]; with_reducible exact H) | (have H2_ := (Option.bind_some _ _).symm.trans H; rw [hy819]; with_reducible exact H2_) | (have H2_ := (Option.bind_some _ _).symm.trans H; with_reducible exact H2_) | with_reducible exact H | (rw [hy819]; exact H) | exact H
                      have Ny819 := Aside0.mk hy819
                      clear hy819
                      have H' := Aside0.mk H
                      clear H
                      have p816 : 0 ≤ (x12_2 : Int) := of_decide_eq_true (by first | (with_reducible assumption) | assumption)
                      have q816 : x12_2 < (l2.length : Int) := of_decide_eq_true (by first | (with_reducible assumption) | assumption)
                      obtain ⟨ad816, e816, hx816_0⟩ := Kd.at_int HR2.out x12_2 p816 q816
                      cases e816
                      replace hx816_0 := (HB.out.cell (World.block_lt_of_cell? w _ hx816_0)).trans hx816_0
                      replace p816 := eq_true p816
                      replace q816 := eq_true q816
                      have p25 : 0 ≤ (x12_2 : Int) := of_decide_eq_true (by first | (with_reducible assumption) | assumption)
                      have q25 : (x12_2 : Int) < ((x9_2.length : Int) : Int) := of_decide_eq_true (by first | (with_reducible assumption) | assumption)
                      obtain ⟨go25, co25, eo25, gb25, gl25, cl25, HG25⟩ := Kd.R_form HO_9.out (by omega)
                      (first | cases eo25 | (injection eo25 with ea_ en_ ec_; (first | subst ea_ | (injection ea_ with ea_; subst ea_)); subst ec_; clear en_))
                      have GB25 := Aside0.mk gb25
                      have GG25 := Aside0.mk HG25
                      clear gb25 gl25 HG25
                      obtain ⟨hx25_0, hf25_0⟩ := Kd.R_celln 0 HO_9.out (x12_2 : Int) p25 q25
                      replace p25 := eq_true p25
                      replace q25 := eq_true q25
                      have HP28 := Kd.R_putg HO_9.out (x12_2 : Int) (rd l2 x12_2)
                      go_wp2_with (first | ((with_reducible refine gate_store (t := 5) (p := 74) rfl ?_); refine store_event (t := 5) (p := 74) (v := ?vo_w29) (w1 := (wr.setCell ⟨go25, (x12_2 : Int).toNat, none⟩ (.int .u8 (rd l2 x12_2)))) ?hg ?ho ?hn ?hr ?_; (case ho => rfl); (case hg => rfl); (case hn => rfl); (case hr => first | (go_simp; done) | (go_simp; rfl)); intro w29 hw; have hg : wr.grownBy w29 (some go25) := (by rw [hw]; exact HP28.2); have hp_ : Kd.R (Kd.int .u8) 5 w29 w.heap.size (fun k_ => some k_ ≠ (.slice Ao20 x10_2.length co20 : Value).ownBlock) (.slice (some ⟨go25, 0, none⟩) x9_2.length co17) y817 := (by rw [hw, Ny817.out]; exact HP28.1); clear HP28; have n0_ := Aside0.mk (hp_); have n1_ := Aside0.mk (Kd.R_after (v := (.slice (some ⟨go25, 0, none⟩) x9_2.length co17)) (v1 := (.slice (some ⟨go25, 0, none⟩) x9_2.length co17)) (ok := (fun _ => True)) (by (with_reducible repeat (first | apply Kd.R_alloc | apply Kd.R_drewN | apply Kd.R_drew)); exact Kd.R_mono HO_10.out (fun _ hk => ⟨trivial, hk⟩)) hg (.inl rfl)); have n2_ := Aside0.mk ((by rw [hw]; exact below_set (HB.out) GB25.out : Below w.heap.size w w29)); clear HO_9; clear HO_10; clear HB; have HO_9 := n0_; have HO_10 := n1_; have HB := n2_; clear n0_ n1_ n2_; clear hg hw hp_; have p818 : 0 ≤ (x12_2 : Int) := of_decide_eq_true (by first | (with_reducible assumption) | assumption); have q818 : x12_2 < (l1.length : Int) := of_decide_eq_true (by first | (with_reducible assumption) | assumption); obtain ⟨ad818, e818, hx818_0⟩ := Kd.at_int HR1.out x12_2 p818 q818; cases e818; replace hx818_0 := (HB.out.cell (World.block_lt_of_cell? w _ hx818_0)).trans hx818_0; replace p818 := eq_true p818; replace q818 := eq_true q818; have p27 : 0 ≤ (x12_2 : Int) := of_decide_eq_true (by first | (with_reducible assumption) | assumption); have q27 : (x12_2 : Int) < ((x10_2.length : Int) : Int) := of_decide_eq_true (by first | (with_reducible assumption) | assumption); obtain ⟨go27, co27, eo27, gb27, gl27, cl27, HG27⟩ := Kd.R_form HO_10.out (by omega); (first | cases eo27 | (injection eo27 with ea_ en_ ec_; (first | subst ea_ | (injection ea_ with ea_; subst ea_)); subst ec_; clear en_)); have GB27 := Aside0.mk gb27; have GG27 := Aside0.mk HG27; clear gb27 gl27 HG27; obtain ⟨hx27_0, hf27_0⟩ := Kd.R_celln 0 HO_10.out (x12_2 : Int) p27 q27; replace p27 := eq_true p27; replace q27 := eq_true q27; have n_ := Aside0.mk (Kd.R_mono (ok' := (fun k_ => some k_ ≠ (.slice (some ⟨go25, 0, none⟩) x9_2.length co17 : Value).ownBlock)) HO_10.out (fun k_ hk => hk.2)); clear HO_10; have HO_10 := n_; clear n_; obtain ⟨hy30_, hz30_⟩ := Kd.R_celln 0 HO_10.out (x12_2 : Int) (of_decide_eq_true (by first | (with_reducible assumption) | assumption)) (of_decide_eq_true (by first | (with_reducible assumption) | assumption)); have HP30 := Kd.R_putg HO_10.out (x12_2 : Int) (rd l1 x12_2)) | ((with_reducible refine gate_store (t := 5) (p := 81) rfl ?_); refine store_event (t := 5) (p := 81) (v := ?vo_w31) (w1 := (w29.setCell ⟨go27, (x12_2 : Int).toNat, none⟩ (.int .u8 (rd l1 x12_2)))) ?hg ?ho ?hn ?hr ?_; (case ho => rfl); (case hg => rfl); (case hn => rfl); (case hr => first | (go_simp; done) | (go_simp; rfl)); intro w31 hw; have hg : w29.grownBy w31 (some go27) := (by rw [hw]; exact HP30.2); have hp_ : Kd.R (Kd.int .u8) 5 w31 w.heap.size (fun k_ => some k_ ≠ (.slice (some ⟨go25, 0, none⟩) x9_2.length co17 : Value).ownBlock) (.slice (some ⟨go27, 0, none⟩) x10_2.length co20) y819 := (by rw [hw, Ny819.out]; exact HP30.1); clear HP30; have n0_ := Aside0.mk (Kd.R_after (v := (.slice (some ⟨go27, 0, none⟩) x10_2.length co20)) (v1 := (.slice (some ⟨go27, 0, none⟩) x10_2.length co20)) (ok := (fun _ => True)) (by (with_reducible repeat (first | apply Kd.R_alloc | apply Kd.R_drewN | apply Kd.R_drew)); exact Kd.R_mono HO_9.out (fun _ hk => ⟨trivial, hk⟩)) hg (.inl rfl)); have n1_ := Aside0.mk (hp_); have n2_ := Aside0.mk ((by rw [hw]; exact below_set (HB.out) GB27.out : Below w.heap.size w w31)); clear HO_9; clear HO_10; clear HB; have HO_9 := n0_; have HO_10 := n1_; have HB := n2_; clear n0_ n1_ n2_; clear hg hw hp_))
                      (try simp only [← hl9_2, ← hl10_2])
                      go_roundg k2
                      case measure => have := HK1.out; have := HK2.out; omega
                      case rel => exact ⟨(y817), (y819), (wrap64 (x12_2 + 1)), (by first | rfl | (simp; done) | (simp [*]; done)), H', ⟨by have := HK1.out; have := HK2.out; omega⟩, ⟨by (try simp only [hl9_2]); (try simp only [hl10_2]); (with_reducible repeat (first | apply Kd.R_alloc | apply Kd.R_drewN | apply Kd.R_drew)); exact Kd.R_mono HO_9.out (fun _ hk => hk.2)⟩, ⟨by (try simp only [hl9_2]); (try simp only [hl10_2]); (with_reducible repeat (first | apply Kd.R_alloc | apply Kd.R_drewN | apply Kd.R_drew)); exact HO_10.out⟩, ⟨by repeat (first | (with_reducible first | exact HB.out | apply below_alloc | apply pw_below_drewN | apply below_drew1) | exact HB.out)⟩⟩
                    · rw [if_neg c26] at H
                      exact absurd H (by simp)
                  · rw [if_neg c24] at H
                    exact absurd H (by simp)
                · rw [if_neg c23] at H
                  exact absurd H (by simp)
              · rw [if_neg c22] at H
                exact absurd H (by simp)
            · rw [if_neg c21] at H
              have c21b0 : decide (x12_2 < (l1.length : Int)) = false := decide_eq_false c21
              clear c21
              have H' := Aside0.mk H
              clear H
              go_wp2
              go_loopg [13] k2 (fun kq v13 w' => ∃ (x13_3 : Int), v13 = .int .i64 x13_3 ∧ Aside0 (torrentlaw4_anew.l2 kq a0 l1 l2 a3 x9_2 x10_2 x13_3 = some r) ∧ Aside0 (kq ≤ k2) ∧ Aside0 (Kd.R (Kd.int .u8) 5 w' w.heap.size (fun k_ => some k_ ≠ ((.slice Ao20 x10_2.length co20) : Value).ownBlock) (.slice Ao17 x9_2.length co17) x9_2) ∧ Aside0 (Kd.R (Kd.int .u8) 5 w' w.heap.size (fun k_ => some k_ ≠ ((.slice Ao17 x9_2.length co17) : Value).ownBlock) (.slice Ao20 x10_2.length co20) x10_2) ∧ Aside0 (Below w.heap.size w w'))
              case atStart => exact ⟨(0), (by first | rfl | (simp; done) | (simp [*]; done)), H', ⟨Nat.le_refl _⟩, ⟨by (try simp only [hl9_2]); (try simp only [hl10_2]); (with_reducible repeat (first | apply Kd.R_alloc | apply Kd.R_drewN | apply Kd.R_drew)); exact HO_9.out⟩, ⟨by (try simp only [hl9_2]); (try simp only [hl10_2]); (with_reducible repeat (first | apply Kd.R_alloc | apply Kd.R_drewN | apply Kd.R_drew)); exact HO_10.out⟩, ⟨by repeat (first | (with_reducible first | exact HB.out | apply below_alloc | apply pw_below_drewN | apply below_drew1) | exact HB.out)⟩⟩
              case round =>
                clear H'
                try clear c1
                try clear c2
                try clear p2
                try clear q2
                try clear hx2
                try clear c3
                try clear c4
                try clear c5
                try clear p6
                try clear p8
                try clear q8
                try clear hx8
                try clear c9
                try clear c9b0
                try clear c21
                try clear c21b0
                try clear c22
                try clear c22b0
                try clear c23
                try clear c23b0
                try clear c24
                try clear c24b0
                try clear p25
                try clear q25
                try clear hx25
                try clear hf25
                try clear c26
                try clear c26b0
                try clear p27
                try clear q27
                try clear hx27
                try clear hf27
                try clear c31
                try clear hx25_0
                try clear hx27_0
                try clear hx816_0
                try clear hx818_0
                try clear p2
                try clear p25
                try clear p27
                try clear p6
                try clear p816
                try clear p818
                try clear q25
                try clear q27
                try clear q816
                try clear q818
                obtain ⟨x13_3, rfl, HA, HK3, HO_9, HO_10, HB⟩ := hrel
                cases gk with
                | zero => exact absurd HA.out (by simp [torrentlaw4_anew.l2])
                | succ k3 =>
                  have H := HA.out
                  clear HA
                  simp only [torrentlaw4_anew.l2] at H
                  by_cases c32 : x13_3 < 5
                  · rw [if_pos c32] at H
                    have c32b0 : decide (x13_3 < 5) = true := decide_eq_true c32
                    clear c32
                    replace H := Option.bind_eq_some_iff.mp H
                    obtain ⟨t820, A330, H⟩ := H
                    replace H : ((torrentlaw4_copied.f k3 l2).bind fun t823 => ((torrentlaw4_copied.f k3 l1).bind fun t826 => ((torrentlaw4_call.f k3 x13_3 a0 t823 t826 a3).bind fun t829 => ((torrentlaw4_sameBytes.f k3 t820 t829).bind fun t832 => (if t832 = true then ((torrentlaw4_sameBytes.f k3 x9_2 l2).bind fun t833 => (if t833 = true then ((torrentlaw4_sameBytes.f k3 x10_2 l1).bind fun t834 => (if t834 = true then (torrentlaw4_anew.l2 k3 a0 l1 l2 a3 x9_2 x10_2 (wrap64 (x13_3 + 1))) else (some false))) else (some false))) else (some false)))))) = some r := H
                    have A33 := Aside0.mk A330
                    clear A330
                    replace H := Option.bind_eq_some_iff.mp H
                    obtain ⟨t823, A340, H⟩ := H
                    replace H : ((torrentlaw4_copied.f k3 l1).bind fun t826 => ((torrentlaw4_call.f k3 x13_3 a0 t823 t826 a3).bind fun t829 => ((torrentlaw4_sameBytes.f k3 t820 t829).bind fun t832 => (if t832 = true then ((torrentlaw4_sameBytes.f k3 x9_2 l2).bind fun t833 => (if t833 = true then ((torrentlaw4_sameBytes.f k3 x10_2 l1).bind fun t834 => (if t834 = true then (torrentlaw4_anew.l2 k3 a0 l1 l2 a3 x9_2 x10_2 (wrap64 (x13_3 + 1))) else (some false))) else (some false))) else (some false))))) = some r := H
                    have A34 := Aside0.mk A340
                    clear A340
                    replace H := Option.bind_eq_some_iff.mp H
                    obtain ⟨t826, A350, H⟩ := H
                    replace H : ((torrentlaw4_call.f k3 x13_3 a0 t823 t826 a3).bind fun t829 => ((torrentlaw4_sameBytes.f k3 t820 t829).bind fun t832 => (if t832 = true then ((torrentlaw4_sameBytes.f k3 x9_2 l2).bind fun t833 => (if t833 = true then ((torrentlaw4_sameBytes.f k3 x10_2 l1).bind fun t834 => (if t834 = true then (torrentlaw4_anew.l2 k3 a0 l1 l2 a3 x9_2 x10_2 (wrap64 (x13_3 + 1))) else (some false))) else (some false))) else (some false)))) = some r := H
                    have A35 := Aside0.mk A350
                    clear A350
                    replace H := Option.bind_eq_some_iff.mp H
                    obtain ⟨t829, A360, H⟩ := H
                    replace H : ((torrentlaw4_sameBytes.f k3 t820 t829).bind fun t832 => (if t832 = true then ((torrentlaw4_sameBytes.f k3 x9_2 l2).bind fun t833 => (if t833 = true then ((torrentlaw4_sameBytes.f k3 x10_2 l1).bind fun t834 => (if t834 = true then (torrentlaw4_anew.l2 k3 a0 l1 l2 a3 x9_2 x10_2 (wrap64 (x13_3 + 1))) else (some false))) else (some false))) else (some false))) = some r := H
                    have A36 := Aside0.mk A360
                    clear A360
                    replace H := Option.bind_eq_some_iff.mp H
                    obtain ⟨t832, A370, H⟩ := H
                    replace H : (if t832 = true then ((torrentlaw4_sameBytes.f k3 x9_2 l2).bind fun t833 => (if t833 = true then ((torrentlaw4_sameBytes.f k3 x10_2 l1).bind fun t834 => (if t834 = true then (torrentlaw4_anew.l2 k3 a0 l1 l2 a3 x9_2 x10_2 (wrap64 (x13_3 + 1))) else (some false))) else (some false))) else (some false)) = some r := H
                    have A37 := Aside0.mk A370
                    clear A370
                    by_cases c38 : t832 = true
                    · subst c38
                      have H1 : ((torrentlaw4_sameBytes.f k3 x9_2 l2).bind fun t833 => (if t833 = true then ((torrentlaw4_sameBytes.f k3 x10_2 l1).bind fun t834 => (if t834 = true then (torrentlaw4_anew.l2 k3 a0 l1 l2 a3 x9_2 x10_2 (wrap64 (x13_3 + 1))) else (some false))) else (some false))) = some r := by rw [if_pos rfl] at H; exact H
                      clear H
                      have H := H1
                      clear H1
                      replace H := Option.bind_eq_some_iff.mp H
                      obtain ⟨t833, A390, H⟩ := H
                      replace H : (if t833 = true then ((torrentlaw4_sameBytes.f k3 x10_2 l1).bind fun t834 => (if t834 = true then (torrentlaw4_anew.l2 k3 a0 l1 l2 a3 x9_2 x10_2 (wrap64 (x13_3 + 1))) else (some false))) else (some false)) = some r := H
                      have A39 := Aside0.mk A390
                      clear A390
                      by_cases c40 : t833 = true
                      · subst c40
                        have H1 : ((torrentlaw4_sameBytes.f k3 x10_2 l1).bind fun t834 => (if t834 = true then (torrentlaw4_anew.l2 k3 a0 l1 l2 a3 x9_2 x10_2 (wrap64 (x13_3 + 1))) else (some false))) = some r := by rw [if_pos rfl] at H; exact H
                        clear H
                        have H := H1
                        clear H1
                        replace H := Option.bind_eq_some_iff.mp H
                        obtain ⟨t834, A410, H⟩ := H
                        replace H : (if t834 = true then (torrentlaw4_anew.l2 k3 a0 l1 l2 a3 x9_2 x10_2 (wrap64 (x13_3 + 1))) else (some false)) = some r := H
                        have A41 := Aside0.mk A410
                        clear A410
                        by_cases c42 : t834 = true
                        · subst c42
                          have H1 : (torrentlaw4_anew.l2 k3 a0 l1 l2 a3 x9_2 x10_2 (wrap64 (x13_3 + 1))) = some r := by rw [if_pos rfl] at H; exact H
                          clear H
                          have H := H1
                          clear H1
                          have H' := Aside0.mk H
                          clear H
                          go_wp2_with (first | ((with_reducible refine gate_callee (f := 51) rfl ?_); refine goesL_ (some 91) rfl rfl Try.func51 (by kernel_rfl) rfl #[.int .i64 x13_3, .int .i64 a0, .slice Ao17 x9_2.length co17, .slice Ao20 x10_2.length co20, .int .i64 a3] rfl (by (try simp only [List.map_toArray, List.map_cons, List.map_nil]); first | done | rfl) ?_; (with_reducible refine (torrentlaw4_call.calls k3 x13_3 a0 _ _ x9_2 _ _ x10_2 a3 t820 _ ?side1 ?side2 ?side3 ?side4 A33.out).mono ?_); (case side1 => repeat (first | exact (Kd.R_reads' HO_9.out).2.2 | (with_reducible refine Kd.C_alloc ?_ _) | (with_reducible refine Kd.C_drewN ?_ _) | (with_reducible refine Kd.C_drew ?_))); (case side2 => exact (Kd.R_reads' HO_9.out).2.1); (case side3 => repeat (first | exact (Kd.R_reads' HO_10.out).2.2 | (with_reducible refine Kd.C_alloc ?_ _) | (with_reducible refine Kd.C_drewN ?_ _) | (with_reducible refine Kd.C_drew ?_))); (case side4 => exact (Kd.R_reads' HO_10.out).2.1); rintro e w43 ⟨v821, rfl, ho0, hb⟩; refine ⟨_, rfl, ?_⟩; have n0_ := Aside0.mk (Kd.R_elder' (by (with_reducible repeat (first | apply Kd.R_alloc | apply Kd.R_drewN | apply Kd.R_drew)); exact HO_9.out) (Kd.R_base ho0) hb); have n1_ := Aside0.mk (Kd.R_elder' (by (with_reducible repeat (first | apply Kd.R_alloc | apply Kd.R_drewN | apply Kd.R_drew)); exact HO_10.out) (Kd.R_base ho0) hb); have n2_ := Aside0.mk (Kd.R_lower (Kd.R_new' (Kd.R_new' ho0 (Kd.R_lt (by (with_reducible repeat (first | apply Kd.R_alloc | apply Kd.R_drewN | apply Kd.R_drew)); exact HO_9.out))) (Kd.R_lt (by (with_reducible repeat (first | apply Kd.R_alloc | apply Kd.R_drewN | apply Kd.R_drew)); exact HO_10.out))) (below_size (by repeat (first | (with_reducible first | exact HB.out | apply below_alloc | apply pw_below_drewN | apply below_drew1) | exact HB.out)))); have n3_ := Aside0.mk (below_step (by repeat (first | (with_reducible first | exact HB.out | apply below_alloc | apply pw_below_drewN | apply below_drew1) | exact HB.out)) hb); clear HO_9; clear HO_10; clear HB; have HO_9 := n0_; have HO_10 := n1_; have HO822 := n2_; have HB := n3_; clear n0_ n1_ n2_ n3_; (try clear hb); (try clear ho0)) | ((with_reducible refine gate_callee (f := 24) rfl ?_); refine goesL_ (some 95) rfl rfl Try.func24 (by kernel_rfl) rfl #[.slice A2 l2.length c2] rfl (by (try simp only [List.map_toArray, List.map_cons, List.map_nil]); first | done | rfl) ?_; (with_reducible refine (torrentlaw4_copied.calls k3 _ _ l2 t823 _ ?side1 ?side2 A34.out).mono ?_); (case side1 => repeat (first | exact (Kd.C_below HR2.out HB.out) | (with_reducible refine Kd.C_alloc ?_ _) | (with_reducible refine Kd.C_drewN ?_ _) | (with_reducible refine Kd.C_drew ?_))); (case side2 => exact HC2.out); rintro e w44 ⟨v824, rfl, ho0, hb⟩; refine ⟨_, rfl, ?_⟩; have n0_ := Aside0.mk (Kd.R_elder' (by (with_reducible repeat (first | apply Kd.R_alloc | apply Kd.R_drewN | apply Kd.R_drew)); exact HO_9.out) (Kd.R_base ho0) hb); have n1_ := Aside0.mk (Kd.R_elder' (by (with_reducible repeat (first | apply Kd.R_alloc | apply Kd.R_drewN | apply Kd.R_drew)); exact HO_10.out) (Kd.R_base ho0) hb); have n2_ := Aside0.mk (Kd.R_elder' (by (with_reducible repeat (first | apply Kd.R_alloc | apply Kd.R_drewN | apply Kd.R_drew)); exact HO822.out) (Kd.R_base ho0) hb); have n3_ := Aside0.mk (Kd.R_lower (Kd.R_new' (Kd.R_new' (Kd.R_new' ho0 (Kd.R_lt (by (with_reducible repeat (first | apply Kd.R_alloc | apply Kd.R_drewN | apply Kd.R_drew)); exact HO_9.out))) (Kd.R_lt (by (with_reducible repeat (first | apply Kd.R_alloc | apply Kd.R_drewN | apply Kd.R_drew)); exact HO_10.out))) (Kd.R_lt (by (with_reducible repeat (first | apply Kd.R_alloc | apply Kd.R_drewN | apply Kd.R_drew)); exact HO822.out))) (below_size (by repeat (first | (with_reducible first | exact HB.out | apply below_alloc | apply pw_below_drewN | apply below_drew1) | exact HB.out)))); have n4_ := Aside0.mk (below_step (by repeat (first | (with_reducible first | exact HB.out | apply below_alloc | apply pw_below_drewN | apply below_drew1) | exact HB.out)) hb); clear HO_9; clear HO_10; clear HO822; clear HB; have HO_9 := n0_; have HO_10 := n1_; have HO822 := n2_; have HO825 := n3_; have HB := n4_; clear n0_ n1_ n2_ n3_ n4_; (try clear hb); (try clear ho0)) | ((with_reducible refine gate_callee (f := 24) rfl ?_); refine goesL_ (some 97) rfl rfl Try.func24 (by kernel_rfl) rfl #[.slice A1 l1.length c1] rfl (by (try simp only [List.map_toArray, List.map_cons, List.map_nil]); first | done | rfl) ?_; (with_reducible refine (torrentlaw4_copied.calls k3 _ _ l1 t826 _ ?side1 ?side2 A35.out).mono ?_); (case side1 => repeat (first | exact (Kd.C_below HR1.out HB.out) | (with_reducible refine Kd.C_alloc ?_ _) | (with_reducible refine Kd.C_drewN ?_ _) | (with_reducible refine Kd.C_drew ?_))); (case side2 => exact HC1.out); rintro e w45 ⟨v827, rfl, ho0, hb⟩; refine ⟨_, rfl, ?_⟩; have n0_ := Aside0.mk (Kd.R_elder' (by (with_reducible repeat (first | apply Kd.R_alloc | apply Kd.R_drewN | apply Kd.R_drew)); exact HO_9.out) (Kd.R_base ho0) hb); have n1_ := Aside0.mk (Kd.R_elder' (by (with_reducible repeat (first | apply Kd.R_alloc | apply Kd.R_drewN | apply Kd.R_drew)); exact HO_10.out) (Kd.R_base ho0) hb); have n2_ := Aside0.mk (Kd.R_elder' (by (with_reducible repeat (first | apply Kd.R_alloc | apply Kd.R_drewN | apply Kd.R_drew)); exact HO822.out) (Kd.R_base ho0) hb); have n3_ := Aside0.mk (Kd.R_elder' (by (with_reducible repeat (first | apply Kd.R_alloc | apply Kd.R_drewN | apply Kd.R_drew)); exact HO825.out) (Kd.R_base ho0) hb); have n4_ := Aside0.mk (Kd.R_lower (Kd.R_new' (Kd.R_new' (Kd.R_new' (Kd.R_new' ho0 (Kd.R_lt (by (with_reducible repeat (first | apply Kd.R_alloc | apply Kd.R_drewN | apply Kd.R_drew)); exact HO_9.out))) (Kd.R_lt (by (with_reducible repeat (first | apply Kd.R_alloc | apply Kd.R_drewN | apply Kd.R_drew)); exact HO_10.out))) (Kd.R_lt (by (with_reducible repeat (first | apply Kd.R_alloc | apply Kd.R_drewN | apply Kd.R_drew)); exact HO822.out))) (Kd.R_lt (by (with_reducible repeat (first | apply Kd.R_alloc | apply Kd.R_drewN | apply Kd.R_drew)); exact HO825.out))) (below_size (by repeat (first | (with_reducible first | exact HB.out | apply below_alloc | apply pw_below_drewN | apply below_drew1) | exact HB.out)))); have n5_ := Aside0.mk (below_step (by repeat (first | (with_reducible first | exact HB.out | apply below_alloc | apply pw_below_drewN | apply below_drew1) | exact HB.out)) hb); clear HO_9; clear HO_10; clear HO822; clear HO825; clear HB; have HO_9 := n0_; have HO_10 := n1_; have HO822 := n2_; have HO825 := n3_; have HO828 := n4_; have HB := n5_; clear n0_ n1_ n2_ n3_ n4_ n5_; (try clear hb); (try clear ho0); obtain ⟨Ao46, co46, eo46⟩ := Kd.R_slice HO825.out; subst eo46; obtain ⟨Ao47, co47, eo47⟩ := Kd.R_slice HO828.out; subst eo47) | ((with_reducible refine gate_callee (f := 51) rfl ?_); refine goesL_ (some 99) rfl rfl Try.func51 (by kernel_rfl) rfl #[.int .i64 x13_3, .int .i64 a0, .slice Ao46 t823.length co46, .slice Ao47 t826.length co47, .int .i64 a3] rfl (by (try simp only [List.map_toArray, List.map_cons, List.map_nil]); first | done | rfl) ?_; (with_reducible refine (torrentlaw4_call.calls k3 x13_3 a0 _ _ t823 _ _ t826 a3 t829 _ ?side1 ?side2 ?side3 ?side4 A36.out).mono ?_); (case side1 => repeat (first | exact (Kd.R_reads' HO825.out).2.2 | (with_reducible refine Kd.C_alloc ?_ _) | (with_reducible refine Kd.C_drewN ?_ _) | (with_reducible refine Kd.C_drew ?_))); (case side2 => exact (Kd.R_reads' HO825.out).2.1); (case side3 => repeat (first | exact (Kd.R_reads' HO828.out).2.2 | (with_reducible refine Kd.C_alloc ?_ _) | (with_reducible refine Kd.C_drewN ?_ _) | (with_reducible refine Kd.C_drew ?_))); (case side4 => exact (Kd.R_reads' HO828.out).2.1); rintro e w48 ⟨v830, rfl, ho0, hb⟩; refine ⟨_, rfl, ?_⟩; have n0_ := Aside0.mk (Kd.R_elder' (by (with_reducible repeat (first | apply Kd.R_alloc | apply Kd.R_drewN | apply Kd.R_drew)); exact HO_9.out) (Kd.R_base ho0) hb); have n1_ := Aside0.mk (Kd.R_elder' (by (with_reducible repeat (first | apply Kd.R_alloc | apply Kd.R_drewN | apply Kd.R_drew)); exact HO_10.out) (Kd.R_base ho0) hb); have n2_ := Aside0.mk (Kd.R_elder' (by (with_reducible repeat (first | apply Kd.R_alloc | apply Kd.R_drewN | apply Kd.R_drew)); exact HO822.out) (Kd.R_base ho0) hb); have n3_ := Aside0.mk (Kd.R_elder' (by (with_reducible repeat (first | apply Kd.R_alloc | apply Kd.R_drewN | apply Kd.R_drew)); exact HO825.out) (Kd.R_base ho0) hb); have n4_ := Aside0.mk (Kd.R_elder' (by (with_reducible repeat (first | apply Kd.R_alloc | apply Kd.R_drewN | apply Kd.R_drew)); exact HO828.out) (Kd.R_base ho0) hb); have n5_ := Aside0.mk (Kd.R_lower (Kd.R_new' (Kd.R_new' (Kd.R_new' (Kd.R_new' (Kd.R_new' ho0 (Kd.R_lt (by (with_reducible repeat (first | apply Kd.R_alloc | apply Kd.R_drewN | apply Kd.R_drew)); exact HO_9.out))) (Kd.R_lt (by (with_reducible repeat (first | apply Kd.R_alloc | apply Kd.R_drewN | apply Kd.R_drew)); exact HO_10.out))) (Kd.R_lt (by (with_reducible repeat (first | apply Kd.R_alloc | apply Kd.R_drewN | apply Kd.R_drew)); exact HO822.out))) (Kd.R_lt (by (with_reducible repeat (first | apply Kd.R_alloc | apply Kd.R_drewN | apply Kd.R_drew)); exact HO825.out))) (Kd.R_lt (by (with_reducible repeat (first | apply Kd.R_alloc | apply Kd.R_drewN | apply Kd.R_drew)); exact HO828.out))) (below_size (by repeat (first | (with_reducible first | exact HB.out | apply below_alloc | apply pw_below_drewN | apply below_drew1) | exact HB.out)))); have n6_ := Aside0.mk (below_step (by repeat (first | (with_reducible first | exact HB.out | apply below_alloc | apply pw_below_drewN | apply below_drew1) | exact HB.out)) hb); clear HO_9; clear HO_10; clear HO822; clear HO825; clear HO828; clear HB; have HO_9 := n0_; have HO_10 := n1_; have HO822 := n2_; have HO825 := n3_; have HO828 := n4_; have HO831 := n5_; have HB := n6_; clear n0_ n1_ n2_ n3_ n4_ n5_ n6_; (try clear hb); (try clear ho0); obtain ⟨Ao49, co49, eo49⟩ := Kd.R_slice HO822.out; subst eo49; obtain ⟨Ao50, co50, eo50⟩ := Kd.R_slice HO831.out; subst eo50) | ((with_reducible refine gate_callee (f := 17) rfl ?_); refine goesL_ (some 102) rfl rfl Try.func17 (by kernel_rfl) rfl #[.slice Ao49 t820.length co49, .slice Ao50 t829.length co50] rfl (by (try simp only [List.map_toArray, List.map_cons, List.map_nil]); first | done | rfl) ?_; (with_reducible refine (torrentlaw4_sameBytes.calls k3 _ _ t820 _ _ t829 true _ ?side1 ?side2 ?side3 ?side4 A37.out).mono ?_); (case side1 => repeat (first | exact (Kd.R_reads' HO822.out).2.2 | (with_reducible refine Kd.C_alloc ?_ _) | (with_reducible refine Kd.C_drewN ?_ _) | (with_reducible refine Kd.C_drew ?_))); (case side2 => exact (Kd.R_reads' HO822.out).2.1); (case side3 => repeat (first | exact (Kd.R_reads' HO831.out).2.2 | (with_reducible refine Kd.C_alloc ?_ _) | (with_reducible refine Kd.C_drewN ?_ _) | (with_reducible refine Kd.C_drew ?_))); (case side4 => exact (Kd.R_reads' HO831.out).2.1); rintro e w' ⟨rfl, ⟨nd, rfl⟩⟩; refine ⟨_, rfl, ?_⟩) | (go_at_call 17; (with_reducible refine (torrentlaw4_sameBytes.calls k3 _ _ x9_2 _ _ l2 true _ ?side1 ?side2 ?side3 ?side4 A39.out).mono ?_); (case side1 => repeat (first | exact (Kd.R_reads' HO_9.out).2.2 | (with_reducible refine Kd.C_alloc ?_ _) | (with_reducible refine Kd.C_drewN ?_ _) | (with_reducible refine Kd.C_drew ?_))); (case side2 => exact (Kd.R_reads' HO_9.out).2.1); (case side3 => repeat (first | exact (Kd.C_below HR2.out (by repeat (first | (with_reducible first | exact HB.out | apply below_alloc | apply pw_below_drewN | apply below_drew1) | exact HB.out))) | (with_reducible refine Kd.C_alloc ?_ _) | (with_reducible refine Kd.C_drewN ?_ _) | (with_reducible refine Kd.C_drew ?_))); (case side4 => exact HC2.out); rintro e w' ⟨rfl, ⟨nd, rfl⟩⟩) | (go_at_call 17; (with_reducible refine (torrentlaw4_sameBytes.calls k3 _ _ x10_2 _ _ l1 true _ ?side1 ?side2 ?side3 ?side4 A41.out).mono ?_); (case side1 => repeat (first | exact (Kd.R_reads' HO_10.out).2.2 | (with_reducible refine Kd.C_alloc ?_ _) | (with_reducible refine Kd.C_drewN ?_ _) | (with_reducible refine Kd.C_drew ?_))); (case side2 => exact (Kd.R_reads' HO_10.out).2.1); (case side3 => repeat (first | exact (Kd.C_below HR1.out (by repeat (first | (with_reducible first | exact HB.out | apply below_alloc | apply pw_below_drewN | apply below_drew1) | exact HB.out))) | (with_reducible refine Kd.C_alloc ?_ _) | (with_reducible refine Kd.C_drewN ?_ _) | (with_reducible refine Kd.C_drew ?_))); (case side4 => exact HC1.out); rintro e w' ⟨rfl, ⟨nd, rfl⟩⟩))
                          go_roundg k3
                          case measure => have := HK1.out; have := HK2.out; have := HK3.out; omega
                          case rel => exact ⟨(wrap64 (x13_3 + 1)), (by first | rfl | (simp; done) | (simp [*]; done)), H', ⟨by have := HK1.out; have := HK2.out; have := HK3.out; omega⟩, ⟨by (try simp only [hl9_2]); (try simp only [hl10_2]); (with_reducible repeat (first | apply Kd.R_alloc | apply Kd.R_drewN | apply Kd.R_drew)); exact Kd.R_mono HO_9.out (fun _ hk => hk.1.1.1.1)⟩, ⟨by (try simp only [hl9_2]); (try simp only [hl10_2]); (with_reducible repeat (first | apply Kd.R_alloc | apply Kd.R_drewN | apply Kd.R_drew)); exact Kd.R_mono HO_10.out (fun _ hk => hk.1.1.1.1)⟩, ⟨by repeat (first | (with_reducible first | exact HB.out | apply below_alloc | apply pw_below_drewN | apply below_drew1) | exact HB.out)⟩⟩
                        · replace c42 := Bool.eq_false_iff.mpr c42
                          subst c42
                          have H1 : (some false) = some r := by rw [if_neg (show ¬ (false = true) by decide)] at H; exact H
                          clear H
                          have H := H1
                          clear H1
                          obtain rfl := Option.some.inj H
                          go_wp2_with (first | ((with_reducible refine gate_callee (f := 51) rfl ?_); refine goesL_ (some 91) rfl rfl Try.func51 (by kernel_rfl) rfl #[.int .i64 x13_3, .int .i64 a0, .slice Ao17 x9_2.length co17, .slice Ao20 x10_2.length co20, .int .i64 a3] rfl (by (try simp only [List.map_toArray, List.map_cons, List.map_nil]); first | done | rfl) ?_; (with_reducible refine (torrentlaw4_call.calls k3 x13_3 a0 _ _ x9_2 _ _ x10_2 a3 t820 _ ?side1 ?side2 ?side3 ?side4 A33.out).mono ?_); (case side1 => repeat (first | exact (Kd.R_reads' HO_9.out).2.2 | (with_reducible refine Kd.C_alloc ?_ _) | (with_reducible refine Kd.C_drewN ?_ _) | (with_reducible refine Kd.C_drew ?_))); (case side2 => exact (Kd.R_reads' HO_9.out).2.1); (case side3 => repeat (first | exact (Kd.R_reads' HO_10.out).2.2 | (with_reducible refine Kd.C_alloc ?_ _) | (with_reducible refine Kd.C_drewN ?_ _) | (with_reducible refine Kd.C_drew ?_))); (case side4 => exact (Kd.R_reads' HO_10.out).2.1); rintro e w51 ⟨v821, rfl, ho0, hb⟩; refine ⟨_, rfl, ?_⟩; have n0_ := Aside0.mk (Kd.R_elder' (by (with_reducible repeat (first | apply Kd.R_alloc | apply Kd.R_drewN | apply Kd.R_drew)); exact HO_9.out) (Kd.R_base ho0) hb); have n1_ := Aside0.mk (Kd.R_elder' (by (with_reducible repeat (first | apply Kd.R_alloc | apply Kd.R_drewN | apply Kd.R_drew)); exact HO_10.out) (Kd.R_base ho0) hb); have n2_ := Aside0.mk (Kd.R_lower (Kd.R_new' (Kd.R_new' ho0 (Kd.R_lt (by (with_reducible repeat (first | apply Kd.R_alloc | apply Kd.R_drewN | apply Kd.R_drew)); exact HO_9.out))) (Kd.R_lt (by (with_reducible repeat (first | apply Kd.R_alloc | apply Kd.R_drewN | apply Kd.R_drew)); exact HO_10.out))) (below_size (by repeat (first | (with_reducible first | exact HB.out | apply below_alloc | apply pw_below_drewN | apply below_drew1) | exact HB.out)))); have n3_ := Aside0.mk (below_step (by repeat (first | (with_reducible first | exact HB.out | apply below_alloc | apply pw_below_drewN | apply below_drew1) | exact HB.out)) hb); clear HO_9; clear HO_10; clear HB; have HO_9 := n0_; have HO_10 := n1_; have HO822 := n2_; have HB := n3_; clear n0_ n1_ n2_ n3_; (try clear hb); (try clear ho0)) | ((with_reducible refine gate_callee (f := 24) rfl ?_); refine goesL_ (some 95) rfl rfl Try.func24 (by kernel_rfl) rfl #[.slice A2 l2.length c2] rfl (by (try simp only [List.map_toArray, List.map_cons, List.map_nil]); first | done | rfl) ?_; (with_reducible refine (torrentlaw4_copied.calls k3 _ _ l2 t823 _ ?side1 ?side2 A34.out).mono ?_); (case side1 => repeat (first | exact (Kd.C_below HR2.out HB.out) | (with_reducible refine Kd.C_alloc ?_ _) | (with_reducible refine Kd.C_drewN ?_ _) | (with_reducible refine Kd.C_drew ?_))); (case side2 => exact HC2.out); rintro e w52 ⟨v824, rfl, ho0, hb⟩; refine ⟨_, rfl, ?_⟩; have n0_ := Aside0.mk (Kd.R_elder' (by (with_reducible repeat (first | apply Kd.R_alloc | apply Kd.R_drewN | apply Kd.R_drew)); exact HO_9.out) (Kd.R_base ho0) hb); have n1_ := Aside0.mk (Kd.R_elder' (by (with_reducible repeat (first | apply Kd.R_alloc | apply Kd.R_drewN | apply Kd.R_drew)); exact HO_10.out) (Kd.R_base ho0) hb); have n2_ := Aside0.mk (Kd.R_elder' (by (with_reducible repeat (first | apply Kd.R_alloc | apply Kd.R_drewN | apply Kd.R_drew)); exact HO822.out) (Kd.R_base ho0) hb); have n3_ := Aside0.mk (Kd.R_lower (Kd.R_new' (Kd.R_new' (Kd.R_new' ho0 (Kd.R_lt (by (with_reducible repeat (first | apply Kd.R_alloc | apply Kd.R_drewN | apply Kd.R_drew)); exact HO_9.out))) (Kd.R_lt (by (with_reducible repeat (first | apply Kd.R_alloc | apply Kd.R_drewN | apply Kd.R_drew)); exact HO_10.out))) (Kd.R_lt (by (with_reducible repeat (first | apply Kd.R_alloc | apply Kd.R_drewN | apply Kd.R_drew)); exact HO822.out))) (below_size (by repeat (first | (with_reducible first | exact HB.out | apply below_alloc | apply pw_below_drewN | apply below_drew1) | exact HB.out)))); have n4_ := Aside0.mk (below_step (by repeat (first | (with_reducible first | exact HB.out | apply below_alloc | apply pw_below_drewN | apply below_drew1) | exact HB.out)) hb); clear HO_9; clear HO_10; clear HO822; clear HB; have HO_9 := n0_; have HO_10 := n1_; have HO822 := n2_; have HO825 := n3_; have HB := n4_; clear n0_ n1_ n2_ n3_ n4_; (try clear hb); (try clear ho0)) | ((with_reducible refine gate_callee (f := 24) rfl ?_); refine goesL_ (some 97) rfl rfl Try.func24 (by kernel_rfl) rfl #[.slice A1 l1.length c1] rfl (by (try simp only [List.map_toArray, List.map_cons, List.map_nil]); first | done | rfl) ?_; (with_reducible refine (torrentlaw4_copied.calls k3 _ _ l1 t826 _ ?side1 ?side2 A35.out).mono ?_); (case side1 => repeat (first | exact (Kd.C_below HR1.out HB.out) | (with_reducible refine Kd.C_alloc ?_ _) | (with_reducible refine Kd.C_drewN ?_ _) | (with_reducible refine Kd.C_drew ?_))); (case side2 => exact HC1.out); rintro e w53 ⟨v827, rfl, ho0, hb⟩; refine ⟨_, rfl, ?_⟩; have n0_ := Aside0.mk (Kd.R_elder' (by (with_reducible repeat (first | apply Kd.R_alloc | apply Kd.R_drewN | apply Kd.R_drew)); exact HO_9.out) (Kd.R_base ho0) hb); have n1_ := Aside0.mk (Kd.R_elder' (by (with_reducible repeat (first | apply Kd.R_alloc | apply Kd.R_drewN | apply Kd.R_drew)); exact HO_10.out) (Kd.R_base ho0) hb); have n2_ := Aside0.mk (Kd.R_elder' (by (with_reducible repeat (first | apply Kd.R_alloc | apply Kd.R_drewN | apply Kd.R_drew)); exact HO822.out) (Kd.R_base ho0) hb); have n3_ := Aside0.mk (Kd.R_elder' (by (with_reducible repeat (first | apply Kd.R_alloc | apply Kd.R_drewN | apply Kd.R_drew)); exact HO825.out) (Kd.R_base ho0) hb); have n4_ := Aside0.mk (Kd.R_lower (Kd.R_new' (Kd.R_new' (Kd.R_new' (Kd.R_new' ho0 (Kd.R_lt (by (with_reducible repeat (first | apply Kd.R_alloc | apply Kd.R_drewN | apply Kd.R_drew)); exact HO_9.out))) (Kd.R_lt (by (with_reducible repeat (first | apply Kd.R_alloc | apply Kd.R_drewN | apply Kd.R_drew)); exact HO_10.out))) (Kd.R_lt (by (with_reducible repeat (first | apply Kd.R_alloc | apply Kd.R_drewN | apply Kd.R_drew)); exact HO822.out))) (Kd.R_lt (by (with_reducible repeat (first | apply Kd.R_alloc | apply Kd.R_drewN | apply Kd.R_drew)); exact HO825.out))) (below_size (by repeat (first | (with_reducible first | exact HB.out | apply below_alloc | apply pw_below_drewN | apply below_drew1) | exact HB.out)))); have n5_ := Aside0.mk (below_step (by repeat (first | (with_reducible first | exact HB.out | apply below_alloc | apply pw_below_drewN | apply below_drew1) | exact HB.out)) hb); clear HO_9; clear HO_10; clear HO822; clear HO825; clear HB; have HO_9 := n0_; have HO_10 := n1_; have HO822 := n2_; have HO825 := n3_; have HO828 := n4_; have HB := n5_; clear n0_ n1_ n2_ n3_ n4_ n5_; (try clear hb); (try clear ho0); obtain ⟨Ao54, co54, eo54⟩ := Kd.R_slice HO825.out; subst eo54; obtain ⟨Ao55, co55, eo55⟩ := Kd.R_slice HO828.out; subst eo55) | ((with_reducible refine gate_callee (f := 51) rfl ?_); refine goesL_ (some 99) rfl rfl Try.func51 (by kernel_rfl) rfl #[.int .i64 x13_3, .int .i64 a0, .slice Ao54 t823.length co54, .slice Ao55 t826.length co55, .int .i64 a3] rfl (by (try simp only [List.map_toArray, List.map_cons, List.map_nil]); first | done | rfl) ?_; (with_reducible refine (torrentlaw4_call.calls k3 x13_3 a0 _ _ t823 _ _ t826 a3 t829 _ ?side1 ?side2 ?side3 ?side4 A36.out).mono ?_); (case side1 => repeat (first | exact (Kd.R_reads' HO825.out).2.2 | (with_reducible refine Kd.C_alloc ?_ _) | (with_reducible refine Kd.C_drewN ?_ _) | (with_reducible refine Kd.C_drew ?_))); (case side2 => exact (Kd.R_reads' HO825.out).2.1); (case side3 => repeat (first | exact (Kd.R_reads' HO828.out).2.2 | (with_reducible refine Kd.C_alloc ?_ _) | (with_reducible refine Kd.C_drewN ?_ _) | (with_reducible refine Kd.C_drew ?_))); (case side4 => exact (Kd.R_reads' HO828.out).2.1); rintro e w56 ⟨v830, rfl, ho0, hb⟩; refine ⟨_, rfl, ?_⟩; have n0_ := Aside0.mk (Kd.R_elder' (by (with_reducible repeat (first | apply Kd.R_alloc | apply Kd.R_drewN | apply Kd.R_drew)); exact HO_9.out) (Kd.R_base ho0) hb); have n1_ := Aside0.mk (Kd.R_elder' (by (with_reducible repeat (first | apply Kd.R_alloc | apply Kd.R_drewN | apply Kd.R_drew)); exact HO_10.out) (Kd.R_base ho0) hb); have n2_ := Aside0.mk (Kd.R_elder' (by (with_reducible repeat (first | apply Kd.R_alloc | apply Kd.R_drewN | apply Kd.R_drew)); exact HO822.out) (Kd.R_base ho0) hb); have n3_ := Aside0.mk (Kd.R_elder' (by (with_reducible repeat (first | apply Kd.R_alloc | apply Kd.R_drewN | apply Kd.R_drew)); exact HO825.out) (Kd.R_base ho0) hb); have n4_ := Aside0.mk (Kd.R_elder' (by (with_reducible repeat (first | apply Kd.R_alloc | apply Kd.R_drewN | apply Kd.R_drew)); exact HO828.out) (Kd.R_base ho0) hb); have n5_ := Aside0.mk (Kd.R_lower (Kd.R_new' (Kd.R_new' (Kd.R_new' (Kd.R_new' (Kd.R_new' ho0 (Kd.R_lt (by (with_reducible repeat (first | apply Kd.R_alloc | apply Kd.R_drewN | apply Kd.R_drew)); exact HO_9.out))) (Kd.R_lt (by (with_reducible repeat (first | apply Kd.R_alloc | apply Kd.R_drewN | apply Kd.R_drew)); exact HO_10.out))) (Kd.R_lt (by (with_reducible repeat (first | apply Kd.R_alloc | apply Kd.R_drewN | apply Kd.R_drew)); exact HO822.out))) (Kd.R_lt (by (with_reducible repeat (first | apply Kd.R_alloc | apply Kd.R_drewN | apply Kd.R_drew)); exact HO825.out))) (Kd.R_lt (by (with_reducible repeat (first | apply Kd.R_alloc | apply Kd.R_drewN | apply Kd.R_drew)); exact HO828.out))) (below_size (by repeat (first | (with_reducible first | exact HB.out | apply below_alloc | apply pw_below_drewN | apply below_drew1) | exact HB.out)))); have n6_ := Aside0.mk (below_step (by repeat (first | (with_reducible first | exact HB.out | apply below_alloc | apply pw_below_drewN | apply below_drew1) | exact HB.out)) hb); clear HO_9; clear HO_10; clear HO822; clear HO825; clear HO828; clear HB; have HO_9 := n0_; have HO_10 := n1_; have HO822 := n2_; have HO825 := n3_; have HO828 := n4_; have HO831 := n5_; have HB := n6_; clear n0_ n1_ n2_ n3_ n4_ n5_ n6_; (try clear hb); (try clear ho0); obtain ⟨Ao57, co57, eo57⟩ := Kd.R_slice HO822.out; subst eo57; obtain ⟨Ao58, co58, eo58⟩ := Kd.R_slice HO831.out; subst eo58) | ((with_reducible refine gate_callee (f := 17) rfl ?_); refine goesL_ (some 102) rfl rfl Try.func17 (by kernel_rfl) rfl #[.slice Ao57 t820.length co57, .slice Ao58 t829.length co58] rfl (by (try simp only [List.map_toArray, List.map_cons, List.map_nil]); first | done | rfl) ?_; (with_reducible refine (torrentlaw4_sameBytes.calls k3 _ _ t820 _ _ t829 true _ ?side1 ?side2 ?side3 ?side4 A37.out).mono ?_); (case side1 => repeat (first | exact (Kd.R_reads' HO822.out).2.2 | (with_reducible refine Kd.C_alloc ?_ _) | (with_reducible refine Kd.C_drewN ?_ _) | (with_reducible refine Kd.C_drew ?_))); (case side2 => exact (Kd.R_reads' HO822.out).2.1); (case side3 => repeat (first | exact (Kd.R_reads' HO831.out).2.2 | (with_reducible refine Kd.C_alloc ?_ _) | (with_reducible refine Kd.C_drewN ?_ _) | (with_reducible refine Kd.C_drew ?_))); (case side4 => exact (Kd.R_reads' HO831.out).2.1); rintro e w' ⟨rfl, ⟨nd, rfl⟩⟩; refine ⟨_, rfl, ?_⟩) | (go_at_call 17; (with_reducible refine (torrentlaw4_sameBytes.calls k3 _ _ x9_2 _ _ l2 true _ ?side1 ?side2 ?side3 ?side4 A39.out).mono ?_); (case side1 => repeat (first | exact (Kd.R_reads' HO_9.out).2.2 | (with_reducible refine Kd.C_alloc ?_ _) | (with_reducible refine Kd.C_drewN ?_ _) | (with_reducible refine Kd.C_drew ?_))); (case side2 => exact (Kd.R_reads' HO_9.out).2.1); (case side3 => repeat (first | exact (Kd.C_below HR2.out (by repeat (first | (with_reducible first | exact HB.out | apply below_alloc | apply pw_below_drewN | apply below_drew1) | exact HB.out))) | (with_reducible refine Kd.C_alloc ?_ _) | (with_reducible refine Kd.C_drewN ?_ _) | (with_reducible refine Kd.C_drew ?_))); (case side4 => exact HC2.out); rintro e w' ⟨rfl, ⟨nd, rfl⟩⟩) | (go_at_call 17; (with_reducible refine (torrentlaw4_sameBytes.calls k3 _ _ x10_2 _ _ l1 false _ ?side1 ?side2 ?side3 ?side4 A41.out).mono ?_); (case side1 => repeat (first | exact (Kd.R_reads' HO_10.out).2.2 | (with_reducible refine Kd.C_alloc ?_ _) | (with_reducible refine Kd.C_drewN ?_ _) | (with_reducible refine Kd.C_drew ?_))); (case side2 => exact (Kd.R_reads' HO_10.out).2.1); (case side3 => repeat (first | exact (Kd.C_below HR1.out (by repeat (first | (with_reducible first | exact HB.out | apply below_alloc | apply pw_below_drewN | apply below_drew1) | exact HB.out))) | (with_reducible refine Kd.C_alloc ?_ _) | (with_reducible refine Kd.C_drewN ?_ _) | (with_reducible refine Kd.C_drew ?_))); (case side4 => exact HC1.out); rintro e w' ⟨rfl, ⟨nd, rfl⟩⟩))
                          go_ret
                          exact ⟨by first | rfl | (simp [errW_none, errW_some] <;> rfl) | (simp [*, errW_none, errW_some] <;> rfl), by repeat (first | (with_reducible first | exact HB.out | apply below_alloc | apply pw_below_drewN | apply below_drew1) | exact HB.out)⟩
                      · replace c40 := Bool.eq_false_iff.mpr c40
                        subst c40
                        have H1 : (some false) = some r := by rw [if_neg (show ¬ (false = true) by decide)] at H; exact H
                        clear H
                        have H := H1
                        clear H1
                        obtain rfl := Option.some.inj H
                        go_wp2_with (first | ((with_reducible refine gate_callee (f := 51) rfl ?_); refine goesL_ (some 91) rfl rfl Try.func51 (by kernel_rfl) rfl #[.int .i64 x13_3, .int .i64 a0, .slice Ao17 x9_2.length co17, .slice Ao20 x10_2.length co20, .int .i64 a3] rfl (by (try simp only [List.map_toArray, List.map_cons, List.map_nil]); first | done | rfl) ?_; (with_reducible refine (torrentlaw4_call.calls k3 x13_3 a0 _ _ x9_2 _ _ x10_2 a3 t820 _ ?side1 ?side2 ?side3 ?side4 A33.out).mono ?_); (case side1 => repeat (first | exact (Kd.R_reads' HO_9.out).2.2 | (with_reducible refine Kd.C_alloc ?_ _) | (with_reducible refine Kd.C_drewN ?_ _) | (with_reducible refine Kd.C_drew ?_))); (case side2 => exact (Kd.R_reads' HO_9.out).2.1); (case side3 => repeat (first | exact (Kd.R_reads' HO_10.out).2.2 | (with_reducible refine Kd.C_alloc ?_ _) | (with_reducible refine Kd.C_drewN ?_ _) | (with_reducible refine Kd.C_drew ?_))); (case side4 => exact (Kd.R_reads' HO_10.out).2.1); rintro e w59 ⟨v821, rfl, ho0, hb⟩; refine ⟨_, rfl, ?_⟩; have n0_ := Aside0.mk (Kd.R_elder' (by (with_reducible repeat (first | apply Kd.R_alloc | apply Kd.R_drewN | apply Kd.R_drew)); exact HO_9.out) (Kd.R_base ho0) hb); have n1_ := Aside0.mk (Kd.R_elder' (by (with_reducible repeat (first | apply Kd.R_alloc | apply Kd.R_drewN | apply Kd.R_drew)); exact HO_10.out) (Kd.R_base ho0) hb); have n2_ := Aside0.mk (Kd.R_lower (Kd.R_new' (Kd.R_new' ho0 (Kd.R_lt (by (with_reducible repeat (first | apply Kd.R_alloc | apply Kd.R_drewN | apply Kd.R_drew)); exact HO_9.out))) (Kd.R_lt (by (with_reducible repeat (first | apply Kd.R_alloc | apply Kd.R_drewN | apply Kd.R_drew)); exact HO_10.out))) (below_size (by repeat (first | (with_reducible first | exact HB.out | apply below_alloc | apply pw_below_drewN | apply below_drew1) | exact HB.out)))); have n3_ := Aside0.mk (below_step (by repeat (first | (with_reducible first | exact HB.out | apply below_alloc | apply pw_below_drewN | apply below_drew1) | exact HB.out)) hb); clear HO_9; clear HO_10; clear HB; have HO_9 := n0_; have HO_10 := n1_; have HO822 := n2_; have HB := n3_; clear n0_ n1_ n2_ n3_; (try clear hb); (try clear ho0)) | ((with_reducible refine gate_callee (f := 24) rfl ?_); refine goesL_ (some 95) rfl rfl Try.func24 (by kernel_rfl) rfl #[.slice A2 l2.length c2] rfl (by (try simp only [List.map_toArray, List.map_cons, List.map_nil]); first | done | rfl) ?_; (with_reducible refine (torrentlaw4_copied.calls k3 _ _ l2 t823 _ ?side1 ?side2 A34.out).mono ?_); (case side1 => repeat (first | exact (Kd.C_below HR2.out HB.out) | (with_reducible refine Kd.C_alloc ?_ _) | (with_reducible refine Kd.C_drewN ?_ _) | (with_reducible refine Kd.C_drew ?_))); (case side2 => exact HC2.out); rintro e w60 ⟨v824, rfl, ho0, hb⟩; refine ⟨_, rfl, ?_⟩; have n0_ := Aside0.mk (Kd.R_elder' (by (with_reducible repeat (first | apply Kd.R_alloc | apply Kd.R_drewN | apply Kd.R_drew)); exact HO_9.out) (Kd.R_base ho0) hb); have n1_ := Aside0.mk (Kd.R_elder' (by (with_reducible repeat (first | apply Kd.R_alloc | apply Kd.R_drewN | apply Kd.R_drew)); exact HO_10.out) (Kd.R_base ho0) hb); have n2_ := Aside0.mk (Kd.R_elder' (by (with_reducible repeat (first | apply Kd.R_alloc | apply Kd.R_drewN | apply Kd.R_drew)); exact HO822.out) (Kd.R_base ho0) hb); have n3_ := Aside0.mk (Kd.R_lower (Kd.R_new' (Kd.R_new' (Kd.R_new' ho0 (Kd.R_lt (by (with_reducible repeat (first | apply Kd.R_alloc | apply Kd.R_drewN | apply Kd.R_drew)); exact HO_9.out))) (Kd.R_lt (by (with_reducible repeat (first | apply Kd.R_alloc | apply Kd.R_drewN | apply Kd.R_drew)); exact HO_10.out))) (Kd.R_lt (by (with_reducible repeat (first | apply Kd.R_alloc | apply Kd.R_drewN | apply Kd.R_drew)); exact HO822.out))) (below_size (by repeat (first | (with_reducible first | exact HB.out | apply below_alloc | apply pw_below_drewN | apply below_drew1) | exact HB.out)))); have n4_ := Aside0.mk (below_step (by repeat (first | (with_reducible first | exact HB.out | apply below_alloc | apply pw_below_drewN | apply below_drew1) | exact HB.out)) hb); clear HO_9; clear HO_10; clear HO822; clear HB; have HO_9 := n0_; have HO_10 := n1_; have HO822 := n2_; have HO825 := n3_; have HB := n4_; clear n0_ n1_ n2_ n3_ n4_; (try clear hb); (try clear ho0)) | ((with_reducible refine gate_callee (f := 24) rfl ?_); refine goesL_ (some 97) rfl rfl Try.func24 (by kernel_rfl) rfl #[.slice A1 l1.length c1] rfl (by (try simp only [List.map_toArray, List.map_cons, List.map_nil]); first | done | rfl) ?_; (with_reducible refine (torrentlaw4_copied.calls k3 _ _ l1 t826 _ ?side1 ?side2 A35.out).mono ?_); (case side1 => repeat (first | exact (Kd.C_below HR1.out HB.out) | (with_reducible refine Kd.C_alloc ?_ _) | (with_reducible refine Kd.C_drewN ?_ _) | (with_reducible refine Kd.C_drew ?_))); (case side2 => exact HC1.out); rintro e w61 ⟨v827, rfl, ho0, hb⟩; refine ⟨_, rfl, ?_⟩; have n0_ := Aside0.mk (Kd.R_elder' (by (with_reducible repeat (first | apply Kd.R_alloc | apply Kd.R_drewN | apply Kd.R_drew)); exact HO_9.out) (Kd.R_base ho0) hb); have n1_ := Aside0.mk (Kd.R_elder' (by (with_reducible repeat (first | apply Kd.R_alloc | apply Kd.R_drewN | apply Kd.R_drew)); exact HO_10.out) (Kd.R_base ho0) hb); have n2_ := Aside0.mk (Kd.R_elder' (by (with_reducible repeat (first | apply Kd.R_alloc | apply Kd.R_drewN | apply Kd.R_drew)); exact HO822.out) (Kd.R_base ho0) hb); have n3_ := Aside0.mk (Kd.R_elder' (by (with_reducible repeat (first | apply Kd.R_alloc | apply Kd.R_drewN | apply Kd.R_drew)); exact HO825.out) (Kd.R_base ho0) hb); have n4_ := Aside0.mk (Kd.R_lower (Kd.R_new' (Kd.R_new' (Kd.R_new' (Kd.R_new' ho0 (Kd.R_lt (by (with_reducible repeat (first | apply Kd.R_alloc | apply Kd.R_drewN | apply Kd.R_drew)); exact HO_9.out))) (Kd.R_lt (by (with_reducible repeat (first | apply Kd.R_alloc | apply Kd.R_drewN | apply Kd.R_drew)); exact HO_10.out))) (Kd.R_lt (by (with_reducible repeat (first | apply Kd.R_alloc | apply Kd.R_drewN | apply Kd.R_drew)); exact HO822.out))) (Kd.R_lt (by (with_reducible repeat (first | apply Kd.R_alloc | apply Kd.R_drewN | apply Kd.R_drew)); exact HO825.out))) (below_size (by repeat (first | (with_reducible first | exact HB.out | apply below_alloc | apply pw_below_drewN | apply below_drew1) | exact HB.out)))); have n5_ := Aside0.mk (below_step (by repeat (first | (with_reducible first | exact HB.out | apply below_alloc | apply pw_below_drewN | apply below_drew1) | exact HB.out)) hb); clear HO_9; clear HO_10; clear HO822; clear HO825; clear HB; have HO_9 := n0_; have HO_10 := n1_; have HO822 := n2_; have HO825 := n3_; have HO828 := n4_; have HB := n5_; clear n0_ n1_ n2_ n3_ n4_ n5_; (try clear hb); (try clear ho0); obtain ⟨Ao62, co62, eo62⟩ := Kd.R_slice HO825.out; subst eo62; obtain ⟨Ao63, co63, eo63⟩ := Kd.R_slice HO828.out; subst eo63) | ((with_reducible refine gate_callee (f := 51) rfl ?_); refine goesL_ (some 99) rfl rfl Try.func51 (by kernel_rfl) rfl #[.int .i64 x13_3, .int .i64 a0, .slice Ao62 t823.length co62, .slice Ao63 t826.length co63, .int .i64 a3] rfl (by (try simp only [List.map_toArray, List.map_cons, List.map_nil]); first | done | rfl) ?_; (with_reducible refine (torrentlaw4_call.calls k3 x13_3 a0 _ _ t823 _ _ t826 a3 t829 _ ?side1 ?side2 ?side3 ?side4 A36.out).mono ?_); (case side1 => repeat (first | exact (Kd.R_reads' HO825.out).2.2 | (with_reducible refine Kd.C_alloc ?_ _) | (with_reducible refine Kd.C_drewN ?_ _) | (with_reducible refine Kd.C_drew ?_))); (case side2 => exact (Kd.R_reads' HO825.out).2.1); (case side3 => repeat (first | exact (Kd.R_reads' HO828.out).2.2 | (with_reducible refine Kd.C_alloc ?_ _) | (with_reducible refine Kd.C_drewN ?_ _) | (with_reducible refine Kd.C_drew ?_))); (case side4 => exact (Kd.R_reads' HO828.out).2.1); rintro e w64 ⟨v830, rfl, ho0, hb⟩; refine ⟨_, rfl, ?_⟩; have n0_ := Aside0.mk (Kd.R_elder' (by (with_reducible repeat (first | apply Kd.R_alloc | apply Kd.R_drewN | apply Kd.R_drew)); exact HO_9.out) (Kd.R_base ho0) hb); have n1_ := Aside0.mk (Kd.R_elder' (by (with_reducible repeat (first | apply Kd.R_alloc | apply Kd.R_drewN | apply Kd.R_drew)); exact HO_10.out) (Kd.R_base ho0) hb); have n2_ := Aside0.mk (Kd.R_elder' (by (with_reducible repeat (first | apply Kd.R_alloc | apply Kd.R_drewN | apply Kd.R_drew)); exact HO822.out) (Kd.R_base ho0) hb); have n3_ := Aside0.mk (Kd.R_elder' (by (with_reducible repeat (first | apply Kd.R_alloc | apply Kd.R_drewN | apply Kd.R_drew)); exact HO825.out) (Kd.R_base ho0) hb); have n4_ := Aside0.mk (Kd.R_elder' (by (with_reducible repeat (first | apply Kd.R_alloc | apply Kd.R_drewN | apply Kd.R_drew)); exact HO828.out) (Kd.R_base ho0) hb); have n5_ := Aside0.mk (Kd.R_lower (Kd.R_new' (Kd.R_new' (Kd.R_new' (Kd.R_new' (Kd.R_new' ho0 (Kd.R_lt (by (with_reducible repeat (first | apply Kd.R_alloc | apply Kd.R_drewN | apply Kd.R_drew)); exact HO_9.out))) (Kd.R_lt (by (with_reducible repeat (first | apply Kd.R_alloc | apply Kd.R_drewN | apply Kd.R_drew)); exact HO_10.out))) (Kd.R_lt (by (with_reducible repeat (first | apply Kd.R_alloc | apply Kd.R_drewN | apply Kd.R_drew)); exact HO822.out))) (Kd.R_lt (by (with_reducible repeat (first | apply Kd.R_alloc | apply Kd.R_drewN | apply Kd.R_drew)); exact HO825.out))) (Kd.R_lt (by (with_reducible repeat (first | apply Kd.R_alloc | apply Kd.R_drewN | apply Kd.R_drew)); exact HO828.out))) (below_size (by repeat (first | (with_reducible first | exact HB.out | apply below_alloc | apply pw_below_drewN | apply below_drew1) | exact HB.out)))); have n6_ := Aside0.mk (below_step (by repeat (first | (with_reducible first | exact HB.out | apply below_alloc | apply pw_below_drewN | apply below_drew1) | exact HB.out)) hb); clear HO_9; clear HO_10; clear HO822; clear HO825; clear HO828; clear HB; have HO_9 := n0_; have HO_10 := n1_; have HO822 := n2_; have HO825 := n3_; have HO828 := n4_; have HO831 := n5_; have HB := n6_; clear n0_ n1_ n2_ n3_ n4_ n5_ n6_; (try clear hb); (try clear ho0); obtain ⟨Ao65, co65, eo65⟩ := Kd.R_slice HO822.out; subst eo65; obtain ⟨Ao66, co66, eo66⟩ := Kd.R_slice HO831.out; subst eo66) | ((with_reducible refine gate_callee (f := 17) rfl ?_); refine goesL_ (some 102) rfl rfl Try.func17 (by kernel_rfl) rfl #[.slice Ao65 t820.length co65, .slice Ao66 t829.length co66] rfl (by (try simp only [List.map_toArray, List.map_cons, List.map_nil]); first | done | rfl) ?_; (with_reducible refine (torrentlaw4_sameBytes.calls k3 _ _ t820 _ _ t829 true _ ?side1 ?side2 ?side3 ?side4 A37.out).mono ?_); (case side1 => repeat (first | exact (Kd.R_reads' HO822.out).2.2 | (with_reducible refine Kd.C_alloc ?_ _) | (with_reducible refine Kd.C_drewN ?_ _) | (with_reducible refine Kd.C_drew ?_))); (case side2 => exact (Kd.R_reads' HO822.out).2.1); (case side3 => repeat (first | exact (Kd.R_reads' HO831.out).2.2 | (with_reducible refine Kd.C_alloc ?_ _) | (with_reducible refine Kd.C_drewN ?_ _) | (with_reducible refine Kd.C_drew ?_))); (case side4 => exact (Kd.R_reads' HO831.out).2.1); rintro e w' ⟨rfl, ⟨nd, rfl⟩⟩; refine ⟨_, rfl, ?_⟩) | (go_at_call 17; (with_reducible refine (torrentlaw4_sameBytes.calls k3 _ _ x9_2 _ _ l2 false _ ?side1 ?side2 ?side3 ?side4 A39.out).mono ?_); (case side1 => repeat (first | exact (Kd.R_reads' HO_9.out).2.2 | (with_reducible refine Kd.C_alloc ?_ _) | (with_reducible refine Kd.C_drewN ?_ _) | (with_reducible refine Kd.C_drew ?_))); (case side2 => exact (Kd.R_reads' HO_9.out).2.1); (case side3 => repeat (first | exact (Kd.C_below HR2.out (by repeat (first | (with_reducible first | exact HB.out | apply below_alloc | apply pw_below_drewN | apply below_drew1) | exact HB.out))) | (with_reducible refine Kd.C_alloc ?_ _) | (with_reducible refine Kd.C_drewN ?_ _) | (with_reducible refine Kd.C_drew ?_))); (case side4 => exact HC2.out); rintro e w' ⟨rfl, ⟨nd, rfl⟩⟩))
                        go_ret
                        exact ⟨by first | rfl | (simp [errW_none, errW_some] <;> rfl) | (simp [*, errW_none, errW_some] <;> rfl), by repeat (first | (with_reducible first | exact HB.out | apply below_alloc | apply pw_below_drewN | apply below_drew1) | exact HB.out)⟩
                    · replace c38 := Bool.eq_false_iff.mpr c38
                      subst c38
                      have H1 : (some false) = some r := by rw [if_neg (show ¬ (false = true) by decide)] at H; exact H
                      clear H
                      have H := H1
                      clear H1
                      obtain rfl := Option.some.inj H
                      go_wp2_with (first | ((with_reducible refine gate_callee (f := 51) rfl ?_); refine goesL_ (some 91) rfl rfl Try.func51 (by kernel_rfl) rfl #[.int .i64 x13_3, .int .i64 a0, .slice Ao17 x9_2.length co17, .slice Ao20 x10_2.length co20, .int .i64 a3] rfl (by (try simp only [List.map_toArray, List.map_cons, List.map_nil]); first | done | rfl) ?_; (with_reducible refine (torrentlaw4_call.calls k3 x13_3 a0 _ _ x9_2 _ _ x10_2 a3 t820 _ ?side1 ?side2 ?side3 ?side4 A33.out).mono ?_); (case side1 => repeat (first | exact (Kd.R_reads' HO_9.out).2.2 | (with_reducible refine Kd.C_alloc ?_ _) | (with_reducible refine Kd.C_drewN ?_ _) | (with_reducible refine Kd.C_drew ?_))); (case side2 => exact (Kd.R_reads' HO_9.out).2.1); (case side3 => repeat (first | exact (Kd.R_reads' HO_10.out).2.2 | (with_reducible refine Kd.C_alloc ?_ _) | (with_reducible refine Kd.C_drewN ?_ _) | (with_reducible refine Kd.C_drew ?_))); (case side4 => exact (Kd.R_reads' HO_10.out).2.1); rintro e w67 ⟨v821, rfl, ho0, hb⟩; refine ⟨_, rfl, ?_⟩; have n0_ := Aside0.mk (Kd.R_elder' (by (with_reducible repeat (first | apply Kd.R_alloc | apply Kd.R_drewN | apply Kd.R_drew)); exact HO_9.out) (Kd.R_base ho0) hb); have n1_ := Aside0.mk (Kd.R_elder' (by (with_reducible repeat (first | apply Kd.R_alloc | apply Kd.R_drewN | apply Kd.R_drew)); exact HO_10.out) (Kd.R_base ho0) hb); have n2_ := Aside0.mk (Kd.R_lower (Kd.R_new' (Kd.R_new' ho0 (Kd.R_lt (by (with_reducible repeat (first | apply Kd.R_alloc | apply Kd.R_drewN | apply Kd.R_drew)); exact HO_9.out))) (Kd.R_lt (by (with_reducible repeat (first | apply Kd.R_alloc | apply Kd.R_drewN | apply Kd.R_drew)); exact HO_10.out))) (below_size (by repeat (first | (with_reducible first | exact HB.out | apply below_alloc | apply pw_below_drewN | apply below_drew1) | exact HB.out)))); have n3_ := Aside0.mk (below_step (by repeat (first | (with_reducible first | exact HB.out | apply below_alloc | apply pw_below_drewN | apply below_drew1) | exact HB.out)) hb); clear HO_9; clear HO_10; clear HB; have HO_9 := n0_; have HO_10 := n1_; have HO822 := n2_; have HB := n3_; clear n0_ n1_ n2_ n3_; (try clear hb); (try clear ho0)) | ((with_reducible refine gate_callee (f := 24) rfl ?_); refine goesL_ (some 95) rfl rfl Try.func24 (by kernel_rfl) rfl #[.slice A2 l2.length c2] rfl (by (try simp only [List.map_toArray, List.map_cons, List.map_nil]); first | done | rfl) ?_; (with_reducible refine (torrentlaw4_copied.calls k3 _ _ l2 t823 _ ?side1 ?side2 A34.out).mono ?_); (case side1 => repeat (first | exact (Kd.C_below HR2.out HB.out) | (with_reducible refine Kd.C_alloc ?_ _) | (with_reducible refine Kd.C_drewN ?_ _) | (with_reducible refine Kd.C_drew ?_))); (case side2 => exact HC2.out); rintro e w68 ⟨v824, rfl, ho0, hb⟩; refine ⟨_, rfl, ?_⟩; have n0_ := Aside0.mk (Kd.R_elder' (by (with_reducible repeat (first | apply Kd.R_alloc | apply Kd.R_drewN | apply Kd.R_drew)); exact HO_9.out) (Kd.R_base ho0) hb); have n1_ := Aside0.mk (Kd.R_elder' (by (with_reducible repeat (first | apply Kd.R_alloc | apply Kd.R_drewN | apply Kd.R_drew)); exact HO_10.out) (Kd.R_base ho0) hb); have n2_ := Aside0.mk (Kd.R_elder' (by (with_reducible repeat (first | apply Kd.R_alloc | apply Kd.R_drewN | apply Kd.R_drew)); exact HO822.out) (Kd.R_base ho0) hb); have n3_ := Aside0.mk (Kd.R_lower (Kd.R_new' (Kd.R_new' (Kd.R_new' ho0 (Kd.R_lt (by (with_reducible repeat (first | apply Kd.R_alloc | apply Kd.R_drewN | apply Kd.R_drew)); exact HO_9.out))) (Kd.R_lt (by (with_reducible repeat (first | apply Kd.R_alloc | apply Kd.R_drewN | apply Kd.R_drew)); exact HO_10.out))) (Kd.R_lt (by (with_reducible repeat (first | apply Kd.R_alloc | apply Kd.R_drewN | apply Kd.R_drew)); exact HO822.out))) (below_size (by repeat (first | (with_reducible first | exact HB.out | apply below_alloc | apply pw_below_drewN | apply below_drew1) | exact HB.out)))); have n4_ := Aside0.mk (below_step (by repeat (first | (with_reducible first | exact HB.out | apply below_alloc | apply pw_below_drewN | apply below_drew1) | exact HB.out)) hb); clear HO_9; clear HO_10; clear HO822; clear HB; have HO_9 := n0_; have HO_10 := n1_; have HO822 := n2_; have HO825 := n3_; have HB := n4_; clear n0_ n1_ n2_ n3_ n4_; (try clear hb); (try clear ho0)) | ((with_reducible refine gate_callee (f := 24) rfl ?_); refine goesL_ (some 97) rfl rfl Try.func24 (by kernel_rfl) rfl #[.slice A1 l1.length c1] rfl (by (try simp only [List.map_toArray, List.map_cons, List.map_nil]); first | done | rfl) ?_; (with_reducible refine (torrentlaw4_copied.calls k3 _ _ l1 t826 _ ?side1 ?side2 A35.out).mono ?_); (case side1 => repeat (first | exact (Kd.C_below HR1.out HB.out) | (with_reducible refine Kd.C_alloc ?_ _) | (with_reducible refine Kd.C_drewN ?_ _) | (with_reducible refine Kd.C_drew ?_))); (case side2 => exact HC1.out); rintro e w69 ⟨v827, rfl, ho0, hb⟩; refine ⟨_, rfl, ?_⟩; have n0_ := Aside0.mk (Kd.R_elder' (by (with_reducible repeat (first | apply Kd.R_alloc | apply Kd.R_drewN | apply Kd.R_drew)); exact HO_9.out) (Kd.R_base ho0) hb); have n1_ := Aside0.mk (Kd.R_elder' (by (with_reducible repeat (first | apply Kd.R_alloc | apply Kd.R_drewN | apply Kd.R_drew)); exact HO_10.out) (Kd.R_base ho0) hb); have n2_ := Aside0.mk (Kd.R_elder' (by (with_reducible repeat (first | apply Kd.R_alloc | apply Kd.R_drewN | apply Kd.R_drew)); exact HO822.out) (Kd.R_base ho0) hb); have n3_ := Aside0.mk (Kd.R_elder' (by (with_reducible repeat (first | apply Kd.R_alloc | apply Kd.R_drewN | apply Kd.R_drew)); exact HO825.out) (Kd.R_base ho0) hb); have n4_ := Aside0.mk (Kd.R_lower (Kd.R_new' (Kd.R_new' (Kd.R_new' (Kd.R_new' ho0 (Kd.R_lt (by (with_reducible repeat (first | apply Kd.R_alloc | apply Kd.R_drewN | apply Kd.R_drew)); exact HO_9.out))) (Kd.R_lt (by (with_reducible repeat (first | apply Kd.R_alloc | apply Kd.R_drewN | apply Kd.R_drew)); exact HO_10.out))) (Kd.R_lt (by (with_reducible repeat (first | apply Kd.R_alloc | apply Kd.R_drewN | apply Kd.R_drew)); exact HO822.out))) (Kd.R_lt (by (with_reducible repeat (first | apply Kd.R_alloc | apply Kd.R_drewN | apply Kd.R_drew)); exact HO825.out))) (below_size (by repeat (first | (with_reducible first | exact HB.out | apply below_alloc | apply pw_below_drewN | apply below_drew1) | exact HB.out)))); have n5_ := Aside0.mk (below_step (by repeat (first | (with_reducible first | exact HB.out | apply below_alloc | apply pw_below_drewN | apply below_drew1) | exact HB.out)) hb); clear HO_9; clear HO_10; clear HO822; clear HO825; clear HB; have HO_9 := n0_; have HO_10 := n1_; have HO822 := n2_; have HO825 := n3_; have HO828 := n4_; have HB := n5_; clear n0_ n1_ n2_ n3_ n4_ n5_; (try clear hb); (try clear ho0); obtain ⟨Ao70, co70, eo70⟩ := Kd.R_slice HO825.out; subst eo70; obtain ⟨Ao71, co71, eo71⟩ := Kd.R_slice HO828.out; subst eo71) | ((with_reducible refine gate_callee (f := 51) rfl ?_); refine goesL_ (some 99) rfl rfl Try.func51 (by kernel_rfl) rfl #[.int .i64 x13_3, .int .i64 a0, .slice Ao70 t823.length co70, .slice Ao71 t826.length co71, .int .i64 a3] rfl (by (try simp only [List.map_toArray, List.map_cons, List.map_nil]); first | done | rfl) ?_; (with_reducible refine (torrentlaw4_call.calls k3 x13_3 a0 _ _ t823 _ _ t826 a3 t829 _ ?side1 ?side2 ?side3 ?side4 A36.out).mono ?_); (case side1 => repeat (first | exact (Kd.R_reads' HO825.out).2.2 | (with_reducible refine Kd.C_alloc ?_ _) | (with_reducible refine Kd.C_drewN ?_ _) | (with_reducible refine Kd.C_drew ?_))); (case side2 => exact (Kd.R_reads' HO825.out).2.1); (case side3 => repeat (first | exact (Kd.R_reads' HO828.out).2.2 | (with_reducible refine Kd.C_alloc ?_ _) | (with_reducible refine Kd.C_drewN ?_ _) | (with_reducible refine Kd.C_drew ?_))); (case side4 => exact (Kd.R_reads' HO828.out).2.1); rintro e w72 ⟨v830, rfl, ho0, hb⟩; refine ⟨_, rfl, ?_⟩; have n0_ := Aside0.mk (Kd.R_elder' (by (with_reducible repeat (first | apply Kd.R_alloc | apply Kd.R_drewN | apply Kd.R_drew)); exact HO_9.out) (Kd.R_base ho0) hb); have n1_ := Aside0.mk (Kd.R_elder' (by (with_reducible repeat (first | apply Kd.R_alloc | apply Kd.R_drewN | apply Kd.R_drew)); exact HO_10.out) (Kd.R_base ho0) hb); have n2_ := Aside0.mk (Kd.R_elder' (by (with_reducible repeat (first | apply Kd.R_alloc | apply Kd.R_drewN | apply Kd.R_drew)); exact HO822.out) (Kd.R_base ho0) hb); have n3_ := Aside0.mk (Kd.R_elder' (by (with_reducible repeat (first | apply Kd.R_alloc | apply Kd.R_drewN | apply Kd.R_drew)); exact HO825.out) (Kd.R_base ho0) hb); have n4_ := Aside0.mk (Kd.R_elder' (by (with_reducible repeat (first | apply Kd.R_alloc | apply Kd.R_drewN | apply Kd.R_drew)); exact HO828.out) (Kd.R_base ho0) hb); have n5_ := Aside0.mk (Kd.R_lower (Kd.R_new' (Kd.R_new' (Kd.R_new' (Kd.R_new' (Kd.R_new' ho0 (Kd.R_lt (by (with_reducible repeat (first | apply Kd.R_alloc | apply Kd.R_drewN | apply Kd.R_drew)); exact HO_9.out))) (Kd.R_lt (by (with_reducible repeat (first | apply Kd.R_alloc | apply Kd.R_drewN | apply Kd.R_drew)); exact HO_10.out))) (Kd.R_lt (by (with_reducible repeat (first | apply Kd.R_alloc | apply Kd.R_drewN | apply Kd.R_drew)); exact HO822.out))) (Kd.R_lt (by (with_reducible repeat (first | apply Kd.R_alloc | apply Kd.R_drewN | apply Kd.R_drew)); exact HO825.out))) (Kd.R_lt (by (with_reducible repeat (first | apply Kd.R_alloc | apply Kd.R_drewN | apply Kd.R_drew)); exact HO828.out))) (below_size (by repeat (first | (with_reducible first | exact HB.out | apply below_alloc | apply pw_below_drewN | apply below_drew1) | exact HB.out)))); have n6_ := Aside0.mk (below_step (by repeat (first | (with_reducible first | exact HB.out | apply below_alloc | apply pw_below_drewN | apply below_drew1) | exact HB.out)) hb); clear HO_9; clear HO_10; clear HO822; clear HO825; clear HO828; clear HB; have HO_9 := n0_; have HO_10 := n1_; have HO822 := n2_; have HO825 := n3_; have HO828 := n4_; have HO831 := n5_; have HB := n6_; clear n0_ n1_ n2_ n3_ n4_ n5_ n6_; (try clear hb); (try clear ho0); obtain ⟨Ao73, co73, eo73⟩ := Kd.R_slice HO822.out; subst eo73; obtain ⟨Ao74, co74, eo74⟩ := Kd.R_slice HO831.out; subst eo74) | ((with_reducible refine gate_callee (f := 17) rfl ?_); refine goesL_ (some 102) rfl rfl Try.func17 (by kernel_rfl) rfl #[.slice Ao73 t820.length co73, .slice Ao74 t829.length co74] rfl (by (try simp only [List.map_toArray, List.map_cons, List.map_nil]); first | done | rfl) ?_; (with_reducible refine (torrentlaw4_sameBytes.calls k3 _ _ t820 _ _ t829 false _ ?side1 ?side2 ?side3 ?side4 A37.out).mono ?_); (case side1 => repeat (first | exact (Kd.R_reads' HO822.out).2.2 | (with_reducible refine Kd.C_alloc ?_ _) | (with_reducible refine Kd.C_drewN ?_ _) | (with_reducible refine Kd.C_drew ?_))); (case side2 => exact (Kd.R_reads' HO822.out).2.1); (case side3 => repeat (first | exact (Kd.R_reads' HO831.out).2.2 | (with_reducible refine Kd.C_alloc ?_ _) | (with_reducible refine Kd.C_drewN ?_ _) | (with_reducible refine Kd.C_drew ?_))); (case side4 => exact (Kd.R_reads' HO831.out).2.1); rintro e w' ⟨rfl, ⟨nd, rfl⟩⟩; refine ⟨_, rfl, ?_⟩))
                      go_ret
                      exact ⟨by first | rfl | (simp [errW_none, errW_some] <;> rfl) | (simp [*, errW_none, errW_some] <;> rfl), by repeat (first | (with_reducible first | exact HB.out | apply below_alloc | apply pw_below_drewN | apply below_drew1) | exact HB.out)⟩
                  · rw [if_neg c32] at H
                    have c32b0 : decide (x13_3 < 5) = false := decide_eq_false c32
                    clear c32
                    replace H := Option.bind_eq_some_iff.mp H
                    obtain ⟨⟨t835, t836⟩, A750, H⟩ := H
                    replace H : ((torrentlaw4_copied.f k3 l2).bind fun t837 => ((bitset_Get.f k3 a0 t837 a3).bind fun bt840 => ((bitset_Next.f k3 a0 x9_2 a3 true).bind fun bt842 => ((torrentlaw4_copied.f k3 l2).bind fun t844 => ((bitset_Next.f k3 a0 t844 a3 true).bind fun bt847 => ((bitset_Covers.f k3 a0 x9_2 x10_2).bind fun bt849 => ((torrentlaw4_copied.f k3 l2).bind fun t851 => ((torrentlaw4_copied.f k3 l1).bind fun t854 => ((bitset_Covers.f k3 a0 t851 t854).bind fun bt857 => (if (t835 != bt840.1) = true then (torrentlaw4_anew.j3 k3 a0 l1 true) else (if t836 = bt840.2 then (if bt842.1 = bt847.1 then (if bt842.2 = bt847.2 then (if (bt849.1 != bt857.1) = true then (torrentlaw4_anew.j3 k3 a0 l1 true) else (if bt849.2 = bt857.2 then ((bitset_Check.f k3 a0 x9_2).bind fun t859 => (torrentlaw4_anew.j3 k3 a0 l1 (t859 != 0))) else (torrentlaw4_anew.j3 k3 a0 l1 true))) else (torrentlaw4_anew.j3 k3 a0 l1 true)) else (torrentlaw4_anew.j3 k3 a0 l1 true)) else (torrentlaw4_anew.j3 k3 a0 l1 true)))))))))))) = some r := H
                    have A75 := Aside0.mk A750
                    clear A750
                    replace H := Option.bind_eq_some_iff.mp H
                    obtain ⟨t837, A760, H⟩ := H
                    replace H : ((bitset_Get.f k3 a0 t837 a3).bind fun bt840 => ((bitset_Next.f k3 a0 x9_2 a3 true).bind fun bt842 => ((torrentlaw4_copied.f k3 l2).bind fun t844 => ((bitset_Next.f k3 a0 t844 a3 true).bind fun bt847 => ((bitset_Covers.f k3 a0 x9_2 x10_2).bind fun bt849 => ((torrentlaw4_copied.f k3 l2).bind fun t851 => ((torrentlaw4_copied.f k3 l1).bind fun t854 => ((bitset_Covers.f k3 a0 t851 t854).bind fun bt857 => (if (t835 != bt840.1) = true then (torrentlaw4_anew.j3 k3 a0 l1 true) else (if t836 = bt840.2 then (if bt842.1 = bt847.1 then (if bt842.2 = bt847.2 then (if (bt849.1 != bt857.1) = true then (torrentlaw4_anew.j3 k3 a0 l1 true) else (if bt849.2 = bt857.2 then ((bitset_Check.f k3 a0 x9_2).bind fun t859 => (torrentlaw4_anew.j3 k3 a0 l1 (t859 != 0))) else (torrentlaw4_anew.j3 k3 a0 l1 true))) else (torrentlaw4_anew.j3 k3 a0 l1 true)) else (torrentlaw4_anew.j3 k3 a0 l1 true)) else (torrentlaw4_anew.j3 k3 a0 l1 true))))))))))) = some r := H
                    have A76 := Aside0.mk A760
                    clear A760
                    replace H := Option.bind_eq_some_iff.mp H
                    obtain ⟨⟨t840, t841⟩, A770, H⟩ := H
                    replace H : ((bitset_Next.f k3 a0 x9_2 a3 true).bind fun bt842 => ((torrentlaw4_copied.f k3 l2).bind fun t844 => ((bitset_Next.f k3 a0 t844 a3 true).bind fun bt847 => ((bitset_Covers.f k3 a0 x9_2 x10_2).bind fun bt849 => ((torrentlaw4_copied.f k3 l2).bind fun t851 => ((torrentlaw4_copied.f k3 l1).bind fun t854 => ((bitset_Covers.f k3 a0 t851 t854).bind fun bt857 => (if (t835 != t840) = true then (torrentlaw4_anew.j3 k3 a0 l1 true) else (if t836 = t841 then (if bt842.1 = bt847.1 then (if bt842.2 = bt847.2 then (if (bt849.1 != bt857.1) = true then (torrentlaw4_anew.j3 k3 a0 l1 true) else (if bt849.2 = bt857.2 then ((bitset_Check.f k3 a0 x9_2).bind fun t859 => (torrentlaw4_anew.j3 k3 a0 l1 (t859 != 0))) else (torrentlaw4_anew.j3 k3 a0 l1 true))) else (torrentlaw4_anew.j3 k3 a0 l1 true)) else (torrentlaw4_anew.j3 k3 a0 l1 true)) else (torrentlaw4_anew.j3 k3 a0 l1 true)))))))))) = some r := H
                    have A77 := Aside0.mk A770
                    clear A770
                    replace H := Option.bind_eq_some_iff.mp H
                    obtain ⟨⟨t842, t843⟩, A780, H⟩ := H
                    replace H : ((torrentlaw4_copied.f k3 l2).bind fun t844 => ((bitset_Next.f k3 a0 t844 a3 true).bind fun bt847 => ((bitset_Covers.f k3 a0 x9_2 x10_2).bind fun bt849 => ((torrentlaw4_copied.f k3 l2).bind fun t851 => ((torrentlaw4_copied.f k3 l1).bind fun t854 => ((bitset_Covers.f k3 a0 t851 t854).bind fun bt857 => (if (t835 != t840) = true then (torrentlaw4_anew.j3 k3 a0 l1 true) else (if t836 = t841 then (if t842 = bt847.1 then (if t843 = bt847.2 then (if (bt849.1 != bt857.1) = true then (torrentlaw4_anew.j3 k3 a0 l1 true) else (if bt849.2 = bt857.2 then ((bitset_Check.f k3 a0 x9_2).bind fun t859 => (torrentlaw4_anew.j3 k3 a0 l1 (t859 != 0))) else (torrentlaw4_anew.j3 k3 a0 l1 true))) else (torrentlaw4_anew.j3 k3 a0 l1 true)) else (torrentlaw4_anew.j3 k3 a0 l1 true)) else (torrentlaw4_anew.j3 k3 a0 l1 true))))))))) = some r := H
                    have A78 := Aside0.mk A780
                    clear A780
                    replace H := Option.bind_eq_some_iff.mp H
                    obtain ⟨t844, A790, H⟩ := H
                    replace H : ((bitset_Next.f k3 a0 t844 a3 true).bind fun bt847 => ((bitset_Covers.f k3 a0 x9_2 x10_2).bind fun bt849 => ((torrentlaw4_copied.f k3 l2).bind fun t851 => ((torrentlaw4_copied.f k3 l1).bind fun t854 => ((bitset_Covers.f k3 a0 t851 t854).bind fun bt857 => (if (t835 != t840) = true then (torrentlaw4_anew.j3 k3 a0 l1 true) else (if t836 = t841 then (if t842 = bt847.1 then (if t843 = bt847.2 then (if (bt849.1 != bt857.1) = true then (torrentlaw4_anew.j3 k3 a0 l1 true) else (if bt849.2 = bt857.2 then ((bitset_Check.f k3 a0 x9_2).bind fun t859 => (torrentlaw4_anew.j3 k3 a0 l1 (t859 != 0))) else (torrentlaw4_anew.j3 k3 a0 l1 true))) else (torrentlaw4_anew.j3 k3 a0 l1 true)) else (torrentlaw4_anew.j3 k3 a0 l1 true)) else (torrentlaw4_anew.j3 k3 a0 l1 true)))))))) = some r := H
                    have A79 := Aside0.mk A790
                    clear A790
                    replace H := Option.bind_eq_some_iff.mp H
                    obtain ⟨⟨t847, t848⟩, A800, H⟩ := H
                    replace H : ((bitset_Covers.f k3 a0 x9_2 x10_2).bind fun bt849 => ((torrentlaw4_copied.f k3 l2).bind fun t851 => ((torrentlaw4_copied.f k3 l1).bind fun t854 => ((bitset_Covers.f k3 a0 t851 t854).bind fun bt857 => (if (t835 != t840) = true then (torrentlaw4_anew.j3 k3 a0 l1 true) else (if t836 = t841 then (if t842 = t847 then (if t843 = t848 then (if (bt849.1 != bt857.1) = true then (torrentlaw4_anew.j3 k3 a0 l1 true) else (if bt849.2 = bt857.2 then ((bitset_Check.f k3 a0 x9_2).bind fun t859 => (torrentlaw4_anew.j3 k3 a0 l1 (t859 != 0))) else (torrentlaw4_anew.j3 k3 a0 l1 true))) else (torrentlaw4_anew.j3 k3 a0 l1 true)) else (torrentlaw4_anew.j3 k3 a0 l1 true)) else (torrentlaw4_anew.j3 k3 a0 l1 true))))))) = some r := H
                    have A80 := Aside0.mk A800
                    clear A800
                    replace H := Option.bind_eq_some_iff.mp H
                    obtain ⟨⟨t849, t850⟩, A810, H⟩ := H
                    replace H : ((torrentlaw4_copied.f k3 l2).bind fun t851 => ((torrentlaw4_copied.f k3 l1).bind fun t854 => ((bitset_Covers.f k3 a0 t851 t854).bind fun bt857 => (if (t835 != t840) = true then (torrentlaw4_anew.j3 k3 a0 l1 true) else (if t836 = t841 then (if t842 = t847 then (if t843 = t848 then (if (t849 != bt857.1) = true then (torrentlaw4_anew.j3 k3 a0 l1 true) else (if t850 = bt857.2 then ((bitset_Check.f k3 a0 x9_2).bind fun t859 => (torrentlaw4_anew.j3 k3 a0 l1 (t859 != 0))) else (torrentlaw4_anew.j3 k3 a0 l1 true))) else (torrentlaw4_anew.j3 k3 a0 l1 true)) else (torrentlaw4_anew.j3 k3 a0 l1 true)) else (torrentlaw4_anew.j3 k3 a0 l1 true)))))) = some r := H
                    have A81 := Aside0.mk A810
                    clear A810
                    replace H := Option.bind_eq_some_iff.mp H
                    obtain ⟨t851, A820, H⟩ := H
                    replace H : ((torrentlaw4_copied.f k3 l1).bind fun t854 => ((bitset_Covers.f k3 a0 t851 t854).bind fun bt857 => (if (t835 != t840) = true then (torrentlaw4_anew.j3 k3 a0 l1 true) else (if t836 = t841 then (if t842 = t847 then (if t843 = t848 then (if (t849 != bt857.1) = true then (torrentlaw4_anew.j3 k3 a0 l1 true) else (if t850 = bt857.2 then ((bitset_Check.f k3 a0 x9_2).bind fun t859 => (torrentlaw4_anew.j3 k3 a0 l1 (t859 != 0))) else (torrentlaw4_anew.j3 k3 a0 l1 true))) else (torrentlaw4_anew.j3 k3 a0 l1 true)) else (torrentlaw4_anew.j3 k3 a0 l1 true)) else (torrentlaw4_anew.j3 k3 a0 l1 true))))) = some r := H
                    have A82 := Aside0.mk A820
                    clear A820
                    replace H := Option.bind_eq_some_iff.mp H
                    obtain ⟨t854, A830, H⟩ := H
                    replace H : ((bitset_Covers.f k3 a0 t851 t854).bind fun bt857 => (if (t835 != t840) = true then (torrentlaw4_anew.j3 k3 a0 l1 true) else (if t836 = t841 then (if t842 = t847 then (if t843 = t848 then (if (t849 != bt857.1) = true then (torrentlaw4_anew.j3 k3 a0 l1 true) else (if t850 = bt857.2 then ((bitset_Check.f k3 a0 x9_2).bind fun t859 => (torrentlaw4_anew.j3 k3 a0 l1 (t859 != 0))) else (torrentlaw4_anew.j3 k3 a0 l1 true))) else (torrentlaw4_anew.j3 k3 a0 l1 true)) else (torrentlaw4_anew.j3 k3 a0 l1 true)) else (torrentlaw4_anew.j3 k3 a0 l1 true)))) = some r := H
                    have A83 := Aside0.mk A830
                    clear A830
                    replace H := Option.bind_eq_some_iff.mp H
                    obtain ⟨⟨t857, t858⟩, A840, H⟩ := H
                    replace H : (if (t835 != t840) = true then (torrentlaw4_anew.j3 k3 a0 l1 true) else (if t836 = t841 then (if t842 = t847 then (if t843 = t848 then (if (t849 != t857) = true then (torrentlaw4_anew.j3 k3 a0 l1 true) else (if t850 = t858 then ((bitset_Check.f k3 a0 x9_2).bind fun t859 => (torrentlaw4_anew.j3 k3 a0 l1 (t859 != 0))) else (torrentlaw4_anew.j3 k3 a0 l1 true))) else (torrentlaw4_anew.j3 k3 a0 l1 true)) else (torrentlaw4_anew.j3 k3 a0 l1 true)) else (torrentlaw4_anew.j3 k3 a0 l1 true))) = some r := H
                    have A84 := Aside0.mk A840
                    clear A840
                    have HC85 := Aside0.mk H
                    clear H
                    go_upto_region 28 with (first | ((with_reducible refine gate_callee (f := 31) rfl ?_); refine goesL_ (some 120) rfl rfl Try.func31 (by kernel_rfl) rfl #[.int .i64 a0, .slice Ao17 x9_2.length co17, .int .i64 a3] rfl (by (try simp only [List.map_toArray, List.map_cons, List.map_nil]); first | done | rfl) ?_; (with_reducible refine (bitset_Get.calls k3 a0 _ _ x9_2 a3 t835 t836 _ ?side1 ?side2 A75.out).mono ?_); (case side1 => repeat (first | exact (Kd.R_reads' HO_9.out).2.2 | (with_reducible refine Kd.C_alloc ?_ _) | (with_reducible refine Kd.C_drewN ?_ _) | (with_reducible refine Kd.C_drew ?_))); (case side2 => exact (Kd.R_reads' HO_9.out).2.1); rintro e w86 ⟨rfl, hb⟩; refine ⟨_, rfl, ?_⟩; have n0_ := Aside0.mk (Kd.R_below (by (with_reducible repeat (first | apply Kd.R_alloc | apply Kd.R_drewN | apply Kd.R_drew)); exact HO_9.out) hb); have n1_ := Aside0.mk (Kd.R_below (by (with_reducible repeat (first | apply Kd.R_alloc | apply Kd.R_drewN | apply Kd.R_drew)); exact HO_10.out) hb); have n2_ := Aside0.mk (below_step (by repeat (first | (with_reducible first | exact HB.out | apply below_alloc | apply pw_below_drewN | apply below_drew1) | exact HB.out)) hb); clear HO_9; clear HO_10; clear HB; have HO_9 := n0_; have HO_10 := n1_; have HB := n2_; clear n0_ n1_ n2_; (try clear hb)) | ((with_reducible refine gate_callee (f := 24) rfl ?_); refine goesL_ (some 126) rfl rfl Try.func24 (by kernel_rfl) rfl #[.slice A2 l2.length c2] rfl (by (try simp only [List.map_toArray, List.map_cons, List.map_nil]); first | done | rfl) ?_; (with_reducible refine (torrentlaw4_copied.calls k3 _ _ l2 t837 _ ?side1 ?side2 A76.out).mono ?_); (case side1 => repeat (first | exact (Kd.C_below HR2.out HB.out) | (with_reducible refine Kd.C_alloc ?_ _) | (with_reducible refine Kd.C_drewN ?_ _) | (with_reducible refine Kd.C_drew ?_))); (case side2 => exact HC2.out); rintro e w87 ⟨v838, rfl, ho0, hb⟩; refine ⟨_, rfl, ?_⟩; have n0_ := Aside0.mk (Kd.R_elder' (by (with_reducible repeat (first | apply Kd.R_alloc | apply Kd.R_drewN | apply Kd.R_drew)); exact HO_9.out) (Kd.R_base ho0) hb); have n1_ := Aside0.mk (Kd.R_elder' (by (with_reducible repeat (first | apply Kd.R_alloc | apply Kd.R_drewN | apply Kd.R_drew)); exact HO_10.out) (Kd.R_base ho0) hb); have n2_ := Aside0.mk (Kd.R_lower (Kd.R_new' (Kd.R_new' ho0 (Kd.R_lt (by (with_reducible repeat (first | apply Kd.R_alloc | apply Kd.R_drewN | apply Kd.R_drew)); exact HO_9.out))) (Kd.R_lt (by (with_reducible repeat (first | apply Kd.R_alloc | apply Kd.R_drewN | apply Kd.R_drew)); exact HO_10.out))) (below_size (by repeat (first | (with_reducible first | exact HB.out | apply below_alloc | apply pw_below_drewN | apply below_drew1) | exact HB.out)))); have n3_ := Aside0.mk (below_step (by repeat (first | (with_reducible first | exact HB.out | apply below_alloc | apply pw_below_drewN | apply below_drew1) | exact HB.out)) hb); clear HO_9; clear HO_10; clear HB; have HO_9 := n0_; have HO_10 := n1_; have HO839 := n2_; have HB := n3_; clear n0_ n1_ n2_ n3_; (try clear hb); (try clear ho0); obtain ⟨Ao88, co88, eo88⟩ := Kd.R_slice HO839.out; subst eo88) | ((with_reducible refine gate_callee (f := 31) rfl ?_); refine goesL_ (some 128) rfl rfl Try.func31 (by kernel_rfl) rfl #[.int .i64 a0, .slice Ao88 t837.length co88, .int .i64 a3] rfl (by (try simp only [List.map_toArray, List.map_cons, List.map_nil]); first | done | rfl) ?_; (with_reducible refine (bitset_Get.calls k3 a0 _ _ t837 a3 t840 t841 _ ?side1 ?side2 A77.out).mono ?_); (case side1 => repeat (first | exact (Kd.R_reads' HO839.out).2.2 | (with_reducible refine Kd.C_alloc ?_ _) | (with_reducible refine Kd.C_drewN ?_ _) | (with_reducible refine Kd.C_drew ?_))); (case side2 => exact (Kd.R_reads' HO839.out).2.1); rintro e w89 ⟨rfl, hb⟩; refine ⟨_, rfl, ?_⟩; have n0_ := Aside0.mk (Kd.R_below (by (with_reducible repeat (first | apply Kd.R_alloc | apply Kd.R_drewN | apply Kd.R_drew)); exact HO_9.out) hb); have n1_ := Aside0.mk (Kd.R_below (by (with_reducible repeat (first | apply Kd.R_alloc | apply Kd.R_drewN | apply Kd.R_drew)); exact HO_10.out) hb); have n2_ := Aside0.mk (Kd.R_below (by (with_reducible repeat (first | apply Kd.R_alloc | apply Kd.R_drewN | apply Kd.R_drew)); exact HO839.out) hb); have n3_ := Aside0.mk (below_step (by repeat (first | (with_reducible first | exact HB.out | apply below_alloc | apply pw_below_drewN | apply below_drew1) | exact HB.out)) hb); clear HO_9; clear HO_10; clear HO839; clear HB; have HO_9 := n0_; have HO_10 := n1_; have HO839 := n2_; have HB := n3_; clear n0_ n1_ n2_ n3_; (try clear hb)) | ((with_reducible refine gate_callee (f := 26) rfl ?_); refine goesL_ (some 135) rfl rfl Try.func26 (by kernel_rfl) rfl #[.int .i64 a0, .slice Ao17 x9_2.length co17, .int .i64 a3, .bool true] rfl (by (try simp only [List.map_toArray, List.map_cons, List.map_nil]); first | done | rfl) ?_; (with_reducible refine (bitset_Next.calls k3 a0 _ _ x9_2 a3 true t842 t843 _ ?side1 ?side2 A78.out).mono ?_); (case side1 => repeat (first | exact (Kd.R_reads' HO_9.out).2.2 | (with_reducible refine Kd.C_alloc ?_ _) | (with_reducible refine Kd.C_drewN ?_ _) | (with_reducible refine Kd.C_drew ?_))); (case side2 => exact (Kd.R_reads' HO_9.out).2.1); rintro e w90 ⟨rfl, hb⟩; refine ⟨_, rfl, ?_⟩; have n0_ := Aside0.mk (Kd.R_below (by (with_reducible repeat (first | apply Kd.R_alloc | apply Kd.R_drewN | apply Kd.R_drew)); exact HO_9.out) hb); have n1_ := Aside0.mk (Kd.R_below (by (with_reducible repeat (first | apply Kd.R_alloc | apply Kd.R_drewN | apply Kd.R_drew)); exact HO_10.out) hb); have n2_ := Aside0.mk (Kd.R_below (by (with_reducible repeat (first | apply Kd.R_alloc | apply Kd.R_drewN | apply Kd.R_drew)); exact HO839.out) hb); have n3_ := Aside0.mk (below_step (by repeat (first | (with_reducible first | exact HB.out | apply below_alloc | apply pw_below_drewN | apply below_drew1) | exact HB.out)) hb); clear HO_9; clear HO_10; clear HO839; clear HB; have HO_9 := n0_; have HO_10 := n1_; have HO839 := n2_; have HB := n3_; clear n0_ n1_ n2_ n3_; (try clear hb)) | ((with_reducible refine gate_callee (f := 24) rfl ?_); refine goesL_ (some 141) rfl rfl Try.func24 (by kernel_rfl) rfl #[.slice A2 l2.length c2] rfl (by (try simp only [List.map_toArray, List.map_cons, List.map_nil]); first | done | rfl) ?_; (with_reducible refine (torrentlaw4_copied.calls k3 _ _ l2 t844 _ ?side1 ?side2 A79.out).mono ?_); (case side1 => repeat (first | exact (Kd.C_below HR2.out HB.out) | (with_reducible refine Kd.C_alloc ?_ _) | (with_reducible refine Kd.C_drewN ?_ _) | (with_reducible refine Kd.C_drew ?_))); (case side2 => exact HC2.out); rintro e w91 ⟨v845, rfl, ho0, hb⟩; refine ⟨_, rfl, ?_⟩; have n0_ := Aside0.mk (Kd.R_elder' (by (with_reducible repeat (first | apply Kd.R_alloc | apply Kd.R_drewN | apply Kd.R_drew)); exact HO_9.out) (Kd.R_base ho0) hb); have n1_ := Aside0.mk (Kd.R_elder' (by (with_reducible repeat (first | apply Kd.R_alloc | apply Kd.R_drewN | apply Kd.R_drew)); exact HO_10.out) (Kd.R_base ho0) hb); have n2_ := Aside0.mk (Kd.R_elder' (by (with_reducible repeat (first | apply Kd.R_alloc | apply Kd.R_drewN | apply Kd.R_drew)); exact HO839.out) (Kd.R_base ho0) hb); have n3_ := Aside0.mk (Kd.R_lower (Kd.R_new' (Kd.R_new' (Kd.R_new' ho0 (Kd.R_lt (by (with_reducible repeat (first | apply Kd.R_alloc | apply Kd.R_drewN | apply Kd.R_drew)); exact HO_9.out))) (Kd.R_lt (by (with_reducible repeat (first | apply Kd.R_alloc | apply Kd.R_drewN | apply Kd.R_drew)); exact HO_10.out))) (Kd.R_lt (by (with_reducible repeat (first | apply Kd.R_alloc | apply Kd.R_drewN | apply Kd.R_drew)); exact HO839.out))) (below_size (by repeat (first | (with_reducible first | exact HB.out | apply below_alloc | apply pw_below_drewN | apply below_drew1) | exact HB.out)))); have n4_ := Aside0.mk (below_step (by repeat (first | (with_reducible first | exact HB.out | apply below_alloc | apply pw_below_drewN | apply below_drew1) | exact HB.out)) hb); clear HO_9; clear HO_10; clear HO839; clear HB; have HO_9 := n0_; have HO_10 := n1_; have HO839 := n2_; have HO846 := n3_; have HB := n4_; clear n0_ n1_ n2_ n3_ n4_; (try clear hb); (try clear ho0); obtain ⟨Ao92, co92, eo92⟩ := Kd.R_slice HO846.out; subst eo92) | ((with_reducible refine gate_callee (f := 26) rfl ?_); refine goesL_ (some 143) rfl rfl Try.func26 (by kernel_rfl) rfl #[.int .i64 a0, .slice Ao92 t844.length co92, .int .i64 a3, .bool true] rfl (by (try simp only [List.map_toArray, List.map_cons, List.map_nil]); first | done | rfl) ?_; (with_reducible refine (bitset_Next.calls k3 a0 _ _ t844 a3 true t847 t848 _ ?side1 ?side2 A80.out).mono ?_); (case side1 => repeat (first | exact (Kd.R_reads' HO846.out).2.2 | (with_reducible refine Kd.C_alloc ?_ _) | (with_reducible refine Kd.C_drewN ?_ _) | (with_reducible refine Kd.C_drew ?_))); (case side2 => exact (Kd.R_reads' HO846.out).2.1); rintro e w93 ⟨rfl, hb⟩; refine ⟨_, rfl, ?_⟩; have n0_ := Aside0.mk (Kd.R_below (by (with_reducible repeat (first | apply Kd.R_alloc | apply Kd.R_drewN | apply Kd.R_drew)); exact HO_9.out) hb); have n1_ := Aside0.mk (Kd.R_below (by (with_reducible repeat (first | apply Kd.R_alloc | apply Kd.R_drewN | apply Kd.R_drew)); exact HO_10.out) hb); have n2_ := Aside0.mk (Kd.R_below (by (with_reducible repeat (first | apply Kd.R_alloc | apply Kd.R_drewN | apply Kd.R_drew)); exact HO839.out) hb); have n3_ := Aside0.mk (Kd.R_below (by (with_reducible repeat (first | apply Kd.R_alloc | apply Kd.R_drewN | apply Kd.R_drew)); exact HO846.out) hb); have n4_ := Aside0.mk (below_step (by repeat (first | (with_reducible first | exact HB.out | apply below_alloc | apply pw_below_drewN | apply below_drew1) | exact HB.out)) hb); clear HO_9; clear HO_10; clear HO839; clear HO846; clear HB; have HO_9 := n0_; have HO_10 := n1_; have HO839 := n2_; have HO846 := n3_; have HB := n4_; clear n0_ n1_ n2_ n3_ n4_; (try clear hb)) | ((with_reducible refine gate_callee (f := 46) rfl ?_); refine goesL_ (some 150) rfl rfl Try.func46 (by kernel_rfl) rfl #[.int .i64 a0, .slice Ao17 x9_2.length co17, .slice Ao20 x10_2.length co20] rfl (by (try simp only [List.map_toArray, List.map_cons, List.map_nil]); first | done | rfl) ?_; (with_reducible refine (bitset_Covers.calls k3 a0 _ _ x9_2 _ _ x10_2 t849 t850 _ ?side1 ?side2 ?side3 ?side4 A81.out).mono ?_); (case side1 => repeat (first | exact (Kd.R_reads' HO_9.out).2.2 | (with_reducible refine Kd.C_alloc ?_ _) | (with_reducible refine Kd.C_drewN ?_ _) | (with_reducible refine Kd.C_drew ?_))); (case side2 => exact (Kd.R_reads' HO_9.out).2.1); (case side3 => repeat (first | exact (Kd.R_reads' HO_10.out).2.2 | (with_reducible refine Kd.C_alloc ?_ _) | (with_reducible refine Kd.C_drewN ?_ _) | (with_reducible refine Kd.C_drew ?_))); (case side4 => exact (Kd.R_reads' HO_10.out).2.1); rintro e w' ⟨rfl, ⟨nd, rfl⟩⟩; refine ⟨_, rfl, ?_⟩) | ((with_reducible refine gate_callee (f := 24) rfl ?_); refine goesL_ (some 156) rfl rfl Try.func24 (by kernel_rfl) rfl #[.slice A2 l2.length c2] rfl (by (try simp only [List.map_toArray, List.map_cons, List.map_nil]); first | done | rfl) ?_; (with_reducible refine (torrentlaw4_copied.calls k3 _ _ l2 t851 _ ?side1 ?side2 A82.out).mono ?_); (case side1 => repeat (first | exact (Kd.C_below HR2.out (by repeat (first | (with_reducible first | exact HB.out | apply below_alloc | apply pw_below_drewN | apply below_drew1) | exact HB.out))) | (with_reducible refine Kd.C_alloc ?_ _) | (with_reducible refine Kd.C_drewN ?_ _) | (with_reducible refine Kd.C_drew ?_))); (case side2 => exact HC2.out); rintro e w94 ⟨v852, rfl, ho0, hb⟩; refine ⟨_, rfl, ?_⟩; have n0_ := Aside0.mk (Kd.R_elder' (by (with_reducible repeat (first | apply Kd.R_alloc | apply Kd.R_drewN | apply Kd.R_drew)); exact HO_9.out) (Kd.R_base ho0) hb); have n1_ := Aside0.mk (Kd.R_elder' (by (with_reducible repeat (first | apply Kd.R_alloc | apply Kd.R_drewN | apply Kd.R_drew)); exact HO_10.out) (Kd.R_base ho0) hb); have n2_ := Aside0.mk (Kd.R_elder' (by (with_reducible repeat (first | apply Kd.R_alloc | apply Kd.R_drewN | apply Kd.R_drew)); exact HO839.out) (Kd.R_base ho0) hb); have n3_ := Aside0.mk (Kd.R_elder' (by (with_reducible repeat (first | apply Kd.R_alloc | apply Kd.R_drewN | apply Kd.R_drew)); exact HO846.out) (Kd.R_base ho0) hb); have n4_ := Aside0.mk (Kd.R_lower (Kd.R_new' (Kd.R_new' (Kd.R_new' (Kd.R_new' ho0 (Kd.R_lt (by (with_reducible repeat (first | apply Kd.R_alloc | apply Kd.R_drewN | apply Kd.R_drew)); exact HO_9.out))) (Kd.R_lt (by (with_reducible repeat (first | apply Kd.R_alloc | apply Kd.R_drewN | apply Kd.R_drew)); exact HO_10.out))) (Kd.R_lt (by (with_reducible repeat (first | apply Kd.R_alloc | apply Kd.R_drewN | apply Kd.R_drew)); exact HO839.out))) (Kd.R_lt (by (with_reducible repeat (first | apply Kd.R_alloc | apply Kd.R_drewN | apply Kd.R_drew)); exact HO846.out))) (below_size (by repeat (first | (with_reducible first | exact HB.out | apply below_alloc | apply pw_below_drewN | apply below_drew1) | exact HB.out)))); have n5_ := Aside0.mk (below_step (by repeat (first | (with_reducible first | exact HB.out | apply below_alloc | apply pw_below_drewN | apply below_drew1) | exact HB.out)) hb); clear HO_9; clear HO_10; clear HO839; clear HO846; clear HB; have HO_9 := n0_; have HO_10 := n1_; have HO839 := n2_; have HO846 := n3_; have HO853 := n4_; have HB := n5_; clear n0_ n1_ n2_ n3_ n4_ n5_; (try clear hb); (try clear ho0)) | ((with_reducible refine gate_callee (f := 24) rfl ?_); refine goesL_ (some 158) rfl rfl Try.func24 (by kernel_rfl) rfl #[.slice A1 l1.length c1] rfl (by (try simp only [List.map_toArray, List.map_cons, List.map_nil]); first | done | rfl) ?_; (with_reducible refine (torrentlaw4_copied.calls k3 _ _ l1 t854 _ ?side1 ?side2 A83.out).mono ?_); (case side1 => repeat (first | exact (Kd.C_below HR1.out HB.out) | (with_reducible refine Kd.C_alloc ?_ _) | (with_reducible refine Kd.C_drewN ?_ _) | (with_reducible refine Kd.C_drew ?_))); (case side2 => exact HC1.out); rintro e w95 ⟨v855, rfl, ho0, hb⟩; refine ⟨_, rfl, ?_⟩; have n0_ := Aside0.mk (Kd.R_elder' (by (with_reducible repeat (first | apply Kd.R_alloc | apply Kd.R_drewN | apply Kd.R_drew)); exact HO_9.out) (Kd.R_base ho0) hb); have n1_ := Aside0.mk (Kd.R_elder' (by (with_reducible repeat (first | apply Kd.R_alloc | apply Kd.R_drewN | apply Kd.R_drew)); exact HO_10.out) (Kd.R_base ho0) hb); have n2_ := Aside0.mk (Kd.R_elder' (by (with_reducible repeat (first | apply Kd.R_alloc | apply Kd.R_drewN | apply Kd.R_drew)); exact HO839.out) (Kd.R_base ho0) hb); have n3_ := Aside0.mk (Kd.R_elder' (by (with_reducible repeat (first | apply Kd.R_alloc | apply Kd.R_drewN | apply Kd.R_drew)); exact HO846.out) (Kd.R_base ho0) hb); have n4_ := Aside0.mk (Kd.R_elder' (by (with_reducible repeat (first | apply Kd.R_alloc | apply Kd.R_drewN | apply Kd.R_drew)); exact HO853.out) (Kd.R_base ho0) hb); have n5_ := Aside0.mk (Kd.R_lower (Kd.R_new' (Kd.R_new' (Kd.R_new' (Kd.R_new' (Kd.R_new' ho0 (Kd.R_lt (by (with_reducible repeat (first | apply Kd.R_alloc | apply Kd.R_drewN | apply Kd.R_drew)); exact HO_9.out))) (Kd.R_lt (by (with_reducible repeat (first | apply Kd.R_alloc | apply Kd.R_drewN | apply Kd.R_drew)); exact HO_10.out))) (Kd.R_lt (by (with_reducible repeat (first | apply Kd.R_alloc | apply Kd.R_drewN | apply Kd.R_drew)); exact HO839.out))) (Kd.R_lt (by (with_reducible repeat (first | apply Kd.R_alloc | apply Kd.R_drewN | apply Kd.R_drew)); exact HO846.out))) (Kd.R_lt (by (with_reducible repeat (first | apply Kd.R_alloc | apply Kd.R_drewN | apply Kd.R_drew)); exact HO853.out))) (below_size (by repeat (first | (with_reducible first | exact HB.out | apply below_alloc | apply pw_below_drewN | apply below_drew1) | exact HB.out)))); have n6_ := Aside0.mk (below_step (by repeat (first | (with_reducible first | exact HB.out | apply below_alloc | apply pw_below_drewN | apply below_drew1) | exact HB.out)) hb); clear HO_9; clear HO_10; clear HO839; clear HO846; clear HO853; clear HB; have HO_9 := n0_; have HO_10 := n1_; have HO839 := n2_; have HO846 := n3_; have HO853 := n4_; have HO856 := n5_; have HB := n6_; clear n0_ n1_ n2_ n3_ n4_ n5_ n6_; (try clear hb); (try clear ho0); obtain ⟨Ao96, co96, eo96⟩ := Kd.R_slice HO853.out; subst eo96; obtain ⟨Ao97, co97, eo97⟩ := Kd.R_slice HO856.out; subst eo97) | ((with_reducible refine gate_callee (f := 46) rfl ?_); refine goesL_ (some 159) rfl rfl Try.func46 (by kernel_rfl) rfl #[.int .i64 a0, .slice Ao96 t851.length co96, .slice Ao97 t854.length co97] rfl (by (try simp only [List.map_toArray, List.map_cons, List.map_nil]); first | done | rfl) ?_; (with_reducible refine (bitset_Covers.calls k3 a0 _ _ t851 _ _ t854 t857 t858 _ ?side1 ?side2 ?side3 ?side4 A84.out).mono ?_); (case side1 => repeat (first | exact (Kd.R_reads' HO853.out).2.2 | (with_reducible refine Kd.C_alloc ?_ _) | (with_reducible refine Kd.C_drewN ?_ _) | (with_reducible refine Kd.C_drew ?_))); (case side2 => exact (Kd.R_reads' HO853.out).2.1); (case side3 => repeat (first | exact (Kd.R_reads' HO856.out).2.2 | (with_reducible refine Kd.C_alloc ?_ _) | (with_reducible refine Kd.C_drewN ?_ _) | (with_reducible refine Kd.C_drew ?_))); (case side4 => exact (Kd.R_reads' HO856.out).2.1); rintro e w' ⟨rfl, ⟨nd, rfl⟩⟩; refine ⟨_, rfl, ?_⟩))
                    (try simp only [Act.put, List.setIfInBounds_toArray, List.set_cons_zero, List.set_cons_succ])
                    go_cut [195] (fun v195 wc => ∃ (kq : Nat) (x195_84 : Bool), v195 = .bool x195_84 ∧ Aside0 (torrentlaw4_anew.j3 kq a0 l1 x195_84 = some r) ∧ Aside0 (kq ≤ k3) ∧ Aside0 (Below w.heap.size w wc))
                    case first =>
                      have H := HC85.out
                      clear HC85
                      by_cases c98 : (t835 != t840) = true
                      · rw [if_pos c98] at H
                        have c98b0 : (t835 != t840) = true := c98
                        (try (have c98b1 : decide (t835 = t840) = false := by simpa using c98))
                        (try (have c98b2 : (t835 == t840) = false := by simpa using c98))
                        (try (have c98b3 : ¬ (t835 = t840) := by simpa using c98))
                        clear c98
                        (first | rw [c98b0] | (simp only [i64_w, i32_w]; rw [c98b0]) | skip)
                        have H' := Aside0.mk H
                        clear H
                        go_wp2
                        go_meet
                        case rel => exact ⟨_, (true), (by first | rfl | (simp; done) | (simp [*]; done)), H', ⟨by have := HK1.out; have := HK2.out; have := HK3.out; first | omega | exact Nat.le_refl _⟩, ⟨by repeat (first | (with_reducible first | exact HB.out | apply below_alloc | apply pw_below_drewN | apply below_drew1) | exact HB.out)⟩⟩
                      · rw [if_neg c98] at H
                        have c98b0 : (t835 != t840) = false := by simpa using c98
                        (try (have c98b1 : decide (t835 = t840) = true := by simpa using c98))
                        (try (have c98b2 : (t835 == t840) = true := by simpa using c98))
                        clear c98
                        (first | rw [c98b0] | (simp only [i64_w, i32_w]; rw [c98b0]) | skip)
                        by_cases c99 : t836 = t841
                        · rw [if_pos c99] at H
                          have c99b0 : (t836 == t841) = true := beq_iff_eq.mpr c99
                          have c99b1 : (t836 != t841) = false := bne_eq_false_iff_eq.mpr c99
                          clear c99
                          by_cases c100 : t842 = t847
                          · rw [if_pos c100] at H
                            have c100b0 : (t842 == t847) = true := beq_iff_eq.mpr c100
                            have c100b1 : (t842 != t847) = false := bne_eq_false_iff_eq.mpr c100
                            clear c100
                            by_cases c101 : t843 = t848
                            · rw [if_pos c101] at H
                              have c101b0 : (t843 == t848) = true := beq_iff_eq.mpr c101
                              have c101b1 : (t843 != t848) = false := bne_eq_false_iff_eq.mpr c101
                              clear c101
                              by_cases c102 : (t849 != t857) = true
                              · rw [if_pos c102] at H
                                have c102b0 : (t849 != t857) = true := c102
                                (try (have c102b1 : decide (t849 = t857) = false := by simpa using c102))
                                (try (have c102b2 : (t849 == t857) = false := by simpa using c102))
                                (try (have c102b3 : ¬ (t849 = t857) := by simpa using c102))
                                clear c102
                                have H' := Aside0.mk H
                                clear H
                                go_wp2
                                go_meet
                                case rel => exact ⟨_, (true), (by first | rfl | (simp; done) | (simp [*]; done)), H', ⟨by have := HK1.out; have := HK2.out; have := HK3.out; first | omega | exact Nat.le_refl _⟩, ⟨by repeat (first | (with_reducible first | exact HB.out | apply below_alloc | apply pw_below_drewN | apply below_drew1) | exact HB.out)⟩⟩
                              · rw [if_neg c102] at H
                                have c102b0 : (t849 != t857) = false := by simpa using c102
                                (try (have c102b1 : decide (t849 = t857) = true := by simpa using c102))
                                (try (have c102b2 : (t849 == t857) = true := by simpa using c102))
                                clear c102
                                by_cases c103 : t850 = t858
                                · rw [if_pos c103] at H
                                  have c103b0 : (t850 == t858) = true := beq_iff_eq.mpr c103
                                  have c103b1 : (t850 != t858) = false := bne_eq_false_iff_eq.mpr c103
                                  clear c103
                                  replace H := Option.bind_eq_some_iff.mp H
                                  obtain ⟨t859, A1040, H⟩ := H
                                  replace H : (torrentlaw4_anew.j3 k3 a0 l1 (t859 != 0)) = some r := H
                                  have A104 := Aside0.mk A1040
                                  clear A1040
                                  have H' := Aside0.mk H
                                  clear H
                                  go_wp2_with (first | (go_at_call 48; (with_reducible refine (bitset_Check.calls k3 a0 _ _ x9_2 t859 _ ?side1 ?side2 A104.out).mono ?_); (case side1 => repeat (first | exact (Kd.R_reads' HO_9.out).2.2 | (with_reducible refine Kd.C_alloc ?_ _) | (with_reducible refine Kd.C_drewN ?_ _) | (with_reducible refine Kd.C_drew ?_))); (case side2 => exact (Kd.R_reads' HO_9.out).2.1); rintro e w' ⟨rfl, ⟨nd, rfl⟩⟩))
                                  go_meet
                                  case rel => exact ⟨_, ((t859 != 0)), (by first | rfl | (simp; done) | (simp [*]; done)), H', ⟨by have := HK1.out; have := HK2.out; have := HK3.out; first | omega | exact Nat.le_refl _⟩, ⟨by repeat (first | (with_reducible first | exact HB.out | apply below_alloc | apply pw_below_drewN | apply below_drew1) | exact HB.out)⟩⟩
                                · rw [if_neg c103] at H
                                  have c103b0 : (t850 == t858) = false := beq_eq_false_iff_ne.mpr c103
                                  have c103b1 : (t850 != t858) = true := bne_iff_ne.mpr c103
                                  have H' := Aside0.mk H
                                  clear H
                                  go_wp2
                                  go_meet
                                  case rel => exact ⟨_, (true), (by first | rfl | (simp; done) | (simp [*]; done)), H', ⟨by have := HK1.out; have := HK2.out; have := HK3.out; first | omega | exact Nat.le_refl _⟩, ⟨by repeat (first | (with_reducible first | exact HB.out | apply below_alloc | apply pw_below_drewN | apply below_drew1) | exact HB.out)⟩⟩
                            · rw [if_neg c101] at H
                              have c101b0 : (t843 == t848) = false := beq_eq_false_iff_ne.mpr c101
                              have c101b1 : (t843 != t848) = true := bne_iff_ne.mpr c101
                              have H' := Aside0.mk H
                              clear H
                              go_wp2
                              go_meet
                              case rel => exact ⟨_, (true), (by first | rfl | (simp; done) | (simp [*]; done)), H', ⟨by have := HK1.out; have := HK2.out; have := HK3.out; first | omega | exact Nat.le_refl _⟩, ⟨by repeat (first | (with_reducible first | exact HB.out | apply below_alloc | apply pw_below_drewN | apply below_drew1) | exact HB.out)⟩⟩
                          · rw [if_neg c100] at H
                            have c100b0 : (t842 == t847) = false := beq_eq_false_iff_ne.mpr c100
                            have c100b1 : (t842 != t847) = true := bne_iff_ne.mpr c100
                            have H' := Aside0.mk H
                            clear H
                            go_wp2
                            go_meet
                            case rel => exact ⟨_, (true), (by first | rfl | (simp; done) | (simp [*]; done)), H', ⟨by have := HK1.out; have := HK2.out; have := HK3.out; first | omega | exact Nat.le_refl _⟩, ⟨by repeat (first | (with_reducible first | exact HB.out | apply below_alloc | apply pw_below_drewN | apply below_drew1) | exact HB.out)⟩⟩
                        · rw [if_neg c99] at H
                          have c99b0 : (t836 == t841) = false := beq_eq_false_iff_ne.mpr c99
                          have c99b1 : (t836 != t841) = true := bne_iff_ne.mpr c99
                          have H' := Aside0.mk H
                          clear H
                          go_wp2
                          go_meet
                          case rel => exact ⟨_, (true), (by first | rfl | (simp; done) | (simp [*]; done)), H', ⟨by have := HK1.out; have := HK2.out; have := HK3.out; first | omega | exact Nat.le_refl _⟩, ⟨by repeat (first | (with_reducible first | exact HB.out | apply below_alloc | apply pw_below_drewN | apply below_drew1) | exact HB.out)⟩⟩
                    case rest =>
                      clear HC85
                      try clear c1
                      try clear c2
                      try clear p2
                      try clear q2
                      try clear hx2
                      try clear c3
                      try clear c4
                      try clear c5
                      try clear p6
                      try clear p8
                      try clear q8
                      try clear hx8
                      try clear c9
                      try clear c9b0
                      try clear c10
                      try clear c17
                      try clear c21
                      try clear c21b0
                      try clear c22
                      try clear c22b0
                      try clear c23
                      try clear c23b0
                      try clear c24
                      try clear c24b0
                      try clear p25
                      try clear q25
                      try clear hx25
                      try clear hf25
                      try clear c26
                      try clear c26b0
                      try clear p27
                      try clear q27
                      try clear hx27
                      try clear hf27
                      try clear c31
                      try clear c32
                      try clear c32b0
                      try clear c38
                      try clear c40
                      try clear c42
                      try clear c46
                      try clear c51
                      try clear c55
                      try clear p64
                      try clear p81
                      try clear q81
                      try clear hx81
                      try clear c98
                      try clear c98b0
                      try clear c98b1
                      try clear c98b2
                      try clear c99
                      try clear c99b0
                      try clear c99b1
                      try clear c100
                      try clear c100b0
                      try clear c100b1
                      try clear c101
                      try clear c101b0
                      try clear c101b1
                      try clear c102
                      try clear c102b0
                      try clear c102b1
                      try clear c102b2
                      try clear c103
                      try clear c103b0
                      try clear c103b1
                      try clear hx25_0
                      try clear hx27_0
                      try clear hx816_0
                      try clear hx818_0
                      try clear p2
                      try clear p25
                      try clear p27
                      try clear p6
                      try clear p8
                      try clear p816
                      try clear p818
                      try clear q2
                      try clear q25
                      try clear q27
                      try clear q8
                      try clear q816
                      try clear q818
                      obtain ⟨kq, x195_84, rfl, HA, HJ84, HB⟩ := hcut
                      cases kq with
                      | zero => exact absurd HA.out (by simp [torrentlaw4_anew.j3])
                      | succ kj84 =>
                        have H := HA.out
                        clear HA
                        simp only [torrentlaw4_anew.j3] at H
                        by_cases c105 : x195_84 = true
                        · subst c105
                          have H1 : (some false) = some r := by rw [if_pos rfl] at H; exact H
                          clear H
                          have H := H1
                          clear H1
                          obtain rfl := Option.some.inj H
                          go_wp2
                          go_ret
                          exact ⟨by first | rfl | (simp [errW_none, errW_some] <;> rfl) | (simp [*, errW_none, errW_some] <;> rfl), by repeat (first | (with_reducible first | exact HB.out | apply below_alloc | apply pw_below_drewN | apply below_drew1) | exact HB.out)⟩
                        · replace c105 := Bool.eq_false_iff.mpr c105
                          subst c105
                          have H1 : ((bitset_Ones.f kj84 a0 l1).bind fun bt860 => ((bitset_Of.f kj84 a0 bt860.1).bind fun bt864 => (torrentlaw4_anew.l3 kj84 a0 bt860.1 ([] : List Int) 0))) = some r := by rw [if_neg (show ¬ (false = true) by decide)] at H; exact H
                          clear H
                          have H := H1
                          clear H1
                          replace H := Option.bind_eq_some_iff.mp H
                          obtain ⟨⟨t860, t861⟩, A1060, H⟩ := H
                          replace H : ((bitset_Of.f kj84 a0 t860).bind fun bt864 => (torrentlaw4_anew.l3 kj84 a0 t860 ([] : List Int) 0)) = some r := H
                          have A106 := Aside0.mk A1060
                          clear A1060
                          replace H := Option.bind_eq_some_iff.mp H
                          obtain ⟨⟨t864, t865⟩, A1070, H⟩ := H
                          replace H : (torrentlaw4_anew.l3 kj84 a0 t860 ([] : List Int) 0) = some r := H
                          have A107 := Aside0.mk A1070
                          clear A1070
                          have H' := Aside0.mk H
                          clear H
                          go_wp2_with (first | ((with_reducible refine gate_callee (f := 37) rfl ?_); refine goesL_ (some 199) rfl rfl Try.func37 (by kernel_rfl) rfl #[.int .i64 a0, .slice A1 l1.length c1] rfl (by (try simp only [List.map_toArray, List.map_cons, List.map_nil]); first | done | rfl) ?_; (with_reducible refine (bitset_Ones.calls kj84 a0 _ _ l1 t860 t861 _ ?side1 ?side2 A106.out).mono ?_); (case side1 => repeat (first | exact (Kd.C_below HR1.out HB.out) | (with_reducible refine Kd.C_alloc ?_ _) | (with_reducible refine Kd.C_drewN ?_ _) | (with_reducible refine Kd.C_drew ?_))); (case side2 => exact HC1.out); rintro e w108 ⟨v862, rfl, ho0, hb⟩; refine ⟨_, rfl, ?_⟩; have n0_ := Aside0.mk (Kd.R_lower ho0 (below_size (by repeat (first | (with_reducible first | exact HB.out | apply below_alloc | apply pw_below_drewN | apply below_drew1) | exact HB.out)))); have n1_ := Aside0.mk (below_step (by repeat (first | (with_reducible first | exact HB.out | apply below_alloc | apply pw_below_drewN | apply below_drew1) | exact HB.out)) hb); clear HB; have HO863 := n0_; have HB := n1_; clear n0_ n1_; (try clear hb); (try clear ho0); obtain ⟨Ao109, co109, eo109⟩ := Kd.R_slice HO863.out; subst eo109) | ((with_reducible refine gate_callee (f := 20) rfl ?_); refine goesL_ (some 204) rfl rfl Try.func20 (by kernel_rfl) rfl #[.int .i64 a0, .slice Ao109 t860.length co109] rfl (by (try simp only [List.map_toArray, List.map_cons, List.map_nil]); first | done | rfl) ?_; (with_reducible refine (bitset_Of.calls kj84 a0 _ _ t860 t864 t865 _ ?side1 ?side2 A107.out).mono ?_); (case side1 => repeat (first | exact (Kd.R_reads' HO863.out).2.2 | (with_reducible refine Kd.C_alloc ?_ _) | (with_reducible refine Kd.C_drewN ?_ _) | (with_reducible refine Kd.C_drew ?_))); (case side2 => exact (Kd.R_reads' HO863.out).2.1); rintro e w110 ⟨v866, rfl, ho0, hb⟩; refine ⟨_, rfl, ?_⟩; have n0_ := Aside0.mk (Kd.R_below (by (with_reducible repeat (first | apply Kd.R_alloc | apply Kd.R_drewN | apply Kd.R_drew)); exact HO863.out) hb); have n1_ := Aside0.mk (Kd.R_lower ho0 (below_size (by repeat (first | (with_reducible first | exact HB.out | apply below_alloc | apply pw_below_drewN | apply below_drew1) | exact HB.out)))); have n2_ := Aside0.mk (below_step (by repeat (first | (with_reducible first | exact HB.out | apply below_alloc | apply pw_below_drewN | apply below_drew1) | exact HB.out)) hb); clear HO863; clear HB; have HO863 := n0_; have HO867 := n1_; have HB := n2_; clear n0_ n1_ n2_; (try clear hb); (try clear ho0)))
                          go_loopg [30, 31] kj84 (fun kq v30 v31 w' => ∃ (x28_5 : List Int) (x30_5 : List Int) (x31_5 : Int), v31 = .int .i64 x31_5 ∧ Aside0 (torrentlaw4_anew.l3 kq a0 x28_5 x30_5 x31_5 = some r) ∧ Aside0 (kq ≤ kj84) ∧ Aside0 (Kd.R (Kd.int .i64) 3 w' w.heap.size (fun k_ => some k_ ≠ (v30 : Value).ownBlock) (.slice Ao109 t860.length co109) x28_5) ∧ Aside0 (Kd.R (Kd.int .i64) 3 w' w.heap.size (fun k_ => some k_ ≠ ((.slice Ao109 t860.length co109) : Value).ownBlock) v30 x30_5) ∧ Aside0 (Below w.heap.size w w'))
                          case atStart => exact ⟨(t860), (([] : List Int)), (0), (by first | rfl | (simp; done) | (simp [*]; done)), H', ⟨Nat.le_refl _⟩, ⟨by (try simp only [hl9_2]); (try simp only [hl10_2]); (with_reducible repeat (first | apply Kd.R_alloc | apply Kd.R_drewN | apply Kd.R_drew)); exact Kd.R_mono HO863.out (fun _ hk => (by simp [Value.ownBlock]))⟩, ⟨by (try simp only [hl9_2]); (try simp only [hl10_2]); first | exact Kd.R_nil _ _ _ _ _ | exact Kd.N_nil _ _ _ _ _ | exact Kd.V_nil _ _ _ _ _ | exact Kd.Q_nil _ _ _ _ _ | exact Kd.S_nil _ _ _ _ _⟩, ⟨by repeat (first | (with_reducible first | exact HB.out | apply below_alloc | apply pw_below_drewN | apply below_drew1) | exact HB.out)⟩⟩
                          case round =>
                            clear H'
                            try clear c1
                            try clear c2
                            try clear p2
                            try clear q2
                            try clear hx2
                            try clear c3
                            try clear c4
                            try clear c5
                            try clear p6
                            try clear p8
                            try clear q8
                            try clear hx8
                            try clear c9
                            try clear c9b0
                            try clear c10
                            try clear c17
                            try clear c20
                            try clear c21
                            try clear c21b0
                            try clear c22
                            try clear c22b0
                            try clear c23
                            try clear c23b0
                            try clear c24
                            try clear c24b0
                            try clear p25
                            try clear q25
                            try clear hx25
                            try clear hf25
                            try clear c26
                            try clear c26b0
                            try clear p27
                            try clear q27
                            try clear hx27
                            try clear hf27
                            try clear c31
                            try clear c32
                            try clear c32b0
                            try clear c37
                            try clear c38
                            try clear c40
                            try clear c42
                            try clear c46
                            try clear c51
                            try clear c55
                            try clear p64
                            try clear p81
                            try clear q81
                            try clear hx81
                            try clear c98
                            try clear c98b0
                            try clear c98b1
                            try clear c98b2
                            try clear c99
                            try clear c99b0
                            try clear c99b1
                            try clear c100
                            try clear c100b0
                            try clear c100b1
                            try clear c101
                            try clear c101b0
                            try clear c101b1
                            try clear c102
                            try clear c102b0
                            try clear c102b1
                            try clear c102b2
                            try clear c103
                            try clear c103b0
                            try clear c103b1
                            try clear c105
                            try clear hx25_0
                            try clear hx27_0
                            try clear hx816_0
                            try clear hx818_0
                            try clear p2
                            try clear p25
                            try clear p27
                            try clear p6
                            try clear p64
                            try clear p8
                            try clear p81
                            try clear p816
                            try clear p818
                            try clear q2
                            try clear q25
                            try clear q27
                            try clear q8
                            try clear q81
                            try clear q816
                            try clear q818
                            obtain ⟨x28_5, x30_5, x31_5, rfl, HA, HK5, HO_28, HO_30, HB⟩ := hrel
                            have hl28_5 := (Kd.R_reads' HO_28.out).1
                            rw [hl28_5] at HO_28
                            (try simp only [hl28_5])
                            (try simp only [hl28_5] at HO_30)
                            cases gk with
                            | zero => exact absurd HA.out (by simp [torrentlaw4_anew.l3])
                            | succ k5 =>
                              have H := HA.out
                              clear HA
                              simp only [torrentlaw4_anew.l3] at H
                              by_cases c111 : x31_5 < (x28_5.length : Int)
                              · rw [if_pos c111] at H
                                have c111b0 : decide (x31_5 < (x28_5.length : Int)) = true := decide_eq_true c111
                                clear c111
                                by_cases c112 : 0 ≤ x31_5
                                · rw [if_pos c112] at H
                                  have c112b0 : decide (0 ≤ x31_5) = true := decide_eq_true c112
                                  clear c112
                                  obtain ⟨y869, hy869⟩ : ∃ y_ : List Int, y_ = (x28_5.set (x31_5 : Int).toNat (wrap64 ((wrap64 (a0 - 1)) - (rd x28_5 x31_5)))) := ⟨_, rfl⟩
                                  replace H : (if x30_5.length < 17592186044416 then (torrentlaw4_anew.l3 k5 a0 y869 (x30_5 ++ [rd y869 x31_5]) (wrap64 (x31_5 + 1))) else (none)) = some r := by first | (rw [hy869]; with_reducible exact H) | (have H2_ := (Option.bind_some _ _).symm.trans H; rw [hy869]; with_reducible exact H2_) | (have H2_ := (Option.bind_some _ _).symm.trans H; with_reducible exact H2_) | with_reducible exact H | (rw [hy869]; exact H) | exact H
                                  have Ny869 := Aside0.mk hy869
                                  clear hy869
                                  by_cases c114 : x30_5.length < 17592186044416
                                  · rw [if_pos c114] at H
                                    have LMc114 := Aside0.mk c114
                                    clear c114
                                    obtain ⟨y871, hy871⟩ : ∃ y_ : List Int, y_ = (x30_5 ++ [rd y869 x31_5]) := ⟨_, rfl⟩
                                    replace H : (torrentlaw4_anew.l3 k5 a0 y869 y871 (wrap64 (x31_5 + 1))) = some r := by first | (rw [hy871]; with_reducible exact H) | (have H2_ := (Option.bind_some _ _).symm.trans H; rw [hy871]; with_reducible exact H2_) | (have H2_ := (Option.bind_some _ _).symm.trans H; with_reducible exact H2_) | with_reducible exact H | (rw [hy871]; exact H) | exact H
                                    have Ny871 := Aside0.mk hy871
                                    clear hy871
                                    have H' := Aside0.mk H
                                    clear H
                                    have p868 : 0 ≤ (x31_5 : Int) := of_decide_eq_true (by first | (with_reducible assumption) | assumption)
                                    have q868 : x31_5 < (x28_5.length : Int) := of_decide_eq_true (by first | (with_reducible assumption) | assumption)
                                    obtain ⟨ad868, e868, hx868_0⟩ := Kd.at_int (Kd.R_reads' HO_28.out).2.2 x31_5 p868 q868
                                    cases e868
                                    replace p868 := eq_true p868
                                    replace q868 := eq_true q868
                                    have p113 : 0 ≤ (x31_5 : Int) := of_decide_eq_true (by first | (with_reducible assumption) | assumption)
                                    have q113 : (x31_5 : Int) < ((x28_5.length : Int) : Int) := of_decide_eq_true (by first | (with_reducible assumption) | assumption)
                                    obtain ⟨go113, co113, eo113, gb113, gl113, cl113, HG113⟩ := Kd.R_form HO_28.out (by omega)
                                    (first | cases eo113 | (injection eo113 with ea_ en_ ec_; (first | subst ea_ | (injection ea_ with ea_; subst ea_)); subst ec_; clear en_))
                                    have GB113 := Aside0.mk gb113
                                    have GG113 := Aside0.mk HG113
                                    clear gb113 gl113 HG113
                                    (first | simp only [add_plain] at hx868_0 | skip)
                                    obtain ⟨hx113_0, hf113_0⟩ := Kd.R_celln 0 HO_28.out (x31_5 : Int) p113 q113
                                    replace p113 := eq_true p113
                                    replace q113 := eq_true q113
                                    have HP115 := Kd.R_putg HO_28.out (x31_5 : Int) (wrap64 ((wrap64 (a0 - 1)) - (rd x28_5 x31_5)))
                                    go_wp2_with (first | ((with_reducible refine gate_store (t := 3) (p := 220) rfl ?_); refine store_event (t := 3) (p := 220) (v := ?vo_w116) (w1 := (wr.setCell ⟨go113, (x31_5 : Int).toNat, none⟩ (.int .i64 (wrap64 ((wrap64 (a0 - 1)) - (rd x28_5 x31_5)))))) ?hg ?ho ?hn ?hr ?_; (case ho => rfl); (case hg => rfl); (case hn => rfl); (case hr => first | (go_simp; done) | (go_simp; rfl)); intro w116 hw; have hg : wr.grownBy w116 (some go113) := (by rw [hw]; exact HP115.2); have hp_ : Kd.R (Kd.int .i64) 3 w116 w.heap.size (fun k_ => some k_ ≠ (u30 : Value).ownBlock) (.slice (some ⟨go113, 0, none⟩) x28_5.length co109) y869 := (by rw [hw, Ny869.out]; exact HP115.1); clear HP115; have n0_ := Aside0.mk (hp_); have n1_ := Aside0.mk (Kd.R_after (v := (.slice (some ⟨go113, 0, none⟩) x28_5.length co109)) (v1 := (.slice (some ⟨go113, 0, none⟩) x28_5.length co109)) (ok := (fun _ => True)) (by (with_reducible repeat (first | apply Kd.R_alloc | apply Kd.R_drewN | apply Kd.R_drew)); exact Kd.R_mono HO_30.out (fun _ hk => ⟨trivial, hk⟩)) hg (.inl rfl)); have n2_ := Aside0.mk ((by rw [hw]; exact below_set (HB.out) GB113.out : Below w.heap.size w w116)); clear HO_28; clear HO_30; clear HB; have HO_28 := n0_; have HO_30 := n1_; have HB := n2_; clear n0_ n1_ n2_; clear hg hw hp_; have p870 : 0 ≤ (x31_5 : Int) := of_decide_eq_true (by first | (with_reducible assumption) | assumption); have q870 : x31_5 < (y869.length : Int) := (by have h_ : (x31_5 : Int) < ((x28_5.length : Int) : Int) := of_decide_eq_true (by first | (with_reducible assumption) | assumption); first | (have e_ := (Kd.R_reads' HO_28.out).1; omega) | simpa only [Ny869.out, List.length_set] using h_); have ql870 : ((x31_5 : Int) < ((x28_5.length : Int) : Int)) = True := eq_true (of_decide_eq_true (by first | (with_reducible assumption) | assumption)); obtain ⟨ad870, e870, hx870_0⟩ := Kd.at_int (Kd.R_reads' HO_28.out).2.2 x31_5 p870 q870; obtain rfl : (⟨go113, 0, none⟩ : Addr) = ad870 := (by injection e870); (first | simp only [add_plain] at hx870_0 | simp only [add_at] at hx870_0 | simp only [Addr.add, Nat.zero_add] at hx870_0 | skip); replace p870 := eq_true p870; replace q870 := eq_true q870) | ((with_reducible refine gate_builtin (b := .append) (xs := #[.tmp 221, .tmp 226]) rfl ?_); at_builtin; refine Kd.R_append (Kd.int .i64) (w0 := w) w.heap.size rfl (.tmp 221) (.tmp 226) 28 3 (.int .i64 0) 8 rfl Try.underlying28 info3 rfl (by decide) (by omega) u30 x30_5 (rd y869 x31_5) [.int .i64 (rd y869 x31_5)] (fun k_ => some k_ ≠ (.slice (some ⟨go113, 0, none⟩) x28_5.length co109 : Value).ownBlock) (fun _ => False) rfl rfl ?aP (fun _ hk => hk.elim) ?aF ?aO ?aB ?aS ?aL ?_; (case aP => exact rfl); (case aB => exact (by repeat (first | (with_reducible first | exact HB.out | apply below_alloc | apply pw_below_drewN | apply below_drew1) | exact HB.out))); (case aF => exact (fun k_ hk => Kd.fresh' (Kd.R_lt (by (with_reducible repeat (first | apply Kd.R_alloc | apply Kd.R_drewN | apply Kd.R_drew)); exact HO_28.out)) k_ hk)); (case aO => exact (by (with_reducible repeat (first | apply Kd.R_alloc | apply Kd.R_drewN | apply Kd.R_drew)); exact Kd.R_mono HO_30.out (fun _ hk => hk.2))); (case aS => exact (below_size (by repeat (first | (with_reducible first | exact HB.out | apply below_alloc | apply pw_below_drewN | apply below_drew1) | exact HB.out)))); (case aL => have := LMc114.out; omega); intro v872 w117 ho hb hg hat; rw [← Ny871.out] at ho; have n0_ := Aside0.mk (Kd.R_after (ok := (fun _ => True)) (by (with_reducible repeat (first | apply Kd.R_alloc | apply Kd.R_drewN | apply Kd.R_drew)); exact Kd.R_mono HO_28.out (fun _ hk => ⟨trivial, hk⟩)) hg hat); have n1_ := Aside0.mk (hb); have n2_ := Aside0.mk (ho); clear HO_28; clear HB; clear HO_30; have HO_28 := n0_; have HB := n1_; have HO873 := n2_; clear n0_ n1_ n2_; clear ho hb hg hat))
                                    (try simp only [← hl28_5])
                                    go_roundg k5
                                    case measure => have := HK1.out; have := HK2.out; have := HK3.out; have := HJ84.out; have := HK5.out; omega
                                    case rel => exact ⟨(y869), (y871), (wrap64 (x31_5 + 1)), (by first | rfl | (simp; done) | (simp [*]; done)), H', ⟨by have := HK1.out; have := HK2.out; have := HK3.out; have := HJ84.out; have := HK5.out; omega⟩, ⟨by (try simp only [hl9_2]); (try simp only [hl10_2]); (try simp only [hl28_5]); (with_reducible repeat (first | apply Kd.R_alloc | apply Kd.R_drewN | apply Kd.R_drew)); exact Kd.R_mono HO_28.out (fun _ hk => hk.2)⟩, ⟨by (try simp only [hl9_2]); (try simp only [hl10_2]); (try simp only [hl28_5]); (with_reducible repeat (first | apply Kd.R_alloc | apply Kd.R_drewN | apply Kd.R_drew)); exact HO873.out⟩, ⟨by repeat (first | (with_reducible first | exact HB.out | apply below_alloc | apply pw_below_drewN | apply below_drew1) | exact HB.out)⟩⟩
                                  · rw [if_neg c114] at H
                                    exact absurd H (by simp)
                                · rw [if_neg c112] at H
                                  exact absurd H (by simp)
                              · rw [if_neg c111] at H
                                have c111b0 : decide (x31_5 < (x28_5.length : Int)) = false := decide_eq_false c111
                                clear c111
                                replace H := Option.bind_eq_some_iff.mp H
                                obtain ⟨⟨t874, t875⟩, A1180, H⟩ := H
                                replace H : ((bitset_Of.f k5 a0 x30_5).bind fun bt878 => (if t875 = bt878.2 then ((torrentlaw4_sameBytes.f k5 t874 bt878.1).bind fun t882 => (some t882)) else (some false))) = some r := H
                                have A118 := Aside0.mk A1180
                                clear A1180
                                replace H := Option.bind_eq_some_iff.mp H
                                obtain ⟨⟨t878, t879⟩, A1190, H⟩ := H
                                replace H : (if t875 = t879 then ((torrentlaw4_sameBytes.f k5 t874 t878).bind fun t882 => (some t882)) else (some false)) = some r := H
                                have A119 := Aside0.mk A1190
                                clear A1190
                                by_cases c120 : t875 = t879
                                · rw [if_pos c120] at H
                                  have c120b0 : (t875 == t879) = true := beq_iff_eq.mpr c120
                                  have c120b1 : (t875 != t879) = false := bne_eq_false_iff_eq.mpr c120
                                  clear c120
                                  replace H := Option.bind_eq_some_iff.mp H
                                  obtain ⟨t882, A1210, H⟩ := H
                                  replace H : (some t882) = some r := H
                                  have A121 := Aside0.mk A1210
                                  clear A1210
                                  obtain rfl := Option.some.inj H
                                  go_wp2_with (first | ((with_reducible refine gate_callee (f := 20) rfl ?_); refine goesL_ (some 231) rfl rfl Try.func20 (by kernel_rfl) rfl #[.int .i64 a0, .slice Ao109 x28_5.length co109] rfl (by (try simp only [List.map_toArray, List.map_cons, List.map_nil]); first | done | rfl) ?_; (with_reducible refine (bitset_Of.calls k5 a0 _ _ x28_5 t874 t875 _ ?side1 ?side2 A118.out).mono ?_); (case side1 => repeat (first | exact (Kd.R_reads' HO_28.out).2.2 | (with_reducible refine Kd.C_alloc ?_ _) | (with_reducible refine Kd.C_drewN ?_ _) | (with_reducible refine Kd.C_drew ?_))); (case side2 => exact (Kd.R_reads' HO_28.out).2.1); rintro e w122 ⟨v876, rfl, ho0, hb⟩; refine ⟨_, rfl, ?_⟩; have n0_ := Aside0.mk (Kd.R_below (by (with_reducible repeat (first | apply Kd.R_alloc | apply Kd.R_drewN | apply Kd.R_drew)); exact HO_28.out) hb); have n1_ := Aside0.mk (Kd.R_below (by (with_reducible repeat (first | apply Kd.R_alloc | apply Kd.R_drewN | apply Kd.R_drew)); exact HO_30.out) hb); have n2_ := Aside0.mk (Kd.R_lower ho0 (below_size (by repeat (first | (with_reducible first | exact HB.out | apply below_alloc | apply pw_below_drewN | apply below_drew1) | exact HB.out)))); have n3_ := Aside0.mk (below_step (by repeat (first | (with_reducible first | exact HB.out | apply below_alloc | apply pw_below_drewN | apply below_drew1) | exact HB.out)) hb); clear HO_28; clear HO_30; clear HB; have HO_28 := n0_; have HO_30 := n1_; have HO877 := n2_; have HB := n3_; clear n0_ n1_ n2_ n3_; (try clear hb); (try clear ho0); obtain ⟨Ao123, co123, eo123⟩ := Kd.R_slice HO_30.out; subst eo123) | ((with_reducible refine gate_callee (f := 20) rfl ?_); refine goesL_ (some 237) rfl rfl Try.func20 (by kernel_rfl) rfl #[.int .i64 a0, .slice Ao123 x30_5.length co123] rfl (by (try simp only [List.map_toArray, List.map_cons, List.map_nil]); first | done | rfl) ?_; (with_reducible refine (bitset_Of.calls k5 a0 _ _ x30_5 t878 t879 _ ?side1 ?side2 A119.out).mono ?_); (case side1 => repeat (first | exact (Kd.R_reads' HO_30.out).2.2 | (with_reducible refine Kd.C_alloc ?_ _) | (with_reducible refine Kd.C_drewN ?_ _) | (with_reducible refine Kd.C_drew ?_))); (case side2 => exact (Kd.R_reads' HO_30.out).2.1); rintro e w124 ⟨v880, rfl, ho0, hb⟩; refine ⟨_, rfl, ?_⟩; have n0_ := Aside0.mk (Kd.R_below (by (with_reducible repeat (first | apply Kd.R_alloc | apply Kd.R_drewN | apply Kd.R_drew)); exact HO_28.out) hb); have n1_ := Aside0.mk (Kd.R_below (by (with_reducible repeat (first | apply Kd.R_alloc | apply Kd.R_drewN | apply Kd.R_drew)); exact HO_30.out) hb); have n2_ := Aside0.mk (Kd.R_elder' (by (with_reducible repeat (first | apply Kd.R_alloc | apply Kd.R_drewN | apply Kd.R_drew)); exact HO877.out) (Kd.R_base ho0) hb); have n3_ := Aside0.mk (Kd.R_lower (Kd.R_new' ho0 (Kd.R_lt (by (with_reducible repeat (first | apply Kd.R_alloc | apply Kd.R_drewN | apply Kd.R_drew)); exact HO877.out))) (below_size (by repeat (first | (with_reducible first | exact HB.out | apply below_alloc | apply pw_below_drewN | apply below_drew1) | exact HB.out)))); have n4_ := Aside0.mk (below_step (by repeat (first | (with_reducible first | exact HB.out | apply below_alloc | apply pw_below_drewN | apply below_drew1) | exact HB.out)) hb); clear HO_28; clear HO_30; clear HO877; clear HB; have HO_28 := n0_; have HO_30 := n1_; have HO877 := n2_; have HO881 := n3_; have HB := n4_; clear n0_ n1_ n2_ n3_ n4_; (try clear hb); (try clear ho0); obtain ⟨Ao125, co125, eo125⟩ := Kd.R_slice HO877.out; subst eo125; obtain ⟨Ao126, co126, eo126⟩ := Kd.R_slice HO881.out; subst eo126) | (go_at_call 17; (with_reducible refine (torrentlaw4_sameBytes.calls k5 _ _ t874 _ _ t878 t882 _ ?side1 ?side2 ?side3 ?side4 A121.out).mono ?_); (case side1 => repeat (first | exact (Kd.R_reads' HO877.out).2.2 | (with_reducible refine Kd.C_alloc ?_ _) | (with_reducible refine Kd.C_drewN ?_ _) | (with_reducible refine Kd.C_drew ?_))); (case side2 => exact (Kd.R_reads' HO877.out).2.1); (case side3 => repeat (first | exact (Kd.R_reads' HO881.out).2.2 | (with_reducible refine Kd.C_alloc ?_ _) | (with_reducible refine Kd.C_drewN ?_ _) | (with_reducible refine Kd.C_drew ?_))); (case side4 => exact (Kd.R_reads' HO881.out).2.1); rintro e w' ⟨rfl, ⟨nd, rfl⟩⟩))
                                  go_ret
                                  exact ⟨by first | rfl | (simp [errW_none, errW_some] <;> rfl) | (simp [*, errW_none, errW_some] <;> rfl), by repeat (first | (with_reducible first | exact HB.out | apply below_alloc | apply pw_below_drewN | apply below_drew1) | exact HB.out)⟩
                                · rw [if_neg c120] at H
                                  have c120b0 : (t875 == t879) = false := beq_eq_false_iff_ne.mpr c120
                                  have c120b1 : (t875 != t879) = true := bne_iff_ne.mpr c120
                                  obtain rfl := Option.some.inj H
                                  go_wp2_with (first | ((with_reducible refine gate_callee (f := 20) rfl ?_); refine goesL_ (some 231) rfl rfl Try.func20 (by kernel_rfl) rfl #[.int .i64 a0, .slice Ao109 x28_5.length co109] rfl (by (try simp only [List.map_toArray, List.map_cons, List.map_nil]); first | done | rfl) ?_; (with_reducible refine (bitset_Of.calls k5 a0 _ _ x28_5 t874 t875 _ ?side1 ?side2 A118.out).mono ?_); (case side1 => repeat (first | exact (Kd.R_reads' HO_28.out).2.2 | (with_reducible refine Kd.C_alloc ?_ _) | (with_reducible refine Kd.C_drewN ?_ _) | (with_reducible refine Kd.C_drew ?_))); (case side2 => exact (Kd.R_reads' HO_28.out).2.1); rintro e w127 ⟨v876, rfl, ho0, hb⟩; refine ⟨_, rfl, ?_⟩; have n0_ := Aside0.mk (Kd.R_below (by (with_reducible repeat (first | apply Kd.R_alloc | apply Kd.R_drewN | apply Kd.R_drew)); exact HO_28.out) hb); have n1_ := Aside0.mk (Kd.R_below (by (with_reducible repeat (first | apply Kd.R_alloc | apply Kd.R_drewN | apply Kd.R_drew)); exact HO_30.out) hb); have n2_ := Aside0.mk (Kd.R_lower ho0 (below_size (by repeat (first | (with_reducible first | exact HB.out | apply below_alloc | apply pw_below_drewN | apply below_drew1) | exact HB.out)))); have n3_ := Aside0.mk (below_step (by repeat (first | (with_reducible first | exact HB.out | apply below_alloc | apply pw_below_drewN | apply below_drew1) | exact HB.out)) hb); clear HO_28; clear HO_30; clear HB; have HO_28 := n0_; have HO_30 := n1_; have HO877 := n2_; have HB := n3_; clear n0_ n1_ n2_ n3_; (try clear hb); (try clear ho0); obtain ⟨Ao128, co128, eo128⟩ := Kd.R_slice HO_30.out; subst eo128) | ((with_reducible refine gate_callee (f := 20) rfl ?_); refine goesL_ (some 237) rfl rfl Try.func20 (by kernel_rfl) rfl #[.int .i64 a0, .slice Ao128 x30_5.length co128] rfl (by (try simp only [List.map_toArray, List.map_cons, List.map_nil]); first | done | rfl) ?_; (with_reducible refine (bitset_Of.calls k5 a0 _ _ x30_5 t878 t879 _ ?side1 ?side2 A119.out).mono ?_); (case side1 => repeat (first | exact (Kd.R_reads' HO_30.out).2.2 | (with_reducible refine Kd.C_alloc ?_ _) | (with_reducible refine Kd.C_drewN ?_ _) | (with_reducible refine Kd.C_drew ?_))); (case side2 => exact (Kd.R_reads' HO_30.out).2.1); rintro e w129 ⟨v880, rfl, ho0, hb⟩; refine ⟨_, rfl, ?_⟩; have n0_ := Aside0.mk (Kd.R_below (by (with_reducible repeat (first | apply Kd.R_alloc | apply Kd.R_drewN | apply Kd.R_drew)); exact HO_28.out) hb); have n1_ := Aside0.mk (Kd.R_below (by (with_reducible repeat (first | apply Kd.R_alloc | apply Kd.R_drewN | apply Kd.R_drew)); exact HO_30.out) hb); have n2_ := Aside0.mk (Kd.R_elder' (by (with_reducible repeat (first | apply Kd.R_alloc | apply Kd.R_drewN | apply Kd.R_drew)); exact HO877.out) (Kd.R_base ho0) hb); have n3_ := Aside0.mk (Kd.R_lower (Kd.R_new' ho0 (Kd.R_lt (by (with_reducible repeat (first | apply Kd.R_alloc | apply Kd.R_drewN | apply Kd.R_drew)); exact HO877.out))) (below_size (by repeat (first | (with_reducible first | exact HB.out | apply below_alloc | apply pw_below_drewN | apply below_drew1) | exact HB.out)))); have n4_ := Aside0.mk (below_step (by repeat (first | (with_reducible first | exact HB.out | apply below_alloc | apply pw_below_drewN | apply below_drew1) | exact HB.out)) hb); clear HO_28; clear HO_30; clear HO877; clear HB; have HO_28 := n0_; have HO_30 := n1_; have HO877 := n2_; have HO881 := n3_; have HB := n4_; clear n0_ n1_ n2_ n3_ n4_; (try clear hb); (try clear ho0)))
                                  go_ret
                                  exact ⟨by first | rfl | (simp [errW_none, errW_some] <;> rfl) | (simp [*, errW_none, errW_some] <;> rfl), by repeat (first | (with_reducible first | exact HB.out | apply below_alloc | apply pw_below_drewN | apply below_drew1) | exact HB.out)⟩

end Go.Proofs.Ytoohpdamndgdlaa.P

