-- Merged by a program of this session out of the texts Px21, Px16, QOpen, Px35, Px37, Px14, QOnes, Px13, QOf, QSpare, QHas, QTwo, PureBitsetTwoWay of this claim's own.
import Derived.Test.YtoohpdamndgdlaaZBitsetTwoWay2
import Derived.WalkSpells
import Derived.OwnWalk

-- Made by a program of this session (the print of the kit over a neighbour), for this claim.
namespace Go.Proofs.Ytoohpdamndgdlaa.P
open Go.RowKit Go.Proofs.YtoohpdamndgdlaaW.PrintWords Go.Proofs.YtoohpdamndgdlaaW.PrintLast Go.Proofs.YtoohpdamndgdlaaW.PrintMore
attribute [local go_sem] max2_int min2_int max_two min_two max_three min_three max_four min_four   -- for this text's walks alone
set_option linter.unusedVariables false
set_option linter.unusedSimpArgs false

/-! ### torrentref4_open: function 60 -/
def torrentref4_open.l0 : Nat → List Int → List Bool → Int → Option (List Bool)
  | 0, _, _, _ => none
  | k + 1, x0, x3, x4 => if x4 < (wrap64 (8 * (x0.length : Int))) then (if 0 ≤ (wrap64 (Int.tdiv x4 8)) then (if (wrap64 (Int.tdiv x4 8)) < (x0.length : Int) then ((torrentref4_weight.f k x4).bind fun t198 => (if t198 = 0 then (none) else (if x3.length < 140737488355328 then (torrentref4_open.l0 k x0 (x3 ++ [((Int.tmod (wrap64 (Int.tdiv (wrap64 (rd x0 (wrap64 (Int.tdiv x4 8)))) t198)) 2) == 1)]) (wrap64 (x4 + 1))) else (none)))) else (none)) else (none)) else (some x3)
def torrentref4_open.f (k : Nat) (l0 : List Int) : Option (List Bool) := torrentref4_open.l0 k l0 ([] : List Bool) 0
theorem torrentref4_open.mono_l : ∀ k, (∀ y0 y1 y2, LeO (torrentref4_open.l0 k y0 y1 y2) (torrentref4_open.l0 (k + 1) y0 y1 y2))
  | 0 => fun _ _ _ r h => by simp [torrentref4_open.l0] at h
  | k + 1 => by
    have ih0 := torrentref4_open.mono_l k
    · intro y0 y1 y2
      unfold torrentref4_open.l0
      repeat' first
      | (with_reducible exact ih0 _ _ _)
      | (with_reducible exact torrentref4_weight.mono _ _)
      | (with_reducible exact LeO.refl _)
      | (with_reducible exact LeO.none _)
      | (with_reducible refine LeO.ite ?_ ?_)
      | (with_reducible refine LeO.bind ?_ (fun _ => ?_))
      | exact ih0 _ _ _
      | exact torrentref4_weight.mono _ _
      | exact LeO.none _
      | refine LeO.ite ?_ ?_
      | refine LeO.bind ?_ (fun _ => ?_)
theorem torrentref4_open.mono : ∀ a0 k, LeO (torrentref4_open.f k a0) (torrentref4_open.f (k + 1) a0) := by
  intro a0 k
  have ih0 := torrentref4_open.mono_l k
  unfold torrentref4_open.f
  repeat' first
      | (with_reducible exact ih0 _ _ _)
      | (with_reducible exact torrentref4_weight.mono _ _)
      | (with_reducible exact LeO.refl _)
      | (with_reducible exact LeO.none _)
      | (with_reducible refine LeO.ite ?_ ?_)
      | (with_reducible refine LeO.bind ?_ (fun _ => ?_))
      | exact ih0 _ _ _
      | exact torrentref4_weight.mono _ _
      | exact LeO.none _
      | refine LeO.ite ?_ ?_
      | refine LeO.bind ?_ (fun _ => ?_)
def torrentref4_open.T5 : Bool × List (List Nat × List Nat) := (true, [([], []), ([], []), ([], []), ([2], [2]), ([1, 3], [1, 3]), ([4], [4]), ([5], [5]), ([], []), ([7], [7]), ([6, 8], [6, 8]), ([9], [9]), ([10], [10]), ([11], [11]), ([0, 12, 8], [0, 12]), ([13, 13, 0, 1, 2, 3, 4, 5, 6, 7, 8, 9, 10, 11, 12, 13], [0, 13])])
def torrentref4_open.B5 : List Nat := [0, 0, 0, 4, 14, 30, 62, 0, 128, 510, 1022, 2046, 4094, 8191, 16383]
theorem torrentref4_open.tab5 : rtab .any (opsOf Try.f60 5) = torrentref4_open.T5 := by kernel_rfl
theorem torrentref4_open.bits5 : waitsOk torrentref4_open.T5.2 torrentref4_open.B5 = true := by kernel_rfl
set_option maxHeartbeats 8000000 in
set_option maxRecDepth 100000 in
theorem torrentref4_open.calls (k : Nat) (A0 : Option Addr) (c0 : Nat) (l0 : List Int) (r : List Bool) (w : World) (hr0 : Kd.C (Kd.int .u8) w A0 l0.length l0) (hc0 : l0.length ≤ c0) (h : torrentref4_open.f k l0 = some r) :
    Calls Try.prog 60 #[.slice A0 l0.length c0] w fun e w' => ∃ v0_ : Value, e = .returned (v0_) ∧ Kd.R Kd.bool 4 w' w.heap.size (fun _ => True) v0_ r ∧ Below w.heap.size w w' := by
  have HR0 := Aside0.mk hr0
  have HC0 := Aside0.mk hc0
  clear hr0 hc0
  have HB := Aside0.mk (Below.refl w.heap.size w)
  have H : (torrentref4_open.l0 k l0 ([] : List Bool) 0) = some r := h
  clear h
  have H' := Aside0.mk H
  clear H
  go_enter Try.func60, Try.ntmps60
  go_wp2
  go_loopg [3, 4] k (fun kq v3 v4 w' => ∃ (x3_1 : List Bool) (x4_1 : Int), v4 = .int .i64 x4_1 ∧ Aside0 (torrentref4_open.l0 kq l0 x3_1 x4_1 = some r) ∧ Aside0 (kq ≤ k) ∧ Aside0 (Kd.R Kd.bool 4 w' w.heap.size (fun _ => True) v3 x3_1) ∧ Aside0 (Below w.heap.size w w'))
  case atStart => exact ⟨(([] : List Bool)), (0), (by first | rfl | (simp; done) | (simp [*]; done)), H', ⟨Nat.le_refl _⟩, ⟨by first | exact Kd.R_nil _ _ _ _ _ | exact Kd.N_nil _ _ _ _ _ | exact Kd.V_nil _ _ _ _ _ | exact Kd.Q_nil _ _ _ _ _ | exact Kd.S_nil _ _ _ _ _⟩, ⟨by repeat (first | (with_reducible first | exact HB.out | apply below_alloc | apply pw_below_drewN | apply below_drew1) | exact HB.out)⟩⟩
  case round =>
    clear H'
    obtain ⟨x3_1, x4_1, rfl, HA, HK1, HO_3, HB⟩ := hrel
    cases gk with
    | zero => exact absurd HA.out (by simp [torrentref4_open.l0])
    | succ k1 =>
      have H := HA.out
      clear HA
      simp only [torrentref4_open.l0] at H
      by_cases c2 : x4_1 < (wrap64 (8 * (l0.length : Int)))
      · rw [if_pos c2] at H
        have c2b0 : decide (x4_1 < (wrap64 (8 * (l0.length : Int)))) = true := decide_eq_true c2
        clear c2
        obtain ⟨ji3, hji3⟩ : ∃ j_ : Int, (wrap64 (Int.tdiv x4_1 8)) = j_ := ⟨_, rfl⟩
        replace H : (if 0 ≤ (ji3) then (if (ji3) < (l0.length : Int) then ((torrentref4_weight.f k1 x4_1).bind fun t198 => (if t198 = 0 then (none) else (if x3_1.length < 140737488355328 then (torrentref4_open.l0 k1 l0 (x3_1 ++ [((Int.tmod (wrap64 (Int.tdiv (wrap64 (rd l0 (ji3))) t198)) 2) == 1)]) (wrap64 (x4_1 + 1))) else (none)))) else (none)) else (none)) = some r := by first | (rw [hji3] at H; exact H) | (simp only [hji3] at H ⊢; exact H)
        have hji3w : (IntKind.i64.wrap (Int.tdiv x4_1 8)) = ji3 := (i64_w _).trans hji3
        by_cases c4 : 0 ≤ (ji3)
        · rw [if_pos c4] at H
          have c4b0 : decide (0 ≤ (ji3)) = true := decide_eq_true c4
          clear c4
          by_cases c5 : (ji3) < (l0.length : Int)
          · rw [if_pos c5] at H
            have c5b0 : decide ((ji3) < (l0.length : Int)) = true := decide_eq_true c5
            clear c5
            replace H := Option.bind_eq_some_iff.mp H
            obtain ⟨t198, A60, H⟩ := H
            replace H : (if t198 = 0 then (none) else (if x3_1.length < 140737488355328 then (torrentref4_open.l0 k1 l0 (x3_1 ++ [((Int.tmod (wrap64 (Int.tdiv (wrap64 (rd l0 (ji3))) t198)) 2) == 1)]) (wrap64 (x4_1 + 1))) else (none))) = some r := H
            have A6 := Aside0.mk A60
            clear A60
            by_cases c7 : t198 = 0
            · rw [if_pos c7] at H
              exact absurd H (by simp)
            · rw [if_neg c7] at H
              have c7b0 : (t198 == 0) = false := beq_eq_false_iff_ne.mpr c7
              have c7b1 : (t198 != 0) = true := bne_iff_ne.mpr c7
              by_cases c8 : x3_1.length < 140737488355328
              · rw [if_pos c8] at H
                have LMc8 := Aside0.mk c8
                clear c8
                obtain ⟨y199, hy199⟩ : ∃ y_ : List Bool, y_ = (x3_1 ++ [((Int.tmod (wrap64 (Int.tdiv (wrap64 (rd l0 (ji3))) t198)) 2) == 1)]) := ⟨_, rfl⟩
                replace H : (torrentref4_open.l0 k1 l0 y199 (wrap64 (x4_1 + 1))) = some r := by first | (rw [hy199]; with_reducible exact H) | (have H2_ := (Option.bind_some _ _).symm.trans H; rw [hy199]; with_reducible exact H2_) | (have H2_ := (Option.bind_some _ _).symm.trans H; with_reducible exact H2_) | with_reducible exact H | (rw [hy199]; exact H) | exact H
                have Ny199 := Aside0.mk hy199
                clear hy199
                have H' := Aside0.mk H
                clear H
                try go_wp2
                have n0_ := Aside0.mk (Kd.R_drew HO_3.out)
                have n1_ := Aside0.mk (below_drew1 HB.out)
                clear HO_3
                clear HB
                have HO_3 := n0_
                have HB := n1_
                clear n0_ n1_
                have p197 : 0 ≤ ((ji3) : Int) := of_decide_eq_true (by first | (with_reducible assumption) | assumption)
                have q197 : (ji3) < (l0.length : Int) := of_decide_eq_true (by first | (with_reducible assumption) | assumption)
                obtain ⟨ad197, e197, hx197_0⟩ := Kd.at_int HR0.out (ji3) p197 q197
                have hw197_0 := hx197_0
                cases e197
                replace hx197_0 := (HB.out.cell (World.block_lt_of_cell? w _ hx197_0)).trans hx197_0
                replace p197 := eq_true p197
                replace q197 := eq_true q197
                refine start_ (n := 15) (S := fun w' => w'.cell? (ad197.add ((ji3)).toNat) = some (.int .u8 (rd l0 (ji3)))) (ds := []) #[false, false, false, false, false, false, false, false, false, false, false, false, false, false, false] (by kernel_rfl) rfl rfl (((HB.out.cell (World.block_lt_of_cell? w _ hw197_0)).trans hw197_0)) (fun hHeld => ?_); refine with_tabW torrentref4_open.tab5 torrentref4_open.bits5 (fun HT_ HW_ => ?_)
                generalize wr.drew = w9 at HO_3 HB hx197_0 hHeld ⊢
                refine pure_ (i := 0) (N := some 12) (v := ?_) (a' := ?_) #[true, false, false, false, false, false, false, false, false, false, false, false, false, false, false] rfl rfl (any_of HT_.out (by kernel_rfl)) (fun _ _ _ h => h) (Or.inl ⟨by rfl, ?_⟩) ?_ ?_
                rotate_left
                · intro w'
                  go_simp
                  with_reducible rfl
                rotate_left
                · simp only [Act.put, List.setIfInBounds_toArray, List.set_cons_zero, List.set_cons_succ, i64_w, i32_w]
                  rfl
                refine pure_ (i := 1) (N := some 13) (v := ?_) (a' := ?_) #[true, true, false, false, false, false, false, false, false, false, false, false, false, false, false] rfl rfl (any_of HT_.out (by kernel_rfl)) (fun _ _ _ h => h) (Or.inl ⟨by rfl, ?_⟩) ?_ ?_
                rotate_left
                · intro w'
                  go_simp
                  with_reducible rfl
                rotate_left
                · simp only [Act.put, List.setIfInBounds_toArray, List.set_cons_zero, List.set_cons_succ, i64_w, i32_w]
                  rfl
                refine pure_ (i := 2) (N := some 14) (v := ?_) (a' := ?_) #[true, true, true, false, false, false, false, false, false, false, false, false, false, false, false] rfl rfl (any_of HT_.out (by kernel_rfl)) (fun _ _ _ h => h) (Or.inl ⟨by rfl, ?_⟩) ?_ ?_
                rotate_left
                · intro w'
                  go_simp
                  with_reducible rfl
                rotate_left
                · simp only [Act.put, List.setIfInBounds_toArray, List.set_cons_zero, List.set_cons_succ, i64_w, i32_w]
                  rfl
                refine pure_ (i := 3) (N := some 15) (v := ?_) (a' := ?_) #[true, true, true, true, false, false, false, false, false, false, false, false, false, false, false] rfl rfl (any_of HT_.out (by kernel_rfl)) (fun _ _ _ h => h) (Or.inl ⟨by rfl, ?_⟩) ?_ ?_
                rotate_left
                · intro w'
                  go_simp
                  with_reducible rfl
                rotate_left
                · simp only [Act.put, List.setIfInBounds_toArray, List.set_cons_zero, List.set_cons_succ, i64_w, i32_w]
                  rfl
                refine pure_ (i := 4) (N := some 16) (v := ?_) (a' := ?_) #[true, true, true, true, true, false, false, false, false, false, false, false, false, false, false] rfl rfl (any_of HT_.out (by kernel_rfl)) (fun _ _ _ h => h) (Or.inl ⟨by rfl, ?_⟩) ?_ ?_
                rotate_left
                · intro w'
                  go_simp
                  with_reducible rfl
                rotate_left
                · simp only [Act.put, List.setIfInBounds_toArray, List.set_cons_zero, List.set_cons_succ, i64_w, i32_w]
                  rfl
                refine pure_ (i := 7) (N := some 19) (v := ?_) (a' := ?_) #[true, true, true, true, true, false, false, true, false, false, false, false, false, false, false] rfl rfl (any_of HT_.out (by kernel_rfl)) (fun _ _ _ h => h) (Or.inl ⟨by rfl, ?_⟩) ?_ ?_
                rotate_left
                · intro w'
                  go_simp
                  with_reducible rfl
                rotate_left
                · simp only [Act.put, List.setIfInBounds_toArray, List.set_cons_zero, List.set_cons_succ, i64_w, i32_w]
                  rfl
                refine take_ (i := 5) (N := some 17) (v := ?_) (a' := ?_) #[true, true, true, true, true, true, false, true, false, false, false, false, false, false, false] rfl rfl (take_ofW HT_.out HW_.out (by kernel_rfl)) (fun _ _ _ h => h) (Or.inl ⟨by rfl, ?_⟩) hHeld ?_ ?_
                rotate_left
                · intro w' s0
                  go_simp
                  with_reducible rfl
                rotate_left
                · simp only [Act.put, List.setIfInBounds_toArray, List.set_cons_zero, List.set_cons_succ, i64_w, i32_w]
                  rfl
                refine pure_ (i := 6) (N := some 18) (v := ?_) (a' := ?_) #[true, true, true, true, true, true, true, true, false, false, false, false, false, false, false] rfl rfl (any_of HT_.out (by kernel_rfl)) (fun _ _ _ h => h) (Or.inl ⟨by rfl, ?_⟩) ?_ ?_
                rotate_left
                · intro w'
                  go_simp
                  with_reducible rfl
                rotate_left
                · simp only [Act.put, List.setIfInBounds_toArray, List.set_cons_zero, List.set_cons_succ, i64_w, i32_w]
                  rfl
                refine one_ (i := 8) (N := some 20) #[true, true, true, true, true, true, true, true, true, false, false, false, false, false, false] rfl rfl (one_of HT_.out (by kernel_rfl)) (by decide) (fun K hK => ?_)
                refine goes_ Try.func71 (by kernel_rfl) rfl #[.int .i64 x4_1] (by rfl) rfl rfl (by (try simp only [List.map_toArray, List.map_cons, List.map_nil]); first | done | rfl | (simp only [List.length_drop, List.length_take]; rfl)) ?_
                with_reducible refine (torrentref4_weight.calls k1 x4_1 t198 _ A6.out).mono ?_
                rintro e w' ⟨rfl, ⟨nd, rfl⟩⟩
                refine ⟨_, rfl, ?_⟩
                refine hK.out _ _ (((HB.out.cell (World.block_lt_of_cell? w _ hw197_0)).trans hw197_0)) (fun hHeld => ?_)
                clear hK K
                refine norm_ (a' := ?_) ?_ ?_
                rotate_left
                · show Act.put _ (some 20) _ = _
                  simp only [Act.put, List.setIfInBounds_toArray, List.set_cons_zero, List.set_cons_succ, i64_w, i32_w]
                  rfl
                refine pure_ (i := 9) (N := some 21) (v := ?_) (a' := ?_) #[true, true, true, true, true, true, true, true, true, true, false, false, false, false, false] rfl rfl (any_of HT_.out (by kernel_rfl)) (fun _ _ _ h => h) (Or.inl ⟨by rfl, ?_⟩) ?_ ?_
                rotate_left
                · intro w'
                  go_simp
                  with_reducible rfl
                rotate_left
                · simp only [Act.put, List.setIfInBounds_toArray, List.set_cons_zero, List.set_cons_succ, i64_w, i32_w]
                  rfl
                refine pure_ (i := 10) (N := some 22) (v := ?_) (a' := ?_) #[true, true, true, true, true, true, true, true, true, true, true, false, false, false, false] rfl rfl (any_of HT_.out (by kernel_rfl)) (fun _ _ _ h => h) (Or.inl ⟨by rfl, ?_⟩) ?_ ?_
                rotate_left
                · intro w'
                  go_simp
                  with_reducible rfl
                rotate_left
                · simp only [Act.put, List.setIfInBounds_toArray, List.set_cons_zero, List.set_cons_succ, i64_w, i32_w]
                  rfl
                refine pure_ (i := 11) (N := some 23) (v := ?_) (a' := ?_) #[true, true, true, true, true, true, true, true, true, true, true, true, false, false, false] rfl rfl (any_of HT_.out (by kernel_rfl)) (fun _ _ _ h => h) (Or.inl ⟨by rfl, ?_⟩) ?_ ?_
                rotate_left
                · intro w'
                  go_simp
                  with_reducible rfl
                rotate_left
                · simp only [Act.put, List.setIfInBounds_toArray, List.set_cons_zero, List.set_cons_succ, i64_w, i32_w]
                  rfl
                refine one_ (i := 12) (N := some 24) #[true, true, true, true, true, true, true, true, true, true, true, true, true, false, false] rfl rfl (one_of HT_.out (by kernel_rfl)) (by decide) (fun K hK => ?_)
                refine value_ (w1 := ?_) (v := ?_) (by rfl) rfl ?_ ?_
                rotate_left 2
                · go_simp
                  constructor
                  · rfl
                  · rfl
                refine hK.out _ _ ((World.cell?_alloc_lt _ _ _ (World.block_lt_of_cell? _ _ (((HB.out.cell (World.block_lt_of_cell? w _ hw197_0)).trans hw197_0)))).trans (((HB.out.cell (World.block_lt_of_cell? w _ hw197_0)).trans hw197_0))) (fun hHeld => ?_)
                clear hK K
                refine norm_ (a' := ?_) ?_ ?_
                rotate_left
                · show Act.put _ (some 24) _ = _
                  simp only [Act.put, List.setIfInBounds_toArray, List.set_cons_zero, List.set_cons_succ, i64_w, i32_w]
                  rfl
                refine one_ (i := 13) (N := some 25) #[true, true, true, true, true, true, true, true, true, true, true, true, true, true, false] rfl rfl (one_of HT_.out (by kernel_rfl)) (by decide) (fun K hK => ?_)
                refine Kd.R_append_step Kd.bool (w0 := w) w.heap.size (by rfl) (.tmp 12) (.tmp 24) 66 4 (.bool false) 1 rfl Try.underlying66 info4 rfl (by decide) (by omega) u3 x3_1 ((Int.tmod (wrap64 (Int.tdiv (wrap64 (rd l0 (ji3))) t198)) 2) == 1) [.bool ((Int.tmod (wrap64 (Int.tdiv (wrap64 (rd l0 (ji3))) t198)) 2) == 1)] (fun _ => True) (fun _ => False) rfl rfl ?aP (fun _ hk => hk.elim) ?aF ?aO ?aB ?aS ?aL ?_
                (case aP => exact rfl)
                (case aB => exact (by repeat (first | (with_reducible first | exact HB.out | apply below_alloc | apply pw_below_drewN | apply below_drew1) | exact HB.out)))
                (case aF => exact (fun _ _ => trivial))
                (case aO => exact (by (with_reducible repeat (first | apply Kd.R_alloc | apply Kd.R_drewN | apply Kd.R_drew)); exact HO_3.out))
                (case aS => exact (below_size (by repeat (first | (with_reducible first | exact HB.out | apply below_alloc | apply pw_below_drewN | apply below_drew1) | exact HB.out))))
                (case aL => have := LMc8.out; omega)
                intro v200 w10 ho hb hg hat
                rw [← Ny199.out] at ho
                have n0_ := Aside0.mk (hb)
                have n1_ := Aside0.mk (ho)
                clear HB
                clear HO_3
                have HB := n0_
                have HO201 := n1_
                clear n0_ n1_
                clear ho hb hg hat
                refine hK.out _ _ (((HB.out.cell (World.block_lt_of_cell? w _ hw197_0)).trans hw197_0)) (fun hHeld => ?_)
                clear hK K
                refine norm_ (a' := ?_) ?_ ?_
                rotate_left
                · show Act.put _ (some 25) _ = _
                  simp only [Act.put, List.setIfInBounds_toArray, List.set_cons_zero, List.set_cons_succ, i64_w, i32_w]
                  rfl
                refine pure_ (i := 14) (N := some 3) (v := ?_) (a' := ?_) #[true, true, true, true, true, true, true, true, true, true, true, true, true, true, true] rfl rfl (any_of HT_.out (by kernel_rfl)) (fun _ _ _ h => h) (Or.inl ⟨by rfl, ?_⟩) ?_ ?_
                rotate_left
                · intro w'
                  go_simp
                  with_reducible rfl
                rotate_left
                · simp only [Act.put, List.setIfInBounds_toArray, List.set_cons_zero, List.set_cons_succ, i64_w, i32_w]
                  rfl
                refine done_ (done_of HT_.out (by kernel_rfl)) ?_
                try go_wp2
                go_roundg k1
                case measure => have := HK1.out; omega
                case rel => exact ⟨(y199), (wrap64 (x4_1 + 1)), (by first | rfl | (simp; done) | (simp [*]; done)), H', ⟨by have := HK1.out; omega⟩, ⟨by (with_reducible repeat (first | apply Kd.R_alloc | apply Kd.R_drewN | apply Kd.R_drew)); exact HO201.out⟩, ⟨by repeat (first | (with_reducible first | exact HB.out | apply below_alloc | apply pw_below_drewN | apply below_drew1) | exact HB.out)⟩⟩
              · rw [if_neg c8] at H
                exact absurd H (by simp)
          · rw [if_neg c5] at H
            exact absurd H (by simp)
        · rw [if_neg c4] at H
          exact absurd H (by simp)
      · rw [if_neg c2] at H
        have c2b0 : decide (x4_1 < (wrap64 (8 * (l0.length : Int)))) = false := decide_eq_false c2
        clear c2
        obtain rfl := Option.some.inj H
        go_wp2
        go_ret
        exact ⟨_, by first | rfl | (simp [errW_none, errW_some] <;> rfl) | (simp [*, errW_none, errW_some] <;> rfl), by (with_reducible repeat (first | apply Kd.R_alloc | apply Kd.R_drewN | apply Kd.R_drew)); exact HO_3.out, by repeat (first | (with_reducible first | exact HB.out | apply below_alloc | apply pw_below_drewN | apply below_drew1) | exact HB.out)⟩

end Go.Proofs.Ytoohpdamndgdlaa.P

-- Made by a program of this session (the print of the kit over a neighbour), for this claim.
namespace Go.Proofs.Ytoohpdamndgdlaa.P
open Go.RowKit Go.Proofs.YtoohpdamndgdlaaW.PrintWords Go.Proofs.YtoohpdamndgdlaaW.PrintLast Go.Proofs.YtoohpdamndgdlaaW.PrintMore
attribute [local go_sem] max2_int min2_int max_two min_two max_three min_three max_four min_four   -- for this text's walks alone
set_option linter.unusedVariables false
set_option linter.unusedSimpArgs false

/-! ### torrentlaw4_copied: function 24 -/
def torrentlaw4_copied.l0 : Nat → List Int → List Int → Int → Option (List Int)
  | 0, _, _, _ => none
  | k + 1, x0, x3, x4 => if x4 < (x0.length : Int) then (if 0 ≤ x4 then (if x3.length < 140737488355328 then (torrentlaw4_copied.l0 k x0 (x3 ++ [rd x0 x4]) (wrap64 (x4 + 1))) else (none)) else (none)) else (some x3)
def torrentlaw4_copied.f (k : Nat) (l0 : List Int) : Option (List Int) := torrentlaw4_copied.l0 k l0 ([] : List Int) 0
theorem torrentlaw4_copied.mono_l : ∀ k, (∀ y0 y1 y2, LeO (torrentlaw4_copied.l0 k y0 y1 y2) (torrentlaw4_copied.l0 (k + 1) y0 y1 y2))
  | 0 => fun _ _ _ r h => by simp [torrentlaw4_copied.l0] at h
  | k + 1 => by
    have ih0 := torrentlaw4_copied.mono_l k
    · intro y0 y1 y2
      unfold torrentlaw4_copied.l0
      repeat' first
      | (with_reducible exact ih0 _ _ _)
      | (with_reducible exact LeO.refl _)
      | (with_reducible exact LeO.none _)
      | (with_reducible refine LeO.ite ?_ ?_)
      | (with_reducible refine LeO.bind ?_ (fun _ => ?_))
      | exact ih0 _ _ _
      | exact LeO.none _
      | refine LeO.ite ?_ ?_
      | refine LeO.bind ?_ (fun _ => ?_)
theorem torrentlaw4_copied.mono : ∀ a0 k, LeO (torrentlaw4_copied.f k a0) (torrentlaw4_copied.f (k + 1) a0) := by
  intro a0 k
  have ih0 := torrentlaw4_copied.mono_l k
  unfold torrentlaw4_copied.f
  repeat' first
      | (with_reducible exact ih0 _ _ _)
      | (with_reducible exact LeO.refl _)
      | (with_reducible exact LeO.none _)
      | (with_reducible refine LeO.ite ?_ ?_)
      | (with_reducible refine LeO.bind ?_ (fun _ => ?_))
      | exact ih0 _ _ _
      | exact LeO.none _
      | refine LeO.ite ?_ ?_
      | refine LeO.bind ?_ (fun _ => ?_)
theorem torrentlaw4_copied.bound : ∀ (k : Nat) (l xs : List Int) (i : Int) (r : List Int), torrentlaw4_copied.l0 k l xs i = some r → (xs.length : Int) = i → l.length ≤ 140737488355328 ∨ l.length ≤ xs.length
  | 0, _, _, _, _, h, _ => by simp [torrentlaw4_copied.l0] at h
  | k + 1, l, xs, i, r, h, hi => by
    simp only [torrentlaw4_copied.l0] at h
    by_cases c1 : i < (l.length : Int)
    · rw [if_pos c1] at h
      by_cases c2 : 0 ≤ i
      · rw [if_pos c2] at h
        by_cases c3 : xs.length < 140737488355328
        · rw [if_pos c3] at h
          have e : wrap64 (i + 1) = i + 1 := by unfold wrap64; omega
          rw [e] at h
          rcases torrentlaw4_copied.bound k l (xs ++ [rd l i]) (i + 1) r h (by simp; omega) with h1 | h1
          · exact .inl h1
          · left; simp at h1; omega
        · rw [if_neg c3] at h
          exact absurd h (by simp)
      · omega
    · right; omega
theorem torrentlaw4_copied.nothing (k : Nat) (r : List Int) (h : torrentlaw4_copied.l0 k [] [] 0 = some r) : r = [] := by
  cases k with
  | zero => simp [torrentlaw4_copied.l0] at h
  | succ k => simpa [torrentlaw4_copied.l0] using h.symm
set_option maxHeartbeats 4000000 in
set_option maxRecDepth 100000 in
theorem torrentlaw4_copied.calls (k : Nat) (A0 : Option Addr) (c0 : Nat) (l0 : List Int) (r : List Int) (w : World) (hr0 : Kd.C (Kd.int .u8) w A0 l0.length l0) (hc0 : l0.length ≤ c0) (h : torrentlaw4_copied.f k l0 = some r) :
    Calls Try.prog 24 #[.slice A0 l0.length c0] w fun e w' => ∃ v0_ : Value, e = .returned (v0_) ∧ Kd.R (Kd.int .u8) 5 w' w.heap.size (fun _ => True) v0_ r ∧ Below w.heap.size w w' := by
  have HR0 := Aside0.mk hr0
  have HC0 := Aside0.mk hc0
  clear hr0 hc0
  have HB := Aside0.mk (Below.refl w.heap.size w)
  have H : (torrentlaw4_copied.l0 k l0 ([] : List Int) 0) = some r := h
  clear h
  have H' := Aside0.mk H
  clear H
  have hbound : l0.length ≤ 140737488355328 := by
    rcases torrentlaw4_copied.bound k l0 [] 0 r H'.out rfl with h1 | h1
    · exact h1
    · have h2 : l0.length ≤ 0 := h1
      omega
  have HL := Aside0.mk hbound
  clear hbound
  have hnil := fun w1 => Lib.run_eql_slice_nil (P := Try.prog) w1 22 5 A0 l0.length c0 0 0 Try.underlying22
  cases A0 with
  | none =>
    have hl : l0 = [] := by
      rcases Nat.eq_zero_or_pos l0.length with hz | hz
      · exact List.eq_nil_of_length_eq_zero hz
      · obtain ⟨ad, e, _⟩ := HR0.out.2.2 hz
        cases e
    subst hl
    have hr : r = [] := torrentlaw4_copied.nothing k r H'.out
    subst hr
    clear HL HR0 HC0 H' hnil
    have hnil := fun w1 => Lib.run_eql_slice_nil (P := Try.prog) w1 22 5 none 0 c0 0 0 Try.underlying22
    show Calls Try.prog 24 #[.slice none 0 c0] w _
    go_enter Try.func24, Try.ntmps24
    go_wp2
    go_ret
    exact ⟨_, rfl, Kd.R_nil _ _ _ _ _, HB.out⟩
  | some a0 =>
  obtain ⟨i0, hi, hz0, hz1, hz2⟩ := info_parts info5
  have HI := Aside0.mk hi
  have HZ0 := Aside0.mk hz0
  have HZ1 := Aside0.mk hz1
  have HZ2 := Aside0.mk hz2
  clear hi hz0 hz1 hz2
  go_enter Try.func24, Try.ntmps24
  go_wp2_with (at_make; refine wpList_make_own _ rfl _ _ 22 rfl w.heap.size 5 i0 (.int .u8 0) 1 Try.underlying22 HI.out HZ0.out HZ1.out .i64 .i64 _ l0.length rfl rfl rfl (by rw [HZ2.out]; have := HL.out; omega) (by have := HL.out; simp only [maxLen]; omega) (Nat.le_refl _) ?_; intro w1 hown hg; have n0_ := Aside0.mk (show Kd.R (Kd.int .u8) 5 w1 w.heap.size (fun _ => True) (.slice (some ⟨w.heap.size, 0, none⟩) 0 l0.length) [] from ⟨fun _ _ => trivial, [], hown, Reps.none _ _⟩); have n1_ := Aside0.mk (pw_below_grown HB.out none (Nat.le_refl _) hg (fun _ hk => by cases hk)); clear HB; have HO := n0_; have HB := n1_; clear n0_ n1_ hown hg)
  clear hnil HI HZ0 HZ1 HZ2 HL
  go_loopg [3, 4] k (fun kq v3 v4 w' => ∃ (x3_1 : List Int) (x4_1 : Int), v4 = .int .i64 x4_1 ∧ Aside0 (torrentlaw4_copied.l0 kq l0 x3_1 x4_1 = some r) ∧ Aside0 (kq ≤ k) ∧ Aside0 (Kd.R (Kd.int .u8) 5 w' w.heap.size (fun _ => True) v3 x3_1) ∧ Aside0 (Below w.heap.size w w'))
  case atStart => exact ⟨(([] : List Int)), (0), (by first | rfl | (simp; done) | (simp [*]; done)), H', ⟨Nat.le_refl _⟩, ⟨HO.out⟩, ⟨HB.out⟩⟩
  case round =>
    clear H'
    obtain ⟨x3_1, x4_1, rfl, HA, HK1, HO_3, HB⟩ := hrel
    cases gk with
    | zero => exact absurd HA.out (by simp [torrentlaw4_copied.l0])
    | succ k1 =>
      have H := HA.out
      clear HA
      simp only [torrentlaw4_copied.l0] at H
      by_cases c2 : x4_1 < (l0.length : Int)
      · rw [if_pos c2] at H
        have c2b0 : decide (x4_1 < (l0.length : Int)) = true := decide_eq_true c2
        clear c2
        by_cases c3 : 0 ≤ x4_1
        · rw [if_pos c3] at H
          have c3b0 : decide (0 ≤ x4_1) = true := decide_eq_true c3
          clear c3
          by_cases c4 : x3_1.length < 140737488355328
          · rw [if_pos c4] at H
            have LMc4 := Aside0.mk c4
            clear c4
            obtain ⟨y187, hy187⟩ : ∃ y_ : List Int, y_ = (x3_1 ++ [rd l0 x4_1]) := ⟨_, rfl⟩
            replace H : (torrentlaw4_copied.l0 k1 l0 y187 (wrap64 (x4_1 + 1))) = some r := by first | (rw [hy187]; with_reducible exact H) | (have H2_ := (Option.bind_some _ _).symm.trans H; rw [hy187]; with_reducible exact H2_) | (have H2_ := (Option.bind_some _ _).symm.trans H; with_reducible exact H2_) | with_reducible exact H | (rw [hy187]; exact H) | exact H
            have Ny187 := Aside0.mk hy187
            clear hy187
            have H' := Aside0.mk H
            clear H
            have p186 : 0 ≤ (x4_1 : Int) := of_decide_eq_true (by first | (with_reducible assumption) | assumption)
            have q186 : x4_1 < (l0.length : Int) := of_decide_eq_true (by first | (with_reducible assumption) | assumption)
            obtain ⟨ad186, e186, hx186_0⟩ := Kd.at_int HR0.out x4_1 p186 q186
            cases e186
            replace hx186_0 := (HB.out.cell (World.block_lt_of_cell? w _ hx186_0)).trans hx186_0
            replace p186 := eq_true p186
            replace q186 := eq_true q186
            go_wp2_with (first | ((with_reducible refine gate_builtin (b := .append) (xs := #[.tmp 16, .tmp 21]) rfl ?_); at_builtin; refine Kd.R_append (Kd.int .u8) (w0 := w) w.heap.size rfl (.tmp 16) (.tmp 21) 22 5 (.int .u8 0) 1 rfl Try.underlying22 info5 rfl (by decide) (by omega) u3 x3_1 (rd l0 x4_1) [.int .u8 (rd l0 x4_1)] (fun _ => True) (fun _ => False) rfl rfl ?aP (fun _ hk => hk.elim) ?aF ?aO ?aB ?aS ?aL ?_; (case aP => exact rfl); (case aB => exact (by repeat (first | (with_reducible first | exact HB.out | apply below_alloc | apply pw_below_drewN | apply below_drew1) | exact HB.out))); (case aF => exact (fun _ _ => trivial)); (case aO => exact (by (with_reducible repeat (first | apply Kd.R_alloc | apply Kd.R_drewN | apply Kd.R_drew)); exact HO_3.out)); (case aS => exact (below_size (by repeat (first | (with_reducible first | exact HB.out | apply below_alloc | apply pw_below_drewN | apply below_drew1) | exact HB.out)))); (case aL => have := LMc4.out; omega); intro v188 w5 ho hb hg hat; rw [← Ny187.out] at ho; have n0_ := Aside0.mk (hb); have n1_ := Aside0.mk (ho); clear HB; clear HO_3; have HB := n0_; have HO189 := n1_; clear n0_ n1_; clear ho hb hg hat))
            go_roundg k1
            case measure => have := HK1.out; omega
            case rel => exact ⟨(y187), (wrap64 (x4_1 + 1)), (by first | rfl | (simp; done) | (simp [*]; done)), H', ⟨by have := HK1.out; omega⟩, ⟨by (with_reducible repeat (first | apply Kd.R_alloc | apply Kd.R_drewN | apply Kd.R_drew)); exact HO189.out⟩, ⟨by repeat (first | (with_reducible first | exact HB.out | apply below_alloc | apply pw_below_drewN | apply below_drew1) | exact HB.out)⟩⟩
          · rw [if_neg c4] at H
            exact absurd H (by simp)
        · rw [if_neg c3] at H
          exact absurd H (by simp)
      · rw [if_neg c2] at H
        have c2b0 : decide (x4_1 < (l0.length : Int)) = false := decide_eq_false c2
        clear c2
        obtain rfl := Option.some.inj H
        go_wp2
        go_ret
        exact ⟨_, by first | rfl | (simp [errW_none, errW_some] <;> rfl) | (simp [*, errW_none, errW_some] <;> rfl), by (with_reducible repeat (first | apply Kd.R_alloc | apply Kd.R_drewN | apply Kd.R_drew)); exact HO_3.out, by repeat (first | (with_reducible first | exact HB.out | apply below_alloc | apply pw_below_drewN | apply below_drew1) | exact HB.out)⟩

end Go.Proofs.Ytoohpdamndgdlaa.P

/- Check, open and copied, the program's and the reference's, in plain words. Conditions: bytes; open: at most 8192 of them. -/
set_option linter.unusedVariables false
set_option linter.unusedSimpArgs false
namespace Go.Proofs.Ytoohpdamndgdlaa.B
open Go.RowKit Go.Proofs.Ytoohpdamndgdlaa.P Go.Proofs.YtoohpdamndgdlaaW.PrintWords Go.Proofs.YtoohpdamndgdlaaW.PrintLast Go.Proofs.YtoohpdamndgdlaaW.PrintMore

/-! ### copied -/
theorem copied_l (l : List Int) (hl : l.length ≤ 140737488351232) : ∀ (d i : Nat), i + d = l.length → Ev (fun k => torrentlaw4_copied.l0 k l (l.take i) (i : Int)) l
  | 0, i, h => Ev.step (f := fun _ => some l) (fun k => by
      simp only [torrentlaw4_copied.l0]
      rw [if_neg (by omega), List.take_of_length_le (by omega)]) (Ev.now _)
  | d + 1, i, h => Ev.step (f := fun k => torrentlaw4_copied.l0 k l (l.take (i + 1)) ((i + 1 : Nat) : Int)) (fun k => by
      simp only [torrentlaw4_copied.l0]
      rw [if_pos (by omega), if_pos (by omega), if_pos (by rw [List.length_take]; omega), inc i (by omega), rd_nat, List.take_succ_eq_append_getElem (by omega)]
      congr 2
      rw [List.getD_eq_getElem?_getD, List.getElem?_eq_getElem (by omega)]
      rfl) (copied_l l hl d (i + 1) (by omega))
theorem copied_f (l : List Int) (hl : l.length ≤ 140737488351232) : Ev (fun k => torrentlaw4_copied.f k l) l := copied_l l hl l.length 0 (by omega)

/-! ### Check -/
theorem refSize_f (n : Nat) (h : n ≤ 65536) : torrentref4_size.f (n : Int) = some (((n + 7) / 8 : Nat) : Int) := by
  unfold torrentref4_size.f
  rw [rem8, quo8 n (by omega)]
  by_cases h0 : n % 8 = 0
  · rw [if_neg (by omega)]
    congr 1
    omega
  · rw [if_pos (by omega), inc _ (by omega)]
    congr 1
    omega
theorem spare_mask (x : Int) (hx : 0 ≤ x ∧ x < 256) (t : Nat) (h : t < 8) : Go.bits .and .u8 x (shr .u8 255 (t : Int)) = x % 2 ^ (8 - t) := by
  have e : shr .u8 255 (t : Int) = 2 ^ (8 - t) - 1 := by
    match t, h with
    | 0, _ | 1, _ | 2, _ | 3, _ | 4, _ | 5, _ | 6, _ | 7, _ => decide
  rw [e]
  exact bits_mask .u8 8 (by decide) wraps_u8 (8 - t) (by omega) x hx.1 (by omega)
theorem spare_ref (x : Int) (hx : 0 ≤ x ∧ x < 256) (t : Nat) (h : t < 8) (h0 : 0 < t) : wrap64 (2 * mk8 t) ≠ 0 ∧ Int.tmod (wrap64 x) (wrap64 (2 * mk8 t)) = x % 2 ^ (8 - t) := by
  have e : wrap64 (2 * mk8 t) = 2 ^ (8 - t) := by
    match t, h with
    | 0, _ | 1, _ | 2, _ | 3, _ | 4, _ | 5, _ | 6, _ | 7, _ => decide +kernel
  have ne : (2 : Int) ^ (8 - t) ≠ 0 := by
    match t, h with
    | 0, _ | 1, _ | 2, _ | 3, _ | 4, _ | 5, _ | 6, _ | 7, _ => decide
  rw [e, w64 x (by omega) (by omega), Int.tmod_eq_emod_of_nonneg hx.1]
  exact ⟨ne, rfl⟩
theorem check_both (n : Int) (l : List Int) (hx : IsB l) (hl : l.length ≤ 140737488351232) : ∃ c, Ev (fun k => bitset_Check.f k n l) c ∧ Ev (fun k => torrentref4_Check.f k n l) c := by
  by_cases hb : n < 0 ∨ 65536 < n
  · refine ⟨40, ?_, ?_⟩
    · refine Ev.congr (f := fun k => bitset_Check.j0 k n l true) (fun k => ?_) (Ev.step (f := fun _ => some 40) (fun k => by simp only [bitset_Check.j0]; rfl) (Ev.now _))
      unfold bitset_Check.f
      by_cases h0 : n < 0
      · rw [if_pos h0]
      · rw [if_neg h0, decide_eq_true (by omega)]
    · refine Ev.congr (f := fun k => torrentref4_Check.j0 k n l true) (fun k => ?_) (Ev.step (f := fun _ => some 40) (fun k => by simp only [torrentref4_Check.j0]; rfl) (Ev.now _))
      unfold torrentref4_Check.f
      by_cases h0 : n < 0
      · rw [if_pos h0]
      · rw [if_neg h0, decide_eq_true (by omega)]
  · obtain ⟨m, rfl⟩ : ∃ m : Nat, n = m := ⟨n.toNat, by omega⟩
    have hm : m ≤ 65536 := by omega
    have e1 : ∀ k, bitset_Check.f k (m : Int) l = bitset_Check.j0 k (m : Int) l false := fun k => by
      unfold bitset_Check.f
      rw [if_neg (by omega), decide_eq_false (by omega)]
    have e2 : ∀ k, torrentref4_Check.f k (m : Int) l = torrentref4_Check.j0 k (m : Int) l false := fun k => by
      unfold torrentref4_Check.f
      rw [if_neg (by omega), decide_eq_false (by omega)]
    by_cases hlen : l.length = (m + 7) / 8
    · by_cases h8 : m % 8 = 0
      · refine ⟨0, Ev.congr e1 (Ev.step (f := fun _ => some 0) (fun k => ?_) (Ev.now _)), Ev.congr e2 (Ev.step (f := fun _ => some 0) (fun k => ?_) (Ev.now _))⟩
        · simp only [bitset_Check.j0]
          rw [if_neg (by decide), size_f m hm]
          simp only [Option.bind_some]
          rw [if_pos (by omega), rem8, if_pos (by omega)]
        · simp only [torrentref4_Check.j0]
          rw [if_neg (by decide), refSize_f m hm]
          simp only [Option.bind_some]
          rw [if_pos (by omega), rem8, if_neg (by omega)]
      · have h88 := Nat.mod_lt m (show 8 > 0 by decide)
        have hxb := hx.getD (m / 8)
        have hs := spare_mask _ hxb (m % 8) h88
        obtain ⟨hr1, hr2⟩ := spare_ref _ hxb (m % 8) h88 (by omega)
        have eL : wrap64 ((l.length : Int) - 1) = ((m / 8 : Nat) : Int) := by rw [w64 _ (by omega) (by omega)]; omega
        refine ⟨if l.getD (m / 8) 0 % 2 ^ (8 - m % 8) = 0 then 0 else 42, Ev.congr e1 (Ev.step (f := fun _ => some (if l.getD (m / 8) 0 % 2 ^ (8 - m % 8) = 0 then 0 else 42)) (fun k => ?_) (Ev.now _)), Ev.congr e2 (Ev.step (f := fun k => (torrentref4_weight.f k (m : Int)).bind fun t => if wrap64 (2 * t) = 0 then none else if Int.tmod (wrap64 (l.getD (m / 8) 0)) (wrap64 (2 * t)) = 0 then some 0 else some 42) (fun k => ?_) (Ev.bind (weight_f m) ?_))⟩
        · simp only [bitset_Check.j0]
          rw [if_neg (by decide), size_f m hm]
          simp only [Option.bind_some]
          rw [if_pos (by omega), rem8, quo8 m (by omega), if_neg (by omega), if_pos (by omega), if_pos (by omega), if_pos (by omega), rd_nat, hs]
          split <;> rfl
        · simp only [torrentref4_Check.j0]
          rw [if_neg (by decide), refSize_f m hm]
          simp only [Option.bind_some]
          rw [if_pos (by omega), rem8, if_pos (by omega), eL, rd_nat, if_pos (by omega), if_pos (by omega)]
        · refine Ev.congr (f := fun _ => some (if l.getD (m / 8) 0 % 2 ^ (8 - m % 8) = 0 then 0 else 42)) (fun k => ?_) (Ev.now _)
          rw [if_neg hr1, hr2]
          split <;> rfl
    · refine ⟨41, Ev.congr e1 (Ev.step (f := fun _ => some 41) (fun k => ?_) (Ev.now _)), Ev.congr e2 (Ev.step (f := fun _ => some 41) (fun k => ?_) (Ev.now _))⟩
      · simp only [bitset_Check.j0]
        rw [if_neg (by decide), size_f m hm]
        simp only [Option.bind_some]
        rw [if_neg (by omega)]
      · simp only [torrentref4_Check.j0]
        rw [if_neg (by decide), refSize_f m hm]
        simp only [Option.bind_some]
        rw [if_neg (by omega)]
theorem check_ok {n : Int} {l : List Int} (h : Ev (fun k => bitset_Check.f k n l) 0) : ∃ m : Nat, n = m ∧ m ≤ 65536 ∧ l.length = (m + 7) / 8 := by
  obtain ⟨k, hk⟩ := h.rounds
  exact check_zero hk

/-! ### open -/
def bitsL (l : List Int) (j : Nat) : List Bool := (List.range j).map (gbit l)
theorem bitsL_succ (l : List Int) (j : Nat) : bitsL l (j + 1) = bitsL l j ++ [gbit l j] := by simp [bitsL, List.range_succ]
theorem bitsL_length (l : List Int) (j : Nat) : (bitsL l j).length = j := by simp [bitsL]
theorem bitsL_at (l : List Int) (j i : Nat) (h : i < j) : (bitsL l j).getD i false = gbit l i := by simp [bitsL, List.getD_eq_getElem?_getD, h]
theorem ref_bit (x : Int) (hx : 0 ≤ x ∧ x < 256) (t : Nat) (h : t < 8) : (Int.tmod (wrap64 (Int.tdiv (wrap64 x) (mk8 t))) 2 == 1) = x.toNat.testBit (7 - t) := by
  obtain ⟨a, rfl⟩ : ∃ a : Nat, x = a := ⟨x.toNat, by omega⟩
  have e1 : Int.tdiv (a : Int) (mk8 t) = ((a / 2 ^ (7 - t) : Nat) : Int) := by
    unfold mk8
    rw [Int.tdiv_eq_ediv_of_nonneg (by omega)]
    exact (Int.natCast_ediv a (2 ^ (7 - t))).symm
  have hle : a / 2 ^ (7 - t) ≤ a := Nat.div_le_self _ _
  rw [w64 (a : Int) (by omega) (by omega), e1, Int.toNat_natCast, Nat.testBit_eq_decide_div_mod_eq]
  generalize a / 2 ^ (7 - t) = d at *
  rw [w64 (d : Int) (by omega) (by omega), Int.tmod_eq_emod_of_nonneg (by omega)]
  have e2 : ((d : Int) % 2 = 1) ↔ (d % 2 = 1) := by omega
  rw [Bool.eq_iff_iff]
  simp only [beq_iff_eq, decide_eq_true_eq]
  exact e2
theorem open_l (l : List Int) (hx : IsB l) (hl : l.length ≤ 8192) : ∀ (d i : Nat), i + d = 8 * l.length → Ev (fun k => torrentref4_open.l0 k l (bitsL l i) (i : Int)) (bitsL l (8 * l.length))
  | 0, i, h => Ev.step (f := fun _ => some (bitsL l (8 * l.length))) (fun k => by
      simp only [torrentref4_open.l0]
      rw [w64 _ (by omega) (by omega), if_neg (by omega), show i = 8 * l.length by omega]) (Ev.now _)
  | d + 1, i, h => Ev.step (f := fun k => (torrentref4_weight.f k (i : Int)).bind fun t => if t = 0 then none else if (bitsL l i).length < 140737488355328 then torrentref4_open.l0 k l (bitsL l i ++ [((Int.tmod (wrap64 (Int.tdiv (wrap64 (l.getD (i / 8) 0)) t)) 2) == 1)]) ((i + 1 : Nat) : Int) else none) (fun k => by
      simp only [torrentref4_open.l0]
      rw [w64 (8 * (l.length : Int)) (by omega) (by omega), if_pos (by omega), quo8 i (by omega), rd_nat, if_pos (by omega), if_pos (by omega), inc i (by omega)]) (by
      refine Ev.bind (weight_f i) (Ev.congr (f := fun k => torrentref4_open.l0 k l (bitsL l (i + 1)) ((i + 1 : Nat) : Int)) (fun k => ?_) (open_l l hx hl d (i + 1) (by omega)))
      have h8 := Nat.mod_lt i (show 8 > 0 by decide)
      have hne : mk8 (i % 8) ≠ 0 := by
        unfold mk8
        have := Nat.two_pow_pos (7 - i % 8)
        omega
      rw [if_neg hne, if_pos (by rw [bitsL_length]; omega), ref_bit _ (hx.getD _) _ h8, bitsL_succ]
      rfl)
theorem open_f (l : List Int) (hx : IsB l) (hl : l.length ≤ 8192) : Ev (fun k => torrentref4_open.f k l) (bitsL l (8 * l.length)) := open_l l hx hl (8 * l.length) 0 (by omega)
end Go.Proofs.Ytoohpdamndgdlaa.B

-- Made by a program of this session (the print of the kit over a neighbour), for this claim.
namespace Go.Proofs.Ytoohpdamndgdlaa.P
open Go.RowKit Go.Proofs.YtoohpdamndgdlaaW.PrintWords Go.Proofs.YtoohpdamndgdlaaW.PrintLast Go.Proofs.YtoohpdamndgdlaaW.PrintMore
attribute [local go_sem] max2_int min2_int max_two min_two max_three min_three max_four min_four   -- for this text's walks alone
set_option linter.unusedVariables false
set_option linter.unusedSimpArgs false

/-! ### torrentref4_Ones: function 23 -/
def torrentref4_Ones.l0 : Nat → Int → List Bool → List Int → Int → Option (List Int × Int)
  | 0, _, _, _, _ => none
  | k + 1, x0, x7, x8, x9 => if x9 < x0 then (if 0 ≤ x9 then (if x9 < (x7.length : Int) then (if rdOf false x7 x9 = true then (if x8.length < 17592186044416 then (torrentref4_Ones.l0 k x0 x7 (x8 ++ [x9]) (wrap64 (x9 + 1))) else (none)) else (torrentref4_Ones.l0 k x0 x7 x8 (wrap64 (x9 + 1)))) else (none)) else (none)) else (some (x8, 0))
def torrentref4_Ones.f (k : Nat) (a0 : Int) (l1 : List Int) : Option (List Int × Int) := (torrentref4_Check.f k a0 l1).bind fun t301 => (if t301 = 0 then ((torrentref4_open.f k l1).bind fun t302 => (torrentref4_Ones.l0 k a0 t302 ([] : List Int) 0)) else (some (([] : List Int), t301)))
theorem torrentref4_Ones.mono_l : ∀ k, (∀ y0 y1 y2 y3, LeO (torrentref4_Ones.l0 k y0 y1 y2 y3) (torrentref4_Ones.l0 (k + 1) y0 y1 y2 y3))
  | 0 => fun _ _ _ _ r h => by simp [torrentref4_Ones.l0] at h
  | k + 1 => by
    have ih0 := torrentref4_Ones.mono_l k
    · intro y0 y1 y2 y3
      unfold torrentref4_Ones.l0
      repeat' first
      | (with_reducible exact ih0 _ _ _ _)
      | (with_reducible exact torrentref4_Check.mono _ _ _)
      | (with_reducible exact torrentref4_open.mono _ _)
      | (with_reducible exact LeO.refl _)
      | (with_reducible exact LeO.none _)
      | (with_reducible refine LeO.ite ?_ ?_)
      | (with_reducible refine LeO.bind ?_ (fun _ => ?_))
      | exact ih0 _ _ _ _
      | exact torrentref4_Check.mono _ _ _
      | exact torrentref4_open.mono _ _
      | exact LeO.none _
      | refine LeO.ite ?_ ?_
      | refine LeO.bind ?_ (fun _ => ?_)
theorem torrentref4_Ones.mono : ∀ a0 a1 k, LeO (torrentref4_Ones.f k a0 a1) (torrentref4_Ones.f (k + 1) a0 a1) := by
  intro a0 a1 k
  have ih0 := torrentref4_Ones.mono_l k
  unfold torrentref4_Ones.f
  repeat' first
      | (with_reducible exact ih0 _ _ _ _)
      | (with_reducible exact torrentref4_Check.mono _ _ _)
      | (with_reducible exact torrentref4_open.mono _ _)
      | (with_reducible exact LeO.refl _)
      | (with_reducible exact LeO.none _)
      | (with_reducible refine LeO.ite ?_ ?_)
      | (with_reducible refine LeO.bind ?_ (fun _ => ?_))
      | exact ih0 _ _ _ _
      | exact torrentref4_Check.mono _ _ _
      | exact torrentref4_open.mono _ _
      | exact LeO.none _
      | refine LeO.ite ?_ ?_
      | refine LeO.bind ?_ (fun _ => ?_)
set_option maxHeartbeats 8000000 in
set_option maxRecDepth 100000 in
theorem torrentref4_Ones.calls (k : Nat) (a0 : Int) (A1 : Option Addr) (c1 : Nat) (l1 : List Int) (r1 : List Int) (r2 : Int) (w : World) (hr1 : Kd.C (Kd.int .u8) w A1 l1.length l1) (hc1 : l1.length ≤ c1) (h : torrentref4_Ones.f k a0 l1 = some (r1, r2)) :
    Calls Try.prog 23 #[.int .i64 a0, .slice A1 l1.length c1] w fun e w' => ∃ v0_ : Value, e = .returned (.tuple #[v0_, .int .i64 r2]) ∧ Kd.R (Kd.int .i64) 3 w' w.heap.size (fun _ => True) v0_ r1 ∧ Below w.heap.size w w' := by
  have HR1 := Aside0.mk hr1
  have HC1 := Aside0.mk hc1
  clear hr1 hc1
  have HB := Aside0.mk (Below.refl w.heap.size w)
  have H : ((torrentref4_Check.f k a0 l1).bind fun t301 => (if t301 = 0 then ((torrentref4_open.f k l1).bind fun t302 => (torrentref4_Ones.l0 k a0 t302 ([] : List Int) 0)) else (some (([] : List Int), t301)))) = some (r1, r2) := h
  clear h
  replace H := Option.bind_eq_some_iff.mp H
  obtain ⟨t301, A30, H⟩ := H
  replace H : (if t301 = 0 then ((torrentref4_open.f k l1).bind fun t302 => (torrentref4_Ones.l0 k a0 t302 ([] : List Int) 0)) else (some (([] : List Int), t301))) = some (r1, r2) := H
  have A3 := Aside0.mk A30
  clear A30
  by_cases c4 : t301 = 0
  · rw [if_pos c4] at H
    have c4b0 : (t301 == 0) = true := beq_iff_eq.mpr c4
    have c4b1 : (t301 != 0) = false := bne_eq_false_iff_eq.mpr c4
    clear c4
    replace H := Option.bind_eq_some_iff.mp H
    obtain ⟨t302, A50, H⟩ := H
    replace H : (torrentref4_Ones.l0 k a0 t302 ([] : List Int) 0) = some (r1, r2) := H
    have A5 := Aside0.mk A50
    clear A50
    have H' := Aside0.mk H
    clear H
    go_enter Try.func23, Try.ntmps23
    go_wp2_with (first | ((with_reducible refine gate_callee (f := 59) rfl ?_); refine goesL_ (some 12) rfl rfl Try.func59 (by kernel_rfl) rfl #[.int .i64 a0, .slice A1 l1.length c1] rfl (by (try simp only [List.map_toArray, List.map_cons, List.map_nil]); first | done | rfl | (simp only [List.length_drop, List.length_take]; rfl)) ?_; (with_reducible refine (torrentref4_Check.calls k a0 _ _ l1 t301 _ ?side1 ?side2 A3.out).mono ?_); (case side1 => repeat (first | exact HR1.out | (with_reducible refine Kd.C_alloc ?_ _) | (with_reducible refine Kd.C_drewN ?_ _) | (with_reducible refine Kd.C_drew ?_))); (case side2 => exact HC1.out); rintro e w' ⟨rfl, ⟨nd, rfl⟩⟩; refine ⟨_, rfl, ?_⟩) | ((with_reducible refine gate_callee (f := 60) rfl ?_); refine goesL_ (some 17) rfl rfl Try.func60 (by kernel_rfl) rfl #[.slice A1 l1.length c1] rfl (by (try simp only [List.map_toArray, List.map_cons, List.map_nil]); first | done | rfl | (simp only [List.length_drop, List.length_take]; rfl)) ?_; (with_reducible refine (torrentref4_open.calls k _ _ l1 t302 _ ?side1 ?side2 A5.out).mono ?_); (case side1 => repeat (first | exact HR1.out | (with_reducible refine Kd.C_alloc ?_ _) | (with_reducible refine Kd.C_drewN ?_ _) | (with_reducible refine Kd.C_drew ?_))); (case side2 => exact HC1.out); rintro e w6 ⟨v303, rfl, ho0, hb⟩; refine ⟨_, rfl, ?_⟩; have n0_ := Aside0.mk (Kd.R_lower ho0 (below_size (by repeat (first | (with_reducible first | exact HB.out | apply below_alloc | apply pw_below_drewN | apply below_drew1) | exact HB.out)))); have n1_ := Aside0.mk (below_step (by repeat (first | (with_reducible first | exact HB.out | apply below_alloc | apply pw_below_drewN | apply below_drew1) | exact HB.out)) hb); clear HB; have HO304 := n0_; have HB := n1_; clear n0_ n1_; (try clear hb); (try clear hb2); (try clear hk); (try clear hi); (try clear ho0)))
    go_loopg [8, 9] k (fun kq v8 v9 w' => ∃ (x8_1 : List Int) (x9_1 : Int), v9 = .int .i64 x9_1 ∧ Aside0 (torrentref4_Ones.l0 kq a0 t302 x8_1 x9_1 = some (r1, r2)) ∧ Aside0 (kq ≤ k) ∧ Aside0 (Kd.R Kd.bool 4 w' w.heap.size (fun _ => True) v303 t302) ∧ Aside0 (Kd.R (Kd.int .i64) 3 w' w.heap.size (fun _ => True) v8 x8_1) ∧ Aside0 (Below w.heap.size w w'))
    case atStart => exact ⟨(([] : List Int)), (0), (by first | rfl | (simp; done) | (simp [*]; done)), H', ⟨Nat.le_refl _⟩, ⟨by (with_reducible repeat (first | apply Kd.R_alloc | apply Kd.R_drewN | apply Kd.R_drew)); exact HO304.out⟩, ⟨by first | exact Kd.R_nil _ _ _ _ _ | exact Kd.N_nil _ _ _ _ _ | exact Kd.V_nil _ _ _ _ _ | exact Kd.Q_nil _ _ _ _ _ | exact Kd.S_nil _ _ _ _ _⟩, ⟨by repeat (first | (with_reducible first | exact HB.out | apply below_alloc | apply pw_below_drewN | apply below_drew1) | exact HB.out)⟩⟩
    case round =>
      clear H'
      try clear c1
      try clear c2
      try clear p2
      try clear c4
      try clear c4b0
      try clear c4b1
      try clear c5
      try clear c6
      obtain ⟨x8_1, x9_1, rfl, HA, HK1, HO_7, HO_8, HB⟩ := hrel
      cases gk with
      | zero => exact absurd HA.out (by simp [torrentref4_Ones.l0])
      | succ k1 =>
        have H := HA.out
        clear HA
        simp only [torrentref4_Ones.l0] at H
        by_cases c7 : x9_1 < a0
        · rw [if_pos c7] at H
          have c7b0 : decide (x9_1 < a0) = true := decide_eq_true c7
          clear c7
          by_cases c8 : 0 ≤ x9_1
          · rw [if_pos c8] at H
            have c8b0 : decide (0 ≤ x9_1) = true := decide_eq_true c8
            clear c8
            by_cases c9 : x9_1 < (t302.length : Int)
            · rw [if_pos c9] at H
              have c9b0 : decide (x9_1 < (t302.length : Int)) = true := decide_eq_true c9
              clear c9
              obtain ⟨bq10, hbq10⟩ : ∃ b_ : Bool, b_ = (rdOf false t302 x9_1) := ⟨_, rfl⟩
              replace H : (if bq10 = true then (if x8_1.length < 17592186044416 then (torrentref4_Ones.l0 k1 a0 t302 (x8_1 ++ [x9_1]) (wrap64 (x9_1 + 1))) else (none)) else (torrentref4_Ones.l0 k1 a0 t302 x8_1 (wrap64 (x9_1 + 1)))) = some (r1, r2) := by rw [← hbq10] at H; exact H
              have Nbq10 := Aside0.mk hbq10
              clear hbq10
              by_cases c11 : bq10 = true
              · subst c11
                have H1 : (if x8_1.length < 17592186044416 then (torrentref4_Ones.l0 k1 a0 t302 (x8_1 ++ [x9_1]) (wrap64 (x9_1 + 1))) else (none)) = some (r1, r2) := by rw [if_pos rfl] at H; exact H
                clear H
                have H := H1
                clear H1
                by_cases c12 : x8_1.length < 17592186044416
                · rw [if_pos c12] at H
                  have LMc12 := Aside0.mk c12
                  clear c12
                  obtain ⟨y306, hy306⟩ : ∃ y_ : List Int, y_ = (x8_1 ++ [x9_1]) := ⟨_, rfl⟩
                  replace H : (torrentref4_Ones.l0 k1 a0 t302 y306 (wrap64 (x9_1 + 1))) = some (r1, r2) := by first | (rw [hy306]; with_reducible exact H) | (have H2_ := (Option.bind_some _ _).symm.trans H; rw [hy306]; with_reducible exact H2_) | (have H2_ := (Option.bind_some _ _).symm.trans H; with_reducible exact H2_) | with_reducible exact H | (rw [hy306]; exact H) | exact H
                  have Ny306 := Aside0.mk hy306
                  clear hy306
                  have H' := Aside0.mk H
                  clear H
                  obtain ⟨Ao13, co13, eo13⟩ := Kd.R_slice HO_7.out
                  subst eo13
                  have p305 : 0 ≤ (x9_1 : Int) := of_decide_eq_true (by first | (with_reducible assumption) | assumption)
                  have q305 : x9_1 < (t302.length : Int) := of_decide_eq_true (by first | (with_reducible assumption) | assumption)
                  obtain ⟨ad305, e305, hx305_0⟩ := Kd.at_bool (Kd.R_reads' HO_7.out).2.2 x9_1 p305 q305
                  (try rw [← Nbq10.out] at hx305_0)
                  cases e305
                  replace p305 := eq_true p305
                  replace q305 := eq_true q305
                  go_wp2_with (first | ((with_reducible refine gate_builtin (b := .append) (xs := #[.tmp 27, .tmp 29]) rfl ?_); at_builtin; refine Kd.R_append (Kd.int .i64) (w0 := w) w.heap.size rfl (.tmp 27) (.tmp 29) 28 3 (.int .i64 0) 8 rfl Try.underlying28 info3 rfl (by decide) (by omega) u8 x8_1 x9_1 [.int .i64 x9_1] (fun _ => True) (fun _ => False) rfl rfl ?aP (fun _ hk => hk.elim) ?aF ?aO ?aB ?aS ?aL ?_; (case aP => exact rfl); (case aB => exact (by repeat (first | (with_reducible first | exact HB.out | apply below_alloc | apply pw_below_drewN | apply below_drew1) | exact HB.out))); (case aF => exact (fun _ _ => trivial)); (case aO => exact (by (with_reducible repeat (first | apply Kd.R_alloc | apply Kd.R_drewN | apply Kd.R_drew)); exact HO_8.out)); (case aS => exact (below_size (by repeat (first | (with_reducible first | exact HB.out | apply below_alloc | apply pw_below_drewN | apply below_drew1) | exact HB.out)))); (case aL => have := LMc12.out; omega); intro v307 w14 ho hb hg hat; rw [← Ny306.out] at ho; have n0_ := Aside0.mk (Kd.R_over' (by (with_reducible repeat (first | apply Kd.R_alloc | apply Kd.R_drewN | apply Kd.R_drew)); exact HO_7.out) (Kd.R_typed (by (with_reducible repeat (first | apply Kd.R_alloc | apply Kd.R_drewN | apply Kd.R_drew)); exact HO_8.out)) (by decide) hg); have n1_ := Aside0.mk (hb); have n2_ := Aside0.mk (ho); clear HO_7; clear HB; clear HO_8; have HO_7 := n0_; have HB := n1_; have HO308 := n2_; clear n0_ n1_ n2_; clear ho hb hg hat))
                  go_roundg k1
                  case measure => have := HK1.out; omega
                  case rel => exact ⟨(y306), (wrap64 (x9_1 + 1)), (by first | rfl | (simp; done) | (simp [*]; done)), H', ⟨by have := HK1.out; omega⟩, ⟨by (with_reducible repeat (first | apply Kd.R_alloc | apply Kd.R_drewN | apply Kd.R_drew)); exact HO_7.out⟩, ⟨by (with_reducible repeat (first | apply Kd.R_alloc | apply Kd.R_drewN | apply Kd.R_drew)); exact HO308.out⟩, ⟨by repeat (first | (with_reducible first | exact HB.out | apply below_alloc | apply pw_below_drewN | apply below_drew1) | exact HB.out)⟩⟩
                · rw [if_neg c12] at H
                  exact absurd H (by simp)
              · replace c11 := Bool.eq_false_iff.mpr c11
                subst c11
                have H1 : (torrentref4_Ones.l0 k1 a0 t302 x8_1 (wrap64 (x9_1 + 1))) = some (r1, r2) := by rw [if_neg (show ¬ (false = true) by decide)] at H; exact H
                clear H
                have H := H1
                clear H1
                have H' := Aside0.mk H
                clear H
                obtain ⟨Ao15, co15, eo15⟩ := Kd.R_slice HO_7.out
                subst eo15
                have p305 : 0 ≤ (x9_1 : Int) := of_decide_eq_true (by first | (with_reducible assumption) | assumption)
                have q305 : x9_1 < (t302.length : Int) := of_decide_eq_true (by first | (with_reducible assumption) | assumption)
                obtain ⟨ad305, e305, hx305_0⟩ := Kd.at_bool (Kd.R_reads' HO_7.out).2.2 x9_1 p305 q305
                (try rw [← Nbq10.out] at hx305_0)
                cases e305
                replace p305 := eq_true p305
                replace q305 := eq_true q305
                go_wp2
                go_roundg k1
                case measure => have := HK1.out; omega
                case rel => exact ⟨(x8_1), (wrap64 (x9_1 + 1)), (by first | rfl | (simp; done) | (simp [*]; done)), H', ⟨by have := HK1.out; omega⟩, ⟨by (with_reducible repeat (first | apply Kd.R_alloc | apply Kd.R_drewN | apply Kd.R_drew)); exact HO_7.out⟩, ⟨by (with_reducible repeat (first | apply Kd.R_alloc | apply Kd.R_drewN | apply Kd.R_drew)); exact HO_8.out⟩, ⟨by repeat (first | (with_reducible first | exact HB.out | apply below_alloc | apply pw_below_drewN | apply below_drew1) | exact HB.out)⟩⟩
            · rw [if_neg c9] at H
              exact absurd H (by simp)
          · rw [if_neg c8] at H
            exact absurd H (by simp)
        · rw [if_neg c7] at H
          have c7b0 : decide (x9_1 < a0) = false := decide_eq_false c7
          clear c7
          simp only [Option.some.injEq, Prod.mk.injEq] at H
          obtain ⟨rfl, rfl⟩ := H
          go_wp2
          go_ret2
          exact ⟨_, by first | rfl | (simp [errW_none, errW_some] <;> rfl) | (simp [*, errW_none, errW_some] <;> rfl), by (with_reducible repeat (first | apply Kd.R_alloc | apply Kd.R_drewN | apply Kd.R_drew)); exact HO_8.out, by repeat (first | (with_reducible first | exact HB.out | apply below_alloc | apply pw_below_drewN | apply below_drew1) | exact HB.out)⟩
  · rw [if_neg c4] at H
    have c4b0 : (t301 == 0) = false := beq_eq_false_iff_ne.mpr c4
    have c4b1 : (t301 != 0) = true := bne_iff_ne.mpr c4
    simp only [Option.some.injEq, Prod.mk.injEq] at H
    obtain ⟨rfl, rfl⟩ := H
    go_enter Try.func23, Try.ntmps23
    go_wp2_with (first | ((with_reducible refine gate_callee (f := 59) rfl ?_); refine goesL_ (some 12) rfl rfl Try.func59 (by kernel_rfl) rfl #[.int .i64 a0, .slice A1 l1.length c1] rfl (by (try simp only [List.map_toArray, List.map_cons, List.map_nil]); first | done | rfl | (simp only [List.length_drop, List.length_take]; rfl)) ?_; (with_reducible refine (torrentref4_Check.calls k a0 _ _ l1 t301 _ ?side1 ?side2 A3.out).mono ?_); (case side1 => repeat (first | exact HR1.out | (with_reducible refine Kd.C_alloc ?_ _) | (with_reducible refine Kd.C_drewN ?_ _) | (with_reducible refine Kd.C_drew ?_))); (case side2 => exact HC1.out); rintro e w' ⟨rfl, ⟨nd, rfl⟩⟩; refine ⟨_, rfl, ?_⟩))
    go_ret2
    exact ⟨_, by first | rfl | (simp [errW_none, errW_some] <;> rfl) | (simp [*, errW_none, errW_some] <;> rfl), by first | exact Kd.R_nil _ _ _ _ _ | exact Kd.N_nil _ _ _ _ _ | exact Kd.V_nil _ _ _ _ _ | exact Kd.Q_nil _ _ _ _ _ | exact Kd.S_nil _ _ _ _ _, by repeat (first | (with_reducible first | exact HB.out | apply below_alloc | apply pw_below_drewN | apply below_drew1) | exact HB.out)⟩

end Go.Proofs.Ytoohpdamndgdlaa.P

-- Made by a program of this session (the print of the kit over a neighbour), for this claim.
namespace Go.Proofs.Ytoohpdamndgdlaa.P
open Go.RowKit Go.Proofs.YtoohpdamndgdlaaW.PrintWords Go.Proofs.YtoohpdamndgdlaaW.PrintLast Go.Proofs.YtoohpdamndgdlaaW.PrintMore
attribute [local go_sem] max2_int min2_int max_two min_two max_three min_three max_four min_four   -- for this text's walks alone
set_option linter.unusedVariables false
set_option linter.unusedSimpArgs false

/-! ### torrentref4_Count: function 36 -/
def torrentref4_Count.f (k : Nat) (a0 : Int) (l1 : List Int) : Option (Int × Int) := (torrentref4_Ones.f k a0 l1).bind fun bt311 => (some ((bt311.1.length : Int), bt311.2))
theorem torrentref4_Count.mono : ∀ a0 a1 k, LeO (torrentref4_Count.f k a0 a1) (torrentref4_Count.f (k + 1) a0 a1) := by
  intro a0 a1 k
  unfold torrentref4_Count.f
  repeat' first
      | (with_reducible exact torrentref4_Ones.mono _ _ _)
      | (with_reducible exact LeO.refl _)
      | (with_reducible exact LeO.none _)
      | (with_reducible refine LeO.ite ?_ ?_)
      | (with_reducible refine LeO.bind ?_ (fun _ => ?_))
      | exact torrentref4_Ones.mono _ _ _
      | exact LeO.none _
      | refine LeO.ite ?_ ?_
      | refine LeO.bind ?_ (fun _ => ?_)
set_option maxHeartbeats 8000000 in
set_option maxRecDepth 100000 in
theorem torrentref4_Count.calls (k : Nat) (a0 : Int) (A1 : Option Addr) (c1 : Nat) (l1 : List Int) (r1 : Int) (r2 : Int) (w : World) (hr1 : Kd.C (Kd.int .u8) w A1 l1.length l1) (hc1 : l1.length ≤ c1) (h : torrentref4_Count.f k a0 l1 = some (r1, r2)) :
    Calls Try.prog 36 #[.int .i64 a0, .slice A1 l1.length c1] w fun e w' => e = .returned (.tuple #[.int .i64 r1, .int .i64 r2]) ∧ Below w.heap.size w w' := by
  have HR1 := Aside0.mk hr1
  have HC1 := Aside0.mk hc1
  clear hr1 hc1
  have HB := Aside0.mk (Below.refl w.heap.size w)
  have H : ((torrentref4_Ones.f k a0 l1).bind fun bt311 => (some ((bt311.1.length : Int), bt311.2))) = some (r1, r2) := h
  clear h
  replace H := Option.bind_eq_some_iff.mp H
  obtain ⟨⟨t311, t312⟩, A30, H⟩ := H
  replace H : (some ((t311.length : Int), t312)) = some (r1, r2) := H
  have A3 := Aside0.mk A30
  clear A30
  simp only [Option.some.injEq, Prod.mk.injEq] at H
  obtain ⟨rfl, rfl⟩ := H
  go_enter Try.func36, Try.ntmps36
  go_wp2_with (first | ((with_reducible refine gate_callee (f := 23) rfl ?_); refine goesL_ (some 11) rfl rfl Try.func23 (by kernel_rfl) rfl #[.int .i64 a0, .slice A1 l1.length c1] rfl (by (try simp only [List.map_toArray, List.map_cons, List.map_nil]); first | done | rfl | (simp only [List.length_drop, List.length_take]; rfl)) ?_; (with_reducible refine (torrentref4_Ones.calls k a0 _ _ l1 t311 t312 _ ?side1 ?side2 A3.out).mono ?_); (case side1 => repeat (first | exact HR1.out | (with_reducible refine Kd.C_alloc ?_ _) | (with_reducible refine Kd.C_drewN ?_ _) | (with_reducible refine Kd.C_drew ?_))); (case side2 => exact HC1.out); rintro e w4 ⟨v313, rfl, ho0, hb⟩; refine ⟨_, rfl, ?_⟩; have n0_ := Aside0.mk (Kd.R_lower ho0 (below_size (by repeat (first | (with_reducible first | exact HB.out | apply below_alloc | apply pw_below_drewN | apply below_drew1) | exact HB.out)))); have n1_ := Aside0.mk (below_step (by repeat (first | (with_reducible first | exact HB.out | apply below_alloc | apply pw_below_drewN | apply below_drew1) | exact HB.out)) hb); clear HB; have HO314 := n0_; have HB := n1_; clear n0_ n1_; (try clear hb); (try clear hb2); (try clear hk); (try clear hi); (try clear ho0); obtain ⟨Ao5, co5, eo5⟩ := Kd.R_slice HO314.out; subst eo5))
  go_ret2
  exact ⟨by first | rfl | (simp [errW_none, errW_some] <;> rfl) | (simp [*, errW_none, errW_some] <;> rfl), by repeat (first | (with_reducible first | exact HB.out | apply below_alloc | apply pw_below_drewN | apply below_drew1) | exact HB.out)⟩

end Go.Proofs.Ytoohpdamndgdlaa.P

-- Made by a program of this session (the print of the kit over a neighbour), for this claim.
namespace Go.Proofs.Ytoohpdamndgdlaa.P
open Go.RowKit Go.Proofs.YtoohpdamndgdlaaW.PrintWords Go.Proofs.YtoohpdamndgdlaaW.PrintLast Go.Proofs.YtoohpdamndgdlaaW.PrintMore
attribute [local go_sem] max2_int min2_int max_two min_two max_three min_three max_four min_four   -- for this text's walks alone
set_option linter.unusedVariables false
set_option linter.unusedSimpArgs false

/-! ### torrentlaw4_sameInts: function 22 -/
def torrentlaw4_sameInts.l0 : Nat → List Int → List Int → Int → Option (Bool)
  | 0, _, _, _ => none
  | k + 1, x0, x1, x5 => if x5 < (x0.length : Int) then (if 0 ≤ x5 then (if x5 < (x1.length : Int) then (if (rd x0 x5) = (rd x1 x5) then (torrentlaw4_sameInts.l0 k x0 x1 (wrap64 (x5 + 1))) else (some false)) else (none)) else (none)) else (some true)
def torrentlaw4_sameInts.f (k : Nat) (l0 : List Int) (l1 : List Int) : Option (Bool) := if (l0.length : Int) = (l1.length : Int) then (torrentlaw4_sameInts.l0 k l0 l1 0) else (some false)
theorem torrentlaw4_sameInts.mono_l : ∀ k, (∀ y0 y1 y2, LeO (torrentlaw4_sameInts.l0 k y0 y1 y2) (torrentlaw4_sameInts.l0 (k + 1) y0 y1 y2))
  | 0 => fun _ _ _ r h => by simp [torrentlaw4_sameInts.l0] at h
  | k + 1 => by
    have ih0 := torrentlaw4_sameInts.mono_l k
    · intro y0 y1 y2
      unfold torrentlaw4_sameInts.l0
      repeat' first
      | (with_reducible exact ih0 _ _ _)
      | (with_reducible exact LeO.refl _)
      | (with_reducible exact LeO.none _)
      | (with_reducible refine LeO.ite ?_ ?_)
      | (with_reducible refine LeO.bind ?_ (fun _ => ?_))
      | exact ih0 _ _ _
      | exact LeO.none _
      | refine LeO.ite ?_ ?_
      | refine LeO.bind ?_ (fun _ => ?_)
theorem torrentlaw4_sameInts.mono : ∀ a0 a1 k, LeO (torrentlaw4_sameInts.f k a0 a1) (torrentlaw4_sameInts.f (k + 1) a0 a1) := by
  intro a0 a1 k
  have ih0 := torrentlaw4_sameInts.mono_l k
  unfold torrentlaw4_sameInts.f
  repeat' first
      | (with_reducible exact ih0 _ _ _)
      | (with_reducible exact LeO.refl _)
      | (with_reducible exact LeO.none _)
      | (with_reducible refine LeO.ite ?_ ?_)
      | (with_reducible refine LeO.bind ?_ (fun _ => ?_))
      | exact ih0 _ _ _
      | exact LeO.none _
      | refine LeO.ite ?_ ?_
      | refine LeO.bind ?_ (fun _ => ?_)
set_option maxHeartbeats 8000000 in
set_option maxRecDepth 100000 in
theorem torrentlaw4_sameInts.calls (k : Nat) (A0 : Option Addr) (c0 : Nat) (l0 : List Int) (A1 : Option Addr) (c1 : Nat) (l1 : List Int) (r : Bool) (w : World) (hr0 : Kd.C (Kd.int .i64) w A0 l0.length l0) (hc0 : l0.length ≤ c0) (hr1 : Kd.C (Kd.int .i64) w A1 l1.length l1) (hc1 : l1.length ≤ c1) (h : torrentlaw4_sameInts.f k l0 l1 = some r) :
    Calls Try.prog 22 #[.slice A0 l0.length c0, .slice A1 l1.length c1] w fun e w' => e = .returned (.bool r) ∧ Drawn0 w w' := by
  have HR0 := Aside0.mk hr0
  have HC0 := Aside0.mk hc0
  clear hr0 hc0
  have HR1 := Aside0.mk hr1
  have HC1 := Aside0.mk hc1
  clear hr1 hc1
  have H : (if (l0.length : Int) = (l1.length : Int) then (torrentlaw4_sameInts.l0 k l0 l1 0) else (some false)) = some r := h
  clear h
  by_cases c3 : (l0.length : Int) = (l1.length : Int)
  · rw [if_pos c3] at H
    have c3b0 : ((l0.length : Int) == (l1.length : Int)) = true := beq_iff_eq.mpr c3
    have c3b1 : ((l0.length : Int) != (l1.length : Int)) = false := bne_eq_false_iff_eq.mpr c3
    have c3b2 : (l0.length == l1.length) = true := by first | simpa using c3 | (simp at c3 ⊢; omega)
    clear c3
    have H' := Aside0.mk H
    clear H
    go_enter Try.func22, Try.ntmps22
    go_wp2
    repeat (go_quiet (fail); try go_wp2)
    go_loopg [5] k (fun kq v5 w' => ∃ (x5_1 : Int), v5 = .int .i64 x5_1 ∧ Aside0 (torrentlaw4_sameInts.l0 kq l0 l1 x5_1 = some r) ∧ Aside0 (kq ≤ k) ∧ Drawn0 w w')
    case atStart => exact ⟨(0), (by first | rfl | (simp; done) | (simp [*]; done)), H', ⟨Nat.le_refl _⟩, by repeat (first | exact Drawn0.refl _ | apply Drawn0.step)⟩
    case round =>
      clear H'
      try clear c1
      try clear c2
      try clear p2
      try clear c3
      try clear c3b0
      try clear c3b1
      try clear c3b2
      obtain ⟨x5_1, rfl, HA, HK1, ⟨m1, rfl⟩⟩ := hrel
      cases gk with
      | zero => exact absurd HA.out (by simp [torrentlaw4_sameInts.l0])
      | succ k1 =>
        have H := HA.out
        clear HA
        simp only [torrentlaw4_sameInts.l0] at H
        by_cases c4 : x5_1 < (l0.length : Int)
        · rw [if_pos c4] at H
          have c4b0 : decide (x5_1 < (l0.length : Int)) = true := decide_eq_true c4
          clear c4
          by_cases c5 : 0 ≤ x5_1
          · rw [if_pos c5] at H
            have c5b0 : decide (0 ≤ x5_1) = true := decide_eq_true c5
            clear c5
            by_cases c6 : x5_1 < (l1.length : Int)
            · rw [if_pos c6] at H
              have c6b0 : decide (x5_1 < (l1.length : Int)) = true := decide_eq_true c6
              clear c6
              by_cases c7 : (rd l0 x5_1) = (rd l1 x5_1)
              · rw [if_pos c7] at H
                have c7b0 : ((rd l0 x5_1) == (rd l1 x5_1)) = true := beq_iff_eq.mpr c7
                have c7b1 : ((rd l0 x5_1) != (rd l1 x5_1)) = false := bne_eq_false_iff_eq.mpr c7
                clear c7
                have H' := Aside0.mk H
                clear H
                have p171 : 0 ≤ (x5_1 : Int) := of_decide_eq_true (by first | (with_reducible assumption) | assumption)
                have q171 : x5_1 < (l0.length : Int) := of_decide_eq_true (by first | (with_reducible assumption) | assumption)
                obtain ⟨ad171, e171, hx171_0⟩ := Kd.at_int HR0.out x5_1 p171 q171
                cases e171
                replace p171 := eq_true p171
                replace q171 := eq_true q171
                have p172 : 0 ≤ (x5_1 : Int) := of_decide_eq_true (by first | (with_reducible assumption) | assumption)
                have q172 : x5_1 < (l1.length : Int) := of_decide_eq_true (by first | (with_reducible assumption) | assumption)
                obtain ⟨ad172, e172, hx172_0⟩ := Kd.at_int HR1.out x5_1 p172 q172
                cases e172
                replace p172 := eq_true p172
                replace q172 := eq_true q172
                go_wp2
                repeat (go_quiet (fail); try go_wp2)
                go_roundg k1
                case measure => have := HK1.out; omega
                case rel => exact ⟨(wrap64 (x5_1 + 1)), (by first | rfl | (simp; done) | (simp [*]; done)), H', ⟨by have := HK1.out; omega⟩, by repeat (first | exact Drawn0.refl _ | apply Drawn0.step)⟩
              · rw [if_neg c7] at H
                have c7b0 : ((rd l0 x5_1) == (rd l1 x5_1)) = false := beq_eq_false_iff_ne.mpr c7
                have c7b1 : ((rd l0 x5_1) != (rd l1 x5_1)) = true := bne_iff_ne.mpr c7
                obtain rfl := Option.some.inj H
                have p171 : 0 ≤ (x5_1 : Int) := of_decide_eq_true (by first | (with_reducible assumption) | assumption)
                have q171 : x5_1 < (l0.length : Int) := of_decide_eq_true (by first | (with_reducible assumption) | assumption)
                obtain ⟨ad171, e171, hx171_0⟩ := Kd.at_int HR0.out x5_1 p171 q171
                cases e171
                replace p171 := eq_true p171
                replace q171 := eq_true q171
                have p172 : 0 ≤ (x5_1 : Int) := of_decide_eq_true (by first | (with_reducible assumption) | assumption)
                have q172 : x5_1 < (l1.length : Int) := of_decide_eq_true (by first | (with_reducible assumption) | assumption)
                obtain ⟨ad172, e172, hx172_0⟩ := Kd.at_int HR1.out x5_1 p172 q172
                cases e172
                replace p172 := eq_true p172
                replace q172 := eq_true q172
                go_wp2
                repeat (go_quiet (fail); try go_wp2)
                go_ret
                exact ⟨by first | rfl | (simp; done) | (simp [*]; done), by repeat (first | exact Drawn0.refl _ | apply Drawn0.step)⟩
            · rw [if_neg c6] at H
              exact absurd H (by simp)
          · rw [if_neg c5] at H
            exact absurd H (by simp)
        · rw [if_neg c4] at H
          have c4b0 : decide (x5_1 < (l0.length : Int)) = false := decide_eq_false c4
          clear c4
          obtain rfl := Option.some.inj H
          go_wp2
          repeat (go_quiet (fail); try go_wp2)
          go_ret
          exact ⟨by first | rfl | (simp; done) | (simp [*]; done), by repeat (first | exact Drawn0.refl _ | apply Drawn0.step)⟩
  · rw [if_neg c3] at H
    have c3b0 : ((l0.length : Int) == (l1.length : Int)) = false := beq_eq_false_iff_ne.mpr c3
    have c3b1 : ((l0.length : Int) != (l1.length : Int)) = true := bne_iff_ne.mpr c3
    have c3b2 : (l0.length == l1.length) = false := by first | simpa using c3 | (simp at c3 ⊢; omega)
    obtain rfl := Option.some.inj H
    go_enter Try.func22, Try.ntmps22
    go_wp2
    repeat (go_quiet (fail); try go_wp2)
    go_ret
    exact ⟨by first | rfl | (simp; done) | (simp [*]; done), by repeat (first | exact Drawn0.refl _ | apply Drawn0.step)⟩

end Go.Proofs.Ytoohpdamndgdlaa.P

/- Ones and Count, the program's and the reference's, in plain words: the same answers. Condition: bytes. -/
set_option linter.unusedVariables false
set_option linter.unusedSimpArgs false
namespace Go.Proofs.Ytoohpdamndgdlaa.B
open Go.RowKit Go.Proofs.Ytoohpdamndgdlaa.P Go.Proofs.YtoohpdamndgdlaaW.PrintWords Go.Proofs.YtoohpdamndgdlaaW.PrintLast Go.Proofs.YtoohpdamndgdlaaW.PrintMore
theorem sameI_l (l : List Int) (hl : l.length ≤ 9223372036854775807) : ∀ (d i : Nat), i + d = l.length → Ev (fun k => torrentlaw4_sameInts.l0 k l l (i : Int)) true
  | 0, i, h => Ev.step (f := fun _ => some true) (fun k => by
      simp only [torrentlaw4_sameInts.l0]
      rw [if_neg (by omega)]) (Ev.now _)
  | d + 1, i, h => Ev.step (f := fun k => torrentlaw4_sameInts.l0 k l l ((i + 1 : Nat) : Int)) (fun k => by
      simp only [torrentlaw4_sameInts.l0]
      rw [if_pos (by omega), if_pos (by omega), if_pos (by omega), if_pos trivial, inc i (by omega)]) (sameI_l l hl d (i + 1) (by omega))
theorem sameI_f (l : List Int) (hl : l.length ≤ 9223372036854775807) : Ev (fun k => torrentlaw4_sameInts.f k l l) true := by
  unfold torrentlaw4_sameInts.f
  refine Ev.congr (fun k => if_pos rfl) ?_
  exact sameI_l l hl l.length 0 (by omega)

def onesL (l : List Int) (j : Nat) : List Int := ((List.range j).filter (gbit l)).map (fun (i : Nat) => (i : Int))
theorem onesL_succ (l : List Int) (j : Nat) : onesL l (j + 1) = if gbit l j then onesL l j ++ [(j : Int)] else onesL l j := by
  unfold onesL
  rw [List.range_succ, List.filter_append, List.map_append]
  cases h : gbit l j <;> simp [h]
theorem onesL_le (l : List Int) (j : Nat) : (onesL l j).length ≤ j := by
  unfold onesL
  rw [List.length_map]
  exact Nat.le_trans (List.length_filter_le _ _) (by simp)
theorem mask_zero (l : List Int) (hx : IsB l) (i : Nat) (hi : i ≤ 65536) : ((Go.bits .and .u8 (rd l (wrap64 (Int.tdiv (i : Int) 8))) (shr .u8 128 (Int.tmod (i : Int) 8))) = 0) = (gbit l i = false) := propext (get_mask l hx i hi)
theorem ones_l (m : Nat) (hm : m ≤ 65536) (l : List Int) (hx : IsB l) (hl : l.length = (m + 7) / 8) : ∀ (d i : Nat), i + d = m → Ev (fun k => bitset_Ones.l0 k (m : Int) l (onesL l i) (i : Int)) (onesL l m, 0)
  | 0, i, h => Ev.step (f := fun _ => some (onesL l m, 0)) (fun k => by
      simp only [bitset_Ones.l0]
      rw [if_neg (by omega), show i = m by omega]) (Ev.now _)
  | d + 1, i, h => by
    obtain ⟨g1, g2, g3⟩ := tests_in l i (by omega) (by omega)
    have hle := onesL_le l i
    refine Ev.step (f := fun k => bitset_Ones.l0 k (m : Int) l (onesL l (i + 1)) ((i + 1 : Nat) : Int)) (fun k => ?_) (ones_l m hm l hx hl d (i + 1) (by omega))
    simp only [bitset_Ones.l0]
    rw [if_pos (by omega), if_pos g1, if_pos g2, if_pos g3, inc i (by omega), onesL_succ]
    simp only [mask_zero l hx i (by omega)]
    cases hb : gbit l i with
    | false => rw [if_pos rfl]; rfl
    | true => rw [if_neg (by decide), if_pos (by omega)]; rfl
theorem refOnes_l (m : Nat) (hm : m ≤ 65536) (l : List Int) (hl : l.length = (m + 7) / 8) : ∀ (d i : Nat), i + d = m → Ev (fun k => torrentref4_Ones.l0 k (m : Int) (bitsL l (8 * l.length)) (onesL l i) (i : Int)) (onesL l m, 0)
  | 0, i, h => Ev.step (f := fun _ => some (onesL l m, 0)) (fun k => by
      simp only [torrentref4_Ones.l0]
      rw [if_neg (by omega), show i = m by omega]) (Ev.now _)
  | d + 1, i, h => by
    have hle := onesL_le l i
    refine Ev.step (f := fun k => torrentref4_Ones.l0 k (m : Int) (bitsL l (8 * l.length)) (onesL l (i + 1)) ((i + 1 : Nat) : Int)) (fun k => ?_) (refOnes_l m hm l hl d (i + 1) (by omega))
    simp only [torrentref4_Ones.l0]
    rw [if_pos (by omega), if_pos (by omega), if_pos (by rw [bitsL_length]; omega), rdOf_nat, bitsL_at l _ i (by omega), inc i (by omega), onesL_succ]
    cases hb : gbit l i with
    | false => rw [if_neg (by decide)]; rfl
    | true => rw [if_pos rfl, if_pos (by omega)]; rfl
theorem count_l (m : Nat) (hm : m ≤ 65536) (l : List Int) (hx : IsB l) (hl : l.length = (m + 7) / 8) : ∀ (d i : Nat), i + d = m → Ev (fun k => bitset_Count.l0 k (m : Int) l ((onesL l i).length : Int) (i : Int)) (((onesL l m).length : Int), 0)
  | 0, i, h => Ev.step (f := fun _ => some (((onesL l m).length : Int), 0)) (fun k => by
      simp only [bitset_Count.l0]
      rw [if_neg (by omega), show i = m by omega]) (Ev.now _)
  | d + 1, i, h => by
    obtain ⟨g1, g2, g3⟩ := tests_in l i (by omega) (by omega)
    have hle := onesL_le l i
    refine Ev.step (f := fun k => bitset_Count.l0 k (m : Int) l ((onesL l (i + 1)).length : Int) ((i + 1 : Nat) : Int)) (fun k => ?_) (count_l m hm l hx hl d (i + 1) (by omega))
    simp only [bitset_Count.l0]
    rw [if_pos (by omega), if_pos g1, if_pos g2, if_pos g3, inc i (by omega), inc (onesL l i).length (by omega), onesL_succ]
    simp only [mask_zero l hx i (by omega)]
    cases hb : gbit l i with
    | false => rw [if_pos rfl]; rfl
    | true => rw [if_neg (by decide), if_pos rfl, List.length_append]; rfl
/-- What the two Ones and the two Counts answer. -/
theorem ones_same (n : Int) (l : List Int) (hx : IsB l) (hl : l.length ≤ 140737488351232) : ∃ r e, Ev (fun k => bitset_Ones.f k n l) (r, e) ∧ Ev (fun k => torrentref4_Ones.f k n l) (r, e) ∧ Ev (fun k => bitset_Count.f k n l) ((r.length : Int), e) ∧ Ev (fun k => torrentref4_Count.f k n l) ((r.length : Int), e) ∧ r.length ≤ 65536 := by
  obtain ⟨c, hc, hd⟩ := check_both n l hx hl
  by_cases h0 : c = 0
  · subst h0
    obtain ⟨m, rfl, hm, hlen⟩ := check_ok hc
    have hle := onesL_le l m
    have h2 : Ev (fun k => torrentref4_Ones.f k (m : Int) l) (onesL l m, 0) := Ev.bind hd (Ev.congr (fun k => if_pos rfl) (Ev.bind (open_f l hx (by omega)) (refOnes_l m hm l hlen m 0 (by omega))))
    exact ⟨onesL l m, 0, Ev.bind hc (Ev.congr (fun k => if_pos rfl) (ones_l m hm l hx hlen m 0 (by omega))), h2,
      Ev.bind hc (Ev.congr (fun k => if_pos rfl) (count_l m hm l hx hlen m 0 (by omega))), Ev.bind h2 (Ev.now _), by omega⟩
  · have h2 : Ev (fun k => torrentref4_Ones.f k n l) (([] : List Int), c) := Ev.bind hd (Ev.congr (fun k => if_neg h0) (Ev.now _))
    exact ⟨[], c, Ev.bind hc (Ev.congr (fun k => if_neg h0) (Ev.now _)), h2, Ev.bind hc (Ev.congr (fun k => if_neg h0) (Ev.now _)), Ev.bind h2 (Ev.now _), by simp⟩
end Go.Proofs.Ytoohpdamndgdlaa.B

-- Made by a program of this session (the print of the kit over a neighbour), for this claim.
namespace Go.Proofs.Ytoohpdamndgdlaa.P
open Go.RowKit Go.Proofs.YtoohpdamndgdlaaW.PrintWords Go.Proofs.YtoohpdamndgdlaaW.PrintLast Go.Proofs.YtoohpdamndgdlaaW.PrintMore
attribute [local go_sem] max2_int min2_int max_two min_two max_three min_three max_four min_four   -- for this text's walks alone
set_option linter.unusedVariables false
set_option linter.unusedSimpArgs false

/-! ### torrentref4_Of: function 21 -/
mutual
def torrentref4_Of.j0 : Nat → Int → List Int → Bool → Option (List Int × Int)
  | 0, _, _, _ => none
  | k + 1, x0, x1, x14 => if x14 = true then (some (([] : List Int), 40)) else (if 0 ≤ x0 then (if (x0 : Int).toNat ≤ 281474976710656 then (torrentref4_Of.l0 k x0 x1 (List.replicate (x0 : Int).toNat false) 0) else (none)) else (none))
def torrentref4_Of.l0 : Nat → Int → List Int → List Bool → Int → Option (List Int × Int)
  | 0, _, _, _, _ => none
  | k + 1, x0, x1, x6, x7 => if x7 < (x1.length : Int) then (if 0 ≤ x7 then (if (rd x1 x7) < 0 then (some (([] : List Int), 43)) else (if (rd x1 x7) ≥ x0 then (some (([] : List Int), 43)) else (if 0 ≤ (rd x1 x7) then (if (rd x1 x7) < (x6.length : Int) then (torrentref4_Of.l0 k x0 x1 (x6.set ((rd x1 x7) : Int).toNat true) (wrap64 (x7 + 1))) else (none)) else (none)))) else (none)) else ((torrentref4_pack.f k x6).bind fun t168 => (some (t168, 0)))
end
def torrentref4_Of.f (k : Nat) (a0 : Int) (l1 : List Int) : Option (List Int × Int) := if a0 < 0 then (torrentref4_Of.j0 k a0 l1 true) else (torrentref4_Of.j0 k a0 l1 (decide (a0 > 65536)))
theorem torrentref4_Of.mono_l : ∀ k, (∀ y0 y1 y2, LeO (torrentref4_Of.j0 k y0 y1 y2) (torrentref4_Of.j0 (k + 1) y0 y1 y2)) ∧ (∀ y0 y1 y2 y3, LeO (torrentref4_Of.l0 k y0 y1 y2 y3) (torrentref4_Of.l0 (k + 1) y0 y1 y2 y3))
  | 0 => ⟨fun _ _ _ r h => by simp [torrentref4_Of.j0] at h, fun _ _ _ _ r h => by simp [torrentref4_Of.l0] at h⟩
  | k + 1 => by
    obtain ⟨ih0, ih1⟩ := torrentref4_Of.mono_l k
    refine ⟨?_, ?_⟩
    · intro y0 y1 y2
      unfold torrentref4_Of.j0
      repeat' first
      | (with_reducible exact ih0 _ _ _)
      | (with_reducible exact ih1 _ _ _ _)
      | (with_reducible exact torrentref4_pack.mono _ _)
      | (with_reducible exact LeO.refl _)
      | (with_reducible exact LeO.none _)
      | (with_reducible refine LeO.ite ?_ ?_)
      | (with_reducible refine LeO.bind ?_ (fun _ => ?_))
      | exact ih0 _ _ _
      | exact ih1 _ _ _ _
      | exact torrentref4_pack.mono _ _
      | exact LeO.none _
      | refine LeO.ite ?_ ?_
      | refine LeO.bind ?_ (fun _ => ?_)
    · intro y0 y1 y2 y3
      unfold torrentref4_Of.l0
      repeat' first
      | (with_reducible exact ih0 _ _ _)
      | (with_reducible exact ih1 _ _ _ _)
      | (with_reducible exact torrentref4_pack.mono _ _)
      | (with_reducible exact LeO.refl _)
      | (with_reducible exact LeO.none _)
      | (with_reducible refine LeO.ite ?_ ?_)
      | (with_reducible refine LeO.bind ?_ (fun _ => ?_))
      | exact ih0 _ _ _
      | exact ih1 _ _ _ _
      | exact torrentref4_pack.mono _ _
      | exact LeO.none _
      | refine LeO.ite ?_ ?_
      | refine LeO.bind ?_ (fun _ => ?_)
theorem torrentref4_Of.mono : ∀ a0 a1 k, LeO (torrentref4_Of.f k a0 a1) (torrentref4_Of.f (k + 1) a0 a1) := by
  intro a0 a1 k
  obtain ⟨ih0, ih1⟩ := torrentref4_Of.mono_l k
  unfold torrentref4_Of.f
  repeat' first
      | (with_reducible exact ih0 _ _ _)
      | (with_reducible exact ih1 _ _ _ _)
      | (with_reducible exact torrentref4_pack.mono _ _)
      | (with_reducible exact LeO.refl _)
      | (with_reducible exact LeO.none _)
      | (with_reducible refine LeO.ite ?_ ?_)
      | (with_reducible refine LeO.bind ?_ (fun _ => ?_))
      | exact ih0 _ _ _
      | exact ih1 _ _ _ _
      | exact torrentref4_pack.mono _ _
      | exact LeO.none _
      | refine LeO.ite ?_ ?_
      | refine LeO.bind ?_ (fun _ => ?_)
set_option maxHeartbeats 8000000 in
set_option maxRecDepth 100000 in
theorem torrentref4_Of.calls (k : Nat) (a0 : Int) (A1 : Option Addr) (c1 : Nat) (l1 : List Int) (r1 : List Int) (r2 : Int) (w : World) (hr1 : Kd.C (Kd.int .i64) w A1 l1.length l1) (hc1 : l1.length ≤ c1) (h : torrentref4_Of.f k a0 l1 = some (r1, r2)) :
    Calls Try.prog 21 #[.int .i64 a0, .slice A1 l1.length c1] w fun e w' => ∃ v0_ : Value, e = .returned (.tuple #[v0_, .int .i64 r2]) ∧ Kd.R (Kd.int .u8) 5 w' w.heap.size (fun _ => True) v0_ r1 ∧ Below w.heap.size w w' := by
  have HR1 := Aside0.mk hr1
  have HC1 := Aside0.mk hc1
  clear hr1 hc1
  have HB := Aside0.mk (Below.refl w.heap.size w)
  have H : (if a0 < 0 then (torrentref4_Of.j0 k a0 l1 true) else (torrentref4_Of.j0 k a0 l1 (decide (a0 > 65536)))) = some (r1, r2) := h
  clear h
  have HC3 := Aside0.mk H
  clear H
  go_enter Try.func21, Try.ntmps21
  go_upto_region 1 with (fail)
  go_cut [14] (fun v14 wc => ∃ (kq : Nat) (x14_2 : Bool), v14 = .bool x14_2 ∧ Aside0 (torrentref4_Of.j0 kq a0 l1 x14_2 = some (r1, r2)) ∧ Aside0 (kq ≤ k) ∧ Aside0 (Below w.heap.size w wc))
  case first =>
    have H := HC3.out
    clear HC3
    by_cases c4 : a0 < 0
    · rw [if_pos c4] at H
      have c4b0 : decide (a0 < 0) = true := decide_eq_true c4
      clear c4
      (first | rw [c4b0] | (simp only [i64_w, i32_w]; rw [c4b0]) | skip)
      have H' := Aside0.mk H
      clear H
      go_wp2
      go_meet
      case rel => exact ⟨_, (true), (by first | rfl | (simp; done) | (simp [*]; done)), H', ⟨by first | omega | exact Nat.le_refl _⟩, ⟨by repeat (first | (with_reducible first | exact HB.out | apply below_alloc | apply pw_below_drewN | apply below_drew1) | exact HB.out)⟩⟩
    · rw [if_neg c4] at H
      have c4b0 : decide (a0 < 0) = false := decide_eq_false c4
      clear c4
      (first | rw [c4b0] | (simp only [i64_w, i32_w]; rw [c4b0]) | skip)
      have H' := Aside0.mk H
      clear H
      go_wp2
      go_meet
      case rel => exact ⟨_, (decide (a0 > 65536)), (by first | rfl | (simp; done) | (simp [*]; done)), H', ⟨by first | omega | exact Nat.le_refl _⟩, ⟨by repeat (first | (with_reducible first | exact HB.out | apply below_alloc | apply pw_below_drewN | apply below_drew1) | exact HB.out)⟩⟩
  case rest =>
    clear HC3
    try clear c1
    try clear c2
    try clear p2
    try clear c4
    try clear c4b0
    obtain ⟨kq, x14_2, rfl, HA, HJ2, HB⟩ := hcut
    cases kq with
    | zero => exact absurd HA.out (by simp [torrentref4_Of.j0])
    | succ kj2 =>
      have H := HA.out
      clear HA
      simp only [torrentref4_Of.j0] at H
      by_cases c5 : x14_2 = true
      · subst c5
        have H1 : (some (([] : List Int), 40)) = some (r1, r2) := by rw [if_pos rfl] at H; exact H
        clear H
        have H := H1
        clear H1
        simp only [Option.some.injEq, Prod.mk.injEq] at H
        obtain ⟨rfl, rfl⟩ := H
        go_wp2
        go_ret2
        exact ⟨_, by first | rfl | (simp [errW_none, errW_some] <;> rfl) | (simp [*, errW_none, errW_some] <;> rfl), by first | exact Kd.R_nil _ _ _ _ _ | exact Kd.N_nil _ _ _ _ _ | exact Kd.V_nil _ _ _ _ _ | exact Kd.Q_nil _ _ _ _ _ | exact Kd.S_nil _ _ _ _ _, by repeat (first | (with_reducible first | exact HB.out | apply below_alloc | apply pw_below_drewN | apply below_drew1) | exact HB.out)⟩
      · replace c5 := Bool.eq_false_iff.mpr c5
        subst c5
        have H1 : (if 0 ≤ a0 then (if (a0 : Int).toNat ≤ 281474976710656 then (torrentref4_Of.l0 kj2 a0 l1 (List.replicate (a0 : Int).toNat false) 0) else (none)) else (none)) = some (r1, r2) := by rw [if_neg (show ¬ (false = true) by decide)] at H; exact H
        clear H
        have H := H1
        clear H1
        by_cases c6 : 0 ≤ a0
        · rw [if_pos c6] at H
          have c6b0 := eq_true c6
          have c6b1 : decide (0 ≤ a0) = true := decide_eq_true c6
          clear c6
          by_cases c7 : (a0 : Int).toNat ≤ 281474976710656
          · rw [if_pos c7] at H
            have c7b0 := eq_true c7
            have c7b1 : decide ((a0 : Int).toNat ≤ 281474976710656) = true := decide_eq_true c7
            clear c7
            obtain ⟨y161, hy161⟩ : ∃ y_ : List Bool, y_ = (List.replicate (a0 : Int).toNat false) := ⟨_, rfl⟩
            replace H : (torrentref4_Of.l0 kj2 a0 l1 y161 0) = some (r1, r2) := by first | (rw [hy161]; with_reducible exact H) | (have H2_ := (Option.bind_some _ _).symm.trans H; rw [hy161]; with_reducible exact H2_) | (have H2_ := (Option.bind_some _ _).symm.trans H; with_reducible exact H2_) | with_reducible exact H | (rw [hy161]; exact H) | exact H
            have Ny161 := Aside0.mk hy161
            clear hy161
            have H' := Aside0.mk H
            clear H
            go_wp2_with (first | ((with_reducible refine gate_dst (N := 16) rfl ?_); refine Kd.R_make Kd.bool _ 4 rfl (N := 16) rfl 66 _ _ rfl a0 rfl rfl Try.underlying66 (.bool false) 1 info4 rfl (by decide) (by omega) false (ok := fun _ => True) (okp := fun _ => True) rfl (fun _ hk => hk) trivial (of_decide_eq_true (by first | (with_reducible assumption) | assumption)) (Nat.le_trans (Nat.mul_le_mul_right _ (of_decide_eq_true (by first | (with_reducible assumption) | assumption) : a0.toNat ≤ 281474976710656)) (by omega)) (Below.refl _ _) (Nat.le_refl _) ?_; intro v162 w8 ho9 hb hg_ hnew_; clear hg_ hnew_; (first | rw [← Ny161.out] at ho9 | (simp only [Int.reduceToNat] at ho9; rw [← Ny161.out] at ho9)); have n0_ := Aside0.mk (Kd.R_lower ho9 (below_size (by repeat (first | (with_reducible first | exact HB.out | apply below_alloc | apply pw_below_drewN | apply below_drew1) | exact HB.out)))); have n1_ := Aside0.mk (below_step (by repeat (first | (with_reducible first | exact HB.out | apply below_alloc | apply pw_below_drewN | apply below_drew1) | exact HB.out)) hb); clear HB; have HO163 := n0_; have HB := n1_; clear n0_ n1_; clear hb ho9))
            go_loopg [7] kj2 (fun kq v7 w' => ∃ (x6_2 : List Bool) (x7_2 : Int), v7 = .int .i64 x7_2 ∧ Aside0 (torrentref4_Of.l0 kq a0 l1 x6_2 x7_2 = some (r1, r2)) ∧ Aside0 (kq ≤ kj2) ∧ Aside0 (Kd.R Kd.bool 4 w' w.heap.size (fun _ => True) v162 x6_2) ∧ Aside0 (Below w.heap.size w w'))
            case atStart => exact ⟨(y161), (0), (by first | rfl | (simp; done) | (simp [*]; done)), H', ⟨Nat.le_refl _⟩, ⟨by (with_reducible repeat (first | apply Kd.R_alloc | apply Kd.R_drewN | apply Kd.R_drew)); exact HO163.out⟩, ⟨by repeat (first | (with_reducible first | exact HB.out | apply below_alloc | apply pw_below_drewN | apply below_drew1) | exact HB.out)⟩⟩
            case round =>
              clear H'
              try clear c1
              try clear c2
              try clear p2
              try clear c4
              try clear c4b0
              try clear c5
              try clear c6
              try clear c6b0
              try clear c6b1
              try clear c7
              try clear c7b0
              try clear c7b1
              try clear p2
              obtain ⟨x6_2, x7_2, rfl, HA, HK2, HO_6, HB⟩ := hrel
              cases gk with
              | zero => exact absurd HA.out (by simp [torrentref4_Of.l0])
              | succ k2 =>
                have H := HA.out
                clear HA
                simp only [torrentref4_Of.l0] at H
                by_cases c10 : x7_2 < (l1.length : Int)
                · rw [if_pos c10] at H
                  have c10b0 : decide (x7_2 < (l1.length : Int)) = true := decide_eq_true c10
                  clear c10
                  by_cases c11 : 0 ≤ x7_2
                  · rw [if_pos c11] at H
                    have c11b0 : decide (0 ≤ x7_2) = true := decide_eq_true c11
                    clear c11
                    by_cases c12 : (rd l1 x7_2) < 0
                    · rw [if_pos c12] at H
                      have c12b0 : decide ((rd l1 x7_2) < 0) = true := decide_eq_true c12
                      clear c12
                      simp only [Option.some.injEq, Prod.mk.injEq] at H
                      obtain ⟨rfl, rfl⟩ := H
                      have p164 : 0 ≤ (x7_2 : Int) := of_decide_eq_true (by first | (with_reducible assumption) | assumption)
                      have q164 : x7_2 < (l1.length : Int) := of_decide_eq_true (by first | (with_reducible assumption) | assumption)
                      obtain ⟨ad164, e164, hx164_0⟩ := Kd.at_int HR1.out x7_2 p164 q164
                      cases e164
                      replace hx164_0 := (HB.out.cell (World.block_lt_of_cell? w _ hx164_0)).trans hx164_0
                      replace p164 := eq_true p164
                      replace q164 := eq_true q164
                      go_wp2
                      go_ret2
                      exact ⟨_, by first | rfl | (simp [errW_none, errW_some] <;> rfl) | (simp [*, errW_none, errW_some] <;> rfl), by first | exact Kd.R_nil _ _ _ _ _ | exact Kd.N_nil _ _ _ _ _ | exact Kd.V_nil _ _ _ _ _ | exact Kd.Q_nil _ _ _ _ _ | exact Kd.S_nil _ _ _ _ _, by repeat (first | (with_reducible first | exact HB.out | apply below_alloc | apply pw_below_drewN | apply below_drew1) | exact HB.out)⟩
                    · rw [if_neg c12] at H
                      have c12b0 : decide ((rd l1 x7_2) < 0) = false := decide_eq_false c12
                      clear c12
                      by_cases c13 : (rd l1 x7_2) ≥ a0
                      · rw [if_pos c13] at H
                        have c13b0 : decide (a0 ≤ (rd l1 x7_2)) = true := decide_eq_true c13
                        clear c13
                        simp only [Option.some.injEq, Prod.mk.injEq] at H
                        obtain ⟨rfl, rfl⟩ := H
                        have p164 : 0 ≤ (x7_2 : Int) := of_decide_eq_true (by first | (with_reducible assumption) | assumption)
                        have q164 : x7_2 < (l1.length : Int) := of_decide_eq_true (by first | (with_reducible assumption) | assumption)
                        obtain ⟨ad164, e164, hx164_0⟩ := Kd.at_int HR1.out x7_2 p164 q164
                        cases e164
                        replace hx164_0 := (HB.out.cell (World.block_lt_of_cell? w _ hx164_0)).trans hx164_0
                        replace p164 := eq_true p164
                        replace q164 := eq_true q164
                        have p165 : 0 ≤ (x7_2 : Int) := of_decide_eq_true (by first | (with_reducible assumption) | assumption)
                        have q165 : x7_2 < (l1.length : Int) := of_decide_eq_true (by first | (with_reducible assumption) | assumption)
                        obtain ⟨ad165, e165, hx165_0⟩ := Kd.at_int HR1.out x7_2 p165 q165
                        obtain rfl : ad164 = ad165 := (by injection e165)
                        replace hx165_0 := (HB.out.cell (World.block_lt_of_cell? w _ hx165_0)).trans hx165_0
                        replace p165 := eq_true p165
                        replace q165 := eq_true q165
                        go_wp2
                        go_ret2
                        exact ⟨_, by first | rfl | (simp [errW_none, errW_some] <;> rfl) | (simp [*, errW_none, errW_some] <;> rfl), by first | exact Kd.R_nil _ _ _ _ _ | exact Kd.N_nil _ _ _ _ _ | exact Kd.V_nil _ _ _ _ _ | exact Kd.Q_nil _ _ _ _ _ | exact Kd.S_nil _ _ _ _ _, by repeat (first | (with_reducible first | exact HB.out | apply below_alloc | apply pw_below_drewN | apply below_drew1) | exact HB.out)⟩
                      · rw [if_neg c13] at H
                        have c13b0 : decide (a0 ≤ (rd l1 x7_2)) = false := decide_eq_false c13
                        clear c13
                        by_cases c14 : 0 ≤ (rd l1 x7_2)
                        · rw [if_pos c14] at H
                          have c14b0 : decide (0 ≤ (rd l1 x7_2)) = true := decide_eq_true c14
                          clear c14
                          by_cases c15 : (rd l1 x7_2) < (x6_2.length : Int)
                          · rw [if_pos c15] at H
                            have c15b0 : decide ((rd l1 x7_2) < (x6_2.length : Int)) = true := decide_eq_true c15
                            clear c15
                            obtain ⟨y167, hy167⟩ : ∃ y_ : List Bool, y_ = (x6_2.set ((rd l1 x7_2) : Int).toNat true) := ⟨_, rfl⟩
                            replace H : (torrentref4_Of.l0 k2 a0 l1 y167 (wrap64 (x7_2 + 1))) = some (r1, r2) := by first | (rw [hy167]; with_reducible exact H) | (have H2_ := (Option.bind_some _ _).symm.trans H; rw [hy167]; with_reducible exact H2_) | (have H2_ := (Option.bind_some _ _).symm.trans H; with_reducible exact H2_) | with_reducible exact H | (rw [hy167]; exact H) | exact H
                            have Ny167 := Aside0.mk hy167
                            clear hy167
                            have H' := Aside0.mk H
                            clear H
                            have p164 : 0 ≤ (x7_2 : Int) := of_decide_eq_true (by first | (with_reducible assumption) | assumption)
                            have q164 : x7_2 < (l1.length : Int) := of_decide_eq_true (by first | (with_reducible assumption) | assumption)
                            obtain ⟨ad164, e164, hx164_0⟩ := Kd.at_int HR1.out x7_2 p164 q164
                            cases e164
                            replace hx164_0 := (HB.out.cell (World.block_lt_of_cell? w _ hx164_0)).trans hx164_0
                            replace p164 := eq_true p164
                            replace q164 := eq_true q164
                            have p165 : 0 ≤ (x7_2 : Int) := of_decide_eq_true (by first | (with_reducible assumption) | assumption)
                            have q165 : x7_2 < (l1.length : Int) := of_decide_eq_true (by first | (with_reducible assumption) | assumption)
                            obtain ⟨ad165, e165, hx165_0⟩ := Kd.at_int HR1.out x7_2 p165 q165
                            obtain rfl : ad164 = ad165 := (by injection e165)
                            replace hx165_0 := (HB.out.cell (World.block_lt_of_cell? w _ hx165_0)).trans hx165_0
                            replace p165 := eq_true p165
                            replace q165 := eq_true q165
                            have p166 : 0 ≤ (x7_2 : Int) := of_decide_eq_true (by first | (with_reducible assumption) | assumption)
                            have q166 : x7_2 < (l1.length : Int) := of_decide_eq_true (by first | (with_reducible assumption) | assumption)
                            obtain ⟨ad166, e166, hx166_0⟩ := Kd.at_int HR1.out x7_2 p166 q166
                            obtain rfl : ad164 = ad166 := (by injection e166)
                            replace hx166_0 := (HB.out.cell (World.block_lt_of_cell? w _ hx166_0)).trans hx166_0
                            replace p166 := eq_true p166
                            replace q166 := eq_true q166
                            have p16 : 0 ≤ ((rd l1 x7_2) : Int) := of_decide_eq_true (by first | (with_reducible assumption) | assumption)
                            have q16 : ((rd l1 x7_2) : Int) < ((x6_2.length : Int) : Int) := of_decide_eq_true (by first | (with_reducible assumption) | assumption)
                            obtain ⟨go16, co16, eo16, gb16, gl16, cl16, HG16⟩ := Kd.R_form HO_6.out (by omega)
                            (first | cases eo16 | (injection eo16 with ea_ en_ ec_; (first | subst ea_ | (injection ea_ with ea_; subst ea_)); subst ec_; clear en_))
                            have GB16 := Aside0.mk gb16
                            have GG16 := Aside0.mk HG16
                            clear gb16 gl16 HG16
                            obtain ⟨hx16_0, hf16_0⟩ := Kd.R_celln false HO_6.out ((rd l1 x7_2) : Int) p16 q16
                            replace p16 := eq_true p16
                            replace q16 := eq_true q16
                            have HP17 := Kd.R_putg HO_6.out ((rd l1 x7_2) : Int) true
                            go_wp2_with (first | ((with_reducible refine gate_store (t := 4) (p := 41) rfl ?_); refine store_event (t := 4) (p := 41) (v := ?vo_w18) (w1 := (wr.setCell ⟨go16, ((rd l1 x7_2) : Int).toNat, none⟩ (.bool true))) ?hg ?ho ?hn ?hr ?_; (case ho => rfl); (case hg => rfl); (case hn => rfl); (case hr => first | (go_simp; done) | (go_simp; rfl)); intro w18 hw; have hg : wr.grownBy w18 (some go16) := (by rw [hw]; exact HP17.2); have hp_ : Kd.R Kd.bool 4 w18 w.heap.size (fun _ => True) (.slice (some ⟨go16, 0, none⟩) x6_2.length co16) y167 := (by rw [hw, Ny167.out]; exact HP17.1); clear HP17; have n0_ := Aside0.mk (hp_); have n1_ := Aside0.mk ((by rw [hw]; exact below_set (HB.out) GB16.out : Below w.heap.size w w18)); clear HO_6; clear HB; have HO_6 := n0_; have HB := n1_; clear n0_ n1_; clear hg hw hp_))
                            go_roundg k2
                            case measure => have := HJ2.out; have := HK2.out; omega
                            case rel => exact ⟨(y167), (wrap64 (x7_2 + 1)), (by first | rfl | (simp; done) | (simp [*]; done)), H', ⟨by have := HJ2.out; have := HK2.out; omega⟩, ⟨by (with_reducible repeat (first | apply Kd.R_alloc | apply Kd.R_drewN | apply Kd.R_drew)); exact HO_6.out⟩, ⟨by repeat (first | (with_reducible first | exact HB.out | apply below_alloc | apply pw_below_drewN | apply below_drew1) | exact HB.out)⟩⟩
                          · rw [if_neg c15] at H
                            exact absurd H (by simp)
                        · rw [if_neg c14] at H
                          exact absurd H (by simp)
                  · rw [if_neg c11] at H
                    exact absurd H (by simp)
                · rw [if_neg c10] at H
                  have c10b0 : decide (x7_2 < (l1.length : Int)) = false := decide_eq_false c10
                  clear c10
                  replace H := Option.bind_eq_some_iff.mp H
                  obtain ⟨t168, A190, H⟩ := H
                  replace H : (some (t168, 0)) = some (r1, r2) := H
                  have A19 := Aside0.mk A190
                  clear A190
                  simp only [Option.some.injEq, Prod.mk.injEq] at H
                  obtain ⟨rfl, rfl⟩ := H
                  obtain ⟨Ao20, co20, eo20⟩ := Kd.R_slice HO_6.out
                  subst eo20
                  go_wp2_with (first | ((with_reducible refine gate_callee (f := 57) rfl ?_); refine goesL_ (some 43) rfl rfl Try.func57 (by kernel_rfl) rfl #[.slice Ao20 x6_2.length co20] rfl (by (try simp only [List.map_toArray, List.map_cons, List.map_nil]); first | done | rfl | (simp only [List.length_drop, List.length_take]; rfl)) ?_; (with_reducible refine (torrentref4_pack.calls k2 _ _ x6_2 t168 _ ?side1 ?side2 A19.out).mono ?_); (case side1 => repeat (first | exact (Kd.R_reads' HO_6.out).2.2 | (with_reducible refine Kd.C_alloc ?_ _) | (with_reducible refine Kd.C_drewN ?_ _) | (with_reducible refine Kd.C_drew ?_))); (case side2 => exact (Kd.R_reads' HO_6.out).2.1); rintro e w21 ⟨v169, rfl, ho0, hb⟩; refine ⟨_, rfl, ?_⟩; have n0_ := Aside0.mk (Kd.R_below (by (with_reducible repeat (first | apply Kd.R_alloc | apply Kd.R_drewN | apply Kd.R_drew)); exact HO_6.out) hb); have n1_ := Aside0.mk (Kd.R_lower ho0 (below_size (by repeat (first | (with_reducible first | exact HB.out | apply below_alloc | apply pw_below_drewN | apply below_drew1) | exact HB.out)))); have n2_ := Aside0.mk (below_step (by repeat (first | (with_reducible first | exact HB.out | apply below_alloc | apply pw_below_drewN | apply below_drew1) | exact HB.out)) hb); clear HO_6; clear HB; have HO_6 := n0_; have HO170 := n1_; have HB := n2_; clear n0_ n1_ n2_; (try clear hb); (try clear hb2); (try clear hk); (try clear hi); (try clear ho0)))
                  go_ret2
                  exact ⟨_, by first | rfl | (simp [errW_none, errW_some] <;> rfl) | (simp [*, errW_none, errW_some] <;> rfl), by (with_reducible repeat (first | apply Kd.R_alloc | apply Kd.R_drewN | apply Kd.R_drew)); exact HO170.out, by repeat (first | (with_reducible first | exact HB.out | apply below_alloc | apply pw_below_drewN | apply below_drew1) | exact HB.out)⟩
          · rw [if_neg c7] at H
            exact absurd H (by simp)
        · rw [if_neg c6] at H
          exact absurd H (by simp)

end Go.Proofs.Ytoohpdamndgdlaa.P

/- What Of answers, the program's and the reference's, in plain words: an error, or the packed bits of the places. -/
set_option linter.unusedVariables false
set_option linter.unusedSimpArgs false
namespace Go.Proofs.Ytoohpdamndgdlaa.B
open Go.RowKit Go.Proofs.Ytoohpdamndgdlaa.P Go.Proofs.YtoohpdamndgdlaaW.PrintWords Go.Proofs.YtoohpdamndgdlaaW.PrintLast Go.Proofs.YtoohpdamndgdlaaW.PrintMore

/-- Does the place j stand among these? -/
def among (l : List Int) (j : Nat) : Bool := l.any fun x => decide (x = (j : Int))
theorem among_nil (j : Nat) : among [] j = false := rfl
theorem among_take_succ (l : List Int) (i j : Nat) (hi : i < l.length) : among (l.take (i + 1)) j = (among (l.take i) j || decide (l.getD i 0 = (j : Int))) := by
  unfold among
  rw [List.take_succ_eq_append_getElem hi, List.any_append]
  simp [List.getD_eq_getElem?_getD, List.getElem?_eq_getElem hi]
/-- All places lie below n. -/
def inside (n : Nat) (l : List Int) : Prop := ∀ i, i < l.length → 0 ≤ l.getD i 0 ∧ l.getD i 0 < (n : Int)

theorem of_l (n : Nat) (hn : n ≤ 65536) (l : List Int) (hl : l.length ≤ 9223372036854775807) : ∀ (d i : Nat) (xs : List Int), i + d = l.length → IsB xs → xs.length = (n + 7) / 8 → (∀ j, j < 8 * xs.length → gbit xs j = among (l.take i) j) → (∀ q, q < i → 0 ≤ l.getD q 0 ∧ l.getD q 0 < (n : Int)) →
    (inside n l ∧ ∃ r, Ev (fun k => bitset_Of.l0 k (n : Int) xs l (l.length : Int) (i : Int)) (r, 0) ∧ Packed (among l) n r) ∨ (¬ inside n l ∧ Ev (fun k => bitset_Of.l0 k (n : Int) xs l (l.length : Int) (i : Int)) ([], 43))
  | 0, i, xs, hd, hx, hlen, hb, hin => by
    obtain rfl : i = l.length := by omega
    refine .inl ⟨hin, xs, Ev.step (f := fun _ => some (xs, 0)) (fun k => ?_) (Ev.now _), hlen, hx, fun j hj => ?_⟩
    · simp only [bitset_Of.l0]
      rw [if_neg (by omega)]
    · rw [hb j hj, List.take_length]
      by_cases hjn : j < n
      · simp [hjn]
      · have : among l j = false := by
          unfold among
          rw [List.any_eq_false]
          intro x hx2
          obtain ⟨q, hq, rfl⟩ := List.getElem_of_mem hx2
          have := hin q hq
          rw [List.getD_eq_getElem?_getD, List.getElem?_eq_getElem hq, Option.getD_some] at this
          simp
          omega
        simp [this]
  | d + 1, i, xs, hd, hx, hlen, hb, hin => by
    have hi : i < l.length := by omega
    have e1 : ((i : Nat) : Int) < (l.length : Int) := by omega
    by_cases h0 : l.getD i 0 < 0
    · refine .inr ⟨fun h => by have := h i hi; omega, Ev.step (f := fun _ => some ([], 43)) (fun k => ?_) (Ev.now _)⟩
      simp only [bitset_Of.l0]
      rw [if_pos e1, if_pos (by omega), if_pos e1, rd_nat, if_pos h0]
    · by_cases h1 : l.getD i 0 ≥ (n : Int)
      · refine .inr ⟨fun h => by have := h i hi; omega, Ev.step (f := fun _ => some ([], 43)) (fun k => ?_) (Ev.now _)⟩
        simp only [bitset_Of.l0]
        rw [if_pos e1, if_pos (by omega), if_pos e1, rd_nat, if_neg h0, if_pos h1]
      · obtain ⟨p, hp⟩ : ∃ p : Nat, l.getD i 0 = (p : Int) := ⟨(l.getD i 0).toNat, by omega⟩
        have hpn : p < n := by omega
        have ih := of_l n hn l hl d (i + 1) (put1 xs p) (by omega) (put1_isB hx p) (by rw [put1_length]; exact hlen) (fun j hj => by
          rw [put1_length] at hj
          rw [put1_bit hx p j (by omega), hb j hj, among_take_succ l i j hi, hp]
          congr 1
          exact decide_eq_decide.mpr ⟨fun h => by omega, fun h => by omega⟩) (fun q hq => by
          by_cases hqi : q = i
          · subst hqi; omega
          · exact hin q (by omega))
        have st : ∀ k, bitset_Of.l0 (k + 1) (n : Int) xs l (l.length : Int) (i : Int) = bitset_Of.l0 k (n : Int) (put1 xs p) l (l.length : Int) ((i + 1 : Nat) : Int) := fun k => by
          obtain ⟨g1, g2, g3⟩ := tests_in xs p (by omega) (by omega)
          simp only [bitset_Of.l0]
          rw [if_pos e1, if_pos (by omega), if_pos e1, rd_nat, if_neg h0, if_neg h1, hp, if_pos g1, if_pos g2, if_pos g3, set_mask xs p (by omega), inc i (by omega)]
        rcases ih with ⟨h2, r, hr, hp2⟩ | ⟨h2, hr⟩
        · exact .inl ⟨h2, r, Ev.step st hr, hp2⟩
        · exact .inr ⟨h2, Ev.step st hr⟩
theorem of_ok (n : Nat) (hn : n ≤ 65536) (l : List Int) (hl : l.length ≤ 9223372036854775807) :
    (inside n l ∧ ∃ r, Ev (fun k => bitset_Of.f k (n : Int) l) (r, 0) ∧ Packed (among l) n r) ∨ (¬ inside n l ∧ Ev (fun k => bitset_Of.f k (n : Int) l) ([], 43)) := by
  have e : ∀ k, bitset_Of.f k (n : Int) l = bitset_Of.l0 k (n : Int) (List.replicate ((n + 7) / 8) 0) l (l.length : Int) ((0 : Nat) : Int) := fun k => by
    unfold bitset_Of.f
    rw [make_ok n hn]
    simp only [Option.bind_some]
    rw [if_pos trivial]
    rfl
  rcases of_l n hn l hl l.length 0 (List.replicate ((n + 7) / 8) 0) (by omega) (IsB.replicate _) (by simp) (fun j hj => by rw [gbit_replicate]; rfl) (fun q hq => by omega) with ⟨h, r, hr, hp⟩ | ⟨h, hr⟩
  · exact .inl ⟨h, r, Ev.congr e hr, hp⟩
  · exact .inr ⟨h, Ev.congr e hr⟩
theorem of_no (n : Int) (l : List Int) (h : n < 0 ∨ 65536 < n) (k : Nat) : bitset_Of.f k n l = some ([], 40) := by
  unfold bitset_Of.f
  rw [make_no n h]
  rfl

theorem refOf_l (n : Nat) (hn : n ≤ 65536) (l : List Int) (hl : l.length ≤ 9223372036854775807) : ∀ (d i : Nat) (bs : List Bool), i + d = l.length → bs.length = n → (∀ j, j < n → bs.getD j false = among (l.take i) j) → (∀ q, q < i → 0 ≤ l.getD q 0 ∧ l.getD q 0 < (n : Int)) →
    (inside n l ∧ ∃ r, Ev (fun k => torrentref4_Of.l0 k (n : Int) l bs (i : Int)) (r, 0) ∧ Packed (among l) n r) ∨ (¬ inside n l ∧ Ev (fun k => torrentref4_Of.l0 k (n : Int) l bs (i : Int)) ([], 43))
  | 0, i, bs, hd, hlen, hb, hin => by
    obtain rfl : i = l.length := by omega
    obtain ⟨r, hr, hp⟩ := pack_f bs (by omega)
    refine .inl ⟨hin, r, Ev.step (f := fun k => (torrentref4_pack.f k bs).bind fun t => some (t, 0)) (fun k => ?_) (Ev.bind hr (Ev.now _)), ?_⟩
    · simp only [torrentref4_Of.l0]
      rw [if_neg (by omega)]
    · rw [hlen] at hp
      exact hp.congr fun j hj => by rw [hb j hj, List.take_length]
  | d + 1, i, bs, hd, hlen, hb, hin => by
    have hi : i < l.length := by omega
    have e1 : ((i : Nat) : Int) < (l.length : Int) := by omega
    by_cases h0 : l.getD i 0 < 0
    · refine .inr ⟨fun h => by have := h i hi; omega, Ev.step (f := fun _ => some ([], 43)) (fun k => ?_) (Ev.now _)⟩
      simp only [torrentref4_Of.l0]
      rw [if_pos e1, if_pos (by omega), rd_nat, if_pos h0]
    · by_cases h1 : l.getD i 0 ≥ (n : Int)
      · refine .inr ⟨fun h => by have := h i hi; omega, Ev.step (f := fun _ => some ([], 43)) (fun k => ?_) (Ev.now _)⟩
        simp only [torrentref4_Of.l0]
        rw [if_pos e1, if_pos (by omega), rd_nat, if_neg h0, if_pos h1]
      · obtain ⟨p, hp⟩ : ∃ p : Nat, l.getD i 0 = (p : Int) := ⟨(l.getD i 0).toNat, by omega⟩
        have hpn : p < n := by omega
        have ih := refOf_l n hn l hl d (i + 1) (bs.set p true) (by omega) (by simpa using hlen) (fun j hj => by
          rw [among_take_succ l i j hi, hp, ← hb j hj]
          simp only [List.getD_eq_getElem?_getD]
          by_cases hjp : p = j
          · subst hjp; rw [List.getElem?_set_self (by omega)]; simp
          · rw [List.getElem?_set_ne hjp]
            have : ¬ ((p : Int) = (j : Int)) := by omega
            simp [this]) (fun q hq => by
          by_cases hqi : q = i
          · subst hqi; omega
          · exact hin q (by omega))
        have st : ∀ k, torrentref4_Of.l0 (k + 1) (n : Int) l bs (i : Int) = torrentref4_Of.l0 k (n : Int) l (bs.set p true) ((i + 1 : Nat) : Int) := fun k => by
          simp only [torrentref4_Of.l0]
          rw [if_pos e1, if_pos (by omega), rd_nat, if_neg h0, if_neg h1, hp, if_pos (by omega), if_pos (by omega), Int.toNat_natCast, inc i (by omega)]
        rcases ih with ⟨h2, r, hr, hp2⟩ | ⟨h2, hr⟩
        · exact .inl ⟨h2, r, Ev.step st hr, hp2⟩
        · exact .inr ⟨h2, Ev.step st hr⟩
theorem refOf_ok (n : Nat) (hn : n ≤ 65536) (l : List Int) (hl : l.length ≤ 9223372036854775807) :
    (inside n l ∧ ∃ r, Ev (fun k => torrentref4_Of.f k (n : Int) l) (r, 0) ∧ Packed (among l) n r) ∨ (¬ inside n l ∧ Ev (fun k => torrentref4_Of.f k (n : Int) l) ([], 43)) := by
  have e : ∀ k, torrentref4_Of.f k (n : Int) l = torrentref4_Of.j0 k (n : Int) l false := fun k => by
    unfold torrentref4_Of.f
    rw [if_neg (by omega), decide_eq_false (by omega)]
  have e2 : ∀ k, torrentref4_Of.j0 (k + 1) (n : Int) l false = torrentref4_Of.l0 k (n : Int) l (List.replicate n false) ((0 : Nat) : Int) := fun k => by
    simp only [torrentref4_Of.j0]
    rw [if_neg (by decide), if_pos (by omega), if_pos (by omega), Int.toNat_natCast]
    rfl
  rcases refOf_l n hn l hl l.length 0 (List.replicate n false) (by omega) (by simp) (fun j hj => by simp [among, hj]) (fun q hq => by omega) with ⟨h, r, hr, hp⟩ | ⟨h, hr⟩
  · exact .inl ⟨h, r, Ev.congr e (Ev.step e2 hr), hp⟩
  · exact .inr ⟨h, Ev.congr e (Ev.step e2 hr)⟩
theorem refOf_no (n : Int) (l : List Int) (h : n < 0 ∨ 65536 < n) : Ev (fun k => torrentref4_Of.f k n l) ([], 40) := by
  refine Ev.congr (f := fun k => torrentref4_Of.j0 k n l true) (fun k => ?_) (Ev.step (f := fun _ => some ([], 40)) (fun k => by simp only [torrentref4_Of.j0]; rfl) (Ev.now _))
  unfold torrentref4_Of.f
  by_cases h0 : n < 0
  · rw [if_pos h0]
  · rw [if_neg h0, decide_eq_true (by omega)]
end Go.Proofs.Ytoohpdamndgdlaa.B

/- What Check's content says of the spare bits. Condition: bytes. -/
set_option linter.unusedVariables false
set_option linter.unusedSimpArgs false
namespace Go.Proofs.Ytoohpdamndgdlaa.B
open Go.RowKit Go.Proofs.Ytoohpdamndgdlaa.P Go.Proofs.YtoohpdamndgdlaaW.PrintWords Go.Proofs.YtoohpdamndgdlaaW.PrintLast Go.Proofs.YtoohpdamndgdlaaW.PrintMore
/-- No spare bit is set, where Check is content. -/
theorem spare_none {m : Nat} {l : List Int} (hx : IsB l) (hl : l.length ≤ 140737488351232) (h : Ev (fun k => bitset_Check.f k (m : Int) l) 0) (i : Nat) (h1 : m ≤ i) (h2 : i < 8 * l.length) : gbit l i = false := by
  obtain ⟨m', e, hm, hlen⟩ := check_ok h
  obtain rfl : m = m' := by omega
  have h8 : m % 8 ≠ 0 := by omega
  have h88 := Nat.mod_lt m (show 8 > 0 by decide)
  have hxb := hx.getD (m / 8)
  have hs := spare_mask _ hxb (m % 8) h88
  have e1 : ∀ k, bitset_Check.f k (m : Int) l = bitset_Check.j0 k (m : Int) l false := fun k => by
    unfold bitset_Check.f
    rw [if_neg (by omega), decide_eq_false (by omega)]
  obtain ⟨K, hK⟩ := h
  have := hK (K + 1) (by omega)
  simp only [e1, bitset_Check.j0] at this
  rw [if_neg (by decide), size_f m hm] at this
  simp only [Option.bind_some] at this
  rw [if_pos (by omega), rem8, quo8 m (by omega), if_neg (by omega), if_pos (by omega), if_pos (by omega), if_pos (by omega), rd_nat, hs] at this
  have hz : l.getD (m / 8) 0 % 2 ^ (8 - m % 8) = 0 := by
    by_cases hz : l.getD (m / 8) 0 % 2 ^ (8 - m % 8) = 0
    · exact hz
    · rw [if_neg hz] at this
      simp at this
  unfold gbit
  rw [show i / 8 = m / 8 by omega]
  obtain ⟨a, ha⟩ : ∃ a : Nat, l.getD (m / 8) 0 = a := ⟨(l.getD (m / 8) 0).toNat, by omega⟩
  rw [ha] at hz ⊢
  rw [Int.toNat_natCast]
  have hz2 : a % 2 ^ (8 - m % 8) = 0 := by exact_mod_cast hz
  have := Nat.testBit_mod_two_pow a (8 - m % 8) (7 - i % 8)
  rw [hz2, Nat.zero_testBit] at this
  have hlt : 7 - i % 8 < 8 - m % 8 := by omega
  simpa [hlt] using this.symm
/-- A bitfield that Check takes is packed. -/
theorem packed_of_check {m : Nat} {l : List Int} (hx : IsB l) (hl : l.length ≤ 140737488351232) (h : Ev (fun k => bitset_Check.f k (m : Int) l) 0) : Packed (gbit l) m l := by
  obtain ⟨m', e, hm, hlen⟩ := check_ok h
  obtain rfl : m = m' := by omega
  refine ⟨hlen, hx, fun i hi => ?_⟩
  by_cases h1 : i < m
  · simp [h1]
  · rw [spare_none hx hl h i (by omega) hi]
    simp
end Go.Proofs.Ytoohpdamndgdlaa.B

/- A packed bitfield passes Check; has; Count; the places that lie below n. In plain words. -/
set_option linter.unusedVariables false
set_option linter.unusedSimpArgs false
namespace Go.Proofs.Ytoohpdamndgdlaa.B
open Go.RowKit Go.Proofs.Ytoohpdamndgdlaa.P Go.Proofs.YtoohpdamndgdlaaW.PrintWords Go.Proofs.YtoohpdamndgdlaaW.PrintLast Go.Proofs.YtoohpdamndgdlaaW.PrintMore
/-- A packed bitfield passes Check. -/
theorem check_packed' {p : Nat → Bool} {m : Nat} {l : List Int} (hm : m ≤ 65536) (hp : Packed p m l) : Ev (fun k => bitset_Check.f k (m : Int) l) 0 := by
  have hlen := hp.len
  have hx := hp.isB
  have e1 : ∀ k, bitset_Check.f k (m : Int) l = bitset_Check.j0 k (m : Int) l false := fun k => by
    unfold bitset_Check.f
    rw [if_neg (by omega), decide_eq_false (by omega)]
  refine Ev.congr e1 (Ev.step (f := fun _ => some 0) (fun k => ?_) (Ev.now _))
  simp only [bitset_Check.j0]
  rw [if_neg (by decide), size_f m hm]
  simp only [Option.bind_some]
  rw [if_pos (by omega), rem8]
  by_cases h8 : m % 8 = 0
  · rw [if_pos (by omega)]
  · have h88 := Nat.mod_lt m (show 8 > 0 by decide)
    have hxb := hx.getD (m / 8)
    rw [quo8 m (by omega), if_neg (by omega), if_pos (by omega), if_pos (by omega), if_pos (by omega), rd_nat, spare_mask _ hxb (m % 8) h88]
    have hz : l.getD (m / 8) 0 % 2 ^ (8 - m % 8) = 0 := by
      obtain ⟨a, ha⟩ : ∃ a : Nat, l.getD (m / 8) 0 = a := ⟨(l.getD (m / 8) 0).toNat, by omega⟩
      rw [ha]
      have hz2 : a % 2 ^ (8 - m % 8) = 0 := by
        apply Nat.eq_of_testBit_eq
        intro j
        rw [Nat.testBit_mod_two_pow, Nat.zero_testBit]
        by_cases hj : j < 8 - m % 8
        · have h1 := hp.bit (8 * (m / 8) + (7 - j)) (by omega)
          unfold gbit at h1
          rw [show (8 * (m / 8) + (7 - j)) / 8 = m / 8 by omega, show 7 - (8 * (m / 8) + (7 - j)) % 8 = j by omega, ha, Int.toNat_natCast, decide_eq_false (by omega)] at h1
          rw [h1]
          simp
        · simp [hj]
      exact_mod_cast hz2
    rw [if_pos hz]
theorem has_l (l : List Int) (hl : l.length ≤ 9223372036854775807) (j : Nat) : ∀ (d i : Nat), i + d = l.length → among (l.take i) j = false → Ev (fun k => torrentlaw4_has.l0 k l (j : Int) (i : Int)) (among l j)
  | 0, i, h, hn => by
    rw [List.take_of_length_le (by omega)] at hn
    refine Ev.step (f := fun _ => some (among l j)) (fun k => ?_) (Ev.now _)
    simp only [torrentlaw4_has.l0]
    rw [if_neg (by omega), hn]
  | d + 1, i, h, hn => by
    have e0 : ∀ k, torrentlaw4_has.l0 (k + 1) l (j : Int) (i : Int) = if l.getD i 0 = (j : Int) then some true else torrentlaw4_has.l0 k l (j : Int) ((i + 1 : Nat) : Int) := fun k => by
      simp only [torrentlaw4_has.l0]
      rw [if_pos (by omega), if_pos (by omega), rd_nat, inc i (by omega)]
    by_cases hv : l.getD i 0 = (j : Int)
    · have : among l j = true := by
        unfold among
        rw [List.any_eq_true]
        refine ⟨l.getD i 0, ?_, by simpa using hv⟩
        rw [List.getD_eq_getElem?_getD, List.getElem?_eq_getElem (by omega)]
        exact List.getElem_mem _
      rw [this]
      exact Ev.step (f := fun _ => some true) (fun k => by rw [e0, if_pos hv]) (Ev.now _)
    · refine Ev.step (fun k => by rw [e0, if_neg hv]) (has_l l hl j d (i + 1) (by omega) ?_)
      rw [among_take_succ l i j (by omega), hn, decide_eq_false hv]
      rfl
theorem has_f (l : List Int) (hl : l.length ≤ 9223372036854775807) (j : Nat) : Ev (fun k => torrentlaw4_has.f k l (j : Int)) (among l j) := has_l l hl j l.length 0 (by omega) rfl
def okPlace (n : Int) (x : Int) : Bool := decide (0 ≤ x ∧ x < n)
theorem filter_inside (m : Nat) (l : List Int) : inside m (l.filter (okPlace (m : Int))) := fun i hi => by
  have h := List.getElem_mem hi
  rw [List.mem_filter] at h
  rw [List.getD_eq_getElem?_getD, List.getElem?_eq_getElem hi]
  simpa [okPlace] using h.2
theorem count_is {m : Nat} {l : List Int} (hx : IsB l) (hc : Ev (fun k => bitset_Check.f k (m : Int) l) 0) : Ev (fun k => bitset_Count.f k (m : Int) l) (((onesL l m).length : Int), 0) := by
  obtain ⟨m', e, hm, hlen⟩ := check_ok hc
  obtain rfl : m = m' := by omega
  exact Ev.bind hc (Ev.congr (fun k => if_pos rfl) (count_l m hm l hx hlen m 0 (by omega)))
end Go.Proofs.Ytoohpdamndgdlaa.B

/- The law TwoWay's loops in plain words. Condition: bytes. -/
set_option linter.unusedVariables false
set_option linter.unusedSimpArgs false
namespace Go.Proofs.Ytoohpdamndgdlaa.B
open Go.RowKit Go.Proofs.Ytoohpdamndgdlaa.P Go.Proofs.YtoohpdamndgdlaaW.PrintWords Go.Proofs.YtoohpdamndgdlaaW.PrintLast Go.Proofs.YtoohpdamndgdlaaW.PrintMore
theorem check_out (n : Int) (l : List Int) (h : n < 0 ∨ 65536 < n) : Ev (fun k => bitset_Check.f k n l) 40 := by
  refine Ev.congr (f := fun k => bitset_Check.j0 k n l true) (fun k => ?_) (Ev.step (f := fun _ => some 40) (fun k => by simp only [bitset_Check.j0]; rfl) (Ev.now _))
  unfold bitset_Check.f
  by_cases h0 : n < 0
  · rw [if_pos h0]
  · rw [if_neg h0, decide_eq_true (by omega)]
theorem get_is {m : Nat} {l : List Int} (hx : IsB l) (hc : Ev (fun k => bitset_Check.f k (m : Int) l) 0) (j : Nat) (hj : j < m) : Ev (fun k => bitset_Get.f k (m : Int) l (j : Int)) (gbit l j, 0) := by
  obtain ⟨m', e, hm, hlen⟩ := check_ok hc
  obtain rfl : m = m' := by omega
  have ha : Ev (fun k => bitset_at.f k (m : Int) l (j : Int)) 0 := by
    refine Ev.bind hc (Ev.congr (fun k => if_pos rfl) (Ev.congr (f := fun _ => some 0) (fun k => ?_) (Ev.now _)))
    rw [if_neg (by omega), if_neg (by omega)]
  obtain ⟨g1, g2, g3⟩ := tests_in l j (by omega) (by omega)
  refine Ev.bind ha (Ev.congr (f := fun _ => some (gbit l j, 0)) (fun k => ?_) (Ev.now _))
  rw [if_pos rfl, if_pos g1, if_pos g2, if_pos g3]
  have h := get_mask l hx j (by omega)
  congr 2
  cases hb : gbit l j with
  | true =>
    rw [bne_iff_ne]
    intro h0
    rw [h.1 h0] at hb
    cases hb
  | false => rw [bne_eq_false_iff_eq]; exact h.2 hb
theorem ones_is {m : Nat} {l : List Int} (hx : IsB l) (hc : Ev (fun k => bitset_Check.f k (m : Int) l) 0) : Ev (fun k => bitset_Ones.f k (m : Int) l) (onesL l m, 0) := by
  obtain ⟨m', e, hm, hlen⟩ := check_ok hc
  obtain rfl : m = m' := by omega
  exact Ev.bind hc (Ev.congr (fun k => if_pos rfl) (ones_l m hm l hx hlen m 0 (by omega)))
/-! ### the list of the ones -/
theorem ones_at (l : List Int) (j i : Nat) (h : i < (onesL l j).length) : ∃ q : Nat, (onesL l j).getD i 0 = (q : Int) ∧ q < j ∧ gbit l q = true := by
  have h1 := List.getElem_mem h
  rw [List.getD_eq_getElem?_getD, List.getElem?_eq_getElem h]
  unfold onesL at h1
  rw [List.mem_map] at h1
  obtain ⟨q, h2, h3⟩ := h1
  rw [List.mem_filter, List.mem_range] at h2
  exact ⟨q, h3.symm, h2.1, h2.2⟩
theorem ones_rise (l : List Int) (j i : Nat) (h : i + 1 < (onesL l j).length) : (onesL l j).getD i 0 < (onesL l j).getD (i + 1) 0 := by
  have hp : (onesL l j).Pairwise (· < ·) := by
    unfold onesL
    rw [List.pairwise_map]
    exact (List.Pairwise.filter _ List.pairwise_lt_range).imp (fun h => by omega)
  rw [List.pairwise_iff_getElem] at hp
  have := hp i (i + 1) (by omega) h (by omega)
  rw [List.getD_eq_getElem?_getD, List.getElem?_eq_getElem (by omega), List.getD_eq_getElem?_getD, List.getElem?_eq_getElem h]
  exact this
theorem among_ones (l : List Int) (m q : Nat) (hq : q < m) : among (onesL l m) q = gbit l q := by
  rw [Bool.eq_iff_iff]
  unfold among
  rw [List.any_eq_true]
  constructor
  · rintro ⟨x, h1, h2⟩
    unfold onesL at h1
    rw [List.mem_map] at h1
    obtain ⟨p, h3, h4⟩ := h1
    rw [List.mem_filter] at h3
    have : p = q := by
      have := of_decide_eq_true h2
      omega
    rw [← this]
    exact h3.2
  · intro h
    refine ⟨(q : Int), ?_, by simp⟩
    unfold onesL
    rw [List.mem_map]
    exact ⟨q, by rw [List.mem_filter, List.mem_range]; exact ⟨hq, h⟩, rfl⟩
theorem ones_inside (l : List Int) (m : Nat) : inside m (onesL l m) := fun i hi => by
  obtain ⟨q, h1, h2, _⟩ := ones_at l m i hi
  rw [h1]
  omega
/-- Of of the Ones of what Check takes is it again. -/
theorem of_ones {m : Nat} (hm : m ≤ 65536) {l : List Int} (hp : Packed (gbit l) m l) : Ev (fun k => bitset_Of.f k (m : Int) (onesL l m)) (l, 0) := by
  have hle := onesL_le l m
  rcases of_ok m hm (onesL l m) (by omega) with ⟨_, b, hb, hq⟩ | ⟨hi, _⟩
  · obtain rfl := hq.unique hp (fun q h => among_ones l m q h)
    exact hb
  · exact absurd (ones_inside l m) hi
/-! ### the law's loops -/
theorem two_j7 (m : Nat) (hm : m ≤ 65536) (raw : List Int) (hr : IsB raw) (hl : raw.length ≤ 140737488351232) : Ev (fun k => torrentlaw4_BitsetTwoWay.j7 k (m : Int) raw (!true)) true := by
  obtain ⟨c, hc, _⟩ := check_both (m : Int) raw hr hl
  refine Ev.step (f := fun k => (bitset_Check.f k (m : Int) raw).bind fun t => if t = 0 then ((bitset_Ones.f k (m : Int) raw).bind fun x => if x.2 = 0 then ((bitset_Of.f k (m : Int) x.1).bind fun y => if y.2 = 0 then ((torrentlaw4_sameBytes.f k y.1 raw).bind fun u => some u) else some false) else some false) else some true) (fun k => ?_) (Ev.bind hc ?_)
  · simp only [torrentlaw4_BitsetTwoWay.j7]
    rw [if_neg (by decide)]
  · by_cases h0 : c = 0
    · subst h0
      exact Ev.congr (fun k => if_pos rfl) (Ev.bind (ones_is hr hc) (Ev.congr (fun k => if_pos rfl) (Ev.bind (of_ones hm (packed_of_check hr hl hc)) (Ev.congr (fun k => if_pos rfl) (Ev.bind (sameBytes_f raw (by omega)) (Ev.now _))))))
    · exact Ev.congr (fun k => if_neg h0) (Ev.now _)
theorem two_j6 (m : Nat) (hm : m ≤ 65536) (raw : List Int) (hr : IsB raw) (hl : raw.length ≤ 140737488351232) (b : List Int) (hp : Packed (gbit b) m b) : Ev (fun k => torrentlaw4_BitsetTwoWay.j6 k (m : Int) raw b (onesL b m) false) true := by
  have hlen := hp.len
  refine Ev.step (f := fun k => (bitset_Of.f k (m : Int) (onesL b m)).bind fun x => if x.2 = 0 then ((torrentlaw4_sameBytes.f k b x.1).bind fun t => torrentlaw4_BitsetTwoWay.j7 k (m : Int) raw (!t)) else torrentlaw4_BitsetTwoWay.j7 k (m : Int) raw true) (fun k => ?_) (Ev.bind (of_ones hm hp) (Ev.congr (fun k => if_pos rfl) (Ev.bind (sameBytes_f b (by omega)) (two_j7 m hm raw hr hl))))
  simp only [torrentlaw4_BitsetTwoWay.j6]
  rw [if_neg (by decide)]
theorem two_l3 (m : Nat) (hm : m ≤ 65536) (raw : List Int) (hr : IsB raw) (hl : raw.length ≤ 140737488351232) (O b : List Int) (hO : O.length ≤ 9223372036854775806) (hin : inside m O) (hpO : Packed (among O) m b) (hp : Packed (gbit b) m b) (hc : Ev (fun k => bitset_Check.f k (m : Int) b) 0) : ∀ (d i : Nat), i + d = O.length →
    Ev (fun k => torrentlaw4_BitsetTwoWay.l3 k (m : Int) raw O b (onesL b m) (i : Int)) true
  | 0, i, h => by
    refine Ev.step (f := fun k => (bitset_Count.f k (m : Int) b).bind fun x => if x.2 = 0 then torrentlaw4_BitsetTwoWay.j6 k (m : Int) raw b (onesL b m) (x.1 != ((onesL b m).length : Int)) else torrentlaw4_BitsetTwoWay.j6 k (m : Int) raw b (onesL b m) true) (fun k => ?_) (Ev.bind (count_is hp.isB hc) (Ev.congr (fun k => if_pos rfl) (Ev.congr (f := fun k => torrentlaw4_BitsetTwoWay.j6 k (m : Int) raw b (onesL b m) false) (fun k => by simp only [bne_self_eq_false]) (two_j6 m hm raw hr hl b hp))))
    simp only [torrentlaw4_BitsetTwoWay.l3]
    rw [if_neg (by omega)]
  | d + 1, i, h => by
    have hle := onesL_le b m
    obtain ⟨h1, h2⟩ := hin i (by omega)
    obtain ⟨q, hq⟩ : ∃ q : Nat, O.getD i 0 = q := ⟨(O.getD i 0).toNat, by omega⟩
    have hh := has_f (onesL b m) (by omega) q
    have hlen := hp.len
    have hb := hpO.bit q (by omega)
    have hO2 : among O q = true := by
      unfold among
      rw [List.any_eq_true]
      refine ⟨O.getD i 0, ?_, by simpa using hq⟩
      rw [List.getD_eq_getElem?_getD, List.getElem?_eq_getElem (by omega)]
      exact List.getElem_mem _
    rw [among_ones b m q (by omega), hb, hO2, decide_eq_true (by omega)] at hh
    refine Ev.step (f := fun k => (torrentlaw4_has.f k (onesL b m) (q : Int)).bind fun t => if t = true then torrentlaw4_BitsetTwoWay.l3 k (m : Int) raw O b (onesL b m) ((i + 1 : Nat) : Int) else some false) (fun k => ?_) (Ev.bind hh (Ev.congr (fun k => if_pos rfl) (two_l3 m hm raw hr hl O b hO hin hpO hp hc d (i + 1) (by omega))))
    simp only [torrentlaw4_BitsetTwoWay.l3]
    rw [if_pos (by omega), if_pos (by omega), rd_nat, hq, inc i (by omega)]
theorem two_l2 (m : Nat) (hm : m ≤ 65536) (raw : List Int) (hr : IsB raw) (hl : raw.length ≤ 140737488351232) (O b : List Int) (hO : O.length ≤ 9223372036854775806) (hin : inside m O) (hpO : Packed (among O) m b) (hp : Packed (gbit b) m b) (hc : Ev (fun k => bitset_Check.f k (m : Int) b) 0) : ∀ (d i : Nat), i + d = (onesL b m).length →
    Ev (fun k => torrentlaw4_BitsetTwoWay.l2 k (m : Int) raw O b (onesL b m) (i : Int)) true
  | 0, i, h => by
    refine Ev.step (fun k => ?_) (two_l3 m hm raw hr hl O b hO hin hpO hp hc O.length 0 (by omega))
    simp only [torrentlaw4_BitsetTwoWay.l2]
    rw [if_neg (by omega)]
    rfl
  | d + 1, i, h => by
    have hle := onesL_le b m
    obtain ⟨q, hq, hqm, hg⟩ := ones_at b m i (by omega)
    have hh := has_f O (by omega) q
    have hlen := hp.len
    have hb := hpO.bit q (by omega)
    rw [hg, decide_eq_true hqm, Bool.true_and] at hb
    rw [← hb] at hh
    refine Ev.step (f := fun k => (torrentlaw4_has.f k O (q : Int)).bind fun t => if t = true then torrentlaw4_BitsetTwoWay.l2 k (m : Int) raw O b (onesL b m) ((i + 1 : Nat) : Int) else some false) (fun k => ?_) (Ev.bind hh (Ev.congr (fun k => if_pos rfl) (two_l2 m hm raw hr hl O b hO hin hpO hp hc d (i + 1) (by omega))))
    simp only [torrentlaw4_BitsetTwoWay.l2]
    rw [if_pos (by omega), if_pos (by omega), rd_nat, hq, inc i (by omega)]
    by_cases h0 : i = 0
    · rw [if_neg (show ¬ (i : Int) > 0 by omega)]
    · have e1 : wrap64 ((i : Int) - 1) = ((i - 1 : Nat) : Int) := by rw [w64 _ (by omega) (by omega)]; omega
      have hrise := ones_rise b m (i - 1) (by omega)
      rw [show i - 1 + 1 = i by omega, hq] at hrise
      rw [if_pos (show (i : Int) > 0 by omega), e1, if_pos (by omega), if_pos (by omega), rd_nat, if_neg (by omega)]
theorem two_l1 (m : Nat) (hm : m ≤ 65536) (raw : List Int) (hr : IsB raw) (hl : raw.length ≤ 140737488351232) (O b : List Int) (hO : O.length ≤ 9223372036854775806) (hin : inside m O) (hpO : Packed (among O) m b) (hp : Packed (gbit b) m b) (hc : Ev (fun k => bitset_Check.f k (m : Int) b) 0) : ∀ (d i : Nat), i + d = m →
    Ev (fun k => torrentlaw4_BitsetTwoWay.l1 k (m : Int) raw O b (i : Int)) true
  | 0, i, h => by
    refine Ev.step (f := fun k => (bitset_Ones.f k (m : Int) b).bind fun x => if x.2 = 0 then torrentlaw4_BitsetTwoWay.l2 k (m : Int) raw O b x.1 0 else some false) (fun k => ?_) (Ev.bind (ones_is hp.isB hc) (Ev.congr (fun k => if_pos rfl) (two_l2 m hm raw hr hl O b hO hin hpO hp hc (onesL b m).length 0 (by omega))))
    simp only [torrentlaw4_BitsetTwoWay.l1]
    rw [if_neg (by omega)]
  | d + 1, i, h => by
    have hh := has_f O (by omega) i
    have hlen := hp.len
    have hb := hpO.bit i (by omega)
    rw [decide_eq_true (by omega), Bool.true_and] at hb
    rw [← hb] at hh
    refine Ev.step (f := fun k => (bitset_Get.f k (m : Int) b (i : Int)).bind fun x => if x.2 = 0 then ((torrentlaw4_has.f k O (i : Int)).bind fun t => if (x.1 != t) = true then some false else torrentlaw4_BitsetTwoWay.l1 k (m : Int) raw O b ((i + 1 : Nat) : Int)) else some false) (fun k => ?_) (Ev.bind (get_is hp.isB hc i (by omega)) (Ev.congr (fun k => if_pos rfl) (Ev.bind hh (Ev.congr (fun k => if_neg (by simp)) (two_l1 m hm raw hr hl O b hO hin hpO hp hc d (i + 1) (by omega))))))
    simp only [torrentlaw4_BitsetTwoWay.l1]
    rw [if_pos (by omega), inc i (by omega)]
theorem two_l0 (m : Nat) (hm : m ≤ 65536) (raw : List Int) (hr : IsB raw) (hlr : raw.length ≤ 140737488351232) (l : List Int) (hl : l.length < 17592186044416) : ∀ (d i : Nat), i + d = l.length → Ev (fun k => torrentlaw4_BitsetTwoWay.l0 k (m : Int) l raw ((l.take i).filter (okPlace (m : Int))) (i : Int)) true
  | 0, i, h => by
    rw [List.take_of_length_le (by omega)]
    have hfl := List.length_filter_le (okPlace (m : Int)) l
    rcases of_ok m hm (l.filter (okPlace (m : Int))) (by omega) with ⟨hi, b, hb, hpO⟩ | ⟨hi, _⟩
    · have hc := check_packed' hm hpO
      have hlen := hpO.len
      have hp := packed_of_check hpO.isB (by omega) hc
      have hl1 := two_l1 m hm raw hr hlr (l.filter (okPlace (m : Int))) b (by omega) hi hpO hp hc m 0 (by omega)
      have hj2 : Ev (fun k => torrentlaw4_BitsetTwoWay.j2 k (m : Int) raw (l.filter (okPlace (m : Int))) b ((0 : Int) != 0)) true := Ev.step (fun k => by simp only [torrentlaw4_BitsetTwoWay.j2]; rfl) hl1
      refine Ev.step (f := fun k => (bitset_Of.f k (m : Int) (l.filter (okPlace (m : Int)))).bind fun x => if x.2 = 0 then (bitset_Check.f k (m : Int) x.1).bind fun t => torrentlaw4_BitsetTwoWay.j2 k (m : Int) raw (l.filter (okPlace (m : Int))) x.1 (t != 0) else torrentlaw4_BitsetTwoWay.j2 k (m : Int) raw (l.filter (okPlace (m : Int))) x.1 true) (fun k => ?_) (Ev.bind hb (Ev.congr (fun k => if_pos rfl) (Ev.bind hc hj2)))
      simp only [torrentlaw4_BitsetTwoWay.l0]
      rw [if_neg (by omega)]
    · exact absurd (filter_inside m l) hi
  | d + 1, i, h => by
    have hfl := List.length_filter_le (okPlace (m : Int)) (l.take i)
    rw [List.length_take] at hfl
    refine Ev.step (fun k => ?_) (two_l0 m hm raw hr hlr l hl d (i + 1) (by omega))
    simp only [torrentlaw4_BitsetTwoWay.l0]
    rw [if_pos (by omega), if_pos (by omega), rd_nat, inc i (by omega), List.take_succ_eq_append_getElem (by omega), List.filter_append]
    have eg : l.getD i 0 = l[i] := by rw [List.getD_eq_getElem?_getD, List.getElem?_eq_getElem (by omega)]; rfl
    rw [eg]
    by_cases h1 : l[i] ≥ 0
    · rw [if_pos h1]
      by_cases h2 : l[i] < (m : Int)
      · rw [if_pos h2, if_pos (by omega), List.filter_cons_of_pos (by simp [okPlace]; omega), List.filter_nil]
      · rw [if_neg h2, List.filter_cons_of_neg (by simp [okPlace]; omega), List.filter_nil, List.append_nil]
    · rw [if_neg h1, List.filter_cons_of_neg (by simp [okPlace]; omega), List.filter_nil, List.append_nil]
end Go.Proofs.Ytoohpdamndgdlaa.B

/- BitsetTwoWay: a bitfield is a set of places. No condition. -/
set_option linter.unusedVariables false
namespace Go.Proofs.Ytoohpdamndgdlaa.Pure
open Go.RowKit Go.Proofs.Ytoohpdamndgdlaa.P Go.Proofs.YtoohpdamndgdlaaW.PrintWords Go.Proofs.YtoohpdamndgdlaaW.PrintLast
open Go.Proofs.Ytoohpdamndgdlaa.B

theorem BitsetTwoWay : torrentlaw4_BitsetTwoWay.Pure := by
  intro n l raw _ _ hl _ _ hlr hwr
  have hr := IsB.of_wf hwr
  refine Ev.rounds (g := fun k => torrentlaw4_BitsetTwoWay.f k n l raw) ?_
  by_cases hn : n < 0 ∨ 65536 < n
  · refine Ev.congr (f := fun k => torrentlaw4_BitsetTwoWay.j0 k n l raw true) (fun k => ?_) (Ev.step (f := fun k => (bitset_Check.f k n raw).bind fun x => some (x != 0)) (fun k => by simp only [torrentlaw4_BitsetTwoWay.j0]; rfl) (Ev.bind (check_out n raw hn) (Ev.congr (f := fun _ => some true) (fun k => rfl) (Ev.now _))))
    unfold torrentlaw4_BitsetTwoWay.f
    by_cases h0 : n < 0
    · rw [if_pos h0]
    · rw [if_neg h0, decide_eq_true (by omega)]
  · obtain ⟨m, rfl⟩ : ∃ m : Nat, n = m := ⟨n.toNat, by omega⟩
    refine Ev.congr (f := fun k => torrentlaw4_BitsetTwoWay.j0 k (m : Int) l raw false) (fun k => ?_) (Ev.step (fun k => by simp only [torrentlaw4_BitsetTwoWay.j0]; rfl) (two_l0 m (by omega) raw hr (by omega) l (by omega) l.length 0 (by omega)))
    unfold torrentlaw4_BitsetTwoWay.f
    rw [if_neg (by omega), decide_eq_false (by omega)]
end Go.Proofs.Ytoohpdamndgdlaa.Pure
