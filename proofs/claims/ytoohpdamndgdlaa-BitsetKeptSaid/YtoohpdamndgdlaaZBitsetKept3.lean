-- Merged by a program of this session out of the texts Px7, Px16, QKLite, Px60 of this claim's own.
import Derived.Test.YtoohpdamndgdlaaZBitsetKept2
import Derived.WalkSpells
import Derived.OwnWalk

-- Made by a program of this session (the print of the kit over a neighbour), for this claim.
namespace Go.Proofs.Ytoohpdamndgdlaa.P
open Go.RowKit Go.Proofs.YtoohpdamndgdlaaW.PrintWords Go.Proofs.YtoohpdamndgdlaaW.PrintLast Go.Proofs.YtoohpdamndgdlaaW.PrintMore
attribute [local go_sem] max2_int min2_int max_two min_two max_three min_three max_four min_four   -- for this text's walks alone
set_option linter.unusedVariables false
set_option linter.unusedSimpArgs false

/-! ### torrentlaw4_sameBytes: function 17 -/
def torrentlaw4_sameBytes.l0 : Nat → List Int → List Int → Int → Option (Bool)
  | 0, _, _, _ => none
  | k + 1, x0, x1, x5 => if x5 < (x0.length : Int) then (if 0 ≤ x5 then (if x5 < (x1.length : Int) then (if (rd x0 x5) = (rd x1 x5) then (torrentlaw4_sameBytes.l0 k x0 x1 (wrap64 (x5 + 1))) else (some false)) else (none)) else (none)) else (some true)
def torrentlaw4_sameBytes.f (k : Nat) (l0 : List Int) (l1 : List Int) : Option (Bool) := if (l0.length : Int) = (l1.length : Int) then (torrentlaw4_sameBytes.l0 k l0 l1 0) else (some false)
set_option maxHeartbeats 8000000 in
set_option maxRecDepth 100000 in
theorem torrentlaw4_sameBytes.calls (k : Nat) (A0 : Option Addr) (c0 : Nat) (l0 : List Int) (A1 : Option Addr) (c1 : Nat) (l1 : List Int) (r : Bool) (w : World) (hr0 : Kd.C (Kd.int .u8) w A0 l0.length l0) (hc0 : l0.length ≤ c0) (hr1 : Kd.C (Kd.int .u8) w A1 l1.length l1) (hc1 : l1.length ≤ c1) (h : torrentlaw4_sameBytes.f k l0 l1 = some r) :
    Calls Try.prog 17 #[.slice A0 l0.length c0, .slice A1 l1.length c1] w fun e w' => e = .returned (.bool r) ∧ Drawn0 w w' := by
  have HR0 := Aside0.mk hr0
  have HC0 := Aside0.mk hc0
  clear hr0 hc0
  have HR1 := Aside0.mk hr1
  have HC1 := Aside0.mk hc1
  clear hr1 hc1
  have H : (if (l0.length : Int) = (l1.length : Int) then (torrentlaw4_sameBytes.l0 k l0 l1 0) else (some false)) = some r := h
  clear h
  by_cases c3 : (l0.length : Int) = (l1.length : Int)
  · rw [if_pos c3] at H
    have c3b0 : ((l0.length : Int) == (l1.length : Int)) = true := beq_iff_eq.mpr c3
    have c3b1 : ((l0.length : Int) != (l1.length : Int)) = false := bne_eq_false_iff_eq.mpr c3
    have c3b2 : (l0.length == l1.length) = true := by first | simpa using c3 | (simp at c3 ⊢; omega)
    clear c3
    have H' := Aside0.mk H
    clear H
    go_enter Try.func17, Try.ntmps17
    go_wp2
    repeat (go_quiet (fail); try go_wp2)
    go_loopg [5] k (fun kq v5 w' => ∃ (x5_1 : Int), v5 = .int .i64 x5_1 ∧ Aside0 (torrentlaw4_sameBytes.l0 kq l0 l1 x5_1 = some r) ∧ Aside0 (kq ≤ k) ∧ Drawn0 w w')
    case atStart => exact ⟨(0), (by first | rfl | (simp; done) | (simp [*]; done)), H', ⟨Nat.le_refl _⟩, by repeat (first | exact Drawn0.refl _ | apply Drawn0.step)⟩
    case round =>
      clear H'
      try clear c1
      try clear p2
      try clear c3
      try clear c3b0
      try clear c3b1
      try clear c3b2
      obtain ⟨x5_1, rfl, HA, HK1, ⟨m1, rfl⟩⟩ := hrel
      cases gk with
      | zero => exact absurd HA.out (by simp [torrentlaw4_sameBytes.l0])
      | succ k1 =>
        have H := HA.out
        clear HA
        simp only [torrentlaw4_sameBytes.l0] at H
        by_cases c4 : x5_1 < (l0.length : Int)
        · rw [if_pos c4] at H
          have c4b0 : decide (x5_1 < (l0.length : Int)) = true := decide_eq_true c4
          clear c4
          by_cases c5 : 0 ≤ x5_1
          · rw [if_pos c5] at H
            have c5b0 : decide (0 ≤ x5_1) = true := decide_eq_true c5
            clear c5
            by_cases c6 : x5_1 < (l1.length : Int)
            · rw [if_pos c6] at H
              have c6b0 : decide (x5_1 < (l1.length : Int)) = true := decide_eq_true c6
              clear c6
              by_cases c7 : (rd l0 x5_1) = (rd l1 x5_1)
              · rw [if_pos c7] at H
                have c7b0 : ((rd l0 x5_1) == (rd l1 x5_1)) = true := beq_iff_eq.mpr c7
                have c7b1 : ((rd l0 x5_1) != (rd l1 x5_1)) = false := bne_eq_false_iff_eq.mpr c7
                clear c7
                have H' := Aside0.mk H
                clear H
                have p122 : 0 ≤ (x5_1 : Int) := of_decide_eq_true (by first | (with_reducible assumption) | assumption)
                have q122 : x5_1 < (l0.length : Int) := of_decide_eq_true (by first | (with_reducible assumption) | assumption)
                obtain ⟨ad122, e122, hx122_0⟩ := Kd.at_int HR0.out x5_1 p122 q122
                cases e122
                replace p122 := eq_true p122
                replace q122 := eq_true q122
                have p123 : 0 ≤ (x5_1 : Int) := of_decide_eq_true (by first | (with_reducible assumption) | assumption)
                have q123 : x5_1 < (l1.length : Int) := of_decide_eq_true (by first | (with_reducible assumption) | assumption)
                obtain ⟨ad123, e123, hx123_0⟩ := Kd.at_int HR1.out x5_1 p123 q123
                cases e123
                replace p123 := eq_true p123
                replace q123 := eq_true q123
                go_wp2
                repeat (go_quiet (fail); try go_wp2)
                go_roundg k1
                case measure => have := HK1.out; omega
                case rel => exact ⟨(wrap64 (x5_1 + 1)), (by first | rfl | (simp; done) | (simp [*]; done)), H', ⟨by have := HK1.out; omega⟩, by repeat (first | exact Drawn0.refl _ | apply Drawn0.step)⟩
              · rw [if_neg c7] at H
                have c7b0 : ((rd l0 x5_1) == (rd l1 x5_1)) = false := beq_eq_false_iff_ne.mpr c7
                have c7b1 : ((rd l0 x5_1) != (rd l1 x5_1)) = true := bne_iff_ne.mpr c7
                obtain rfl := Option.some.inj H
                have p122 : 0 ≤ (x5_1 : Int) := of_decide_eq_true (by first | (with_reducible assumption) | assumption)
                have q122 : x5_1 < (l0.length : Int) := of_decide_eq_true (by first | (with_reducible assumption) | assumption)
                obtain ⟨ad122, e122, hx122_0⟩ := Kd.at_int HR0.out x5_1 p122 q122
                cases e122
                replace p122 := eq_true p122
                replace q122 := eq_true q122
                have p123 : 0 ≤ (x5_1 : Int) := of_decide_eq_true (by first | (with_reducible assumption) | assumption)
                have q123 : x5_1 < (l1.length : Int) := of_decide_eq_true (by first | (with_reducible assumption) | assumption)
                obtain ⟨ad123, e123, hx123_0⟩ := Kd.at_int HR1.out x5_1 p123 q123
                cases e123
                replace p123 := eq_true p123
                replace q123 := eq_true q123
                go_wp2
                repeat (go_quiet (fail); try go_wp2)
                go_ret
                exact ⟨by first | rfl | (simp; done) | (simp [*]; done), by repeat (first | exact Drawn0.refl _ | apply Drawn0.step)⟩
            · rw [if_neg c6] at H
              exact absurd H (by simp)
          · rw [if_neg c5] at H
            exact absurd H (by simp)
        · rw [if_neg c4] at H
          have c4b0 : decide (x5_1 < (l0.length : Int)) = false := decide_eq_false c4
          clear c4
          obtain rfl := Option.some.inj H
          go_wp2
          repeat (go_quiet (fail); try go_wp2)
          go_ret
          exact ⟨by first | rfl | (simp; done) | (simp [*]; done), by repeat (first | exact Drawn0.refl _ | apply Drawn0.step)⟩
  · rw [if_neg c3] at H
    have c3b0 : ((l0.length : Int) == (l1.length : Int)) = false := beq_eq_false_iff_ne.mpr c3
    have c3b1 : ((l0.length : Int) != (l1.length : Int)) = true := bne_iff_ne.mpr c3
    have c3b2 : (l0.length == l1.length) = false := by first | simpa using c3 | (simp at c3 ⊢; omega)
    obtain rfl := Option.some.inj H
    go_enter Try.func17, Try.ntmps17
    go_wp2
    repeat (go_quiet (fail); try go_wp2)
    go_ret
    exact ⟨by first | rfl | (simp; done) | (simp [*]; done), by repeat (first | exact Drawn0.refl _ | apply Drawn0.step)⟩

end Go.Proofs.Ytoohpdamndgdlaa.P


-- Made by a program of this session (the print of the kit over a neighbour), for this claim.
namespace Go.Proofs.Ytoohpdamndgdlaa.P
open Go.RowKit Go.Proofs.YtoohpdamndgdlaaW.PrintWords Go.Proofs.YtoohpdamndgdlaaW.PrintLast Go.Proofs.YtoohpdamndgdlaaW.PrintMore
attribute [local go_sem] max2_int min2_int max_two min_two max_three min_three max_four min_four   -- for this text's walks alone
set_option linter.unusedVariables false
set_option linter.unusedSimpArgs false

/-! ### torrentlaw4_copied: function 24 -/
def torrentlaw4_copied.l0 : Nat → List Int → List Int → Int → Option (List Int)
  | 0, _, _, _ => none
  | k + 1, x0, x3, x4 => if x4 < (x0.length : Int) then (if 0 ≤ x4 then (if x3.length < 140737488355328 then (torrentlaw4_copied.l0 k x0 (x3 ++ [rd x0 x4]) (wrap64 (x4 + 1))) else (none)) else (none)) else (some x3)
def torrentlaw4_copied.f (k : Nat) (l0 : List Int) : Option (List Int) := torrentlaw4_copied.l0 k l0 ([] : List Int) 0
theorem torrentlaw4_copied.bound : ∀ (k : Nat) (l xs : List Int) (i : Int) (r : List Int), torrentlaw4_copied.l0 k l xs i = some r → (xs.length : Int) = i → l.length ≤ 140737488355328 ∨ l.length ≤ xs.length
  | 0, _, _, _, _, h, _ => by simp [torrentlaw4_copied.l0] at h
  | k + 1, l, xs, i, r, h, hi => by
    simp only [torrentlaw4_copied.l0] at h
    by_cases c1 : i < (l.length : Int)
    · rw [if_pos c1] at h
      by_cases c2 : 0 ≤ i
      · rw [if_pos c2] at h
        by_cases c3 : xs.length < 140737488355328
        · rw [if_pos c3] at h
          have e : wrap64 (i + 1) = i + 1 := by unfold wrap64; omega
          rw [e] at h
          rcases torrentlaw4_copied.bound k l (xs ++ [rd l i]) (i + 1) r h (by simp; omega) with h1 | h1
          · exact .inl h1
          · left; simp at h1; omega
        · rw [if_neg c3] at h
          exact absurd h (by simp)
      · omega
    · right; omega
theorem torrentlaw4_copied.nothing (k : Nat) (r : List Int) (h : torrentlaw4_copied.l0 k [] [] 0 = some r) : r = [] := by
  cases k with
  | zero => simp [torrentlaw4_copied.l0] at h
  | succ k => simpa [torrentlaw4_copied.l0] using h.symm
set_option maxHeartbeats 4000000 in
set_option maxRecDepth 100000 in
theorem torrentlaw4_copied.calls (k : Nat) (A0 : Option Addr) (c0 : Nat) (l0 : List Int) (r : List Int) (w : World) (hr0 : Kd.C (Kd.int .u8) w A0 l0.length l0) (hc0 : l0.length ≤ c0) (h : torrentlaw4_copied.f k l0 = some r) :
    Calls Try.prog 24 #[.slice A0 l0.length c0] w fun e w' => ∃ v0_ : Value, e = .returned (v0_) ∧ Kd.R (Kd.int .u8) 5 w' w.heap.size (fun _ => True) v0_ r ∧ Below w.heap.size w w' := by
  have HR0 := Aside0.mk hr0
  have HC0 := Aside0.mk hc0
  clear hr0 hc0
  have HB := Aside0.mk (Below.refl w.heap.size w)
  have H : (torrentlaw4_copied.l0 k l0 ([] : List Int) 0) = some r := h
  clear h
  have H' := Aside0.mk H
  clear H
  have hbound : l0.length ≤ 140737488355328 := by
    rcases torrentlaw4_copied.bound k l0 [] 0 r H'.out rfl with h1 | h1
    · exact h1
    · have h2 : l0.length ≤ 0 := h1
      omega
  have HL := Aside0.mk hbound
  clear hbound
  have hnil := fun w1 => Lib.run_eql_slice_nil (P := Try.prog) w1 22 5 A0 l0.length c0 0 0 Try.underlying22
  cases A0 with
  | none =>
    have hl : l0 = [] := by
      rcases Nat.eq_zero_or_pos l0.length with hz | hz
      · exact List.eq_nil_of_length_eq_zero hz
      · obtain ⟨ad, e, _⟩ := HR0.out.2.2 hz
        cases e
    subst hl
    have hr : r = [] := torrentlaw4_copied.nothing k r H'.out
    subst hr
    clear HL HR0 HC0 H' hnil
    have hnil := fun w1 => Lib.run_eql_slice_nil (P := Try.prog) w1 22 5 none 0 c0 0 0 Try.underlying22
    show Calls Try.prog 24 #[.slice none 0 c0] w _
    go_enter Try.func24, Try.ntmps24
    go_wp2
    go_ret
    exact ⟨_, rfl, Kd.R_nil _ _ _ _ _, HB.out⟩
  | some a0 =>
  obtain ⟨i0, hi, hz0, hz1, hz2⟩ := info_parts info5
  have HI := Aside0.mk hi
  have HZ0 := Aside0.mk hz0
  have HZ1 := Aside0.mk hz1
  have HZ2 := Aside0.mk hz2
  clear hi hz0 hz1 hz2
  go_enter Try.func24, Try.ntmps24
  go_wp2_with (at_make; refine wpList_make_own _ rfl _ _ 22 rfl w.heap.size 5 i0 (.int .u8 0) 1 Try.underlying22 HI.out HZ0.out HZ1.out .i64 .i64 _ l0.length rfl rfl rfl (by rw [HZ2.out]; have := HL.out; omega) (by have := HL.out; simp only [maxLen]; omega) (Nat.le_refl _) ?_; intro w1 hown hg; have n0_ := Aside0.mk (show Kd.R (Kd.int .u8) 5 w1 w.heap.size (fun _ => True) (.slice (some ⟨w.heap.size, 0, none⟩) 0 l0.length) [] from ⟨fun _ _ => trivial, [], hown, Reps.none _ _⟩); have n1_ := Aside0.mk (pw_below_grown HB.out none (Nat.le_refl _) hg (fun _ hk => by cases hk)); clear HB; have HO := n0_; have HB := n1_; clear n0_ n1_ hown hg)
  clear hnil HI HZ0 HZ1 HZ2 HL
  go_loopg [3, 4] k (fun kq v3 v4 w' => ∃ (x3_1 : List Int) (x4_1 : Int), v4 = .int .i64 x4_1 ∧ Aside0 (torrentlaw4_copied.l0 kq l0 x3_1 x4_1 = some r) ∧ Aside0 (kq ≤ k) ∧ Aside0 (Kd.R (Kd.int .u8) 5 w' w.heap.size (fun _ => True) v3 x3_1) ∧ Aside0 (Below w.heap.size w w'))
  case atStart => exact ⟨(([] : List Int)), (0), (by first | rfl | (simp; done) | (simp [*]; done)), H', ⟨Nat.le_refl _⟩, ⟨HO.out⟩, ⟨HB.out⟩⟩
  case round =>
    clear H'
    obtain ⟨x3_1, x4_1, rfl, HA, HK1, HO_3, HB⟩ := hrel
    cases gk with
    | zero => exact absurd HA.out (by simp [torrentlaw4_copied.l0])
    | succ k1 =>
      have H := HA.out
      clear HA
      simp only [torrentlaw4_copied.l0] at H
      by_cases c2 : x4_1 < (l0.length : Int)
      · rw [if_pos c2] at H
        have c2b0 : decide (x4_1 < (l0.length : Int)) = true := decide_eq_true c2
        clear c2
        by_cases c3 : 0 ≤ x4_1
        · rw [if_pos c3] at H
          have c3b0 : decide (0 ≤ x4_1) = true := decide_eq_true c3
          clear c3
          by_cases c4 : x3_1.length < 140737488355328
          · rw [if_pos c4] at H
            have LMc4 := Aside0.mk c4
            clear c4
            obtain ⟨y187, hy187⟩ : ∃ y_ : List Int, y_ = (x3_1 ++ [rd l0 x4_1]) := ⟨_, rfl⟩
            replace H : (torrentlaw4_copied.l0 k1 l0 y187 (wrap64 (x4_1 + 1))) = some r := by first | (rw [hy187]; with_reducible exact H) | (have H2_ := (Option.bind_some _ _).symm.trans H; rw [hy187]; with_reducible exact H2_) | (have H2_ := (Option.bind_some _ _).symm.trans H; with_reducible exact H2_) | with_reducible exact H | (rw [hy187]; exact H) | exact H
            have Ny187 := Aside0.mk hy187
            clear hy187
            have H' := Aside0.mk H
            clear H
            have p186 : 0 ≤ (x4_1 : Int) := of_decide_eq_true (by first | (with_reducible assumption) | assumption)
            have q186 : x4_1 < (l0.length : Int) := of_decide_eq_true (by first | (with_reducible assumption) | assumption)
            obtain ⟨ad186, e186, hx186_0⟩ := Kd.at_int HR0.out x4_1 p186 q186
            cases e186
            replace hx186_0 := (HB.out.cell (World.block_lt_of_cell? w _ hx186_0)).trans hx186_0
            replace p186 := eq_true p186
            replace q186 := eq_true q186
            go_wp2_with (first | ((with_reducible refine gate_builtin (b := .append) (xs := #[.tmp 16, .tmp 21]) rfl ?_); at_builtin; refine Kd.R_append (Kd.int .u8) (w0 := w) w.heap.size rfl (.tmp 16) (.tmp 21) 22 5 (.int .u8 0) 1 rfl Try.underlying22 info5 rfl (by decide) (by omega) u3 x3_1 (rd l0 x4_1) [.int .u8 (rd l0 x4_1)] (fun _ => True) (fun _ => False) rfl rfl ?aP (fun _ hk => hk.elim) ?aF ?aO ?aB ?aS ?aL ?_; (case aP => exact rfl); (case aB => exact HB.out); (case aF => exact (fun _ _ => trivial)); (case aO => exact HO_3.out); (case aS => exact (below_size HB.out)); (case aL => have := LMc4.out; omega); intro v188 w5 ho hb hg hat; rw [← Ny187.out] at ho; have n0_ := Aside0.mk (hb); have n1_ := Aside0.mk (ho); clear HB; clear HO_3; have HB := n0_; have HO189 := n1_; clear n0_ n1_; clear ho hb hg hat))
            go_roundg k1
            case measure => have := HK1.out; omega
            case rel => exact ⟨(y187), (wrap64 (x4_1 + 1)), (by first | rfl | (simp; done) | (simp [*]; done)), H', ⟨by have := HK1.out; omega⟩, ⟨by (with_reducible repeat (first | apply Kd.R_alloc | apply Kd.R_drewN | apply Kd.R_drew)); exact HO189.out⟩, ⟨by repeat (first | (with_reducible first | exact HB.out | apply below_alloc | apply pw_below_drewN | apply below_drew1) | exact HB.out)⟩⟩
          · rw [if_neg c4] at H
            exact absurd H (by simp)
        · rw [if_neg c3] at H
          exact absurd H (by simp)
      · rw [if_neg c2] at H
        have c2b0 : decide (x4_1 < (l0.length : Int)) = false := decide_eq_false c2
        clear c2
        obtain rfl := Option.some.inj H
        go_wp2
        go_ret
        exact ⟨_, by first | rfl | (simp [errW_none, errW_some] <;> rfl) | (simp [*, errW_none, errW_some] <;> rfl), by (with_reducible repeat (first | apply Kd.R_alloc | apply Kd.R_drewN | apply Kd.R_drew)); exact HO_3.out, by repeat (first | (with_reducible first | exact HB.out | apply below_alloc | apply pw_below_drewN | apply below_drew1) | exact HB.out)⟩

end Go.Proofs.Ytoohpdamndgdlaa.P


/- What the law Kept needs of the plain law, without the reference (told out of the Q texts by a program). Conditions: bytes. -/
set_option linter.unusedVariables false
set_option linter.unusedSimpArgs false
namespace Go.Proofs.Ytoohpdamndgdlaa.B
open Go.RowKit Go.Proofs.Ytoohpdamndgdlaa.P Go.Proofs.YtoohpdamndgdlaaW.PrintWords Go.Proofs.YtoohpdamndgdlaaW.PrintLast Go.Proofs.YtoohpdamndgdlaaW.PrintMore
theorem sameBytes_l (l : List Int) (hl : l.length ≤ 9223372036854775807) : ∀ (d i : Nat), i + d = l.length → Ev (fun k => torrentlaw4_sameBytes.l0 k l l (i : Int)) true
  | 0, i, h => Ev.step (f := fun _ => some true) (fun k => by
      simp only [torrentlaw4_sameBytes.l0]
      rw [if_neg (by omega)]) (Ev.now _)
  | d + 1, i, h => Ev.step (f := fun k => torrentlaw4_sameBytes.l0 k l l ((i + 1 : Nat) : Int)) (fun k => by
      simp only [torrentlaw4_sameBytes.l0]
      rw [if_pos (by omega), if_pos (by omega), if_pos (by omega), if_pos trivial, inc i (by omega)]) (sameBytes_l l hl d (i + 1) (by omega))
theorem sameBytes_f (l : List Int) (hl : l.length ≤ 9223372036854775807) : Ev (fun k => torrentlaw4_sameBytes.f k l l) true := by
  unfold torrentlaw4_sameBytes.f
  refine Ev.congr (fun k => if_pos rfl) ?_
  exact sameBytes_l l hl l.length 0 (by omega)
theorem copied_l (l : List Int) (hl : l.length ≤ 140737488351232) : ∀ (d i : Nat), i + d = l.length → Ev (fun k => torrentlaw4_copied.l0 k l (l.take i) (i : Int)) l
  | 0, i, h => Ev.step (f := fun _ => some l) (fun k => by
      simp only [torrentlaw4_copied.l0]
      rw [if_neg (by omega), List.take_of_length_le (by omega)]) (Ev.now _)
  | d + 1, i, h => Ev.step (f := fun k => torrentlaw4_copied.l0 k l (l.take (i + 1)) ((i + 1 : Nat) : Int)) (fun k => by
      simp only [torrentlaw4_copied.l0]
      rw [if_pos (by omega), if_pos (by omega), if_pos (by rw [List.length_take]; omega), inc i (by omega), rd_nat, List.take_succ_eq_append_getElem (by omega)]
      congr 2
      rw [List.getD_eq_getElem?_getD, List.getElem?_eq_getElem (by omega)]
      rfl) (copied_l l hl d (i + 1) (by omega))
theorem copied_f (l : List Int) (hl : l.length ≤ 140737488351232) : Ev (fun k => torrentlaw4_copied.f k l) l := copied_l l hl l.length 0 (by omega)
/-- All places lie below n. -/
def inside (n : Nat) (l : List Int) : Prop := ∀ i, i < l.length → 0 ≤ l.getD i 0 ∧ l.getD i 0 < (n : Int)
theorem of_l (n : Nat) (hn : n ≤ 65536) (l : List Int) (hl : l.length ≤ 9223372036854775807) : ∀ (d i : Nat) (xs : List Int), i + d = l.length → IsB xs → xs.length = (n + 7) / 8 → (∀ j, j < 8 * xs.length → gbit xs j = among (l.take i) j) → (∀ q, q < i → 0 ≤ l.getD q 0 ∧ l.getD q 0 < (n : Int)) →
    (inside n l ∧ ∃ r, Ev (fun k => bitset_Of.l0 k (n : Int) xs l (l.length : Int) (i : Int)) (r, 0) ∧ Packed (among l) n r) ∨ (¬ inside n l ∧ Ev (fun k => bitset_Of.l0 k (n : Int) xs l (l.length : Int) (i : Int)) ([], 43))
  | 0, i, xs, hd, hx, hlen, hb, hin => by
    obtain rfl : i = l.length := by omega
    refine .inl ⟨hin, xs, Ev.step (f := fun _ => some (xs, 0)) (fun k => ?_) (Ev.now _), hlen, hx, fun j hj => ?_⟩
    · simp only [bitset_Of.l0]
      rw [if_neg (by omega)]
    · rw [hb j hj, List.take_length]
      by_cases hjn : j < n
      · simp [hjn]
      · have : among l j = false := by
          unfold among
          rw [List.any_eq_false]
          intro x hx2
          obtain ⟨q, hq, rfl⟩ := List.getElem_of_mem hx2
          have := hin q hq
          rw [List.getD_eq_getElem?_getD, List.getElem?_eq_getElem hq, Option.getD_some] at this
          simp
          omega
        simp [this]
  | d + 1, i, xs, hd, hx, hlen, hb, hin => by
    have hi : i < l.length := by omega
    have e1 : ((i : Nat) : Int) < (l.length : Int) := by omega
    by_cases h0 : l.getD i 0 < 0
    · refine .inr ⟨fun h => by have := h i hi; omega, Ev.step (f := fun _ => some ([], 43)) (fun k => ?_) (Ev.now _)⟩
      simp only [bitset_Of.l0]
      rw [if_pos e1, if_pos (by omega), if_pos e1, rd_nat, if_pos h0]
    · by_cases h1 : l.getD i 0 ≥ (n : Int)
      · refine .inr ⟨fun h => by have := h i hi; omega, Ev.step (f := fun _ => some ([], 43)) (fun k => ?_) (Ev.now _)⟩
        simp only [bitset_Of.l0]
        rw [if_pos e1, if_pos (by omega), if_pos e1, rd_nat, if_neg h0, if_pos h1]
      · obtain ⟨p, hp⟩ : ∃ p : Nat, l.getD i 0 = (p : Int) := ⟨(l.getD i 0).toNat, by omega⟩
        have hpn : p < n := by omega
        have ih := of_l n hn l hl d (i + 1) (put1 xs p) (by omega) (put1_isB hx p) (by rw [put1_length]; exact hlen) (fun j hj => by
          rw [put1_length] at hj
          rw [put1_bit hx p j (by omega), hb j hj, among_take_succ l i j hi, hp]
          congr 1
          exact decide_eq_decide.mpr ⟨fun h => by omega, fun h => by omega⟩) (fun q hq => by
          by_cases hqi : q = i
          · subst hqi; omega
          · exact hin q (by omega))
        have st : ∀ k, bitset_Of.l0 (k + 1) (n : Int) xs l (l.length : Int) (i : Int) = bitset_Of.l0 k (n : Int) (put1 xs p) l (l.length : Int) ((i + 1 : Nat) : Int) := fun k => by
          obtain ⟨g1, g2, g3⟩ := tests_in xs p (by omega) (by omega)
          simp only [bitset_Of.l0]
          rw [if_pos e1, if_pos (by omega), if_pos e1, rd_nat, if_neg h0, if_neg h1, hp, if_pos g1, if_pos g2, if_pos g3, set_mask xs p (by omega), inc i (by omega)]
        rcases ih with ⟨h2, r, hr, hp2⟩ | ⟨h2, hr⟩
        · exact .inl ⟨h2, r, Ev.step st hr, hp2⟩
        · exact .inr ⟨h2, Ev.step st hr⟩
theorem of_ok (n : Nat) (hn : n ≤ 65536) (l : List Int) (hl : l.length ≤ 9223372036854775807) :
    (inside n l ∧ ∃ r, Ev (fun k => bitset_Of.f k (n : Int) l) (r, 0) ∧ Packed (among l) n r) ∨ (¬ inside n l ∧ Ev (fun k => bitset_Of.f k (n : Int) l) ([], 43)) := by
  have e : ∀ k, bitset_Of.f k (n : Int) l = bitset_Of.l0 k (n : Int) (List.replicate ((n + 7) / 8) 0) l (l.length : Int) ((0 : Nat) : Int) := fun k => by
    unfold bitset_Of.f
    rw [make_ok n hn]
    simp only [Option.bind_some]
    rw [if_pos trivial]
    rfl
  rcases of_l n hn l hl l.length 0 (List.replicate ((n + 7) / 8) 0) (by omega) (IsB.replicate _) (by simp) (fun j hj => by rw [gbit_replicate]; rfl) (fun q hq => by omega) with ⟨h, r, hr, hp⟩ | ⟨h, hr⟩
  · exact .inl ⟨h, r, Ev.congr e hr, hp⟩
  · exact .inr ⟨h, Ev.congr e hr⟩
theorem sameI_l (l : List Int) (hl : l.length ≤ 9223372036854775807) : ∀ (d i : Nat), i + d = l.length → Ev (fun k => torrentlaw4_sameInts.l0 k l l (i : Int)) true
  | 0, i, h => Ev.step (f := fun _ => some true) (fun k => by
      simp only [torrentlaw4_sameInts.l0]
      rw [if_neg (by omega)]) (Ev.now _)
  | d + 1, i, h => Ev.step (f := fun k => torrentlaw4_sameInts.l0 k l l ((i + 1 : Nat) : Int)) (fun k => by
      simp only [torrentlaw4_sameInts.l0]
      rw [if_pos (by omega), if_pos (by omega), if_pos (by omega), if_pos trivial, inc i (by omega)]) (sameI_l l hl d (i + 1) (by omega))
theorem sameI_f (l : List Int) (hl : l.length ≤ 9223372036854775807) : Ev (fun k => torrentlaw4_sameInts.f k l l) true := by
  unfold torrentlaw4_sameInts.f
  refine Ev.congr (fun k => if_pos rfl) ?_
  exact sameI_l l hl l.length 0 (by omega)
theorem ones_l (m : Nat) (hm : m ≤ 65536) (l : List Int) (hx : IsB l) (hl : l.length = (m + 7) / 8) : ∀ (d i : Nat), i + d = m → Ev (fun k => bitset_Ones.l0 k (m : Int) l (onesL l i) (i : Int)) (onesL l m, 0)
  | 0, i, h => Ev.step (f := fun _ => some (onesL l m, 0)) (fun k => by
      simp only [bitset_Ones.l0]
      rw [if_neg (by omega), show i = m by omega]) (Ev.now _)
  | d + 1, i, h => by
    obtain ⟨g1, g2, g3⟩ := tests_in l i (by omega) (by omega)
    have hle := onesL_le l i
    refine Ev.step (f := fun k => bitset_Ones.l0 k (m : Int) l (onesL l (i + 1)) ((i + 1 : Nat) : Int)) (fun k => ?_) (ones_l m hm l hx hl d (i + 1) (by omega))
    simp only [bitset_Ones.l0]
    rw [if_pos (by omega), if_pos g1, if_pos g2, if_pos g3, inc i (by omega), onesL_succ]
    simp only [mask_zero l hx i (by omega)]
    cases hb : gbit l i with
    | false => rw [if_pos rfl]; rfl
    | true => rw [if_neg (by decide), if_pos (by omega)]; rfl
theorem ones_is {m : Nat} {l : List Int} (hx : IsB l) (hc : Ev (fun k => bitset_Check.f k (m : Int) l) 0) : Ev (fun k => bitset_Ones.f k (m : Int) l) (onesL l m, 0) := by
  obtain ⟨m', e, hm, hlen⟩ := check_ok hc
  obtain rfl : m = m' := by omega
  exact Ev.bind hc (Ev.congr (fun k => if_pos rfl) (ones_l m hm l hx hlen m 0 (by omega)))
/-- How many of the next d bits are one, up to the first that is none. -/
def lenR (g : Nat → Bool) : Nat → Nat → Nat
  | 0, _ => 0
  | d + 1, a => if g a then lenR g d (a + 1) + 1 else 0
theorem lenR_is (g : Nat → Bool) : ∀ (d a b : Nat), a ≤ b → b ≤ a + d → (∀ q, a ≤ q → q < b → g q = true) → (b < a + d → g b = false) → lenR g d a = b - a
  | 0, a, b, h1, h2, _, _ => by
    simp only [lenR]
    omega
  | d + 1, a, b, h1, h2, h3, h4 => by
    simp only [lenR]
    by_cases hab : a = b
    · subst hab
      rw [h4 (by omega)]
      simp
    · rw [h3 a (Nat.le_refl _) (by omega), if_pos rfl, lenR_is g d (a + 1) b (by omega) (by omega) (fun q hq hb => h3 q (by omega) hb) (fun hb => h4 (by omega))]
      omega
/-- The runs that begin ahead of place i, each whole. -/
def rr (g : Nat → Bool) (m : Nat) : Nat → List S59
  | 0 => []
  | i + 1 => if g i = true ∧ (i = 0 ∨ g (i - 1) = false) then rr g m i ++ [⟨(i : Int), (lenR g (m - i) i : Nat)⟩] else rr g m i
theorem rr_length (g : Nat → Bool) (m : Nat) : ∀ i, (rr g m i).length ≤ i
  | 0 => by simp [rr]
  | i + 1 => by
    have := rr_length g m i
    simp only [rr]
    split
    · rw [List.length_append]; simp; omega
    · omega
theorem rd59_last (S : List S59) (x : S59) : rd_T59 (S ++ [x]) ((S.length : Nat) : Int) = x := by
  unfold rd_T59
  rw [Int.toNat_natCast, List.getD_eq_getElem?_getD, List.getElem?_append_right (Nat.le_refl _)]
  simp
theorem set_last {α : Type} (S : List α) (x y : α) : (S ++ [x]).set S.length y = S ++ [y] := by
  rw [List.set_append_right _ _ (Nat.le_refl _)]
  simp
mutual
/-- Behind a place that is none: every run told is whole and none ends here. -/
theorem runs_a (m : Nat) (hm : m ≤ 65536) (l : List Int) (hx : IsB l) (hl : l.length = (m + 7) / 8) : ∀ (d i : Nat), i + d = m → (i = 0 ∨ gbit l (i - 1) = false) → (∀ S x, rr (gbit l) m i = S ++ [x] → ∃ p q : Nat, x = ⟨(p : Int), (q : Int)⟩ ∧ p + q < i) →
    Ev (fun k => bitset_Runs.l0 k (m : Int) l (rr (gbit l) m i) (i : Int)) (rr (gbit l) m m, 0)
  | 0, i, h, _, _ => by
    refine Ev.step (f := fun _ => some (rr (gbit l) m m, 0)) (fun k => ?_) (Ev.now _)
    simp only [bitset_Runs.l0]
    rw [if_neg (by omega), show i = m by omega]
  | d + 1, i, h, hp, hlast => by
    obtain ⟨g1, g2, g3⟩ := tests_in l i (by omega) (by omega)
    have hS := rr_length (gbit l) m i
    have e0 : ∀ k (T : List S59), bitset_Runs.l0 (k + 1) (m : Int) l T (i : Int) = _ := fun k T => by
      simp only [bitset_Runs.l0]
      rw [if_pos (by omega), if_pos g1, if_pos g2, if_pos g3, inc i (by omega)]
    have on : gbit l i = true → ¬ (Go.bits .and .u8 (rd l (wrap64 (Int.tdiv (i : Int) 8))) (shr .u8 128 (Int.tmod (i : Int) 8))) = 0 := fun hb hz => by
      rw [(get_mask l hx i (by omega)).1 hz] at hb
      cases hb
    have off := (get_mask l hx i (by omega)).2
    cases hb : gbit l i with
    | false =>
      have er : rr (gbit l) m (i + 1) = rr (gbit l) m i := by simp [rr, hb]
      have ih := runs_a m hm l hx hl d (i + 1) (by omega) (Or.inr (by simpa using hb)) (fun S x e => by
        rw [er] at e
        obtain ⟨p, q, h1, h2⟩ := hlast S x e
        exact ⟨p, q, h1, by omega⟩)
      rw [er] at ih
      exact Ev.step (fun k => by rw [e0, if_pos (off hb)]) ih
    | true =>
      have er : rr (gbit l) m (i + 1) = rr (gbit l) m i ++ [⟨(i : Int), (lenR (gbit l) (m - i) i : Nat)⟩] := by simp only [rr]; rw [if_pos ⟨hb, hp⟩]
      have ih := runs_b m hm l hx hl d (i + 1) (by omega) (rr (gbit l) m i) i (by omega) er (fun q h1 h2 => by rw [show q = i by omega]; exact hb)
      rw [show ((i + 1 - i : Nat) : Int) = 1 by omega] at ih
      refine Ev.step (fun k => ?_) ih
      rw [e0, if_neg (on hb)]
      rcases List.eq_nil_or_concat (rr (gbit l) m i) with hn | ⟨S, x, hn⟩
      · rw [hn, if_neg (by show ¬ wrap64 (((0 : Nat) : Int) - 1) ≥ 0; rw [w64 _ (by omega) (by omega)]; omega), if_pos (by simp)]
      · rw [List.concat_eq_append] at hn
        obtain ⟨p, q, h1, h2⟩ := hlast S x hn
        have hlen : (rr (gbit l) m i).length = S.length + 1 := by rw [hn]; simp
        have e1 : wrap64 (((rr (gbit l) m i).length : Int) - 1) = (S.length : Int) := by rw [w64 _ (by omega) (by omega)]; omega
        rw [e1, if_pos (by omega), if_pos (by omega), if_pos (by omega), hn, rd59_last, h1, if_neg (by show ¬ wrap64 ((p : Int) + q) = i; rw [w64 _ (by omega) (by omega)]; omega), if_pos (by simp; omega)]
/-- Behind a place that is one: the last run ends here. -/
theorem runs_b (m : Nat) (hm : m ≤ 65536) (l : List Int) (hx : IsB l) (hl : l.length = (m + 7) / 8) : ∀ (d i : Nat), i + d = m → ∀ (S : List S59) (a : Nat), a < i → rr (gbit l) m i = S ++ [⟨(a : Int), (lenR (gbit l) (m - a) a : Nat)⟩] → (∀ q, a ≤ q → q < i → gbit l q = true) →
    Ev (fun k => bitset_Runs.l0 k (m : Int) l (S ++ [⟨(a : Int), ((i - a : Nat) : Int)⟩]) (i : Int)) (rr (gbit l) m m, 0)
  | 0, i, h, S, a, ha, hr, hg => by
    refine Ev.step (f := fun _ => some (rr (gbit l) m m, 0)) (fun k => ?_) (Ev.now _)
    simp only [bitset_Runs.l0]
    obtain rfl : i = m := by omega
    rw [if_neg (by omega), hr, lenR_is (gbit l) (i - a) a i (by omega) (by omega) hg (fun h => by omega)]
  | d + 1, i, h, S, a, ha, hr, hg => by
    obtain ⟨g1, g2, g3⟩ := tests_in l i (by omega) (by omega)
    have hS := rr_length (gbit l) m i
    have hlen : (rr (gbit l) m i).length = S.length + 1 := by rw [hr]; simp
    have e0 : ∀ k (T : List S59), bitset_Runs.l0 (k + 1) (m : Int) l T (i : Int) = _ := fun k T => by
      simp only [bitset_Runs.l0]
      rw [if_pos (by omega), if_pos g1, if_pos g2, if_pos g3, inc i (by omega)]
    have on : gbit l i = true → ¬ (Go.bits .and .u8 (rd l (wrap64 (Int.tdiv (i : Int) 8))) (shr .u8 128 (Int.tmod (i : Int) 8))) = 0 := fun hb hz => by
      rw [(get_mask l hx i (by omega)).1 hz] at hb
      cases hb
    have off := (get_mask l hx i (by omega)).2
    cases hb : gbit l i with
    | false =>
      have er : rr (gbit l) m (i + 1) = rr (gbit l) m i := by simp [rr, hb]
      have el : lenR (gbit l) (m - a) a = i - a := lenR_is (gbit l) (m - a) a i (by omega) (by omega) hg (fun _ => hb)
      rw [el] at hr
      have ih := runs_a m hm l hx hl d (i + 1) (by omega) (Or.inr (by simpa using hb)) (fun T x e => by
        rw [er, hr] at e
        obtain ⟨_, e⟩ := List.append_inj' e rfl
        refine ⟨a, i - a, ?_, by omega⟩
        simpa using e.symm)
      rw [er, hr] at ih
      exact Ev.step (fun k => by rw [e0, if_pos (off hb)]) ih
    | true =>
      have er : rr (gbit l) m (i + 1) = rr (gbit l) m i := by
        simp only [rr]
        rw [if_neg (fun hh => by
          rcases hh.2 with h1 | h1
          · omega
          · rw [hg (i - 1) (by omega) (by omega)] at h1
            cases h1)]
      have ih := runs_b m hm l hx hl d (i + 1) (by omega) S a (by omega) (by rw [er]; exact hr) (fun q h1 h2 => by
        by_cases hq : q = i
        · subst hq; exact hb
        · exact hg q h1 (by omega))
      refine Ev.step (fun k => ?_) ih
      have e1 : wrap64 (((S ++ [(⟨(a : Int), ((i - a : Nat) : Int)⟩ : S59)]).length : Int) - 1) = (S.length : Int) := by rw [List.length_append, List.length_singleton, w64 _ (by omega) (by omega)]; omega
      rw [e0, if_neg (on hb), e1, if_pos (by omega), if_pos (by omega), if_pos (by rw [List.length_append, List.length_singleton]; omega), rd59_last, if_pos (by show wrap64 ((a : Int) + ((i - a : Nat) : Int)) = i; rw [w64 _ (by omega) (by omega)]; omega), Int.toNat_natCast, set_last]
      show bitset_Runs.l0 k (m : Int) l (S ++ [⟨(a : Int), wrap64 (((i - a : Nat) : Int) + 1)⟩]) _ = _
      rw [inc (i - a) (by omega), show i - a + 1 = i + 1 - a by omega]
end
theorem sameRuns_l (l : List S59) (hl : l.length ≤ 9223372036854775807) : ∀ (d i : Nat), i + d = l.length → Ev (fun k => torrentlaw4_sameRuns.l0 k l l (i : Int)) true
  | 0, i, h => Ev.step (f := fun _ => some true) (fun k => by
      simp only [torrentlaw4_sameRuns.l0]
      rw [if_neg (by omega)]) (Ev.now _)
  | d + 1, i, h => Ev.step (f := fun k => torrentlaw4_sameRuns.l0 k l l ((i + 1 : Nat) : Int)) (fun k => by
      simp only [torrentlaw4_sameRuns.l0]
      rw [if_pos (by omega), if_pos (by omega), if_pos (by omega), if_neg (by simp), inc i (by omega)]) (sameRuns_l l hl d (i + 1) (by omega))
theorem sameRuns_f (l : List S59) (hl : l.length ≤ 9223372036854775807) : Ev (fun k => torrentlaw4_sameRuns.f k l l) true := by
  unfold torrentlaw4_sameRuns.f
  refine Ev.congr (fun k => if_pos rfl) ?_
  exact sameRuns_l l hl l.length 0 (by omega)
theorem put_is {p : Nat → Bool} {m : Nat} (hm : m ≤ 65536) {l : List Int} (hpk : Packed p m l) (j : Nat) (hj : j < m) (on : Bool) : ∃ r, Ev (fun k => bitset_Put.f k (m : Int) l (j : Int) on) (r, 0) ∧ Packed (fun q => if q = j then on else p q) m r := by
  have hlen := hpk.len
  have hx := hpk.isB
  have hc := check_packed hm hpk
  have ha : Ev (fun k => bitset_at.f k (m : Int) l (j : Int)) 0 := by
    refine Ev.bind hc (Ev.congr (fun k => if_pos rfl) (Ev.congr (f := fun _ => some 0) (fun k => ?_) (Ev.now _)))
    rw [if_neg (by omega), if_neg (by omega)]
  obtain ⟨g1, g2, g3⟩ := tests_in l j (by omega) (by omega)
  have hjl : j < 8 * l.length := by omega
  refine ⟨if on then put1 l j else put0 l j, ?_, ?_⟩
  · refine Ev.bind ha (Ev.congr (f := fun _ => some (if on then put1 l j else put0 l j, 0)) (fun k => ?_) (Ev.now _))
    rw [if_pos rfl, if_pos (by simp; omega)]
    simp only [Option.bind_some, List.nil_append]
    cases on with
    | true => rw [if_pos rfl, if_pos g1, if_pos g2, if_pos g3, set_mask l j (by omega)]; rfl
    | false => rw [if_neg (by decide), if_pos g1, if_pos g2, if_pos g3, clear_mask l j (by omega)]; rfl
  · cases on with
    | true =>
      refine ⟨by rw [if_pos rfl, put1_length]; exact hlen, by rw [if_pos rfl]; exact put1_isB hx j, fun q hq => ?_⟩
      rw [if_pos rfl] at hq ⊢
      rw [put1_length] at hq
      rw [put1_bit hx j q hjl, hpk.bit q hq]
      by_cases hqj : q = j
      · subst hqj; simp; omega
      · simp [hqj]
    | false =>
      refine ⟨by rw [if_neg (by decide), put0_length]; exact hlen, by rw [if_neg (by decide)]; exact put0_isB hx j, fun q hq => ?_⟩
      rw [if_neg (by decide)] at hq ⊢
      rw [put0_length] at hq
      rw [put0_bit hx j q hjl, hpk.bit q hq]
      by_cases hqj : q = j
      · subst hqj; simp
      · simp [hqj]
theorem both_ok {p q : Nat → Bool} {m : Nat} (hm : m ≤ 65536) {a b : List Int} (hp : Packed p m a) (hq : Packed q m b) : Ev (fun k => bitset_both.f k (m : Int) a b) 0 :=
  Ev.bind (check_packed hm hp) (Ev.congr (fun k => if_pos rfl) (Ev.bind (check_packed hm hq) (Ev.now _)))
theorem not_ok {q : Nat → Bool} {m : Nat} (hm : m ≤ 65536) {b : List Int} (hq : Packed q m b) : ∃ r, Ev (fun k => bitset_Not.f k (m : Int) b) (r, 0) ∧ Packed (fun i => !gbit b i) m r := by
  obtain ⟨f, hf, p1⟩ := qfull_ok m hm
  obtain ⟨r, hr, hp⟩ := minus_ok hm p1 hq (both_ok hm p1 hq)
  refine ⟨r, Ev.bind (check_packed hm hq) (Ev.congr (fun k => if_pos rfl) (Ev.bind hf (Ev.bind hr (Ev.now _)))), hp.congr fun i hi => ?_⟩
  have := p1.bit i (by have := p1.len; omega)
  simp [comb, this, hi]
theorem covers_is {p q : Nat → Bool} {m : Nat} (hm : m ≤ 65536) {a b : List Int} (hp : Packed p m a) (hq : Packed q m b) : ∃ v, Ev (fun k => bitset_Covers.f k (m : Int) a b) (v, 0) ∧ (v = true ↔ ∀ i, i < m → (gbit b i && !gbit a i) = false) := by
  have h1 := hp.len
  have h2 := hq.len
  obtain ⟨v, hv, hw⟩ := covers_l hp.isB hq.isB b.length (by omega) rfl (by omega) b.length 0 (by omega) (fun q h => by omega)
  refine ⟨v, Ev.bind (both_ok hm hp hq) (Ev.congr (fun k => if_pos rfl) hv), hw.trans ⟨fun h i hi => h i (by omega), fun h i hi => ?_⟩⟩
  by_cases him : i < m
  · exact h i him
  · rw [hq.bit i hi]
    simp [him]
theorem check_any (n : Int) (l : List Int) (hx : IsB l) (hl : l.length ≤ 140737488351232) : ∃ c, Ev (fun k => bitset_Check.f k n l) c := by
  by_cases hb : n < 0 ∨ 65536 < n
  · refine ⟨40, Ev.congr (f := fun k => bitset_Check.j0 k n l true) (fun k => ?_) (Ev.step (f := fun _ => some 40) (fun k => by simp only [bitset_Check.j0]; rfl) (Ev.now _))⟩
    unfold bitset_Check.f
    by_cases h0 : n < 0
    · rw [if_pos h0]
    · rw [if_neg h0, decide_eq_true (by omega)]
  · obtain ⟨m, rfl⟩ : ∃ m : Nat, n = m := ⟨n.toNat, by omega⟩
    have hm : m ≤ 65536 := by omega
    have e1 : ∀ k, bitset_Check.f k (m : Int) l = bitset_Check.j0 k (m : Int) l false := fun k => by
      unfold bitset_Check.f
      rw [if_neg (by omega), decide_eq_false (by omega)]
    by_cases hlen : l.length = (m + 7) / 8
    · by_cases h8 : m % 8 = 0
      · refine ⟨0, Ev.congr e1 (Ev.step (f := fun _ => some 0) (fun k => ?_) (Ev.now _))⟩
        simp only [bitset_Check.j0]
        rw [if_neg (by decide), size_f m hm]
        simp only [Option.bind_some]
        rw [if_pos (by omega), rem8, if_pos (by omega)]
      · have h88 := Nat.mod_lt m (show 8 > 0 by decide)
        have hxb := hx.getD (m / 8)
        have hs := spare_mask _ hxb (m % 8) h88
        refine ⟨if l.getD (m / 8) 0 % 2 ^ (8 - m % 8) = 0 then 0 else 42, Ev.congr e1 (Ev.step (f := fun _ => some (if l.getD (m / 8) 0 % 2 ^ (8 - m % 8) = 0 then 0 else 42)) (fun k => ?_) (Ev.now _))⟩
        simp only [bitset_Check.j0]
        rw [if_neg (by decide), size_f m hm]
        simp only [Option.bind_some]
        rw [if_pos (by omega), rem8, quo8 m (by omega), if_neg (by omega), if_pos (by omega), if_pos (by omega), if_pos (by omega), rd_nat, hs]
        split <;> rfl
    · refine ⟨41, Ev.congr e1 (Ev.step (f := fun _ => some 41) (fun k => ?_) (Ev.now _))⟩
      simp only [bitset_Check.j0]
      rw [if_neg (by decide), size_f m hm]
      simp only [Option.bind_some]
      rw [if_neg (by omega)]
theorem at_out {m : Nat} {l : List Int} (hc : Ev (fun k => bitset_Check.f k (m : Int) l) 0) (i : Int) (h : ¬ (0 ≤ i ∧ i < (m : Int))) : Ev (fun k => bitset_at.f k (m : Int) l i) 43 := by
  refine Ev.bind hc (Ev.congr (fun k => if_pos rfl) (Ev.congr (f := fun _ => some 43) (fun k => ?_) (Ev.now _)))
  by_cases h1 : i < 0
  · rw [if_pos h1]
  · rw [if_neg h1, if_pos (by omega)]
theorem get_any {m : Nat} {l : List Int} (hx : IsB l) (hc : Ev (fun k => bitset_Check.f k (m : Int) l) 0) (i : Int) : ∃ r, Ev (fun k => bitset_Get.f k (m : Int) l i) r := by
  by_cases h1 : 0 ≤ i ∧ i < (m : Int)
  · obtain ⟨j, rfl⟩ : ∃ j : Nat, i = j := ⟨i.toNat, by omega⟩
    exact ⟨_, get_is hx hc j (by omega)⟩
  · exact ⟨(false, 43), Ev.bind (at_out hc i h1) (Ev.congr (fun k => if_neg (by decide)) (Ev.now _))⟩
theorem put_any {p : Nat → Bool} {m : Nat} (hm : m ≤ 65536) {l : List Int} (hpk : Packed p m l) (hc : Ev (fun k => bitset_Check.f k (m : Int) l) 0) (i : Int) (on : Bool) : ∃ r e, Ev (fun k => bitset_Put.f k (m : Int) l i on) (r, e) ∧ r.length ≤ 8192 := by
  by_cases h1 : 0 ≤ i ∧ i < (m : Int)
  · obtain ⟨j, rfl⟩ : ∃ j : Nat, i = j := ⟨i.toNat, by omega⟩
    obtain ⟨r, h2, h3⟩ := put_is hm hpk j (by omega) on
    exact ⟨r, 0, h2, by have := h3.len; omega⟩
  · exact ⟨[], 43, Ev.bind (at_out hc i h1) (Ev.congr (fun k => if_neg (by decide)) (Ev.now _)), by simp⟩
theorem get_bool (xs : List Int) (hx : IsB xs) (i : Nat) (hi : i ≤ 65536) : (Go.bits .and .u8 (rd xs (wrap64 (Int.tdiv (i : Int) 8))) (shr .u8 128 (Int.tmod (i : Int) 8)) != 0) = gbit xs i := by
  have h := get_mask xs hx i hi
  cases hb : gbit xs i with
  | true =>
    rw [bne_iff_ne]
    intro h0
    rw [h.1 h0] at hb
    cases hb
  | false => rw [bne_eq_false_iff_eq]; exact h.2 hb
theorem next_l (m : Nat) (hm : m ≤ 65536) (l : List Int) (hx : IsB l) (hl : l.length = (m + 7) / 8) (on : Bool) : ∀ (d i : Nat), i + d = m → ∃ r, Ev (fun k => bitset_Next.l0 k (m : Int) l on (i : Int)) (r, 0)
  | 0, i, h => by
    refine ⟨(m : Int), Ev.step (f := fun _ => some ((m : Int), 0)) (fun k => ?_) (Ev.now _)⟩
    simp only [bitset_Next.l0]
    rw [if_neg (by omega)]
  | d + 1, i, h => by
    obtain ⟨g1, g2, g3⟩ := tests_in l i (by omega) (by omega)
    have e1 : ∀ k, bitset_Next.l0 (k + 1) (m : Int) l on (i : Int) = if (gbit l i == on) = true then some ((i : Int), 0) else bitset_Next.l0 k (m : Int) l on ((i + 1 : Nat) : Int) := fun k => by
      simp only [bitset_Next.l0]
      rw [if_pos (by omega), if_pos g1, if_pos g2, if_pos g3, get_bool l hx i (by omega), inc i (by omega)]
    by_cases hb : (gbit l i == on) = true
    · exact ⟨(i : Int), Ev.step (f := fun _ => some ((i : Int), 0)) (fun k => by rw [e1, if_pos hb]) (Ev.now _)⟩
    · obtain ⟨r, hr⟩ := next_l m hm l hx hl on d (i + 1) (by omega)
      exact ⟨r, Ev.step (fun k => by rw [e1, if_neg hb]) hr⟩
theorem next_any {m : Nat} {l : List Int} (hm : m ≤ 65536) (hx : IsB l) (hlen : l.length = (m + 7) / 8) (hc : Ev (fun k => bitset_Check.f k (m : Int) l) 0) (a : Int) (on : Bool) : ∃ r, Ev (fun k => bitset_Next.f k (m : Int) l a on) r := by
  by_cases h1 : a < 0 ∨ (m : Int) < a
  · refine ⟨(0, 43), Ev.bind hc (Ev.congr (f := fun k => bitset_Next.j0 k (m : Int) l a on true) (fun k => ?_) (Ev.step (f := fun _ => some (0, 43)) (fun k => by simp only [bitset_Next.j0]; rfl) (Ev.now _)))⟩
    rw [if_pos rfl]
    by_cases h2 : a < 0
    · rw [if_pos h2]
    · rw [if_neg h2, decide_eq_true (by omega)]
  · obtain ⟨i, rfl⟩ : ∃ i : Nat, a = i := ⟨a.toNat, by omega⟩
    obtain ⟨r, hr⟩ := next_l m hm l hx hlen on (m - i) i (by omega)
    refine ⟨(r, 0), Ev.bind hc (Ev.congr (f := fun k => bitset_Next.j0 k (m : Int) l (i : Int) on false) (fun k => ?_) (Ev.step (fun k => by simp only [bitset_Next.j0]; rfl) hr))⟩
    rw [if_pos rfl, if_neg (by omega), decide_eq_false (by omega)]
theorem runs_is {m : Nat} {l : List Int} (hm : m ≤ 65536) (hx : IsB l) (hlen : l.length = (m + 7) / 8) (hc : Ev (fun k => bitset_Check.f k (m : Int) l) 0) : ∃ r, Ev (fun k => bitset_Runs.f k (m : Int) l) (r, 0) ∧ r.length ≤ 65536 := by
  have hle := rr_length (gbit l) m m
  exact ⟨rr (gbit l) m m, Ev.bind hc (Ev.congr (fun k => if_pos rfl) (runs_a m hm l hx hlen m 0 (by omega) (Or.inl rfl) (fun S x e => by simp [rr] at e))), by omega⟩
end Go.Proofs.Ytoohpdamndgdlaa.B


-- Made by a program of this session (the print of the kit over a neighbour), for this claim.
namespace Go.Proofs.Ytoohpdamndgdlaa.P
open Go.RowKit Go.Proofs.YtoohpdamndgdlaaW.PrintWords Go.Proofs.YtoohpdamndgdlaaW.PrintLast Go.Proofs.YtoohpdamndgdlaaW.PrintMore
attribute [local go_sem] max2_int min2_int max_two min_two max_three min_three max_four min_four   -- for this text's walks alone
set_option linter.unusedVariables false
set_option linter.unusedSimpArgs false

/-! ### torrentlaw4_call: function 51 -/
def torrentlaw4_call.f (k : Nat) (a0 : Int) (a1 : Int) (l2 : List Int) (l3 : List Int) (a4 : Int) : Option (List Int) := if a0 = 0 then ((bitset_And.f k a1 l2 l3).bind fun bt626 => (some bt626.1)) else (if a0 = 1 then ((bitset_Or.f k a1 l2 l3).bind fun bt630 => (some bt630.1)) else (if a0 = 2 then ((bitset_Minus.f k a1 l2 l3).bind fun bt634 => (some bt634.1)) else (if a0 = 3 then ((bitset_Not.f k a1 l2).bind fun bt638 => (some bt638.1)) else (if a0 = 4 then ((bitset_Put.f k a1 l2 a4 ((Int.tmod a4 2) == 0)).bind fun bt642 => (some bt642.1)) else (if a0 = 5 then ((bitset_Make.f a1).bind fun bt646 => (some bt646.1)) else (if a0 = 6 then (if a1 > 0 then (if ([] : List Int).length < 17592186044416 then ((bitset_Of.f k a1 (([] : List Int) ++ [wrap64 (a1 - 1)])).bind fun bt653 => (some bt653.1)) else (none)) else ((bitset_Of.f k a1 ([] : List Int)).bind fun bt657 => (some bt657.1))) else ((bitset_Full.f k a1).bind fun bt661 => (some bt661.1))))))))
set_option maxHeartbeats 8000000 in
set_option maxRecDepth 100000 in
theorem torrentlaw4_call.calls (k : Nat) (a0 : Int) (a1 : Int) (A2 : Option Addr) (c2 : Nat) (l2 : List Int) (A3 : Option Addr) (c3 : Nat) (l3 : List Int) (a4 : Int) (r : List Int) (w : World) (hr2 : Kd.C (Kd.int .u8) w A2 l2.length l2) (hc2 : l2.length ≤ c2) (hr3 : Kd.C (Kd.int .u8) w A3 l3.length l3) (hc3 : l3.length ≤ c3) (h : torrentlaw4_call.f k a0 a1 l2 l3 a4 = some r) :
    Calls Try.prog 51 #[.int .i64 a0, .int .i64 a1, .slice A2 l2.length c2, .slice A3 l3.length c3, .int .i64 a4] w fun e w' => ∃ v0_ : Value, e = .returned (v0_) ∧ Kd.R (Kd.int .u8) 5 w' w.heap.size (fun _ => True) v0_ r ∧ Below w.heap.size w w' := by
  have HR2 := Aside0.mk hr2
  have HC2 := Aside0.mk hc2
  clear hr2 hc2
  have HR3 := Aside0.mk hr3
  have HC3 := Aside0.mk hc3
  clear hr3 hc3
  have HB := Aside0.mk (Below.refl w.heap.size w)
  have H : (if a0 = 0 then ((bitset_And.f k a1 l2 l3).bind fun bt626 => (some bt626.1)) else (if a0 = 1 then ((bitset_Or.f k a1 l2 l3).bind fun bt630 => (some bt630.1)) else (if a0 = 2 then ((bitset_Minus.f k a1 l2 l3).bind fun bt634 => (some bt634.1)) else (if a0 = 3 then ((bitset_Not.f k a1 l2).bind fun bt638 => (some bt638.1)) else (if a0 = 4 then ((bitset_Put.f k a1 l2 a4 ((Int.tmod a4 2) == 0)).bind fun bt642 => (some bt642.1)) else (if a0 = 5 then ((bitset_Make.f a1).bind fun bt646 => (some bt646.1)) else (if a0 = 6 then (if a1 > 0 then (if ([] : List Int).length < 17592186044416 then ((bitset_Of.f k a1 (([] : List Int) ++ [wrap64 (a1 - 1)])).bind fun bt653 => (some bt653.1)) else (none)) else ((bitset_Of.f k a1 ([] : List Int)).bind fun bt657 => (some bt657.1))) else ((bitset_Full.f k a1).bind fun bt661 => (some bt661.1))))))))) = some r := h
  clear h
  by_cases c6 : a0 = 0
  · rw [if_pos c6] at H
    have c6b0 : (a0 == 0) = true := beq_iff_eq.mpr c6
    have c6b1 : (a0 != 0) = false := bne_eq_false_iff_eq.mpr c6
    clear c6
    replace H := Option.bind_eq_some_iff.mp H
    obtain ⟨⟨t626, t627⟩, A70, H⟩ := H
    replace H : (some t626) = some r := H
    have A7 := Aside0.mk A70
    clear A70
    obtain rfl := Option.some.inj H
    go_enter Try.func51, Try.ntmps51
    go_wp2_with (first | ((with_reducible refine gate_callee (f := 38) rfl ?_); refine goesL_ (some 25) rfl rfl Try.func38 (by kernel_rfl) rfl #[.int .i64 a1, .slice A2 l2.length c2, .slice A3 l3.length c3] rfl (by (try simp only [List.map_toArray, List.map_cons, List.map_nil]); first | done | rfl) ?_; (with_reducible refine (bitset_And.calls k a1 _ _ l2 _ _ l3 t626 t627 _ ?side1 ?side2 ?side3 ?side4 A7.out).mono ?_); (case side1 => exact HR2.out); (case side2 => exact HC2.out); (case side3 => exact HR3.out); (case side4 => exact HC3.out); rintro e w8 ⟨v628, rfl, ho0, hb⟩; refine ⟨_, rfl, ?_⟩; have n0_ := Aside0.mk (Kd.R_lower ho0 (below_size HB.out)); have n1_ := Aside0.mk (below_step HB.out hb); clear HB; have HO629 := n0_; have HB := n1_; clear n0_ n1_; (try clear hb); (try clear ho0)))
    go_ret
    exact ⟨_, by first | rfl | (simp [errW_none, errW_some] <;> rfl) | (simp [*, errW_none, errW_some] <;> rfl), by (with_reducible repeat (first | apply Kd.R_alloc | apply Kd.R_drewN | apply Kd.R_drew)); exact HO629.out, by repeat (first | (with_reducible first | exact HB.out | apply below_alloc | apply pw_below_drewN | apply below_drew1) | exact HB.out)⟩
  · rw [if_neg c6] at H
    have c6b0 : (a0 == 0) = false := beq_eq_false_iff_ne.mpr c6
    have c6b1 : (a0 != 0) = true := bne_iff_ne.mpr c6
    by_cases c9 : a0 = 1
    · rw [if_pos c9] at H
      have c9b0 : (a0 == 1) = true := beq_iff_eq.mpr c9
      have c9b1 : (a0 != 1) = false := bne_eq_false_iff_eq.mpr c9
      clear c9
      replace H := Option.bind_eq_some_iff.mp H
      obtain ⟨⟨t630, t631⟩, A100, H⟩ := H
      replace H : (some t630) = some r := H
      have A10 := Aside0.mk A100
      clear A100
      obtain rfl := Option.some.inj H
      go_enter Try.func51, Try.ntmps51
      go_wp2_with (first | ((with_reducible refine gate_callee (f := 40) rfl ?_); refine goesL_ (some 34) rfl rfl Try.func40 (by kernel_rfl) rfl #[.int .i64 a1, .slice A2 l2.length c2, .slice A3 l3.length c3] rfl (by (try simp only [List.map_toArray, List.map_cons, List.map_nil]); first | done | rfl) ?_; (with_reducible refine (bitset_Or.calls k a1 _ _ l2 _ _ l3 t630 t631 _ ?side1 ?side2 ?side3 ?side4 A10.out).mono ?_); (case side1 => exact HR2.out); (case side2 => exact HC2.out); (case side3 => exact HR3.out); (case side4 => exact HC3.out); rintro e w11 ⟨v632, rfl, ho0, hb⟩; refine ⟨_, rfl, ?_⟩; have n0_ := Aside0.mk (Kd.R_lower ho0 (below_size HB.out)); have n1_ := Aside0.mk (below_step HB.out hb); clear HB; have HO633 := n0_; have HB := n1_; clear n0_ n1_; (try clear hb); (try clear ho0)))
      go_ret
      exact ⟨_, by first | rfl | (simp [errW_none, errW_some] <;> rfl) | (simp [*, errW_none, errW_some] <;> rfl), by (with_reducible repeat (first | apply Kd.R_alloc | apply Kd.R_drewN | apply Kd.R_drew)); exact HO633.out, by repeat (first | (with_reducible first | exact HB.out | apply below_alloc | apply pw_below_drewN | apply below_drew1) | exact HB.out)⟩
    · rw [if_neg c9] at H
      have c9b0 : (a0 == 1) = false := beq_eq_false_iff_ne.mpr c9
      have c9b1 : (a0 != 1) = true := bne_iff_ne.mpr c9
      by_cases c12 : a0 = 2
      · rw [if_pos c12] at H
        have c12b0 : (a0 == 2) = true := beq_iff_eq.mpr c12
        have c12b1 : (a0 != 2) = false := bne_eq_false_iff_eq.mpr c12
        clear c12
        replace H := Option.bind_eq_some_iff.mp H
        obtain ⟨⟨t634, t635⟩, A130, H⟩ := H
        replace H : (some t634) = some r := H
        have A13 := Aside0.mk A130
        clear A130
        obtain rfl := Option.some.inj H
        go_enter Try.func51, Try.ntmps51
        go_wp2_with (first | ((with_reducible refine gate_callee (f := 42) rfl ?_); refine goesL_ (some 43) rfl rfl Try.func42 (by kernel_rfl) rfl #[.int .i64 a1, .slice A2 l2.length c2, .slice A3 l3.length c3] rfl (by (try simp only [List.map_toArray, List.map_cons, List.map_nil]); first | done | rfl) ?_; (with_reducible refine (bitset_Minus.calls k a1 _ _ l2 _ _ l3 t634 t635 _ ?side1 ?side2 ?side3 ?side4 A13.out).mono ?_); (case side1 => exact HR2.out); (case side2 => exact HC2.out); (case side3 => exact HR3.out); (case side4 => exact HC3.out); rintro e w14 ⟨v636, rfl, ho0, hb⟩; refine ⟨_, rfl, ?_⟩; have n0_ := Aside0.mk (Kd.R_lower ho0 (below_size HB.out)); have n1_ := Aside0.mk (below_step HB.out hb); clear HB; have HO637 := n0_; have HB := n1_; clear n0_ n1_; (try clear hb); (try clear ho0)))
        go_ret
        exact ⟨_, by first | rfl | (simp [errW_none, errW_some] <;> rfl) | (simp [*, errW_none, errW_some] <;> rfl), by (with_reducible repeat (first | apply Kd.R_alloc | apply Kd.R_drewN | apply Kd.R_drew)); exact HO637.out, by repeat (first | (with_reducible first | exact HB.out | apply below_alloc | apply pw_below_drewN | apply below_drew1) | exact HB.out)⟩
      · rw [if_neg c12] at H
        have c12b0 : (a0 == 2) = false := beq_eq_false_iff_ne.mpr c12
        have c12b1 : (a0 != 2) = true := bne_iff_ne.mpr c12
        by_cases c15 : a0 = 3
        · rw [if_pos c15] at H
          have c15b0 : (a0 == 3) = true := beq_iff_eq.mpr c15
          have c15b1 : (a0 != 3) = false := bne_eq_false_iff_eq.mpr c15
          clear c15
          replace H := Option.bind_eq_some_iff.mp H
          obtain ⟨⟨t638, t639⟩, A160, H⟩ := H
          replace H : (some t638) = some r := H
          have A16 := Aside0.mk A160
          clear A160
          obtain rfl := Option.some.inj H
          go_enter Try.func51, Try.ntmps51
          go_wp2_with (first | ((with_reducible refine gate_callee (f := 44) rfl ?_); refine goesL_ (some 51) rfl rfl Try.func44 (by kernel_rfl) rfl #[.int .i64 a1, .slice A2 l2.length c2] rfl (by (try simp only [List.map_toArray, List.map_cons, List.map_nil]); first | done | rfl) ?_; (with_reducible refine (bitset_Not.calls k a1 _ _ l2 t638 t639 _ ?side1 ?side2 A16.out).mono ?_); (case side1 => exact HR2.out); (case side2 => exact HC2.out); rintro e w17 ⟨v640, rfl, ho0, hb⟩; refine ⟨_, rfl, ?_⟩; have n0_ := Aside0.mk (Kd.R_lower ho0 (below_size HB.out)); have n1_ := Aside0.mk (below_step HB.out hb); clear HB; have HO641 := n0_; have HB := n1_; clear n0_ n1_; (try clear hb); (try clear ho0)))
          go_ret
          exact ⟨_, by first | rfl | (simp [errW_none, errW_some] <;> rfl) | (simp [*, errW_none, errW_some] <;> rfl), by (with_reducible repeat (first | apply Kd.R_alloc | apply Kd.R_drewN | apply Kd.R_drew)); exact HO641.out, by repeat (first | (with_reducible first | exact HB.out | apply below_alloc | apply pw_below_drewN | apply below_drew1) | exact HB.out)⟩
        · rw [if_neg c15] at H
          have c15b0 : (a0 == 3) = false := beq_eq_false_iff_ne.mpr c15
          have c15b1 : (a0 != 3) = true := bne_iff_ne.mpr c15
          by_cases c18 : a0 = 4
          · rw [if_pos c18] at H
            have c18b0 : (a0 == 4) = true := beq_iff_eq.mpr c18
            have c18b1 : (a0 != 4) = false := bne_eq_false_iff_eq.mpr c18
            clear c18
            replace H := Option.bind_eq_some_iff.mp H
            obtain ⟨⟨t642, t643⟩, A190, H⟩ := H
            replace H : (some t642) = some r := H
            have A19 := Aside0.mk A190
            clear A190
            obtain rfl := Option.some.inj H
            go_enter Try.func51, Try.ntmps51
            go_wp2_with (first | ((with_reducible refine gate_callee (f := 33) rfl ?_); refine goesL_ (some 63) rfl rfl Try.func33 (by kernel_rfl) rfl #[.int .i64 a1, .slice A2 l2.length c2, .int .i64 a4, .bool ((Int.tmod a4 2) == 0)] rfl (by (try simp only [List.map_toArray, List.map_cons, List.map_nil]); first | done | rfl) ?_; (with_reducible refine (bitset_Put.calls k a1 _ _ l2 a4 ((Int.tmod a4 2) == 0) t642 t643 _ ?side1 ?side2 A19.out).mono ?_); (case side1 => exact HR2.out); (case side2 => exact HC2.out); rintro e w20 ⟨v644, rfl, ho0, hb⟩; refine ⟨_, rfl, ?_⟩; have n0_ := Aside0.mk (Kd.R_lower ho0 (below_size HB.out)); have n1_ := Aside0.mk (below_step HB.out hb); clear HB; have HO645 := n0_; have HB := n1_; clear n0_ n1_; (try clear hb); (try clear ho0)))
            go_ret
            exact ⟨_, by first | rfl | (simp [errW_none, errW_some] <;> rfl) | (simp [*, errW_none, errW_some] <;> rfl), by (with_reducible repeat (first | apply Kd.R_alloc | apply Kd.R_drewN | apply Kd.R_drew)); exact HO645.out, by repeat (first | (with_reducible first | exact HB.out | apply below_alloc | apply pw_below_drewN | apply below_drew1) | exact HB.out)⟩
          · rw [if_neg c18] at H
            have c18b0 : (a0 == 4) = false := beq_eq_false_iff_ne.mpr c18
            have c18b1 : (a0 != 4) = true := bne_iff_ne.mpr c18
            by_cases c21 : a0 = 5
            · rw [if_pos c21] at H
              have c21b0 : (a0 == 5) = true := beq_iff_eq.mpr c21
              have c21b1 : (a0 != 5) = false := bne_eq_false_iff_eq.mpr c21
              clear c21
              replace H := Option.bind_eq_some_iff.mp H
              obtain ⟨⟨t646, t647⟩, A220, H⟩ := H
              replace H : (some t646) = some r := H
              have A22 := Aside0.mk A220
              clear A220
              obtain rfl := Option.some.inj H
              go_enter Try.func51, Try.ntmps51
              go_wp2_with (first | ((with_reducible refine gate_callee (f := 15) rfl ?_); refine goesL_ (some 70) rfl rfl Try.func15 (by kernel_rfl) rfl #[.int .i64 a1] rfl (by (try simp only [List.map_toArray, List.map_cons, List.map_nil]); first | done | rfl) ?_; (with_reducible refine (bitset_Make.calls a1 t646 t647 _ A22.out).mono ?_); rintro e w23 ⟨v648, rfl, ho0, hb⟩; refine ⟨_, rfl, ?_⟩; have n0_ := Aside0.mk (Kd.R_lower ho0 (below_size HB.out)); have n1_ := Aside0.mk (below_step HB.out hb); clear HB; have HO649 := n0_; have HB := n1_; clear n0_ n1_; (try clear hb); (try clear ho0)))
              go_ret
              exact ⟨_, by first | rfl | (simp [errW_none, errW_some] <;> rfl) | (simp [*, errW_none, errW_some] <;> rfl), by (with_reducible repeat (first | apply Kd.R_alloc | apply Kd.R_drewN | apply Kd.R_drew)); exact HO649.out, by repeat (first | (with_reducible first | exact HB.out | apply below_alloc | apply pw_below_drewN | apply below_drew1) | exact HB.out)⟩
            · rw [if_neg c21] at H
              have c21b0 : (a0 == 5) = false := beq_eq_false_iff_ne.mpr c21
              have c21b1 : (a0 != 5) = true := bne_iff_ne.mpr c21
              by_cases c24 : a0 = 6
              · rw [if_pos c24] at H
                have c24b0 : (a0 == 6) = true := beq_iff_eq.mpr c24
                have c24b1 : (a0 != 6) = false := bne_eq_false_iff_eq.mpr c24
                clear c24
                by_cases c25 : a1 > 0
                · rw [if_pos c25] at H
                  have c25b0 : decide (0 < a1) = true := decide_eq_true c25
                  clear c25
                  by_cases c26 : ([] : List Int).length < 17592186044416
                  · rw [if_pos c26] at H
                    have LMc26 := Aside0.mk c26
                    clear c26
                    obtain ⟨y650, hy650⟩ : ∃ y_ : List Int, y_ = (([] : List Int) ++ [wrap64 (a1 - 1)]) := ⟨_, rfl⟩
                    replace H : ((bitset_Of.f k a1 y650).bind fun bt653 => (some bt653.1)) = some r := by first | (rw [hy650]; with_reducible exact H) | (have H2_ := (Option.bind_some _ _).symm.trans H; rw [hy650]; with_reducible exact H2_) | (have H2_ := (Option.bind_some _ _).symm.trans H; with_reducible exact H2_) | with_reducible exact H | (rw [hy650]; exact H) | exact H
                    have Ny650 := Aside0.mk hy650
                    clear hy650
                    replace H := Option.bind_eq_some_iff.mp H
                    obtain ⟨⟨t653, t654⟩, A270, H⟩ := H
                    replace H : (some t653) = some r := H
                    have A27 := Aside0.mk A270
                    clear A270
                    obtain rfl := Option.some.inj H
                    go_enter Try.func51, Try.ntmps51
                    go_wp2_with (first | ((with_reducible refine gate_builtin (b := .append) (xs := #[.tmp 77, .tmp 80]) rfl ?_); at_builtin; refine Kd.R_append (Kd.int .i64) (w0 := w) w.heap.size rfl (.tmp 77) (.tmp 80) 28 3 (.int .i64 0) 8 rfl Try.underlying28 info3 rfl (by decide) (by omega) (.slice none 0 0) ([] : List Int) (wrap64 (a1 - 1)) [.int .i64 (wrap64 (a1 - 1))] (fun _ => True) (fun _ => False) rfl rfl ?aP (fun _ hk => hk.elim) ?aF ?aO ?aB ?aS ?aL ?_; (case aP => exact rfl); (case aB => exact HB.out); (case aF => exact (fun _ _ => trivial)); (case aO => exact ((Kd.R_nil _ _ _ _ (fun _ => True)))); (case aS => exact (below_size HB.out)); (case aL => have := LMc26.out; omega); intro v651 w28 ho hb hg hat; rw [← Ny650.out] at ho; have n0_ := Aside0.mk (hb); have n1_ := Aside0.mk (ho); clear HB; have HB := n0_; have HO652 := n1_; clear n0_ n1_; clear ho hb hg hat; obtain ⟨Ao29, co29, eo29⟩ := Kd.R_slice HO652.out; subst eo29) | ((with_reducible refine gate_callee (f := 20) rfl ?_); refine goesL_ (some 85) rfl rfl Try.func20 (by kernel_rfl) rfl #[.int .i64 a1, .slice Ao29 y650.length co29] rfl (by (try simp only [List.map_toArray, List.map_cons, List.map_nil]); first | done | rfl) ?_; (with_reducible refine (bitset_Of.calls k a1 _ _ y650 t653 t654 _ ?side1 ?side2 A27.out).mono ?_); (case side1 => exact (Kd.R_reads' HO652.out).2.2); (case side2 => exact (Kd.R_reads' HO652.out).2.1); rintro e w30 ⟨v655, rfl, ho0, hb⟩; refine ⟨_, rfl, ?_⟩; have n0_ := Aside0.mk (Kd.R_below HO652.out hb); have n1_ := Aside0.mk (Kd.R_lower ho0 (below_size HB.out)); have n2_ := Aside0.mk (below_step HB.out hb); clear HO652; clear HB; have HO652 := n0_; have HO656 := n1_; have HB := n2_; clear n0_ n1_ n2_; (try clear hb); (try clear ho0)))
                    go_ret
                    exact ⟨_, by first | rfl | (simp [errW_none, errW_some] <;> rfl) | (simp [*, errW_none, errW_some] <;> rfl), by (with_reducible repeat (first | apply Kd.R_alloc | apply Kd.R_drewN | apply Kd.R_drew)); exact HO656.out, by repeat (first | (with_reducible first | exact HB.out | apply below_alloc | apply pw_below_drewN | apply below_drew1) | exact HB.out)⟩
                  · rw [if_neg c26] at H
                    exact absurd H (by simp)
                · rw [if_neg c25] at H
                  have c25b0 : decide (0 < a1) = false := decide_eq_false c25
                  clear c25
                  replace H := Option.bind_eq_some_iff.mp H
                  obtain ⟨⟨t657, t658⟩, A310, H⟩ := H
                  replace H : (some t657) = some r := H
                  have A31 := Aside0.mk A310
                  clear A310
                  obtain rfl := Option.some.inj H
                  go_enter Try.func51, Try.ntmps51
                  go_wp2_with (first | ((with_reducible refine gate_callee (f := 20) rfl ?_); refine goesL_ (some 85) rfl rfl Try.func20 (by kernel_rfl) rfl #[.int .i64 a1, .slice none 0 0] rfl (by (try simp only [List.map_toArray, List.map_cons, List.map_nil]); first | done | rfl) ?_; (refine (bitset_Of.calls k a1 _ _ ([] : List Int) t657 t658 _ ?side1 ?side2 A31.out).mono ?_); (case side1 => exact Kd.C_nil _ _); (case side2 => exact Nat.le_refl _); rintro e w32 ⟨v659, rfl, ho0, hb⟩; refine ⟨_, rfl, ?_⟩; have n0_ := Aside0.mk (Kd.R_lower ho0 (below_size HB.out)); have n1_ := Aside0.mk (below_step HB.out hb); clear HB; have HO660 := n0_; have HB := n1_; clear n0_ n1_; (try clear hb); (try clear ho0)))
                  go_ret
                  exact ⟨_, by first | rfl | (simp [errW_none, errW_some] <;> rfl) | (simp [*, errW_none, errW_some] <;> rfl), by (with_reducible repeat (first | apply Kd.R_alloc | apply Kd.R_drewN | apply Kd.R_drew)); exact HO660.out, by repeat (first | (with_reducible first | exact HB.out | apply below_alloc | apply pw_below_drewN | apply below_drew1) | exact HB.out)⟩
              · rw [if_neg c24] at H
                have c24b0 : (a0 == 6) = false := beq_eq_false_iff_ne.mpr c24
                have c24b1 : (a0 != 6) = true := bne_iff_ne.mpr c24
                replace H := Option.bind_eq_some_iff.mp H
                obtain ⟨⟨t661, t662⟩, A330, H⟩ := H
                replace H : (some t661) = some r := H
                have A33 := Aside0.mk A330
                clear A330
                obtain rfl := Option.some.inj H
                go_enter Try.func51, Try.ntmps51
                go_wp2_with (first | ((with_reducible refine gate_callee (f := 18) rfl ?_); refine goesL_ (some 16) rfl rfl Try.func18 (by kernel_rfl) rfl #[.int .i64 a1] rfl (by (try simp only [List.map_toArray, List.map_cons, List.map_nil]); first | done | rfl) ?_; (with_reducible refine (bitset_Full.calls k a1 t661 t662 _ A33.out).mono ?_); rintro e w34 ⟨v663, rfl, ho0, hb⟩; refine ⟨_, rfl, ?_⟩; have n0_ := Aside0.mk (Kd.R_lower ho0 (below_size HB.out)); have n1_ := Aside0.mk (below_step HB.out hb); clear HB; have HO664 := n0_; have HB := n1_; clear n0_ n1_; (try clear hb); (try clear ho0)))
                go_ret
                exact ⟨_, by first | rfl | (simp [errW_none, errW_some] <;> rfl) | (simp [*, errW_none, errW_some] <;> rfl), by (with_reducible repeat (first | apply Kd.R_alloc | apply Kd.R_drewN | apply Kd.R_drew)); exact HO664.out, by repeat (first | (with_reducible first | exact HB.out | apply below_alloc | apply pw_below_drewN | apply below_drew1) | exact HB.out)⟩

end Go.Proofs.Ytoohpdamndgdlaa.P

