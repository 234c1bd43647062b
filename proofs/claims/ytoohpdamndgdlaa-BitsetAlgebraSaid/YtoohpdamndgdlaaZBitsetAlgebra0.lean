-- Merged by a program of this session out of the texts Px0, Px2, Px3, Px17, Px29, HMasks, Px32, Bits, HWalk, QMake, QCheck, HWalk1, HCount, Px36, Px40, HMerge of this claim's own.
import Derived.Test.YtoohpdamndgdlaaProg
import Derived.Below
import Derived.Deep.Draws
import Derived.Deep.AppendLies
import Derived.Maps.AppendAt
import Derived.OwnWalk
import Derived.Laws.BytesArg
import Derived.Laws.MakeOwn
import Derived.Laws.OwnMore
import Derived.Deep.OwnRows
import Derived.Tactics
import Derived.Lib.ConvBytes
import Derived.Laws.Slices
import Derived.WalkKit
import Derived.KernelRfl
import Derived.RowKit3
import Derived.Deep.LoopGhost
import Derived.Deep.QuietTactic
import Derived.BigQuiet
import Derived.WideLaws
import Derived.Deep.DeepCutAuto
import Derived.Deep.CutBlock
import Derived.Deep.RegionHeld3
import Derived.Laws.Rows
import Derived.Lib.AppendStr
import Derived.ArgAppend
import Derived.Laws.IdiomCopy
import Derived.OrdersHeld
import Derived.Laws.BitsLemmas
import Derived.RowKit
import Derived.Test.YtoohpdamndgdlaaWWords
import Derived.Test.YtoohpdamndgdlaaWLast
import Derived.Test.YtoohpdamndgdlaaWTab
import Derived.Test.YtoohpdamndgdlaaWFour
import Derived.Test.YtoohpdamndgdlaaWQPut
import Derived.Test.YtoohpdamndgdlaaWApart
import Derived.Test.YtoohpdamndgdlaaWArr
import Derived.Test.YtoohpdamndgdlaaWZeros
import Derived.Test.YtoohpdamndgdlaaWFoot
import Derived.Test.YtoohpdamndgdlaaWKept
import Derived.Test.YtoohpdamndgdlaaWShare
import Derived.Test.YtoohpdamndgdlaaWN
import Derived.Test.YtoohpdamndgdlaaWFootNe
import Derived.Test.YtoohpdamndgdlaaWAt
import Derived.Test.YtoohpdamndgdlaaWEqStruct
import Derived.Test.YtoohpdamndgdlaaWRepsOne
import Derived.Test.YtoohpdamndgdlaaWInv
import Derived.Test.YtoohpdamndgdlaaWInvWords
import Derived.Test.YtoohpdamndgdlaaWGuard
import Derived.Test.YtoohpdamndgdlaaWNEv
import Derived.Test.YtoohpdamndgdlaaWMore
import Derived.Outline
import Derived.Laws.Entries
import Derived.RangeFuncBox
import Derived.RangeFuncLeaves
import Derived.RangeFuncBound
import Derived.RangeFuncCalls
import Derived.OwnWalkIn
import Derived.TacticsInMore
import Derived.LoopNIn
import Derived.LoopIn
import Derived.Lib.Hide
import Derived.Shelf.RegionOpen
import Derived.WalkSpells
import Derived.RangeFuncWrites

-- Made by a program of this session (the print of the kit over a neighbour), for this claim.
namespace Go.Proofs.Ytoohpdamndgdlaa.P
open Go.RowKit Go.Proofs.YtoohpdamndgdlaaW.PrintWords Go.Proofs.YtoohpdamndgdlaaW.PrintLast Go.Proofs.YtoohpdamndgdlaaW.PrintMore
attribute [local go_sem] max2_int min2_int max_two min_two max_three min_three max_four min_four   -- for this text's walks alone
set_option linter.unusedVariables false
set_option linter.unusedSimpArgs false



def errW : Option Int → Value
  | none => .nilIface
  | some c => .iface 0 (.int .i64 c)
theorem errW_none : errW none = .nilIface := rfl
theorem errW_some (c : Int) : errW (some c) = .iface 0 (.int .i64 c) := rfl

theorem info3 : (Try.prog.info? 3).map (fun i => (i.zero, i.size, i.bytes)) = some (some (.int .i64 0), 1, 8) := by kernel_rfl
theorem info4 : (Try.prog.info? 4).map (fun i => (i.zero, i.size, i.bytes)) = some (some (.bool false), 1, 1) := by kernel_rfl
theorem info5 : (Try.prog.info? 5).map (fun i => (i.zero, i.size, i.bytes)) = some (some (.int .u8 0), 1, 1) := by kernel_rfl
theorem info59 : (Try.prog.info? 59).map (fun i => (i.zero, i.size, i.bytes)) = some (some (.agg #[(.int .i64 0), (.int .i64 0)]), 2, 16) := by kernel_rfl
-- the values' own types
/-! #### struct type 59 -/
structure S59 where
  f0 : Int
  f1 : Int
def z59 : S59 := ⟨(0 : Int), (0 : Int)⟩
def k59 : Kd S59 := Kd.iso (Kd.pair (Kd.int .i64) (Kd.int .i64)) (fun x : S59 => (x.f0, x.f1))
theorem k59_open {w : World} {x : S59} {cs : List Value} (h : k59.K w x cs) : cs = [.int .i64 x.f0, .int .i64 x.f1] := by
  obtain ⟨_, _, rfl, rfl, rfl⟩ := h
  exact rfl
theorem k59_openM {w : World} {base : Nat} {ok : Nat → Prop} {x : S59} {cs : List Value} (h : k59.M w base ok x cs) : cs = [.int .i64 x.f0, .int .i64 x.f1] := by
  obtain ⟨_, _, rfl, rfl, rfl⟩ := h
  exact rfl
theorem k59_mk (w : World) (x : S59)  : k59.K w x [.int .i64 x.f0, .int .i64 x.f1] := ⟨[.int .i64 x.f0], [.int .i64 x.f1], rfl, rfl, rfl⟩
theorem k59_mkM (w : World) (base : Nat) (ok : Nat → Prop) (x : S59)  : k59.M w base ok x [.int .i64 x.f0, .int .i64 x.f1] := ⟨[.int .i64 x.f0], [.int .i64 x.f1], rfl, rfl, rfl⟩
def rd_T59 (xs : List S59) (i : Int) : S59 := xs.getD i.toNat z59
theorem at_T59 {w : World} {A : Option Addr} {n : Nat} {xs : List S59} (h : Kd.C k59 w A n xs) (i : Int) (h0 : 0 ≤ i) (h1 : i < n) : ∃ ad , A = some ad ∧ w.cell? (ad.add (i.toNat * 2)) = some (.int .i64 (rd_T59 xs i).f0) ∧ w.cell? ⟨(ad.add (i.toNat * 2)).block, (ad.add (i.toNat * 2)).off + 1, none⟩ = some (.int .i64 (rd_T59 xs i).f1) := by
  obtain ⟨ad, c, e, _, hK, hc0⟩ := Kd.C_get h z59 i h0 h1
  have hc : ∀ j u, c[j]? = some u → w.cell? (ad.add (i.toNat * 2 + j)) = some u := hc0
  obtain rfl := k59_open hK
  exact ⟨ad, e, hc 0 _ rfl, by rw [← add_field _ _ 1 (by omega)]; exact hc 1 _ rfl⟩

def rd_L4 (xs : List (List Int)) (i : Int) : (List Int) := xs.getD i.toNat ([] : List Int)
theorem at_L4 {w : World} {A : Option Addr} {n : Nat} {xs : List (List Int)} (h : Kd.C (Kd.slice 5 (Kd.int .u8)) w A n xs) (i : Int) (h0 : 0 ≤ i) (h1 : i < n) : ∃ ad A0 c0, A = some ad ∧ w.cell? (ad.add i.toNat) = some (.slice A0 (rd_L4 xs i).length c0) ∧ (rd_L4 xs i).length ≤ c0 ∧ (Kd.int .u8).C w A0 (rd_L4 xs i).length (rd_L4 xs i) := by
  obtain ⟨ad, c, e, _, hK, hc0⟩ := Kd.C_get h ([] : List Int) i h0 h1
  have hc : ∀ j u, c[j]? = some u → w.cell? (ad.add (i.toNat * 1 + j)) = some u := hc0
  obtain ⟨A0, c0, rfl, l0, g0⟩ := hK
  exact ⟨ad, A0, c0, e, by have hq := hc 0 _ rfl; rwa [Nat.mul_one, Nat.add_zero] at hq, l0, g0⟩

end Go.Proofs.Ytoohpdamndgdlaa.P

-- Made by a program of this session (the print of the kit over a neighbour), for this claim.
namespace Go.Proofs.Ytoohpdamndgdlaa.P
open Go.RowKit Go.Proofs.YtoohpdamndgdlaaW.PrintWords Go.Proofs.YtoohpdamndgdlaaW.PrintLast Go.Proofs.YtoohpdamndgdlaaW.PrintMore
attribute [local go_sem] max2_int min2_int max_two min_two max_three min_three max_four min_four   -- for this text's walks alone
set_option linter.unusedVariables false
set_option linter.unusedSimpArgs false

/-! ### bitset_size: function 56 -/
def bitset_size.f (a0 : Int) : Option (Int) := some (wrap64 (Int.tdiv (wrap64 (a0 + 7)) 8))
set_option maxHeartbeats 8000000 in
set_option maxRecDepth 100000 in
theorem bitset_size.calls (a0 : Int) (r : Int) (w : World) (h : bitset_size.f a0 = some r) :
    Calls Try.prog 56 #[.int .i64 a0] w fun e w' => e = .returned (.int .i64 r) ∧ Drawn0 w w' := by
  have H : (some (wrap64 (Int.tdiv (wrap64 (a0 + 7)) 8))) = some r := h
  clear h
  obtain rfl := Option.some.inj H
  go_enter Try.func56, Try.ntmps56
  go_wp2
  go_ret
  exact ⟨by first | rfl | (simp; done) | (simp [*]; done), by repeat (first | exact Drawn0.refl _ | apply Drawn0.step)⟩

end Go.Proofs.Ytoohpdamndgdlaa.P

-- Made by a program of this session (the print of the kit over a neighbour), for this claim.
namespace Go.Proofs.Ytoohpdamndgdlaa.P
open Go.RowKit Go.Proofs.YtoohpdamndgdlaaW.PrintWords Go.Proofs.YtoohpdamndgdlaaW.PrintLast Go.Proofs.YtoohpdamndgdlaaW.PrintMore
attribute [local go_sem] max2_int min2_int max_two min_two max_three min_three max_four min_four   -- for this text's walks alone
set_option linter.unusedVariables false
set_option linter.unusedSimpArgs false

/-! ### bitset_Make: function 15 -/
def bitset_Make.f (a0 : Int) : Option (List Int × Int) := if a0 < 0 then (some (([] : List Int), 40)) else (if a0 > 65536 then (some (([] : List Int), 40)) else ((bitset_size.f a0).bind fun t101 => (if 0 ≤ t101 then (if (t101 : Int).toNat ≤ 281474976710656 then (some ((List.replicate (t101 : Int).toNat 0), 0)) else (none)) else (none))))
set_option maxHeartbeats 8000000 in
set_option maxRecDepth 100000 in
theorem bitset_Make.calls (a0 : Int) (r1 : List Int) (r2 : Int) (w : World) (h : bitset_Make.f a0 = some (r1, r2)) :
    Calls Try.prog 15 #[.int .i64 a0] w fun e w' => ∃ v0_ : Value, e = .returned (.tuple #[v0_, .int .i64 r2]) ∧ Kd.R (Kd.int .u8) 5 w' w.heap.size (fun _ => True) v0_ r1 ∧ Below w.heap.size w w' := by
  have HB := Aside0.mk (Below.refl w.heap.size w)
  have H : (if a0 < 0 then (some (([] : List Int), 40)) else (if a0 > 65536 then (some (([] : List Int), 40)) else ((bitset_size.f a0).bind fun t101 => (if 0 ≤ t101 then (if (t101 : Int).toNat ≤ 281474976710656 then (some ((List.replicate (t101 : Int).toNat 0), 0)) else (none)) else (none))))) = some (r1, r2) := h
  clear h
  by_cases c2 : a0 < 0
  · rw [if_pos c2] at H
    have c2b0 : decide (a0 < 0) = true := decide_eq_true c2
    clear c2
    simp only [Option.some.injEq, Prod.mk.injEq] at H
    obtain ⟨rfl, rfl⟩ := H
    go_enter Try.func15, Try.ntmps15
    go_wp2
    go_ret2
    exact ⟨_, by first | rfl | (simp [errW_none, errW_some] <;> rfl) | (simp [*, errW_none, errW_some] <;> rfl), by first | exact Kd.R_nil _ _ _ _ _ | exact Kd.N_nil _ _ _ _ _ | exact Kd.V_nil _ _ _ _ _ | exact Kd.Q_nil _ _ _ _ _ | exact Kd.S_nil _ _ _ _ _, by repeat (first | (with_reducible first | exact HB.out | apply below_alloc | apply pw_below_drewN | apply below_drew1) | exact HB.out)⟩
  · rw [if_neg c2] at H
    have c2b0 : decide (a0 < 0) = false := decide_eq_false c2
    clear c2
    by_cases c3 : a0 > 65536
    · rw [if_pos c3] at H
      have c3b0 : decide (65536 < a0) = true := decide_eq_true c3
      clear c3
      simp only [Option.some.injEq, Prod.mk.injEq] at H
      obtain ⟨rfl, rfl⟩ := H
      go_enter Try.func15, Try.ntmps15
      go_wp2
      go_ret2
      exact ⟨_, by first | rfl | (simp [errW_none, errW_some] <;> rfl) | (simp [*, errW_none, errW_some] <;> rfl), by first | exact Kd.R_nil _ _ _ _ _ | exact Kd.N_nil _ _ _ _ _ | exact Kd.V_nil _ _ _ _ _ | exact Kd.Q_nil _ _ _ _ _ | exact Kd.S_nil _ _ _ _ _, by repeat (first | (with_reducible first | exact HB.out | apply below_alloc | apply pw_below_drewN | apply below_drew1) | exact HB.out)⟩
    · rw [if_neg c3] at H
      have c3b0 : decide (65536 < a0) = false := decide_eq_false c3
      clear c3
      replace H := Option.bind_eq_some_iff.mp H
      obtain ⟨t101, A40, H⟩ := H
      replace H : (if 0 ≤ t101 then (if (t101 : Int).toNat ≤ 281474976710656 then (some ((List.replicate (t101 : Int).toNat 0), 0)) else (none)) else (none)) = some (r1, r2) := H
      have A4 := Aside0.mk A40
      clear A40
      by_cases c5 : 0 ≤ t101
      · rw [if_pos c5] at H
        have c5b0 := eq_true c5
        have c5b1 : decide (0 ≤ t101) = true := decide_eq_true c5
        clear c5
        by_cases c6 : (t101 : Int).toNat ≤ 281474976710656
        · rw [if_pos c6] at H
          have c6b0 := eq_true c6
          have c6b1 : decide ((t101 : Int).toNat ≤ 281474976710656) = true := decide_eq_true c6
          clear c6
          obtain ⟨y102, hy102⟩ : ∃ y_ : List Int, y_ = (List.replicate (t101 : Int).toNat 0) := ⟨_, rfl⟩
          replace H : (some (y102, 0)) = some (r1, r2) := by first | (rw [hy102]; with_reducible exact H) | (have H2_ := (Option.bind_some _ _).symm.trans H; rw [hy102]; with_reducible exact H2_) | (have H2_ := (Option.bind_some _ _).symm.trans H; with_reducible exact H2_) | with_reducible exact H | (rw [hy102]; exact H) | exact H
          have Ny102 := Aside0.mk hy102
          clear hy102
          simp only [Option.some.injEq, Prod.mk.injEq] at H
          obtain ⟨rfl, rfl⟩ := H
          go_enter Try.func15, Try.ntmps15
          go_wp2_with (first | ((with_reducible refine gate_callee (f := 56) rfl ?_); refine goesL_ (some 11) rfl rfl Try.func56 (by kernel_rfl) rfl #[.int .i64 a0] rfl (by (try simp only [List.map_toArray, List.map_cons, List.map_nil]); first | done | rfl | (simp only [List.length_drop, List.length_take]; rfl)) ?_; (with_reducible refine (bitset_size.calls a0 t101 _ A4.out).mono ?_); rintro e w' ⟨rfl, ⟨nd, rfl⟩⟩; refine ⟨_, rfl, ?_⟩) | ((with_reducible refine gate_dst (N := 12) rfl ?_); refine Kd.R_make (Kd.int .u8) _ 5 rfl (N := 12) rfl 22 _ _ rfl t101 rfl rfl Try.underlying22 (.int .u8 0) 1 info5 rfl (by decide) (by omega) 0 (ok := fun _ => True) (okp := fun _ => True) rfl (fun _ hk => hk) trivial (of_decide_eq_true (by first | (with_reducible assumption) | assumption)) (Nat.le_trans (Nat.mul_le_mul_right _ (of_decide_eq_true (by first | (with_reducible assumption) | assumption) : t101.toNat ≤ 281474976710656)) (by omega)) (Below.refl _ _) (Nat.le_refl _) ?_; intro v103 w7 ho8 hb hg_ hnew_; clear hg_ hnew_; (first | rw [← Ny102.out] at ho8 | (simp only [Int.reduceToNat] at ho8; rw [← Ny102.out] at ho8)); have n0_ := Aside0.mk (Kd.R_lower ho8 (below_size (by repeat (first | (with_reducible first | exact HB.out | apply below_alloc | apply pw_below_drewN | apply below_drew1) | exact HB.out)))); have n1_ := Aside0.mk (below_step (by repeat (first | (with_reducible first | exact HB.out | apply below_alloc | apply pw_below_drewN | apply below_drew1) | exact HB.out)) hb); clear HB; have HO104 := n0_; have HB := n1_; clear n0_ n1_; clear hb ho8))
          go_ret2
          exact ⟨_, by first | rfl | (simp [errW_none, errW_some] <;> rfl) | (simp [*, errW_none, errW_some] <;> rfl), by (with_reducible repeat (first | apply Kd.R_alloc | apply Kd.R_drewN | apply Kd.R_drew)); exact HO104.out, by repeat (first | (with_reducible first | exact HB.out | apply below_alloc | apply pw_below_drewN | apply below_drew1) | exact HB.out)⟩
        · rw [if_neg c6] at H
          exact absurd H (by simp)
      · rw [if_neg c5] at H
        exact absurd H (by simp)

end Go.Proofs.Ytoohpdamndgdlaa.P

-- Made by a program of this session (the print of the kit over a neighbour), for this claim.
namespace Go.Proofs.Ytoohpdamndgdlaa.P
open Go.RowKit Go.Proofs.YtoohpdamndgdlaaW.PrintWords Go.Proofs.YtoohpdamndgdlaaW.PrintLast Go.Proofs.YtoohpdamndgdlaaW.PrintMore
attribute [local go_sem] max2_int min2_int max_two min_two max_three min_three max_four min_four   -- for this text's walks alone
set_option linter.unusedVariables false
set_option linter.unusedSimpArgs false

/-! ### bitset_Check: function 48 -/
def bitset_Check.j0 : Nat → Int → List Int → Bool → Option (Int)
  | 0, _, _, _ => none
  | k + 1, x0, x1, x10 => if x10 = true then (some 40) else ((bitset_size.f x0).bind fun t190 => (if (x1.length : Int) = t190 then (if (Int.tmod x0 8) = 0 then (some 0) else (if 0 ≤ (wrap64 (Int.tdiv x0 8)) then (if (wrap64 (Int.tdiv x0 8)) < (x1.length : Int) then (if 0 ≤ (Int.tmod x0 8) then (if (Go.bits .and .u8 (rd x1 (wrap64 (Int.tdiv x0 8))) (shr .u8 255 (Int.tmod x0 8))) = 0 then (some 0) else (some 42)) else (none)) else (none)) else (none))) else (some 41)))
def bitset_Check.f (k : Nat) (a0 : Int) (l1 : List Int) : Option (Int) := if a0 < 0 then (bitset_Check.j0 k a0 l1 true) else (bitset_Check.j0 k a0 l1 (decide (a0 > 65536)))
theorem bitset_Check.mono_l : ∀ k, (∀ y0 y1 y2, LeO (bitset_Check.j0 k y0 y1 y2) (bitset_Check.j0 (k + 1) y0 y1 y2))
  | 0 => fun _ _ _ r h => by simp [bitset_Check.j0] at h
  | k + 1 => by
    have ih0 := bitset_Check.mono_l k
    · intro y0 y1 y2
      unfold bitset_Check.j0
      repeat' first
      | (with_reducible exact ih0 _ _ _)
      | (with_reducible exact LeO.refl _)
      | (with_reducible exact LeO.none _)
      | (with_reducible refine LeO.ite ?_ ?_)
      | (with_reducible refine LeO.bind ?_ (fun _ => ?_))
      | exact ih0 _ _ _
      | exact LeO.none _
      | refine LeO.ite ?_ ?_
      | refine LeO.bind ?_ (fun _ => ?_)
theorem bitset_Check.mono : ∀ a0 a1 k, LeO (bitset_Check.f k a0 a1) (bitset_Check.f (k + 1) a0 a1) := by
  intro a0 a1 k
  have ih0 := bitset_Check.mono_l k
  unfold bitset_Check.f
  repeat' first
      | (with_reducible exact ih0 _ _ _)
      | (with_reducible exact LeO.refl _)
      | (with_reducible exact LeO.none _)
      | (with_reducible refine LeO.ite ?_ ?_)
      | (with_reducible refine LeO.bind ?_ (fun _ => ?_))
      | exact ih0 _ _ _
      | exact LeO.none _
      | refine LeO.ite ?_ ?_
      | refine LeO.bind ?_ (fun _ => ?_)
set_option maxHeartbeats 8000000 in
set_option maxRecDepth 100000 in
theorem bitset_Check.calls (k : Nat) (a0 : Int) (A1 : Option Addr) (c1 : Nat) (l1 : List Int) (r : Int) (w : World) (hr1 : Kd.C (Kd.int .u8) w A1 l1.length l1) (hc1 : l1.length ≤ c1) (h : bitset_Check.f k a0 l1 = some r) :
    Calls Try.prog 48 #[.int .i64 a0, .slice A1 l1.length c1] w fun e w' => e = .returned (.int .i64 r) ∧ Drawn0 w w' := by
  have HR1 := Aside0.mk hr1
  have HC1 := Aside0.mk hc1
  clear hr1 hc1
  have H : (if a0 < 0 then (bitset_Check.j0 k a0 l1 true) else (bitset_Check.j0 k a0 l1 (decide (a0 > 65536)))) = some r := h
  clear h
  have HC3 := Aside0.mk H
  clear H
  go_enter Try.func48, Try.ntmps48
  go_upto_region 1 with (fail)
  repeat (go_quiet (fail); go_upto_region 1 with (fail))
  go_cut [10] (fun v10 wc => ∃ (kq : Nat) (x10_2 : Bool), v10 = .bool x10_2 ∧ Aside0 (bitset_Check.j0 kq a0 l1 x10_2 = some r) ∧ Aside0 (kq ≤ k) ∧ Drawn0 w wc)
  case first =>
    have H := HC3.out
    clear HC3
    by_cases c4 : a0 < 0
    · rw [if_pos c4] at H
      have c4b0 : decide (a0 < 0) = true := decide_eq_true c4
      clear c4
      (first | rw [c4b0] | (simp only [i64_w, i32_w]; rw [c4b0]) | skip)
      have H' := Aside0.mk H
      clear H
      go_wp2
      repeat (go_quiet (fail); try go_wp2)
      go_meet
      case rel => exact ⟨_, (true), (by first | rfl | (simp; done) | (simp [*]; done)), H', ⟨by first | omega | exact Nat.le_refl _⟩, by repeat (first | exact Drawn0.refl _ | apply Drawn0.step)⟩
    · rw [if_neg c4] at H
      have c4b0 : decide (a0 < 0) = false := decide_eq_false c4
      clear c4
      (first | rw [c4b0] | (simp only [i64_w, i32_w]; rw [c4b0]) | skip)
      have H' := Aside0.mk H
      clear H
      go_wp2
      repeat (go_quiet (fail); try go_wp2)
      go_meet
      case rel => exact ⟨_, (decide (a0 > 65536)), (by first | rfl | (simp; done) | (simp [*]; done)), H', ⟨by first | omega | exact Nat.le_refl _⟩, by repeat (first | exact Drawn0.refl _ | apply Drawn0.step)⟩
  case rest =>
    clear HC3
    try clear c1
    try clear p2
    try clear c4
    try clear c4b0
    obtain ⟨kq, x10_2, rfl, HA, HJ2, ⟨mc2, rfl⟩⟩ := hcut
    cases kq with
    | zero => exact absurd HA.out (by simp [bitset_Check.j0])
    | succ kj2 =>
      have H := HA.out
      clear HA
      simp only [bitset_Check.j0] at H
      by_cases c5 : x10_2 = true
      · subst c5
        have H1 : (some 40) = some r := by rw [if_pos rfl] at H; exact H
        clear H
        have H := H1
        clear H1
        obtain rfl := Option.some.inj H
        go_wp2
        repeat (go_quiet (fail); try go_wp2)
        go_ret
        exact ⟨by first | rfl | (simp; done) | (simp [*]; done), by repeat (first | exact Drawn0.refl _ | apply Drawn0.step)⟩
      · replace c5 := Bool.eq_false_iff.mpr c5
        subst c5
        have H1 : ((bitset_size.f a0).bind fun t190 => (if (l1.length : Int) = t190 then (if (Int.tmod a0 8) = 0 then (some 0) else (if 0 ≤ (wrap64 (Int.tdiv a0 8)) then (if (wrap64 (Int.tdiv a0 8)) < (l1.length : Int) then (if 0 ≤ (Int.tmod a0 8) then (if (Go.bits .and .u8 (rd l1 (wrap64 (Int.tdiv a0 8))) (shr .u8 255 (Int.tmod a0 8))) = 0 then (some 0) else (some 42)) else (none)) else (none)) else (none))) else (some 41))) = some r := by rw [if_neg (show ¬ (false = true) by decide)] at H; exact H
        clear H
        have H := H1
        clear H1
        replace H := Option.bind_eq_some_iff.mp H
        obtain ⟨t190, A60, H⟩ := H
        replace H : (if (l1.length : Int) = t190 then (if (Int.tmod a0 8) = 0 then (some 0) else (if 0 ≤ (wrap64 (Int.tdiv a0 8)) then (if (wrap64 (Int.tdiv a0 8)) < (l1.length : Int) then (if 0 ≤ (Int.tmod a0 8) then (if (Go.bits .and .u8 (rd l1 (wrap64 (Int.tdiv a0 8))) (shr .u8 255 (Int.tmod a0 8))) = 0 then (some 0) else (some 42)) else (none)) else (none)) else (none))) else (some 41)) = some r := H
        have A6 := Aside0.mk A60
        clear A60
        by_cases c7 : (l1.length : Int) = t190
        · rw [if_pos c7] at H
          have c7b0 : ((l1.length : Int) == t190) = true := beq_iff_eq.mpr c7
          have c7b1 : ((l1.length : Int) != t190) = false := bne_eq_false_iff_eq.mpr c7
          clear c7
          by_cases c8 : (Int.tmod a0 8) = 0
          · rw [if_pos c8] at H
            have c8b0 : ((Int.tmod a0 8) == 0) = true := beq_iff_eq.mpr c8
            have c8b1 : ((Int.tmod a0 8) != 0) = false := bne_eq_false_iff_eq.mpr c8
            clear c8
            obtain rfl := Option.some.inj H
            go_wp2_with (first | (go_at_call 56; (with_reducible refine (bitset_size.calls a0 t190 _ A6.out).mono ?_); rintro e w' ⟨rfl, ⟨nd, rfl⟩⟩; (try first | exact ⟨rfl, _, World.drewN_drewN _ _ _⟩ | exact ⟨rfl, _, Eq.trans (World.drewN_drewN _ _ _) (congrArg (World.drewN _) (Nat.add_assoc _ _ _))⟩)))
            repeat (go_quiet (first | (go_at_call 56; (with_reducible refine (bitset_size.calls a0 t190 _ A6.out).mono ?_); rintro e w' ⟨rfl, ⟨nd, rfl⟩⟩; (try first | exact ⟨rfl, _, World.drewN_drewN _ _ _⟩ | exact ⟨rfl, _, Eq.trans (World.drewN_drewN _ _ _) (congrArg (World.drewN _) (Nat.add_assoc _ _ _))⟩))); try go_wp2_with (first | (go_at_call 56; (with_reducible refine (bitset_size.calls a0 t190 _ A6.out).mono ?_); rintro e w' ⟨rfl, ⟨nd, rfl⟩⟩; (try first | exact ⟨rfl, _, World.drewN_drewN _ _ _⟩ | exact ⟨rfl, _, Eq.trans (World.drewN_drewN _ _ _) (congrArg (World.drewN _) (Nat.add_assoc _ _ _))⟩))))
            go_ret
            exact ⟨by first | rfl | (simp; done) | (simp [*]; done), by repeat (first | exact Drawn0.refl _ | apply Drawn0.step)⟩
          · rw [if_neg c8] at H
            have c8b0 : ((Int.tmod a0 8) == 0) = false := beq_eq_false_iff_ne.mpr c8
            have c8b1 : ((Int.tmod a0 8) != 0) = true := bne_iff_ne.mpr c8
            obtain ⟨ji9, hji9⟩ : ∃ j_ : Int, (wrap64 (Int.tdiv a0 8)) = j_ := ⟨_, rfl⟩
            replace H : (if 0 ≤ (ji9) then (if (ji9) < (l1.length : Int) then (if 0 ≤ (Int.tmod a0 8) then (if (Go.bits .and .u8 (rd l1 (ji9)) (shr .u8 255 (Int.tmod a0 8))) = 0 then (some 0) else (some 42)) else (none)) else (none)) else (none)) = some r := by first | (rw [hji9] at H; exact H) | (simp only [hji9] at H ⊢; exact H)
            (try rw [hji9] at A6)
            have hji9w : (IntKind.i64.wrap (Int.tdiv a0 8)) = ji9 := (i64_w _).trans hji9
            by_cases c10 : 0 ≤ (ji9)
            · rw [if_pos c10] at H
              have c10b0 : decide (0 ≤ (ji9)) = true := decide_eq_true c10
              clear c10
              by_cases c11 : (ji9) < (l1.length : Int)
              · rw [if_pos c11] at H
                have c11b0 : decide ((ji9) < (l1.length : Int)) = true := decide_eq_true c11
                clear c11
                obtain ⟨ji12, hji12⟩ : ∃ j_ : Int, (Int.tmod a0 8) = j_ := ⟨_, rfl⟩
                replace H : (if 0 ≤ (ji12) then (if (Go.bits .and .u8 (rd l1 (ji9)) (shr .u8 255 (ji12))) = 0 then (some 0) else (some 42)) else (none)) = some r := by first | (rw [hji12] at H; exact H) | (simp only [hji12] at H ⊢; exact H)
                (try rw [hji12] at c8b0)
                (try rw [hji12] at c8b1)
                (try rw [hji12] at A6)
                by_cases c13 : 0 ≤ (ji12)
                · rw [if_pos c13] at H
                  have c13b0 := eq_true c13
                  have c13b1 : decide (0 ≤ (ji12)) = true := decide_eq_true c13
                  clear c13
                  obtain ⟨ji14, hji14⟩ : ∃ j_ : Int, (shr .u8 255 (ji12)) = j_ := ⟨_, rfl⟩
                  replace H : (if (Go.bits .and .u8 (rd l1 (ji9)) (ji14)) = 0 then (some 0) else (some 42)) = some r := by first | (rw [hji14] at H; exact H) | (simp only [hji14] at H ⊢; exact H)
                  (try rw [hji14] at A6)
                  have hji14_ : (255 / 2 ^ min (ji12).toNat 8) = ji14 := hji14
                  have hji14z : (ji12) ≤ 8 → (255 / 2 ^ (ji12).toNat) = ji14 := shr_small hji14
                  by_cases c15 : (Go.bits .and .u8 (rd l1 (ji9)) (ji14)) = 0
                  · rw [if_pos c15] at H
                    have c15b0 : ((Go.bits .and .u8 (rd l1 (ji9)) (ji14)) == 0) = true := beq_iff_eq.mpr c15
                    have c15b1 : ((Go.bits .and .u8 (rd l1 (ji9)) (ji14)) != 0) = false := bne_eq_false_iff_eq.mpr c15
                    clear c15
                    obtain rfl := Option.some.inj H
                    go_wp2_with (first | (go_at_call 56; (with_reducible refine (bitset_size.calls a0 t190 _ A6.out).mono ?_); rintro e w' ⟨rfl, ⟨nd, rfl⟩⟩; (try first | exact ⟨rfl, _, World.drewN_drewN _ _ _⟩ | exact ⟨rfl, _, Eq.trans (World.drewN_drewN _ _ _) (congrArg (World.drewN _) (Nat.add_assoc _ _ _))⟩); have p191 : 0 ≤ ((ji9) : Int) := of_decide_eq_true (by first | (with_reducible assumption) | assumption); have q191 : (ji9) < (l1.length : Int) := of_decide_eq_true (by first | (with_reducible assumption) | assumption); obtain ⟨ad191, e191, hx191_0⟩ := Kd.at_int HR1.out (ji9) p191 q191; cases e191; replace p191 := eq_true p191; replace q191 := eq_true q191))
                    repeat (go_quiet (first | (go_at_call 56; (with_reducible refine (bitset_size.calls a0 t190 _ A6.out).mono ?_); rintro e w' ⟨rfl, ⟨nd, rfl⟩⟩; (try first | exact ⟨rfl, _, World.drewN_drewN _ _ _⟩ | exact ⟨rfl, _, Eq.trans (World.drewN_drewN _ _ _) (congrArg (World.drewN _) (Nat.add_assoc _ _ _))⟩); have p191 : 0 ≤ ((ji9) : Int) := of_decide_eq_true (by first | (with_reducible assumption) | assumption); have q191 : (ji9) < (l1.length : Int) := of_decide_eq_true (by first | (with_reducible assumption) | assumption); obtain ⟨ad191, e191, hx191_0⟩ := Kd.at_int HR1.out (ji9) p191 q191; cases e191; replace p191 := eq_true p191; replace q191 := eq_true q191)); try go_wp2_with (first | (go_at_call 56; (with_reducible refine (bitset_size.calls a0 t190 _ A6.out).mono ?_); rintro e w' ⟨rfl, ⟨nd, rfl⟩⟩; (try first | exact ⟨rfl, _, World.drewN_drewN _ _ _⟩ | exact ⟨rfl, _, Eq.trans (World.drewN_drewN _ _ _) (congrArg (World.drewN _) (Nat.add_assoc _ _ _))⟩); have p191 : 0 ≤ ((ji9) : Int) := of_decide_eq_true (by first | (with_reducible assumption) | assumption); have q191 : (ji9) < (l1.length : Int) := of_decide_eq_true (by first | (with_reducible assumption) | assumption); obtain ⟨ad191, e191, hx191_0⟩ := Kd.at_int HR1.out (ji9) p191 q191; cases e191; replace p191 := eq_true p191; replace q191 := eq_true q191)))
                    go_ret
                    exact ⟨by first | rfl | (simp; done) | (simp only [← hji9, ← hji12, ← hji14] <;> (first | rfl | simp)) | (simp [*]; done), by repeat (first | exact Drawn0.refl _ | apply Drawn0.step)⟩
                  · rw [if_neg c15] at H
                    have c15b0 : ((Go.bits .and .u8 (rd l1 (ji9)) (ji14)) == 0) = false := beq_eq_false_iff_ne.mpr c15
                    have c15b1 : ((Go.bits .and .u8 (rd l1 (ji9)) (ji14)) != 0) = true := bne_iff_ne.mpr c15
                    obtain rfl := Option.some.inj H
                    go_wp2_with (first | (go_at_call 56; (with_reducible refine (bitset_size.calls a0 t190 _ A6.out).mono ?_); rintro e w' ⟨rfl, ⟨nd, rfl⟩⟩; (try first | exact ⟨rfl, _, World.drewN_drewN _ _ _⟩ | exact ⟨rfl, _, Eq.trans (World.drewN_drewN _ _ _) (congrArg (World.drewN _) (Nat.add_assoc _ _ _))⟩); have p191 : 0 ≤ ((ji9) : Int) := of_decide_eq_true (by first | (with_reducible assumption) | assumption); have q191 : (ji9) < (l1.length : Int) := of_decide_eq_true (by first | (with_reducible assumption) | assumption); obtain ⟨ad191, e191, hx191_0⟩ := Kd.at_int HR1.out (ji9) p191 q191; cases e191; replace p191 := eq_true p191; replace q191 := eq_true q191))
                    repeat (go_quiet (first | (go_at_call 56; (with_reducible refine (bitset_size.calls a0 t190 _ A6.out).mono ?_); rintro e w' ⟨rfl, ⟨nd, rfl⟩⟩; (try first | exact ⟨rfl, _, World.drewN_drewN _ _ _⟩ | exact ⟨rfl, _, Eq.trans (World.drewN_drewN _ _ _) (congrArg (World.drewN _) (Nat.add_assoc _ _ _))⟩); have p191 : 0 ≤ ((ji9) : Int) := of_decide_eq_true (by first | (with_reducible assumption) | assumption); have q191 : (ji9) < (l1.length : Int) := of_decide_eq_true (by first | (with_reducible assumption) | assumption); obtain ⟨ad191, e191, hx191_0⟩ := Kd.at_int HR1.out (ji9) p191 q191; cases e191; replace p191 := eq_true p191; replace q191 := eq_true q191)); try go_wp2_with (first | (go_at_call 56; (with_reducible refine (bitset_size.calls a0 t190 _ A6.out).mono ?_); rintro e w' ⟨rfl, ⟨nd, rfl⟩⟩; (try first | exact ⟨rfl, _, World.drewN_drewN _ _ _⟩ | exact ⟨rfl, _, Eq.trans (World.drewN_drewN _ _ _) (congrArg (World.drewN _) (Nat.add_assoc _ _ _))⟩); have p191 : 0 ≤ ((ji9) : Int) := of_decide_eq_true (by first | (with_reducible assumption) | assumption); have q191 : (ji9) < (l1.length : Int) := of_decide_eq_true (by first | (with_reducible assumption) | assumption); obtain ⟨ad191, e191, hx191_0⟩ := Kd.at_int HR1.out (ji9) p191 q191; cases e191; replace p191 := eq_true p191; replace q191 := eq_true q191)))
                    go_ret
                    exact ⟨by first | rfl | (simp; done) | (simp only [← hji9, ← hji12, ← hji14] <;> (first | rfl | simp)) | (simp [*]; done), by repeat (first | exact Drawn0.refl _ | apply Drawn0.step)⟩
                · rw [if_neg c13] at H
                  exact absurd H (by simp)
              · rw [if_neg c11] at H
                exact absurd H (by simp)
            · rw [if_neg c10] at H
              exact absurd H (by simp)
        · rw [if_neg c7] at H
          have c7b0 : ((l1.length : Int) == t190) = false := beq_eq_false_iff_ne.mpr c7
          have c7b1 : ((l1.length : Int) != t190) = true := bne_iff_ne.mpr c7
          obtain rfl := Option.some.inj H
          go_wp2_with (first | (go_at_call 56; (with_reducible refine (bitset_size.calls a0 t190 _ A6.out).mono ?_); rintro e w' ⟨rfl, ⟨nd, rfl⟩⟩; (try first | exact ⟨rfl, _, World.drewN_drewN _ _ _⟩ | exact ⟨rfl, _, Eq.trans (World.drewN_drewN _ _ _) (congrArg (World.drewN _) (Nat.add_assoc _ _ _))⟩)))
          repeat (go_quiet (first | (go_at_call 56; (with_reducible refine (bitset_size.calls a0 t190 _ A6.out).mono ?_); rintro e w' ⟨rfl, ⟨nd, rfl⟩⟩; (try first | exact ⟨rfl, _, World.drewN_drewN _ _ _⟩ | exact ⟨rfl, _, Eq.trans (World.drewN_drewN _ _ _) (congrArg (World.drewN _) (Nat.add_assoc _ _ _))⟩))); try go_wp2_with (first | (go_at_call 56; (with_reducible refine (bitset_size.calls a0 t190 _ A6.out).mono ?_); rintro e w' ⟨rfl, ⟨nd, rfl⟩⟩; (try first | exact ⟨rfl, _, World.drewN_drewN _ _ _⟩ | exact ⟨rfl, _, Eq.trans (World.drewN_drewN _ _ _) (congrArg (World.drewN _) (Nat.add_assoc _ _ _))⟩))))
          go_ret
          exact ⟨by first | rfl | (simp; done) | (simp [*]; done), by repeat (first | exact Drawn0.refl _ | apply Drawn0.step)⟩

end Go.Proofs.Ytoohpdamndgdlaa.P

-- Made by a program of this session (the print of the kit over a neighbour), for this claim.
namespace Go.Proofs.Ytoohpdamndgdlaa.P
open Go.RowKit Go.Proofs.YtoohpdamndgdlaaW.PrintWords Go.Proofs.YtoohpdamndgdlaaW.PrintLast Go.Proofs.YtoohpdamndgdlaaW.PrintMore
attribute [local go_sem] max2_int min2_int max_two min_two max_three min_three max_four min_four   -- for this text's walks alone
set_option linter.unusedVariables false
set_option linter.unusedSimpArgs false

/-! ### bitset_at: function 63 -/
def bitset_at.f (k : Nat) (a0 : Int) (l1 : List Int) (a2 : Int) : Option (Int) := (bitset_Check.f k a0 l1).bind fun t255 => (if t255 = 0 then (if a2 < 0 then (some 43) else (if a2 ≥ a0 then (some 43) else (some 0))) else (some t255))
theorem bitset_at.mono : ∀ a0 a1 a2 k, LeO (bitset_at.f k a0 a1 a2) (bitset_at.f (k + 1) a0 a1 a2) := by
  intro a0 a1 a2 k
  unfold bitset_at.f
  repeat' first
      | (with_reducible exact bitset_Check.mono _ _ _)
      | (with_reducible exact LeO.refl _)
      | (with_reducible exact LeO.none _)
      | (with_reducible refine LeO.ite ?_ ?_)
      | (with_reducible refine LeO.bind ?_ (fun _ => ?_))
      | exact bitset_Check.mono _ _ _
      | exact LeO.none _
      | refine LeO.ite ?_ ?_
      | refine LeO.bind ?_ (fun _ => ?_)
set_option maxHeartbeats 8000000 in
set_option maxRecDepth 100000 in
theorem bitset_at.calls (k : Nat) (a0 : Int) (A1 : Option Addr) (c1 : Nat) (l1 : List Int) (a2 : Int) (r : Int) (w : World) (hr1 : Kd.C (Kd.int .u8) w A1 l1.length l1) (hc1 : l1.length ≤ c1) (h : bitset_at.f k a0 l1 a2 = some r) :
    Calls Try.prog 63 #[.int .i64 a0, .slice A1 l1.length c1, .int .i64 a2] w fun e w' => e = .returned (.int .i64 r) ∧ Drawn0 w w' := by
  have HR1 := Aside0.mk hr1
  have HC1 := Aside0.mk hc1
  clear hr1 hc1
  have H : ((bitset_Check.f k a0 l1).bind fun t255 => (if t255 = 0 then (if a2 < 0 then (some 43) else (if a2 ≥ a0 then (some 43) else (some 0))) else (some t255))) = some r := h
  clear h
  replace H := Option.bind_eq_some_iff.mp H
  obtain ⟨t255, A40, H⟩ := H
  replace H : (if t255 = 0 then (if a2 < 0 then (some 43) else (if a2 ≥ a0 then (some 43) else (some 0))) else (some t255)) = some r := H
  have A4 := Aside0.mk A40
  clear A40
  by_cases c5 : t255 = 0
  · rw [if_pos c5] at H
    have c5b0 : (t255 == 0) = true := beq_iff_eq.mpr c5
    have c5b1 : (t255 != 0) = false := bne_eq_false_iff_eq.mpr c5
    clear c5
    by_cases c6 : a2 < 0
    · rw [if_pos c6] at H
      have c6b0 : decide (a2 < 0) = true := decide_eq_true c6
      clear c6
      obtain rfl := Option.some.inj H
      go_enter Try.func63, Try.ntmps63
      go_wp2_with (first | ((with_reducible refine gate_callee (f := 48) rfl ?_); refine goesL_ (some 10) rfl rfl Try.func48 (by kernel_rfl) rfl #[.int .i64 a0, .slice A1 l1.length c1] rfl (by (try simp only [List.map_toArray, List.map_cons, List.map_nil]); first | done | rfl | (simp only [List.length_drop, List.length_take]; rfl)) ?_; (with_reducible refine (bitset_Check.calls k a0 _ _ l1 t255 _ ?side1 ?side2 A4.out).mono ?_); (case side1 => repeat (first | exact HR1.out | (with_reducible refine Kd.C_alloc ?_ _) | (with_reducible refine Kd.C_drewN ?_ _) | (with_reducible refine Kd.C_drew ?_))); (case side2 => exact HC1.out); rintro e w' ⟨rfl, ⟨nd, rfl⟩⟩; refine ⟨_, rfl, ?_⟩))
      go_ret
      exact ⟨by first | rfl | (simp; done) | (simp [*]; done), by repeat (first | exact Drawn0.refl _ | apply Drawn0.step)⟩
    · rw [if_neg c6] at H
      have c6b0 : decide (a2 < 0) = false := decide_eq_false c6
      clear c6
      by_cases c7 : a2 ≥ a0
      · rw [if_pos c7] at H
        have c7b0 : decide (a0 ≤ a2) = true := decide_eq_true c7
        clear c7
        obtain rfl := Option.some.inj H
        go_enter Try.func63, Try.ntmps63
        go_wp2_with (first | ((with_reducible refine gate_callee (f := 48) rfl ?_); refine goesL_ (some 10) rfl rfl Try.func48 (by kernel_rfl) rfl #[.int .i64 a0, .slice A1 l1.length c1] rfl (by (try simp only [List.map_toArray, List.map_cons, List.map_nil]); first | done | rfl | (simp only [List.length_drop, List.length_take]; rfl)) ?_; (with_reducible refine (bitset_Check.calls k a0 _ _ l1 t255 _ ?side1 ?side2 A4.out).mono ?_); (case side1 => repeat (first | exact HR1.out | (with_reducible refine Kd.C_alloc ?_ _) | (with_reducible refine Kd.C_drewN ?_ _) | (with_reducible refine Kd.C_drew ?_))); (case side2 => exact HC1.out); rintro e w' ⟨rfl, ⟨nd, rfl⟩⟩; refine ⟨_, rfl, ?_⟩))
        go_ret
        exact ⟨by first | rfl | (simp; done) | (simp [*]; done), by repeat (first | exact Drawn0.refl _ | apply Drawn0.step)⟩
      · rw [if_neg c7] at H
        have c7b0 : decide (a0 ≤ a2) = false := decide_eq_false c7
        clear c7
        obtain rfl := Option.some.inj H
        go_enter Try.func63, Try.ntmps63
        go_wp2_with (first | ((with_reducible refine gate_callee (f := 48) rfl ?_); refine goesL_ (some 10) rfl rfl Try.func48 (by kernel_rfl) rfl #[.int .i64 a0, .slice A1 l1.length c1] rfl (by (try simp only [List.map_toArray, List.map_cons, List.map_nil]); first | done | rfl | (simp only [List.length_drop, List.length_take]; rfl)) ?_; (with_reducible refine (bitset_Check.calls k a0 _ _ l1 t255 _ ?side1 ?side2 A4.out).mono ?_); (case side1 => repeat (first | exact HR1.out | (with_reducible refine Kd.C_alloc ?_ _) | (with_reducible refine Kd.C_drewN ?_ _) | (with_reducible refine Kd.C_drew ?_))); (case side2 => exact HC1.out); rintro e w' ⟨rfl, ⟨nd, rfl⟩⟩; refine ⟨_, rfl, ?_⟩))
        go_ret
        exact ⟨by first | rfl | (simp; done) | (simp [*]; done), by repeat (first | exact Drawn0.refl _ | apply Drawn0.step)⟩
  · rw [if_neg c5] at H
    have c5b0 : (t255 == 0) = false := beq_eq_false_iff_ne.mpr c5
    have c5b1 : (t255 != 0) = true := bne_iff_ne.mpr c5
    obtain rfl := Option.some.inj H
    go_enter Try.func63, Try.ntmps63
    go_wp2_with (first | ((with_reducible refine gate_callee (f := 48) rfl ?_); refine goesL_ (some 10) rfl rfl Try.func48 (by kernel_rfl) rfl #[.int .i64 a0, .slice A1 l1.length c1] rfl (by (try simp only [List.map_toArray, List.map_cons, List.map_nil]); first | done | rfl | (simp only [List.length_drop, List.length_take]; rfl)) ?_; (with_reducible refine (bitset_Check.calls k a0 _ _ l1 t255 _ ?side1 ?side2 A4.out).mono ?_); (case side1 => repeat (first | exact HR1.out | (with_reducible refine Kd.C_alloc ?_ _) | (with_reducible refine Kd.C_drewN ?_ _) | (with_reducible refine Kd.C_drew ?_))); (case side2 => exact HC1.out); rintro e w' ⟨rfl, ⟨nd, rfl⟩⟩; refine ⟨_, rfl, ?_⟩))
    go_ret
    exact ⟨by first | rfl | (simp; done) | (simp [*]; done), by repeat (first | exact Drawn0.refl _ | apply Drawn0.step)⟩

end Go.Proofs.Ytoohpdamndgdlaa.P

/- The call of bitset.masks: it answers the array of the eight masks, and what stood in memory stays. No condition. -/
namespace Go.Proofs.Ytoohpdamndgdlaa.P
open Go.RowKit Go.Proofs.YtoohpdamndgdlaaW.PrintWords Go.Proofs.YtoohpdamndgdlaaW.PrintMore

/-- The eight masks, as one value. -/
def maskV : Value := .agg #[.int .u8 128, .int .u8 64, .int .u8 32, .int .u8 16, .int .u8 8, .int .u8 4, .int .u8 2, .int .u8 1]

theorem masks_calls (w : World) : Calls Try.prog 58 #[] w fun e w' => e = .returned maskV ∧ Below w.heap.size w w' := by
  go_enter Try.func58, Try.ntmps58
  go_wp2
  refine bodyPost_ret (v := maskV) (by simp [results, Try.results58, go_sem, maskV]) rfl ⟨rfl, ?_⟩
  exact (Below.refl _ _).alloc (Nat.le_refl _) _

def MaskAt (j : Int) : Prop := ∀ w : World, (Instr.index 68 maskV (.int .i64 j)).run Try.prog w = .ok (.int .u8 (shr .u8 128 j)) w
theorem mask_at0 : MaskAt 0 := fun w => by kernel_rfl
theorem mask_at1 : MaskAt 1 := fun w => by kernel_rfl
theorem mask_at2 : MaskAt 2 := fun w => by kernel_rfl
theorem mask_at3 : MaskAt 3 := fun w => by kernel_rfl
theorem mask_at4 : MaskAt 4 := fun w => by kernel_rfl
theorem mask_at5 : MaskAt 5 := fun w => by kernel_rfl
theorem mask_at6 : MaskAt 6 := fun w => by kernel_rfl
theorem mask_at7 : MaskAt 7 := fun w => by kernel_rfl
theorem mask_at (j : Int) (h0 : 0 ≤ j) (h8 : j < 8) : MaskAt j := by
  have h : j = 0 ∨ j = 1 ∨ j = 2 ∨ j = 3 ∨ j = 4 ∨ j = 5 ∨ j = 6 ∨ j = 7 := by omega
  rcases h with rfl | rfl | rfl | rfl | rfl | rfl | rfl | rfl
  · exact mask_at0
  · exact mask_at1
  · exact mask_at2
  · exact mask_at3
  · exact mask_at4
  · exact mask_at5
  · exact mask_at6
  · exact mask_at7
theorem tmod8_lt (x : Int) : Int.tmod x 8 < 8 := Int.tmod_lt_of_pos x (by decide)
end Go.Proofs.Ytoohpdamndgdlaa.P

-- Made by a program of this session (the print of the kit over a neighbour), for this claim.
namespace Go.Proofs.Ytoohpdamndgdlaa.P
open Go.RowKit Go.Proofs.YtoohpdamndgdlaaW.PrintWords Go.Proofs.YtoohpdamndgdlaaW.PrintLast Go.Proofs.YtoohpdamndgdlaaW.PrintMore
attribute [local go_sem] max2_int min2_int max_two min_two max_three min_three max_four min_four   -- for this text's walks alone
set_option linter.unusedVariables false
set_option linter.unusedSimpArgs false

/-! ### bitset_Put: function 33 -/
def bitset_Put.f (k : Nat) (a0 : Int) (l1 : List Int) (a2 : Int) (a3 : Bool) : Option (List Int × Int) := (bitset_at.f k a0 l1 a2).bind fun t263 => (if t263 = 0 then (if ([] : List Int).length + l1.length < 140737488355328 then ((some (([] : List Int) ++ l1 : List Int)).bind fun y264 => (if a3 = true then (if 0 ≤ (wrap64 (Int.tdiv a2 8)) then (if (wrap64 (Int.tdiv a2 8)) < (y264.length : Int) then (if 0 ≤ (Int.tmod a2 8) then (some ((y264.set ((wrap64 (Int.tdiv a2 8)) : Int).toNat (Go.bits .or .u8 (rd y264 (wrap64 (Int.tdiv a2 8))) (shr .u8 128 (Int.tmod a2 8)))), 0)) else (none)) else (none)) else (none)) else (if 0 ≤ (wrap64 (Int.tdiv a2 8)) then (if (wrap64 (Int.tdiv a2 8)) < (y264.length : Int) then (if 0 ≤ (Int.tmod a2 8) then (some ((y264.set ((wrap64 (Int.tdiv a2 8)) : Int).toNat (Go.bits .andNot .u8 (rd y264 (wrap64 (Int.tdiv a2 8))) (shr .u8 128 (Int.tmod a2 8)))), 0)) else (none)) else (none)) else (none)))) else (none)) else (some (([] : List Int), t263)))
theorem bitset_Put.mono : ∀ a0 a1 a2 a3 k, LeO (bitset_Put.f k a0 a1 a2 a3) (bitset_Put.f (k + 1) a0 a1 a2 a3) := by
  intro a0 a1 a2 a3 k
  unfold bitset_Put.f
  repeat' first
      | (with_reducible exact bitset_at.mono _ _ _ _)
      | (with_reducible exact LeO.refl _)
      | (with_reducible exact LeO.none _)
      | (with_reducible refine LeO.ite ?_ ?_)
      | (with_reducible refine LeO.bind ?_ (fun _ => ?_))
      | exact bitset_at.mono _ _ _ _
      | exact LeO.none _
      | refine LeO.ite ?_ ?_
      | refine LeO.bind ?_ (fun _ => ?_)
set_option maxHeartbeats 4000000 in
set_option maxRecDepth 100000 in
theorem bitset_Put.calls (k : Nat) (a0 : Int) (A1 : Option Addr) (c1 : Nat) (l1 : List Int) (a2 : Int) (a3 : Bool) (r1 : List Int) (r2 : Int) (w : World) (hr1 : Kd.C (Kd.int .u8) w A1 l1.length l1) (hc1 : l1.length ≤ c1) (h : bitset_Put.f k a0 l1 a2 a3 = some (r1, r2)) :
    Calls Try.prog 33 #[.int .i64 a0, .slice A1 l1.length c1, .int .i64 a2, .bool a3] w fun e w' => ∃ v0_ : Value, e = .returned (.tuple #[v0_, .int .i64 r2]) ∧ Kd.R (Kd.int .u8) 5 w' w.heap.size (fun _ => True) v0_ r1 ∧ Below w.heap.size w w' := by
  have HR1 := Aside0.mk hr1
  have HC1 := Aside0.mk hc1
  clear hr1 hc1
  have HB := Aside0.mk (Below.refl w.heap.size w)
  have H : ((bitset_at.f k a0 l1 a2).bind fun t263 => (if t263 = 0 then (if ([] : List Int).length + l1.length < 140737488355328 then ((some (([] : List Int) ++ l1 : List Int)).bind fun y264 => (if a3 = true then (if 0 ≤ (wrap64 (Int.tdiv a2 8)) then (if (wrap64 (Int.tdiv a2 8)) < (y264.length : Int) then (if 0 ≤ (Int.tmod a2 8) then (some ((y264.set ((wrap64 (Int.tdiv a2 8)) : Int).toNat (Go.bits .or .u8 (rd y264 (wrap64 (Int.tdiv a2 8))) (shr .u8 128 (Int.tmod a2 8)))), 0)) else (none)) else (none)) else (none)) else (if 0 ≤ (wrap64 (Int.tdiv a2 8)) then (if (wrap64 (Int.tdiv a2 8)) < (y264.length : Int) then (if 0 ≤ (Int.tmod a2 8) then (some ((y264.set ((wrap64 (Int.tdiv a2 8)) : Int).toNat (Go.bits .andNot .u8 (rd y264 (wrap64 (Int.tdiv a2 8))) (shr .u8 128 (Int.tmod a2 8)))), 0)) else (none)) else (none)) else (none)))) else (none)) else (some (([] : List Int), t263)))) = some (r1, r2) := h
  clear h
  replace H := Option.bind_eq_some_iff.mp H
  obtain ⟨t263, A50, H⟩ := H
  replace H : (if t263 = 0 then (if ([] : List Int).length + l1.length < 140737488355328 then ((some (([] : List Int) ++ l1 : List Int)).bind fun y264 => (if a3 = true then (if 0 ≤ (wrap64 (Int.tdiv a2 8)) then (if (wrap64 (Int.tdiv a2 8)) < (y264.length : Int) then (if 0 ≤ (Int.tmod a2 8) then (some ((y264.set ((wrap64 (Int.tdiv a2 8)) : Int).toNat (Go.bits .or .u8 (rd y264 (wrap64 (Int.tdiv a2 8))) (shr .u8 128 (Int.tmod a2 8)))), 0)) else (none)) else (none)) else (none)) else (if 0 ≤ (wrap64 (Int.tdiv a2 8)) then (if (wrap64 (Int.tdiv a2 8)) < (y264.length : Int) then (if 0 ≤ (Int.tmod a2 8) then (some ((y264.set ((wrap64 (Int.tdiv a2 8)) : Int).toNat (Go.bits .andNot .u8 (rd y264 (wrap64 (Int.tdiv a2 8))) (shr .u8 128 (Int.tmod a2 8)))), 0)) else (none)) else (none)) else (none)))) else (none)) else (some (([] : List Int), t263))) = some (r1, r2) := H
  have A5 := Aside0.mk A50
  clear A50
  by_cases c6 : t263 = 0
  · rw [if_pos c6] at H
    have c6b0 : (t263 == 0) = true := beq_iff_eq.mpr c6
    have c6b1 : (t263 != 0) = false := bne_eq_false_iff_eq.mpr c6
    clear c6
    by_cases c7 : ([] : List Int).length + l1.length < 140737488355328
    · rw [if_pos c7] at H
      have LMc7 := Aside0.mk c7
      clear c7
      obtain ⟨y264, hy264⟩ : ∃ y_ : List Int, y_ = (([] : List Int) ++ l1) := ⟨_, rfl⟩
      replace H : (if a3 = true then (if 0 ≤ (wrap64 (Int.tdiv a2 8)) then (if (wrap64 (Int.tdiv a2 8)) < (y264.length : Int) then (if 0 ≤ (Int.tmod a2 8) then (some ((y264.set ((wrap64 (Int.tdiv a2 8)) : Int).toNat (Go.bits .or .u8 (rd y264 (wrap64 (Int.tdiv a2 8))) (shr .u8 128 (Int.tmod a2 8)))), 0)) else (none)) else (none)) else (none)) else (if 0 ≤ (wrap64 (Int.tdiv a2 8)) then (if (wrap64 (Int.tdiv a2 8)) < (y264.length : Int) then (if 0 ≤ (Int.tmod a2 8) then (some ((y264.set ((wrap64 (Int.tdiv a2 8)) : Int).toNat (Go.bits .andNot .u8 (rd y264 (wrap64 (Int.tdiv a2 8))) (shr .u8 128 (Int.tmod a2 8)))), 0)) else (none)) else (none)) else (none))) = some (r1, r2) := by first | (rw [hy264]; with_reducible exact H) | (have H2_ := (Option.bind_some _ _).symm.trans H; rw [hy264]; with_reducible exact H2_) | (have H2_ := (Option.bind_some _ _).symm.trans H; with_reducible exact H2_) | with_reducible exact H | (rw [hy264]; exact H) | exact H
      have Ny264 := Aside0.mk hy264
      clear hy264
      by_cases c8 : a3 = true
      · subst c8
        have H1 : (if 0 ≤ (wrap64 (Int.tdiv a2 8)) then (if (wrap64 (Int.tdiv a2 8)) < (y264.length : Int) then (if 0 ≤ (Int.tmod a2 8) then (some ((y264.set ((wrap64 (Int.tdiv a2 8)) : Int).toNat (Go.bits .or .u8 (rd y264 (wrap64 (Int.tdiv a2 8))) (shr .u8 128 (Int.tmod a2 8)))), 0)) else (none)) else (none)) else (none)) = some (r1, r2) := by rw [if_pos rfl] at H; exact H
        clear H
        have H := H1
        clear H1
        obtain ⟨ji9, hji9⟩ : ∃ j_ : Int, (wrap64 (Int.tdiv a2 8)) = j_ := ⟨_, rfl⟩
        replace H : (if 0 ≤ (ji9) then (if (ji9) < (y264.length : Int) then (if 0 ≤ (Int.tmod a2 8) then (some ((y264.set ((ji9) : Int).toNat (Go.bits .or .u8 (rd y264 (ji9)) (shr .u8 128 (Int.tmod a2 8)))), 0)) else (none)) else (none)) else (none)) = some (r1, r2) := by first | (rw [hji9] at H; exact H) | (simp only [hji9] at H ⊢; exact H)
        (try rw [hji9] at A5)
        have hji9w : (IntKind.i64.wrap (Int.tdiv a2 8)) = ji9 := (i64_w _).trans hji9
        by_cases c10 : 0 ≤ (ji9)
        · rw [if_pos c10] at H
          have c10b0 : decide (0 ≤ (ji9)) = true := decide_eq_true c10
          clear c10
          by_cases c11 : (ji9) < (y264.length : Int)
          · rw [if_pos c11] at H
            have c11b0 : decide ((ji9) < (y264.length : Int)) = true := decide_eq_true c11
            clear c11
            obtain ⟨ji12, hji12⟩ : ∃ j_ : Int, (Int.tmod a2 8) = j_ := ⟨_, rfl⟩
            replace H : (if 0 ≤ (ji12) then (some ((y264.set ((ji9) : Int).toNat (Go.bits .or .u8 (rd y264 (ji9)) (shr .u8 128 (ji12)))), 0)) else (none)) = some (r1, r2) := by first | (rw [hji12] at H; exact H) | (simp only [hji12] at H ⊢; exact H)
            (try rw [hji12] at A5)
            by_cases c13 : 0 ≤ (ji12)
            · rw [if_pos c13] at H
              have c13b0 := eq_true c13
              have c13b1 : decide (0 ≤ (ji12)) = true := decide_eq_true c13
              clear c13
              obtain ⟨ji14, hji14⟩ : ∃ j_ : Int, (shr .u8 128 (ji12)) = j_ := ⟨_, rfl⟩
              replace H : (some ((y264.set ((ji9) : Int).toNat (Go.bits .or .u8 (rd y264 (ji9)) (ji14))), 0)) = some (r1, r2) := by first | (rw [hji14] at H; exact H) | (simp only [hji14] at H ⊢; exact H)
              (try rw [hji14] at A5)
              have hji14_ : (128 / 2 ^ min (ji12).toNat 8) = ji14 := hji14
              have hji14z : (ji12) ≤ 8 → (128 / 2 ^ (ji12).toNat) = ji14 := shr_small hji14
              obtain ⟨y268, hy268⟩ : ∃ y_ : List Int, y_ = (y264.set ((ji9) : Int).toNat (Go.bits .or .u8 (rd y264 (ji9)) (ji14))) := ⟨_, rfl⟩
              replace H : (some (y268, 0)) = some (r1, r2) := by first | (rw [hy268]; with_reducible exact H) | (have H2_ := (Option.bind_some _ _).symm.trans H; rw [hy268]; with_reducible exact H2_) | (have H2_ := (Option.bind_some _ _).symm.trans H; with_reducible exact H2_) | with_reducible exact H | (rw [hy268]; exact H) | exact H
              have Ny268 := Aside0.mk hy268
              clear hy268
              simp only [Option.some.injEq, Prod.mk.injEq] at H
              obtain ⟨rfl, rfl⟩ := H
              go_enter Try.func33, Try.ntmps33
              try go_wp2_with (first | ((with_reducible refine gate_callee (f := 63) rfl ?_); refine goesL_ (some 15) rfl rfl Try.func63 (by kernel_rfl) rfl #[.int .i64 a0, .slice A1 l1.length c1, .int .i64 a2] rfl (by (try simp only [List.map_toArray, List.map_cons, List.map_nil]); first | done | rfl | (simp only [List.length_drop, List.length_take]; rfl)) ?_; (with_reducible refine (bitset_at.calls k a0 _ _ l1 a2 t263 _ ?side1 ?side2 A5.out).mono ?_); (case side1 => repeat (first | exact HR1.out | (with_reducible refine Kd.C_alloc ?_ _) | (with_reducible refine Kd.C_drewN ?_ _) | (with_reducible refine Kd.C_drew ?_))); (case side2 => exact HC1.out); rintro e w' ⟨rfl, ⟨nd, rfl⟩⟩; refine ⟨_, rfl, ?_⟩) | ((with_reducible refine gate_builtin (b := .append) (xs := #[.const (.slice none 0 0), .tmp 19]) rfl ?_); at_builtin; refine Kd.R_append_rows (Kd.int .u8) (w0 := w) w.heap.size rfl (.const (.slice none 0 0)) (.tmp 19) 22 5 (.int .u8 0) 1 rfl Try.underlying22 info5 rfl (by decide) (by omega) (.slice none 0 0) ([] : List Int) l1 _ _ _ (fun _ => True) (fun _ => False) rfl rfl ?aO ?aR (fun _ _ h => h) (fun _ h => h.elim) ?aF ?aB ?aS ?aL ?_; (case aR => repeat (first | exact HR1.out | (with_reducible refine Kd.C_alloc ?_ _) | (with_reducible refine Kd.C_drewN ?_ _) | (with_reducible refine Kd.C_drew ?_))); (case aB => exact (by repeat (first | (with_reducible first | exact HB.out | apply below_alloc | apply pw_below_drewN | apply below_drew1) | exact HB.out))); (case aF => exact (fun _ _ => trivial)); (case aO => exact ((Kd.R_nil _ _ _ _ (fun _ => True)))); (case aS => exact (below_size (by repeat (first | (with_reducible first | exact HB.out | apply below_alloc | apply pw_below_drewN | apply below_drew1) | exact HB.out)))); (case aL => have := LMc7.out; omega); intro v265 w16 ho hb hg hat; rw [← Ny264.out] at ho; have n0_ := Aside0.mk (hb); have n1_ := Aside0.mk (ho); clear HB; have HB := n0_; have HO266 := n1_; clear n0_ n1_; clear ho hb hg hat))
              have n0_ := Aside0.mk (Kd.R_drew HO266.out)
              have n1_ := Aside0.mk (below_drew1 HB.out)
              clear HO266
              clear HB
              have HO266 := n0_
              have HB := n1_
              clear n0_ n1_
              obtain ⟨Ao18, co18, eo18⟩ := Kd.R_slice HO266.out
              (first | subst eo18 | (injection eo18 with f1_ f2_ f3_; have f4_ := f1_.symm; have f5_ := f3_.symm; clear f1_ f2_ f3_; subst f4_; subst f5_))
              have p267 : 0 ≤ ((ji9) : Int) := of_decide_eq_true (by first | (with_reducible assumption) | assumption)
              have q267 : (ji9) < (y264.length : Int) := of_decide_eq_true (by first | (with_reducible assumption) | assumption)
              obtain ⟨ad267, e267, hx267_0⟩ := Kd.at_int (Kd.R_reads' HO266.out).2.2 (ji9) p267 q267
              cases e267
              replace p267 := eq_true p267
              replace q267 := eq_true q267
              have hmk : ∀ W : World, (Instr.index 68 maskV (.int .i64 (ji12))).run Try.prog W = .ok (.int .u8 (ji14)) W := by rw [← hji14]; exact mask_at (ji12) (of_decide_eq_true c13b1) (hji12 ▸ tmod8_lt _)
              refine start_ (n := 12) (S := fun w' => w'.cell? (ad267.add ((ji9)).toNat) = some (.int .u8 (rd y264 (ji9)))) (ds := [11]) #[false, false, false, false, false, false, false, false, false, false, false, false] (by kernel_rfl) rfl rfl (hx267_0) (fun hHeld => ?_)
              generalize w16.drew = w17 at HO266 HB hx267_0 hHeld ⊢
              refine pure_ (i := 0) (N := some 22) (v := ?_) (a' := ?_) #[true, false, false, false, false, false, false, false, false, false, false, false] rfl rfl (by kernel_rfl) (fun _ _ _ h => h) (Or.inl ⟨by rfl, ?_⟩) ?_ ?_
              rotate_left
              · intro w'
                go_simp
                with_reducible rfl
              rotate_left
              · simp only [Act.put, List.setIfInBounds_toArray, List.set_cons_zero, List.set_cons_succ, i64_w, i32_w]
                rfl
              refine pure_ (i := 1) (N := some 23) (v := ?_) (a' := ?_) #[true, true, false, false, false, false, false, false, false, false, false, false] rfl rfl (by kernel_rfl) (fun _ _ _ h => h) (Or.inl ⟨by rfl, ?_⟩) ?_ ?_
              rotate_left
              · intro w'
                go_simp
                with_reducible rfl
              rotate_left
              · simp only [Act.put, List.setIfInBounds_toArray, List.set_cons_zero, List.set_cons_succ, i64_w, i32_w]
                rfl
              refine pure_ (i := 2) (N := some 24) (v := ?_) (a' := ?_) #[true, true, true, false, false, false, false, false, false, false, false, false] rfl rfl (by kernel_rfl) (fun _ _ _ h => h) (Or.inl ⟨by rfl, ?_⟩) ?_ ?_
              rotate_left
              · intro w'
                go_simp
                with_reducible rfl
              rotate_left
              · simp only [Act.put, List.setIfInBounds_toArray, List.set_cons_zero, List.set_cons_succ, i64_w, i32_w]
                rfl
              refine pure_ (i := 3) (N := some 25) (v := ?_) (a' := ?_) #[true, true, true, true, false, false, false, false, false, false, false, false] rfl rfl (by kernel_rfl) (fun _ _ _ h => h) (Or.inl ⟨by rfl, ?_⟩) ?_ ?_
              rotate_left
              · intro w'
                go_simp
                with_reducible rfl
              rotate_left
              · simp only [Act.put, List.setIfInBounds_toArray, List.set_cons_zero, List.set_cons_succ, i64_w, i32_w]
                rfl
              refine pure_ (i := 6) (N := some 28) (v := ?_) (a' := ?_) #[true, true, true, true, false, false, true, false, false, false, false, false] rfl rfl (by kernel_rfl) (fun _ _ _ h => h) (Or.inl ⟨by rfl, ?_⟩) ?_ ?_
              rotate_left
              · intro w'
                go_simp
                with_reducible rfl
              rotate_left
              · simp only [Act.put, List.setIfInBounds_toArray, List.set_cons_zero, List.set_cons_succ, i64_w, i32_w]
                rfl
              refine pure_ (i := 7) (N := some 29) (v := ?_) (a' := ?_) #[true, true, true, true, false, false, true, true, false, false, false, false] rfl rfl (by kernel_rfl) (fun _ _ _ h => h) (Or.inl ⟨by rfl, ?_⟩) ?_ ?_
              rotate_left
              · intro w'
                go_simp
                with_reducible rfl
              rotate_left
              · simp only [Act.put, List.setIfInBounds_toArray, List.set_cons_zero, List.set_cons_succ, i64_w, i32_w]
                rfl
              refine take_ (i := 4) (N := some 26) (v := ?_) (a' := ?_) #[true, true, true, true, true, false, true, true, false, false, false, false] rfl rfl (by kernel_rfl) (fun _ _ _ h => h) (Or.inl ⟨by rfl, ?_⟩) hHeld ?_ ?_
              rotate_left
              · intro w' s0
                go_simp
                with_reducible rfl
              rotate_left
              · simp only [Act.put, List.setIfInBounds_toArray, List.set_cons_zero, List.set_cons_succ, i64_w, i32_w]
                rfl
              refine one_ (i := 5) (N := some 27) #[true, true, true, true, true, true, true, true, false, false, false, false] rfl rfl (by kernel_rfl) (by decide) (fun K hK => ?_)
              refine goes_ Try.func58 (by kernel_rfl) rfl #[] (by rfl) rfl rfl (by (try simp only [List.map_toArray, List.map_cons, List.map_nil]); first | done | rfl) ?_
              with_reducible refine (masks_calls _).mono ?_
              rintro e wm ⟨rfl, hbm⟩
              refine ⟨_, rfl, ?_⟩
              have n0_ := Aside0.mk (Kd.R_below HO266.out hbm)
              have n1_ := Aside0.mk (below_step HB.out hbm)
              have n2_ := (hbm.cell (World.block_lt_of_cell? _ _ hx267_0)).trans hx267_0
              clear HO266 HB hx267_0
              have HO266 := n0_
              have HB := n1_
              have hx267_0 := n2_
              have hHx := Aside0.mk n2_
              clear n0_ n1_ n2_ hbm
              have p15 : 0 ≤ ((ji9) : Int) := of_decide_eq_true (by first | (with_reducible assumption) | assumption)
              have q15 : ((ji9) : Int) < ((y264.length : Int) : Int) := of_decide_eq_true (by first | (with_reducible assumption) | assumption)
              obtain ⟨go15, co15, eo15, gb15, gl15, cl15, HG15⟩ := Kd.R_form HO266.out (by omega)
              (first | cases eo15 | (injection eo15 with ea_ en_ ec_; (first | subst ea_ | (injection ea_ with ea_; subst ea_)); subst ec_; clear en_))
              have GB15 := Aside0.mk gb15
              have GG15 := Aside0.mk HG15
              clear gb15 gl15 HG15
              (first | simp only [add_plain] at hx267_0 | skip)
              obtain ⟨hx15_0, hf15_0⟩ := Kd.R_celln 0 HO266.out ((ji9) : Int) p15 q15
              replace p15 := eq_true p15
              replace q15 := eq_true q15
              have HP19 := Kd.R_putn HO266.out ((ji9) : Int) (Go.bits .or .u8 (rd y264 (ji9)) (ji14))
              rw [← Ny268.out] at HP19
              have HQ19 := Aside0.mk HP19
              clear HP19
              refine hK.out _ _ (hHx.out) (fun hHeld => ?_)
              clear hK K
              refine norm_ (a' := ?_) ?_ ?_
              rotate_left
              · show Act.put _ (some 27) _ = _
                simp only [Act.put, List.setIfInBounds_toArray, List.set_cons_zero, List.set_cons_succ, i64_w, i32_w]
                rfl
              refine pure_ (i := 8) (N := some 30) (v := ?_) (a' := ?_) #[true, true, true, true, true, true, true, true, true, false, false, false] rfl rfl (by kernel_rfl) (fun _ _ _ h => h) (Or.inl ⟨by rfl, ?_⟩) ?_ ?_
              rotate_left
              · intro w'
                go_simp
                with_reducible rfl
              rotate_left
              · simp only [Act.put, List.setIfInBounds_toArray, List.set_cons_zero, List.set_cons_succ, i64_w, i32_w]
                rfl
              refine pure_ (i := 9) (N := some 31) (v := ?_) (a' := ?_) #[true, true, true, true, true, true, true, true, true, true, false, false] rfl rfl (by kernel_rfl) (fun _ _ _ h => h) (Or.inl ⟨by rfl, ?_⟩) ?_ ?_
              rotate_left
              · intro w'
                go_simp
                with_reducible rfl
              rotate_left
              · simp only [Act.put, List.setIfInBounds_toArray, List.set_cons_zero, List.set_cons_succ, i64_w, i32_w]
                rfl
              refine pure_ (i := 10) (N := some 32) (v := ?_) (a' := ?_) #[true, true, true, true, true, true, true, true, true, true, true, false] rfl rfl (by kernel_rfl) (fun _ _ _ h => h) (Or.inl ⟨by rfl, ?_⟩) ?_ ?_
              rotate_left
              · intro w'
                go_simp
                with_reducible rfl
              rotate_left
              · simp only [Act.put, List.setIfInBounds_toArray, List.set_cons_zero, List.set_cons_succ, i64_w, i32_w]
                rfl
              refine last_ (i := 11) (N := none) #[true, true, true, true, true, true, true, true, true, true, true, true] rfl rfl (by kernel_rfl) (by decide) (fun K hK => ?_)
              refine skip_ (w1 := ?_) (by rfl) rfl ?_ ?_
              rotate_left
              · go_simp
                rfl
              refine hK.out _ _ ?_
              clear hK K
              refine done_ (by kernel_rfl) ?_
              try go_wp2
              go_ret2
              exact ⟨_, by first | rfl | (simp [errW_none, errW_some] <;> rfl) | (simp only [← hji9, ← hji12, ← hji14]; first | rfl | (simp [errW_none, errW_some] <;> rfl)) | (simp [*, errW_none, errW_some] <;> rfl), by (with_reducible repeat (first | apply Kd.R_alloc | apply Kd.R_drewN | apply Kd.R_drew)); exact HQ19.out, by repeat (first | (with_reducible first | exact HB.out | apply below_alloc | apply pw_below_drewN | apply below_drew1 | refine below_set ?_ GB15.out) | exact HB.out)⟩
            · rw [if_neg c13] at H
              exact absurd H (by simp)
          · rw [if_neg c11] at H
            exact absurd H (by simp)
        · rw [if_neg c10] at H
          exact absurd H (by simp)
      · replace c8 := Bool.eq_false_iff.mpr c8
        subst c8
        have H1 : (if 0 ≤ (wrap64 (Int.tdiv a2 8)) then (if (wrap64 (Int.tdiv a2 8)) < (y264.length : Int) then (if 0 ≤ (Int.tmod a2 8) then (some ((y264.set ((wrap64 (Int.tdiv a2 8)) : Int).toNat (Go.bits .andNot .u8 (rd y264 (wrap64 (Int.tdiv a2 8))) (shr .u8 128 (Int.tmod a2 8)))), 0)) else (none)) else (none)) else (none)) = some (r1, r2) := by rw [if_neg (show ¬ (false = true) by decide)] at H; exact H
        clear H
        have H := H1
        clear H1
        obtain ⟨ji20, hji20⟩ : ∃ j_ : Int, (wrap64 (Int.tdiv a2 8)) = j_ := ⟨_, rfl⟩
        replace H : (if 0 ≤ (ji20) then (if (ji20) < (y264.length : Int) then (if 0 ≤ (Int.tmod a2 8) then (some ((y264.set ((ji20) : Int).toNat (Go.bits .andNot .u8 (rd y264 (ji20)) (shr .u8 128 (Int.tmod a2 8)))), 0)) else (none)) else (none)) else (none)) = some (r1, r2) := by first | (rw [hji20] at H; exact H) | (simp only [hji20] at H ⊢; exact H)
        (try rw [hji20] at A5)
        have hji20w : (IntKind.i64.wrap (Int.tdiv a2 8)) = ji20 := (i64_w _).trans hji20
        by_cases c21 : 0 ≤ (ji20)
        · rw [if_pos c21] at H
          have c21b0 : decide (0 ≤ (ji20)) = true := decide_eq_true c21
          clear c21
          by_cases c22 : (ji20) < (y264.length : Int)
          · rw [if_pos c22] at H
            have c22b0 : decide ((ji20) < (y264.length : Int)) = true := decide_eq_true c22
            clear c22
            obtain ⟨ji23, hji23⟩ : ∃ j_ : Int, (Int.tmod a2 8) = j_ := ⟨_, rfl⟩
            replace H : (if 0 ≤ (ji23) then (some ((y264.set ((ji20) : Int).toNat (Go.bits .andNot .u8 (rd y264 (ji20)) (shr .u8 128 (ji23)))), 0)) else (none)) = some (r1, r2) := by first | (rw [hji23] at H; exact H) | (simp only [hji23] at H ⊢; exact H)
            (try rw [hji23] at A5)
            by_cases c24 : 0 ≤ (ji23)
            · rw [if_pos c24] at H
              have c24b0 := eq_true c24
              have c24b1 : decide (0 ≤ (ji23)) = true := decide_eq_true c24
              clear c24
              obtain ⟨ji25, hji25⟩ : ∃ j_ : Int, (shr .u8 128 (ji23)) = j_ := ⟨_, rfl⟩
              replace H : (some ((y264.set ((ji20) : Int).toNat (Go.bits .andNot .u8 (rd y264 (ji20)) (ji25))), 0)) = some (r1, r2) := by first | (rw [hji25] at H; exact H) | (simp only [hji25] at H ⊢; exact H)
              (try rw [hji25] at A5)
              have hji25_ : (128 / 2 ^ min (ji23).toNat 8) = ji25 := hji25
              have hji25z : (ji23) ≤ 8 → (128 / 2 ^ (ji23).toNat) = ji25 := shr_small hji25
              obtain ⟨y270, hy270⟩ : ∃ y_ : List Int, y_ = (y264.set ((ji20) : Int).toNat (Go.bits .andNot .u8 (rd y264 (ji20)) (ji25))) := ⟨_, rfl⟩
              replace H : (some (y270, 0)) = some (r1, r2) := by first | (rw [hy270]; with_reducible exact H) | (have H2_ := (Option.bind_some _ _).symm.trans H; rw [hy270]; with_reducible exact H2_) | (have H2_ := (Option.bind_some _ _).symm.trans H; with_reducible exact H2_) | with_reducible exact H | (rw [hy270]; exact H) | exact H
              have Ny270 := Aside0.mk hy270
              clear hy270
              simp only [Option.some.injEq, Prod.mk.injEq] at H
              obtain ⟨rfl, rfl⟩ := H
              go_enter Try.func33, Try.ntmps33
              try go_wp2_with (first | ((with_reducible refine gate_callee (f := 63) rfl ?_); refine goesL_ (some 15) rfl rfl Try.func63 (by kernel_rfl) rfl #[.int .i64 a0, .slice A1 l1.length c1, .int .i64 a2] rfl (by (try simp only [List.map_toArray, List.map_cons, List.map_nil]); first | done | rfl | (simp only [List.length_drop, List.length_take]; rfl)) ?_; (with_reducible refine (bitset_at.calls k a0 _ _ l1 a2 t263 _ ?side1 ?side2 A5.out).mono ?_); (case side1 => repeat (first | exact HR1.out | (with_reducible refine Kd.C_alloc ?_ _) | (with_reducible refine Kd.C_drewN ?_ _) | (with_reducible refine Kd.C_drew ?_))); (case side2 => exact HC1.out); rintro e w' ⟨rfl, ⟨nd, rfl⟩⟩; refine ⟨_, rfl, ?_⟩) | ((with_reducible refine gate_builtin (b := .append) (xs := #[.const (.slice none 0 0), .tmp 19]) rfl ?_); at_builtin; refine Kd.R_append_rows (Kd.int .u8) (w0 := w) w.heap.size rfl (.const (.slice none 0 0)) (.tmp 19) 22 5 (.int .u8 0) 1 rfl Try.underlying22 info5 rfl (by decide) (by omega) (.slice none 0 0) ([] : List Int) l1 _ _ _ (fun _ => True) (fun _ => False) rfl rfl ?aO ?aR (fun _ _ h => h) (fun _ h => h.elim) ?aF ?aB ?aS ?aL ?_; (case aR => repeat (first | exact HR1.out | (with_reducible refine Kd.C_alloc ?_ _) | (with_reducible refine Kd.C_drewN ?_ _) | (with_reducible refine Kd.C_drew ?_))); (case aB => exact (by repeat (first | (with_reducible first | exact HB.out | apply below_alloc | apply pw_below_drewN | apply below_drew1) | exact HB.out))); (case aF => exact (fun _ _ => trivial)); (case aO => exact ((Kd.R_nil _ _ _ _ (fun _ => True)))); (case aS => exact (below_size (by repeat (first | (with_reducible first | exact HB.out | apply below_alloc | apply pw_below_drewN | apply below_drew1) | exact HB.out)))); (case aL => have := LMc7.out; omega); intro v265 w27 ho hb hg hat; rw [← Ny264.out] at ho; have n0_ := Aside0.mk (hb); have n1_ := Aside0.mk (ho); clear HB; have HB := n0_; have HO266 := n1_; clear n0_ n1_; clear ho hb hg hat))
              have n0_ := Aside0.mk (Kd.R_drew HO266.out)
              have n1_ := Aside0.mk (below_drew1 HB.out)
              clear HO266
              clear HB
              have HO266 := n0_
              have HB := n1_
              clear n0_ n1_
              obtain ⟨Ao29, co29, eo29⟩ := Kd.R_slice HO266.out
              (first | subst eo29 | (injection eo29 with f1_ f2_ f3_; have f4_ := f1_.symm; have f5_ := f3_.symm; clear f1_ f2_ f3_; subst f4_; subst f5_))
              have p269 : 0 ≤ ((ji20) : Int) := of_decide_eq_true (by first | (with_reducible assumption) | assumption)
              have q269 : (ji20) < (y264.length : Int) := of_decide_eq_true (by first | (with_reducible assumption) | assumption)
              obtain ⟨ad269, e269, hx269_0⟩ := Kd.at_int (Kd.R_reads' HO266.out).2.2 (ji20) p269 q269
              cases e269
              replace p269 := eq_true p269
              replace q269 := eq_true q269
              have hmk : ∀ W : World, (Instr.index 68 maskV (.int .i64 (ji23))).run Try.prog W = .ok (.int .u8 (ji25)) W := by rw [← hji25]; exact mask_at (ji23) (of_decide_eq_true c24b1) (hji23 ▸ tmod8_lt _)
              refine start_ (n := 12) (S := fun w' => w'.cell? (ad269.add ((ji20)).toNat) = some (.int .u8 (rd y264 (ji20)))) (ds := [11]) #[false, false, false, false, false, false, false, false, false, false, false, false] (by kernel_rfl) rfl rfl (hx269_0) (fun hHeld => ?_)
              generalize w27.drew = w28 at HO266 HB hx269_0 hHeld ⊢
              refine pure_ (i := 0) (N := some 33) (v := ?_) (a' := ?_) #[true, false, false, false, false, false, false, false, false, false, false, false] rfl rfl (by kernel_rfl) (fun _ _ _ h => h) (Or.inl ⟨by rfl, ?_⟩) ?_ ?_
              rotate_left
              · intro w'
                go_simp
                with_reducible rfl
              rotate_left
              · simp only [Act.put, List.setIfInBounds_toArray, List.set_cons_zero, List.set_cons_succ, i64_w, i32_w]
                rfl
              refine pure_ (i := 1) (N := some 34) (v := ?_) (a' := ?_) #[true, true, false, false, false, false, false, false, false, false, false, false] rfl rfl (by kernel_rfl) (fun _ _ _ h => h) (Or.inl ⟨by rfl, ?_⟩) ?_ ?_
              rotate_left
              · intro w'
                go_simp
                with_reducible rfl
              rotate_left
              · simp only [Act.put, List.setIfInBounds_toArray, List.set_cons_zero, List.set_cons_succ, i64_w, i32_w]
                rfl
              refine pure_ (i := 2) (N := some 35) (v := ?_) (a' := ?_) #[true, true, true, false, false, false, false, false, false, false, false, false] rfl rfl (by kernel_rfl) (fun _ _ _ h => h) (Or.inl ⟨by rfl, ?_⟩) ?_ ?_
              rotate_left
              · intro w'
                go_simp
                with_reducible rfl
              rotate_left
              · simp only [Act.put, List.setIfInBounds_toArray, List.set_cons_zero, List.set_cons_succ, i64_w, i32_w]
                rfl
              refine pure_ (i := 3) (N := some 36) (v := ?_) (a' := ?_) #[true, true, true, true, false, false, false, false, false, false, false, false] rfl rfl (by kernel_rfl) (fun _ _ _ h => h) (Or.inl ⟨by rfl, ?_⟩) ?_ ?_
              rotate_left
              · intro w'
                go_simp
                with_reducible rfl
              rotate_left
              · simp only [Act.put, List.setIfInBounds_toArray, List.set_cons_zero, List.set_cons_succ, i64_w, i32_w]
                rfl
              refine pure_ (i := 6) (N := some 39) (v := ?_) (a' := ?_) #[true, true, true, true, false, false, true, false, false, false, false, false] rfl rfl (by kernel_rfl) (fun _ _ _ h => h) (Or.inl ⟨by rfl, ?_⟩) ?_ ?_
              rotate_left
              · intro w'
                go_simp
                with_reducible rfl
              rotate_left
              · simp only [Act.put, List.setIfInBounds_toArray, List.set_cons_zero, List.set_cons_succ, i64_w, i32_w]
                rfl
              refine pure_ (i := 7) (N := some 40) (v := ?_) (a' := ?_) #[true, true, true, true, false, false, true, true, false, false, false, false] rfl rfl (by kernel_rfl) (fun _ _ _ h => h) (Or.inl ⟨by rfl, ?_⟩) ?_ ?_
              rotate_left
              · intro w'
                go_simp
                with_reducible rfl
              rotate_left
              · simp only [Act.put, List.setIfInBounds_toArray, List.set_cons_zero, List.set_cons_succ, i64_w, i32_w]
                rfl
              refine take_ (i := 4) (N := some 37) (v := ?_) (a' := ?_) #[true, true, true, true, true, false, true, true, false, false, false, false] rfl rfl (by kernel_rfl) (fun _ _ _ h => h) (Or.inl ⟨by rfl, ?_⟩) hHeld ?_ ?_
              rotate_left
              · intro w' s0
                go_simp
                with_reducible rfl
              rotate_left
              · simp only [Act.put, List.setIfInBounds_toArray, List.set_cons_zero, List.set_cons_succ, i64_w, i32_w]
                rfl
              refine one_ (i := 5) (N := some 38) #[true, true, true, true, true, true, true, true, false, false, false, false] rfl rfl (by kernel_rfl) (by decide) (fun K hK => ?_)
              refine goes_ Try.func58 (by kernel_rfl) rfl #[] (by rfl) rfl rfl (by (try simp only [List.map_toArray, List.map_cons, List.map_nil]); first | done | rfl) ?_
              with_reducible refine (masks_calls _).mono ?_
              rintro e wm ⟨rfl, hbm⟩
              refine ⟨_, rfl, ?_⟩
              have n0_ := Aside0.mk (Kd.R_below HO266.out hbm)
              have n1_ := Aside0.mk (below_step HB.out hbm)
              have n2_ := (hbm.cell (World.block_lt_of_cell? _ _ hx269_0)).trans hx269_0
              clear HO266 HB hx269_0
              have HO266 := n0_
              have HB := n1_
              have hx269_0 := n2_
              have hHx := Aside0.mk n2_
              clear n0_ n1_ n2_ hbm
              have p26 : 0 ≤ ((ji20) : Int) := of_decide_eq_true (by first | (with_reducible assumption) | assumption)
              have q26 : ((ji20) : Int) < ((y264.length : Int) : Int) := of_decide_eq_true (by first | (with_reducible assumption) | assumption)
              obtain ⟨go26, co26, eo26, gb26, gl26, cl26, HG26⟩ := Kd.R_form HO266.out (by omega)
              (first | cases eo26 | (injection eo26 with ea_ en_ ec_; (first | subst ea_ | (injection ea_ with ea_; subst ea_)); subst ec_; clear en_))
              have GB26 := Aside0.mk gb26
              have GG26 := Aside0.mk HG26
              clear gb26 gl26 HG26
              (first | simp only [add_plain] at hx269_0 | skip)
              obtain ⟨hx26_0, hf26_0⟩ := Kd.R_celln 0 HO266.out ((ji20) : Int) p26 q26
              replace p26 := eq_true p26
              replace q26 := eq_true q26
              have HP30 := Kd.R_putn HO266.out ((ji20) : Int) (Go.bits .andNot .u8 (rd y264 (ji20)) (ji25))
              rw [← Ny270.out] at HP30
              have HQ30 := Aside0.mk HP30
              clear HP30
              refine hK.out _ _ (hHx.out) (fun hHeld => ?_)
              clear hK K
              refine norm_ (a' := ?_) ?_ ?_
              rotate_left
              · show Act.put _ (some 38) _ = _
                simp only [Act.put, List.setIfInBounds_toArray, List.set_cons_zero, List.set_cons_succ, i64_w, i32_w]
                rfl
              refine pure_ (i := 8) (N := some 41) (v := ?_) (a' := ?_) #[true, true, true, true, true, true, true, true, true, false, false, false] rfl rfl (by kernel_rfl) (fun _ _ _ h => h) (Or.inl ⟨by rfl, ?_⟩) ?_ ?_
              rotate_left
              · intro w'
                go_simp
                with_reducible rfl
              rotate_left
              · simp only [Act.put, List.setIfInBounds_toArray, List.set_cons_zero, List.set_cons_succ, i64_w, i32_w]
                rfl
              refine pure_ (i := 9) (N := some 42) (v := ?_) (a' := ?_) #[true, true, true, true, true, true, true, true, true, true, false, false] rfl rfl (by kernel_rfl) (fun _ _ _ h => h) (Or.inl ⟨by rfl, ?_⟩) ?_ ?_
              rotate_left
              · intro w'
                go_simp
                with_reducible rfl
              rotate_left
              · simp only [Act.put, List.setIfInBounds_toArray, List.set_cons_zero, List.set_cons_succ, i64_w, i32_w]
                rfl
              refine pure_ (i := 10) (N := some 43) (v := ?_) (a' := ?_) #[true, true, true, true, true, true, true, true, true, true, true, false] rfl rfl (by kernel_rfl) (fun _ _ _ h => h) (Or.inl ⟨by rfl, ?_⟩) ?_ ?_
              rotate_left
              · intro w'
                go_simp
                with_reducible rfl
              rotate_left
              · simp only [Act.put, List.setIfInBounds_toArray, List.set_cons_zero, List.set_cons_succ, i64_w, i32_w]
                rfl
              refine last_ (i := 11) (N := none) #[true, true, true, true, true, true, true, true, true, true, true, true] rfl rfl (by kernel_rfl) (by decide) (fun K hK => ?_)
              refine skip_ (w1 := ?_) (by rfl) rfl ?_ ?_
              rotate_left
              · go_simp
                rfl
              refine hK.out _ _ ?_
              clear hK K
              refine done_ (by kernel_rfl) ?_
              try go_wp2
              go_ret2
              exact ⟨_, by first | rfl | (simp [errW_none, errW_some] <;> rfl) | (simp only [← hji20, ← hji23, ← hji25]; first | rfl | (simp [errW_none, errW_some] <;> rfl)) | (simp [*, errW_none, errW_some] <;> rfl), by (with_reducible repeat (first | apply Kd.R_alloc | apply Kd.R_drewN | apply Kd.R_drew)); exact HQ30.out, by repeat (first | (with_reducible first | exact HB.out | apply below_alloc | apply pw_below_drewN | apply below_drew1 | refine below_set ?_ GB26.out) | exact HB.out)⟩
            · rw [if_neg c24] at H
              exact absurd H (by simp)
          · rw [if_neg c22] at H
            exact absurd H (by simp)
        · rw [if_neg c21] at H
          exact absurd H (by simp)
    · rw [if_neg c7] at H
      exact absurd H (by simp)
  · rw [if_neg c6] at H
    have c6b0 : (t263 == 0) = false := beq_eq_false_iff_ne.mpr c6
    have c6b1 : (t263 != 0) = true := bne_iff_ne.mpr c6
    simp only [Option.some.injEq, Prod.mk.injEq] at H
    obtain ⟨rfl, rfl⟩ := H
    go_enter Try.func33, Try.ntmps33
    go_wp2_with (first | ((with_reducible refine gate_callee (f := 63) rfl ?_); refine goesL_ (some 15) rfl rfl Try.func63 (by kernel_rfl) rfl #[.int .i64 a0, .slice A1 l1.length c1, .int .i64 a2] rfl (by (try simp only [List.map_toArray, List.map_cons, List.map_nil]); first | done | rfl | (simp only [List.length_drop, List.length_take]; rfl)) ?_; (with_reducible refine (bitset_at.calls k a0 _ _ l1 a2 t263 _ ?side1 ?side2 A5.out).mono ?_); (case side1 => repeat (first | exact HR1.out | (with_reducible refine Kd.C_alloc ?_ _) | (with_reducible refine Kd.C_drewN ?_ _) | (with_reducible refine Kd.C_drew ?_))); (case side2 => exact HC1.out); rintro e w' ⟨rfl, ⟨nd, rfl⟩⟩; refine ⟨_, rfl, ?_⟩))
    go_ret2
    exact ⟨_, by first | rfl | (simp [errW_none, errW_some] <;> rfl) | (simp [*, errW_none, errW_some] <;> rfl), by first | exact Kd.R_nil _ _ _ _ _ | exact Kd.N_nil _ _ _ _ _ | exact Kd.V_nil _ _ _ _ _ | exact Kd.Q_nil _ _ _ _ _ | exact Kd.S_nil _ _ _ _ _, by repeat (first | (with_reducible first | exact HB.out | apply below_alloc | apply pw_below_drewN | apply below_drew1) | exact HB.out)⟩

end Go.Proofs.Ytoohpdamndgdlaa.P

/- Plain arithmetic of bytes and bits for the statements of chapter 4: a list of bytes as a sequence of bits, the high bit first. No condition, no program. -/
set_option linter.unusedVariables false
set_option linter.unusedSimpArgs false
namespace Go.Proofs.Ytoohpdamndgdlaa.B
open Go.RowKit Go.Proofs.YtoohpdamndgdlaaW.PrintWords Go.Proofs.YtoohpdamndgdlaaW.PrintLast Go.Proofs.YtoohpdamndgdlaaW.PrintMore

/-! ### whole numbers -/
theorem w64 (n : Int) (h0 : -9223372036854775808 ≤ n) (h1 : n ≤ 9223372036854775807) : wrap64 n = n := by unfold wrap64; omega
theorem wf64 {n : Int} (h : (Lit.int .i64 n).wf = true) : -9223372036854775808 ≤ n ∧ n ≤ 9223372036854775807 := by
  simp [Lit.wf, IntKind.min, IntKind.max, IntKind.bits, IntKind.signed] at h
  omega
theorem wf8 {n : Int} (h : (Lit.int .u8 n).wf = true) : 0 ≤ n ∧ n < 256 := by
  simp [Lit.wf, IntKind.min, IntKind.max, IntKind.bits, IntKind.signed] at h
  omega

/-! ### one byte -/
theorem tb8 (m i : Nat) (h : m < 256) (hi : 8 ≤ i) : m.testBit i = false := by
  refine Nat.testBit_lt_two_pow (Nat.lt_of_lt_of_le h ?_)
  exact (show 256 = 2 ^ 8 by decide) ▸ Nat.pow_le_pow_right (by decide) hi
theorem nat_ext8 (m n : Nat) (hm : m < 256) (hn : n < 256) (h : ∀ i, i < 8 → m.testBit i = n.testBit i) : m = n := by
  refine Nat.eq_of_testBit_eq fun i => ?_
  by_cases hi : i < 8
  · exact h i hi
  · rw [tb8 m i hm (by omega), tb8 n i hn (by omega)]
theorem bits_and8 (a b : Nat) (ha : a < 256) (hb : b < 256) : Go.bits .and .u8 a b = ((a &&& b : Nat) : Int) := (bits_nat .u8 8 (by decide) wraps_u8 a b ha hb).1
theorem bits_or8 (a b : Nat) (ha : a < 256) (hb : b < 256) : Go.bits .or .u8 a b = ((a ||| b : Nat) : Int) := (bits_nat .u8 8 (by decide) wraps_u8 a b ha hb).2
theorem bits_not8 (a b : Nat) (ha : a < 256) (hb : b < 256) : ∃ r : Nat, Go.bits .andNot .u8 a b = (r : Int) ∧ r < 256 ∧ ∀ i, i < 8 → r.testBit i = (a.testBit i && !b.testBit i) := by
  refine ⟨(BitVec.ofNat 8 a &&& ~~~ BitVec.ofNat 8 b).toNat, ?_, ?_, ?_⟩
  · simp only [Go.bits, BitVec.ofInt_natCast]
    exact wraps_u8 _ (Int.natCast_nonneg _) (by exact_mod_cast (BitVec.ofNat 8 a &&& ~~~ BitVec.ofNat 8 b).isLt)
  · exact (BitVec.ofNat 8 a &&& ~~~ BitVec.ofNat 8 b).isLt
  · intro i hi
    have e : ∀ x : BitVec 8, x.toNat.testBit i = x.getLsbD i := fun x => rfl
    rw [e, BitVec.getLsbD_and, BitVec.getLsbD_not, BitVec.getLsbD_ofNat, BitVec.getLsbD_ofNat]
    simp [hi]

/-- What an operation on two bytes gives, bit by bit. -/
def opb : BinOp → Bool → Bool → Bool
  | .and, x, y => x && y
  | .or, x, y => x || y
  | _, x, y => x && !y
theorem bits_byte (op : BinOp) (hop : op = .and ∨ op = .or ∨ op = .andNot) (x y : Int) (hx : 0 ≤ x ∧ x < 256) (hy : 0 ≤ y ∧ y < 256) :
    (0 ≤ Go.bits op .u8 x y ∧ Go.bits op .u8 x y < 256) ∧ ∀ i, i < 8 → (Go.bits op .u8 x y).toNat.testBit i = opb op (x.toNat.testBit i) (y.toNat.testBit i) := by
  obtain ⟨a, rfl⟩ : ∃ a : Nat, x = a := ⟨x.toNat, by omega⟩
  obtain ⟨b, rfl⟩ : ∃ b : Nat, y = b := ⟨y.toNat, by omega⟩
  have ha : a < 256 := by omega
  have hb : b < 256 := by omega
  simp only [Int.toNat_natCast]
  rcases hop with rfl | rfl | rfl
  · rw [bits_and8 a b ha hb]
    have h : a &&& b < 256 := Nat.and_lt_two_pow (n := 8) _ hb
    exact ⟨by omega, fun i _ => by simp [opb, Nat.testBit_and]⟩
  · rw [bits_or8 a b ha hb]
    have h : a ||| b < 256 := Nat.or_lt_two_pow (n := 8) ha hb
    exact ⟨by omega, fun i _ => by simp [opb, Nat.testBit_or]⟩
  · obtain ⟨r, hr, hl, ht⟩ := bits_not8 a b ha hb
    rw [hr]
    exact ⟨by omega, fun i hi => by simpa [opb] using ht i hi⟩

/-! ### the masks -/
def mk8 (t : Nat) : Int := (2 ^ (7 - t) : Nat)
theorem shr_mask (t : Nat) (h : t < 8) : shr .u8 128 (t : Int) = mk8 t := by
  match t, h with
  | 0, _ | 1, _ | 2, _ | 3, _ | 4, _ | 5, _ | 6, _ | 7, _ => decide
theorem mk8_range (t : Nat) (h : t < 8) : 0 ≤ mk8 t ∧ mk8 t < 256 := by
  match t, h with
  | 0, _ | 1, _ | 2, _ | 3, _ | 4, _ | 5, _ | 6, _ | 7, _ => decide
theorem mk8_bit (t i : Nat) (h : t < 8) : (mk8 t).toNat.testBit i = decide (i = 7 - t) := by
  unfold mk8
  rw [Int.toNat_natCast, Nat.testBit_two_pow]
  exact decide_eq_decide.mpr ⟨fun h => h.symm, fun h => h.symm⟩
/-- A byte and a mask: is the bit set? -/
theorem and_mask (x : Int) (hx : 0 ≤ x ∧ x < 256) (t : Nat) (h : t < 8) : (Go.bits .and .u8 x (mk8 t) = 0) ↔ x.toNat.testBit (7 - t) = false := by
  obtain ⟨hr, hb⟩ := bits_byte .and (.inl rfl) x (mk8 t) hx (mk8_range t h)
  constructor
  · intro h0
    have := hb (7 - t) (by omega)
    rw [h0, mk8_bit t _ h] at this
    simpa [opb] using this.symm
  · intro h0
    have : (Go.bits .and .u8 x (mk8 t)).toNat = 0 := nat_ext8 _ _ (by omega) (by decide) fun i hi => by
      rw [hb i hi, mk8_bit t _ h]
      by_cases hit : i = 7 - t
      · subst hit; simp [opb, h0]
      · simp [opb, hit]
    omega
theorem add_bit (a t : Nat) (ha : a < 256) (ht : t < 8) (h : a.testBit t = false) : a + 2 ^ t = a ||| 2 ^ t := by
  have key : ∀ t : Fin 8, ∀ a : Fin 256, a.val.testBit t.val = false → a.val + 2 ^ t.val = a.val ||| 2 ^ t.val := by decide +kernel
  exact key ⟨t, ht⟩ ⟨a, ha⟩ h
/-- A mask is added to a byte that lacks the bit. -/
theorem add_mask (x : Int) (hx : 0 ≤ x ∧ x < 256) (t : Nat) (h : t < 8) (h0 : x.toNat.testBit (7 - t) = false) :
    (x + mk8 t % 256) % 256 = Go.bits .or .u8 x (mk8 t) := by
  obtain ⟨a, rfl⟩ : ∃ a : Nat, x = a := ⟨x.toNat, by omega⟩
  have hm := mk8_range t h
  rw [Int.toNat_natCast] at h0
  have ha : a < 256 := by omega
  have e := add_bit a (7 - t) ha (by omega) h0
  have hl : a ||| 2 ^ (7 - t) < 256 := Nat.or_lt_two_pow (n := 8) ha (by unfold mk8 at hm; omega)
  have e2 : Go.bits .or .u8 (a : Int) (mk8 t) = ((a ||| 2 ^ (7 - t) : Nat) : Int) := bits_or8 a _ ha (by unfold mk8 at hm; omega)
  rw [e2, ← e]
  have e3 : mk8 t % 256 = mk8 t := by omega
  rw [e3]
  unfold mk8
  rw [← Int.natCast_add]
  omega

/-! ### a list of bytes as bits -/
def gbit (xs : List Int) (i : Nat) : Bool := (xs.getD (i / 8) 0).toNat.testBit (7 - i % 8)
def IsB (xs : List Int) : Prop := ∀ x ∈ xs, 0 ≤ x ∧ x < 256
theorem IsB.nil : IsB [] := fun x hx => by simp at hx
theorem IsB.getD {xs : List Int} (h : IsB xs) (j : Nat) : 0 ≤ xs.getD j 0 ∧ xs.getD j 0 < 256 := by
  by_cases hj : j < xs.length
  · rw [List.getD_eq_getElem?_getD, List.getElem?_eq_getElem hj, Option.getD_some]
    exact h _ (List.getElem_mem hj)
  · rw [List.getD_eq_getElem?_getD, List.getElem?_eq_none (by omega)]
    exact ⟨by simp, by simp⟩
theorem IsB.set {xs : List Int} (h : IsB xs) (j : Nat) {v : Int} (hv : 0 ≤ v ∧ v < 256) : IsB (xs.set j v) := fun x hx => by
  rcases List.mem_or_eq_of_mem_set hx with hx | rfl
  · exact h x hx
  · exact hv
theorem IsB.append {xs ys : List Int} (h : IsB xs) (k : IsB ys) : IsB (xs ++ ys) := fun x hx => by
  rcases List.mem_append.1 hx with hx | hx
  · exact h x hx
  · exact k x hx
theorem IsB.replicate (n : Nat) : IsB (List.replicate n 0) := fun x hx => by
  obtain rfl := List.eq_of_mem_replicate hx
  decide
theorem IsB.of_wf {xs : List Int} (h : ∀ x ∈ xs, (Lit.int .u8 x).wf = true) : IsB xs := fun x hx => wf8 (h x hx)
theorem gbit_ext {xs ys : List Int} (hl : xs.length = ys.length) (hx : IsB xs) (hy : IsB ys) (h : ∀ i, i < 8 * xs.length → gbit xs i = gbit ys i) : xs = ys := by
  refine List.ext_getElem hl fun j h1 h2 => ?_
  have ex : xs.getD j 0 = xs[j] := by rw [List.getD_eq_getElem?_getD, List.getElem?_eq_getElem h1, Option.getD_some]
  have ey : ys.getD j 0 = ys[j] := by rw [List.getD_eq_getElem?_getD, List.getElem?_eq_getElem h2, Option.getD_some]
  have bx := hx.getD j
  have by_ := hy.getD j
  have : (xs.getD j 0).toNat = (ys.getD j 0).toNat := nat_ext8 _ _ (by omega) (by omega) fun i hi => by
    have := h (8 * j + (7 - i)) (by omega)
    unfold gbit at this
    rw [show (8 * j + (7 - i)) / 8 = j by omega, show 7 - (8 * j + (7 - i)) % 8 = i by omega] at this
    exact this
  rw [← ex, ← ey]
  omega
theorem gbit_set (xs : List Int) (q : Nat) (v : Int) (j : Nat) (hq : q < xs.length) : gbit (xs.set q v) j = if j / 8 = q then v.toNat.testBit (7 - j % 8) else gbit xs j := by
  unfold gbit
  by_cases h : j / 8 = q
  · subst h
    rw [if_pos rfl, List.getD_eq_getElem?_getD, List.getElem?_set_self hq, Option.getD_some]
  · rw [if_neg h, List.getD_eq_getElem?_getD, List.getElem?_set_ne (Ne.symm h), ← List.getD_eq_getElem?_getD]
theorem gbit_replicate (n i : Nat) : gbit (List.replicate n 0) i = false := by
  unfold gbit
  have : (List.replicate n (0 : Int)).getD (i / 8) 0 = 0 := by
    rw [List.getD_eq_getElem?_getD, List.getElem?_replicate]
    split <;> rfl
  rw [this]
  simp
theorem gbit_append_zero (xs : List Int) (i : Nat) : gbit (xs ++ [0]) i = gbit xs i := by
  unfold gbit
  have : (xs ++ [(0 : Int)]).getD (i / 8) 0 = xs.getD (i / 8) 0 := by
    simp only [List.getD_eq_getElem?_getD]
    by_cases h : i / 8 < xs.length
    · rw [List.getElem?_append_left h]
    · rw [List.getElem?_eq_none (by omega : xs.length ≤ i / 8)]
      by_cases h2 : i / 8 = xs.length
      · rw [h2, List.getElem?_append_right (by omega)]
        simp
      · rw [List.getElem?_eq_none (by simp; omega)]
  rw [this]
theorem gbit_beyond (xs : List Int) (i : Nat) (h : 8 * xs.length ≤ i) : gbit xs i = false := by
  unfold gbit
  rw [List.getD_eq_getElem?_getD, List.getElem?_eq_none (by omega)]
  simp

/-! ### the bit i set, taken out -/
def put1 (xs : List Int) (i : Nat) : List Int := xs.set (i / 8) (Go.bits .or .u8 (xs.getD (i / 8) 0) (mk8 (i % 8)))
def put0 (xs : List Int) (i : Nat) : List Int := xs.set (i / 8) (Go.bits .andNot .u8 (xs.getD (i / 8) 0) (mk8 (i % 8)))
theorem put1_length (xs : List Int) (i : Nat) : (put1 xs i).length = xs.length := by simp [put1]
theorem put0_length (xs : List Int) (i : Nat) : (put0 xs i).length = xs.length := by simp [put0]
theorem put1_isB {xs : List Int} (h : IsB xs) (i : Nat) : IsB (put1 xs i) := h.set _ (bits_byte .or (.inr (.inl rfl)) _ _ (h.getD _) (mk8_range _ (Nat.mod_lt _ (by decide)))).1
theorem put0_isB {xs : List Int} (h : IsB xs) (i : Nat) : IsB (put0 xs i) := h.set _ (bits_byte .andNot (.inr (.inr rfl)) _ _ (h.getD _) (mk8_range _ (Nat.mod_lt _ (by decide)))).1
theorem put1_bit {xs : List Int} (h : IsB xs) (i j : Nat) (hi : i < 8 * xs.length) : gbit (put1 xs i) j = (gbit xs j || decide (j = i)) := by
  unfold put1
  rw [gbit_set _ _ _ _ (by omega)]
  split
  · rename_i hj
    rw [(bits_byte .or (.inr (.inl rfl)) _ _ (h.getD _) (mk8_range _ (Nat.mod_lt _ (by decide)))).2 _ (by omega), mk8_bit _ _ (Nat.mod_lt _ (by decide))]
    show (_ || _) = _
    unfold gbit
    rw [hj]
    congr 1
    exact decide_eq_decide.mpr ⟨fun h => by omega, fun h => by subst h; rfl⟩
  · rename_i hj
    have : ¬ j = i := fun e => hj (by rw [e])
    simp [this]
theorem put0_bit {xs : List Int} (h : IsB xs) (i j : Nat) (hi : i < 8 * xs.length) : gbit (put0 xs i) j = (gbit xs j && !decide (j = i)) := by
  unfold put0
  rw [gbit_set _ _ _ _ (by omega)]
  split
  · rename_i hj
    rw [(bits_byte .andNot (.inr (.inr rfl)) _ _ (h.getD _) (mk8_range _ (Nat.mod_lt _ (by decide)))).2 _ (by omega), mk8_bit _ _ (Nat.mod_lt _ (by decide))]
    show (_ && !_) = _
    unfold gbit
    rw [hj]
    congr 2
    exact decide_eq_decide.mpr ⟨fun h => by omega, fun h => by subst h; rfl⟩
  · rename_i hj
    have : ¬ j = i := fun e => hj (by rw [e])
    simp [this]

/-! ### Go's spellings -/
theorem quo8 (n : Nat) (h : n ≤ 9223372036854775807) : wrap64 (Int.tdiv (n : Int) 8) = ((n / 8 : Nat) : Int) := by
  have : Int.tdiv (n : Int) 8 = ((n / 8 : Nat) : Int) := by
    rw [Int.tdiv_eq_ediv_of_nonneg (by omega)]
    omega
  rw [this, w64 _ (by omega) (by omega)]
theorem rem8 (n : Nat) : Int.tmod (n : Int) 8 = ((n % 8 : Nat) : Int) := by
  rw [Int.tmod_eq_emod_of_nonneg (by omega)]
  omega
theorem rd_nat (xs : List Int) (n : Nat) : rd xs (n : Int) = xs.getD n 0 := by unfold rd; rw [Int.toNat_natCast]
theorem inc (n : Nat) (h : n < 9223372036854775807) : wrap64 ((n : Int) + 1) = ((n + 1 : Nat) : Int) := by rw [w64 _ (by omega) (by omega)]; omega

/-! ### what a packed list of bits is -/
structure Packed (p : Nat → Bool) (n : Nat) (r : List Int) : Prop where
  len : r.length = (n + 7) / 8
  isB : IsB r
  bit : ∀ i, i < 8 * r.length → gbit r i = (decide (i < n) && p i)
theorem Packed.unique {p q : Nat → Bool} {n : Nat} {r s : List Int} (h : Packed p n r) (k : Packed q n s) (e : ∀ i, i < n → p i = q i) : r = s :=
  gbit_ext (h.len.trans k.len.symm) h.isB k.isB fun i hi => by
    rw [h.bit i hi, k.bit i (by have := h.len.trans k.len.symm; omega)]
    by_cases hn : i < n
    · rw [e i hn]
    · simp [hn]
theorem Packed.congr {p q : Nat → Bool} {n : Nat} {r : List Int} (h : Packed p n r) (e : ∀ i, i < n → p i = q i) : Packed q n r :=
  ⟨h.len, h.isB, fun i hi => by
    rw [h.bit i hi]
    by_cases hn : i < n
    · rw [e i hn]
    · simp [hn]⟩
end Go.Proofs.Ytoohpdamndgdlaa.B

/- bitset.Walk's iterator: it yields the places of the set bits, rising, and stops where a round says 'no more'. Conditions: at most 65536 bits, the bytes reach. -/
namespace Go.Proofs.Ytoohpdamndgdlaa.P
open Go.RowKit Go.Proofs.YtoohpdamndgdlaaW.PrintWords Go.Proofs.YtoohpdamndgdlaaW.PrintMore Go.Proofs.Ytoohpdamndgdlaa.B
attribute [local go_sem] Oper.semAt_some

/-- Is the bit set, as the program asks it? (Whatever numbers the list holds.) -/
def hit (xs : List Int) (k : Nat) : Bool := Go.bits .and .u8 (xs.getD (k / 8) 0) (mk8 (k % 8)) != 0
/-- The places below k of the set bits. -/
def onesTo (xs : List Int) (k : Nat) : List Int := ((List.range k).filter (hit xs)).map (fun i : Nat => (i : Int))
theorem onesTo_hit {xs : List Int} {k : Nat} (h : hit xs k = true) : onesTo xs (k + 1) = onesTo xs k ++ [(k : Int)] := by simp [onesTo, List.range_succ, h]
theorem onesTo_miss {xs : List Int} {k : Nat} (h : hit xs k = false) : onesTo xs (k + 1) = onesTo xs k := by simp [onesTo, List.range_succ, h]
theorem onesTo_length (xs : List Int) (k : Nat) : (onesTo xs k).length ≤ k := by
  unfold onesTo
  rw [List.length_map]
  exact Nat.le_trans (List.length_filter_le _ _) (by simp)
theorem onesTo_prefix (xs : List Int) {j k : Nat} (h : j ≤ k) : onesTo xs j <+: onesTo xs k := by
  obtain ⟨d, rfl⟩ := Nat.exists_eq_add_of_le h
  induction d with
  | zero => exact List.prefix_refl _
  | succ d ih =>
    refine (ih (by omega)).trans ?_
    cases hb : hit xs (j + d) with
    | true => rw [← Nat.add_assoc, onesTo_hit hb]; exact List.prefix_append _ _
    | false => rw [← Nat.add_assoc, onesTo_miss hb]; exact List.prefix_refl _
theorem onesTo_length_lt (xs : List Int) {k n : Nat} (h : k < n) (hb : hit xs k = true) : (onesTo xs k).length < (onesTo xs n).length := by
  have := (onesTo_prefix xs (show k + 1 ≤ n by omega)).length_le
  rw [onesTo_hit hb, List.length_append] at this
  simp at this
  omega

/-- The blocks from lo on, below hi, are as they were. -/
def Keeps (lo hi : Nat) (W W' : World) : Prop := ∀ b, lo ≤ b → b < hi → W'.heap[b]? = W.heap[b]?
theorem Keeps.refl (lo hi : Nat) (W : World) : Keeps lo hi W W := fun _ _ _ => rfl
theorem Keeps.trans {lo hi : Nat} {A B C : World} (h : Keeps lo hi A B) (k : Keeps lo hi B C) : Keeps lo hi A C := fun b h1 h2 => (k b h1 h2).trans (h b h1 h2)
theorem Keeps.of_below {lo hi B : Nat} {W W' : World} (h : Below B W W') (hB : hi ≤ B) : Keeps lo hi W W' := fun b _ h2 => h.block b (by omega)
theorem Keeps.drew (lo hi : Nat) (W : World) : Keeps lo hi W W.drew := fun _ _ _ => rfl
theorem Keeps.cell {lo hi : Nat} {W W' : World} (h : Keeps lo hi W W') {b o : Nat} (h1 : lo ≤ b) (h2 : b < hi) : W'.cell? ⟨b, o, none⟩ = W.cell? ⟨b, o, none⟩ := by
  simp only [World.cell?, h b h1 h2]
theorem Keeps.size {lo hi : Nat} {W W' : World} (h : Keeps lo hi W W') (hl : lo < hi) (hs : hi ≤ W.heap.size) : hi ≤ W'.heap.size := by
  have e := h (hi - 1) (by omega) (by omega)
  rw [Array.getElem?_eq_getElem (show hi - 1 < W.heap.size by omega)] at e
  have := (Array.getElem?_eq_some_iff.1 e).1
  omega
theorem Keeps.putObj (lo hi : Nat) (W : World) (l : Nat) (o : Obj) (h : hi ≤ l) : Keeps lo hi W (W.putObj l o) := fun b _ h2 => World.putObj_heap_other (by omega)

set_option maxRecDepth 100000 in
set_option maxHeartbeats 4000000 in
theorem walk2_in (m : Nat) (hm : 1 ≤ m) (l Bn Bo lo hi g cap n : Nat) (xs : List Int) (hn : n ≤ 65536) (hlen : n ≤ 8 * xs.length) (J Jx : List Int → World → Prop)
    (hJ : ∀ s W W', J s W → W.grownBy W' none → J s W')
    (hY : ∀ pre x W, J pre W → pre.length < (onesTo xs n).length → YieldAt Fence.wide (m - 1) Try.prog l #[.int .i64 x] W fun e W' =>
      (e = .returned (.bool true) ∧ J (pre ++ [x]) W' ∧ Keeps lo hi W W') ∨ (e = .returned (.bool false) ∧ Jx (pre ++ [x]) W'))
    (W : World) (hn0 : hi ≤ W.heap.size) (hBo : lo ≤ Bo ∧ Bo < hi) (hg : 0 < n → lo ≤ g ∧ g < hi) (hcn : W.cell? ⟨Bn, 0, none⟩ = some (.int .i64 n)) (hco : 0 < n → W.cell? ⟨Bo, 0, none⟩ = some (.slice (some ⟨g, 0, none⟩) xs.length cap))
    (hc : 0 < n → ∀ j, j < xs.length → W.cell? ⟨g, j, none⟩ = some (.int .u8 (xs.getD j 0))) (h0 : J [] W) :
    CallsIn Fence.wide m Try.prog 62 #[.func (.yield l) #[] #[], .pointer (some ⟨Bn, 0, none⟩), .pointer (some ⟨Bo, 0, none⟩)] W fun e W' => (∃ v, e = .returned v) ∧
      ((∃ ys, ys = onesTo xs n ∧ J ys W') ∨ (∃ pre, pre <+: onesTo xs n ∧ Jx pre W')) := by
  refine callsIn_of_wp Try.func62 rfl trivial ?_ rfl
  simp only [Try.ntmps62, List.size_toArray, List.length_cons, List.length_nil, Nat.reduceAdd, Nat.reduceSub, Array.replicate_succ, Array.replicate_zero, List.push_toArray, List.append_toArray, List.nil_append, List.cons_append]
  gi_wp2
  gi_loopw [6] (fun i wr => ∃ k : Nat, k ≤ n ∧ i = .int .i64 k ∧ J (onesTo xs k) wr ∧ Keeps lo hi W wr)
    (fun i _ => n - (intOf i).toNat)
  case atStart => exact ⟨0, Nat.zero_le _, rfl, by simpa [onesTo] using h0, Keeps.refl _ _ _⟩
  case round =>
    obtain ⟨k, hk, rfl, hJs, hnx⟩ := hrel
    by_cases hlt : k < n
    · have hco1 : wr.cell? ⟨Bo, 0, none⟩ = some (.slice (some ⟨g, 0, none⟩) xs.length cap) := (hnx.cell hBo.1 hBo.2).trans (hco (by omega))
      obtain ⟨y, hy⟩ : ∃ y : Int, xs.getD (k / 8) 0 = y := ⟨_, rfl⟩
      have hc1 : wr.cell? ⟨g, k / 8, none⟩ = some (.int .u8 y) := by rw [← hy]; exact (hnx.cell (hg (by omega)).1 (hg (by omega)).2).trans (hc (by omega) (k / 8) (by omega))
      have hand : (Go.bits .and .u8 (xs.getD (k / 8) 0) (mk8 (k % 8)) != 0) = hit xs k := rfl
      rw [hy] at hand
      have HY := Lib.hid hy
      clear hy hc hcn hco h0
      have hmk : ∀ W1 : World, (Instr.index 68 maskV (.int .i64 ((k : Int) % 8))).run Try.prog W1 = .ok (.int .u8 (mk8 (k % 8))) W1 := by
        have e : (k : Int) % 8 = ((k % 8 : Nat) : Int) := by omega
        rw [e, ← shr_mask _ (Nat.mod_lt _ (by decide))]
        exact mask_at _ (by omega) (by omega)
      have hq1 : IntKind.i64.wrap ((k : Int) / 8) = (k : Int) / 8 := by rw [IntWalk.i64_left, w64 _ (by omega) (by omega)]
      have hq3 : (0 : Int) ≤ (k : Int) / 8 := by omega
      have hq4 : (k : Int) / 8 < (xs.length : Int) := by omega
      have hq5 : ((k : Int) / 8).toNat = k / 8 := by omega
      have hmk2 : ∀ W1 : World, (Instr.index 68 maskV (.int .i64 (Int.tmod (k : Int) 8))).run Try.prog W1 = .ok (.int .u8 (mk8 (k % 8))) W1 := by
        intro W1
        rw [show Int.tmod (k : Int) 8 = (k : Int) % 8 from Int.tmod_eq_emod_of_nonneg (by omega)]
        exact hmk W1
      have HS := Lib.hid (hnx.size (by omega) hn0)
      have hlo : Bo < wr.heap.size := World.block_lt_of_cell? wr ⟨Bo, 0, none⟩ hco1
      have hlg : g < wr.heap.size := World.block_lt_of_cell? wr ⟨g, k / 8, none⟩ hc1
      have hJd : J (onesTo xs k) wr.drew := hJ _ _ _ hJs ⟨rfl, rfl, rfl, Nat.le_refl _, fun _ _ _ => rfl⟩
      have hmo : Try.prog.follows .mixedOrders = true := by kernel_rfl
      clear hg
      cases hb : hit xs k with
      | true =>
        rw [hb] at hand
        have HB := Lib.hid hb
        clear hb
        have HT := Lib.hid (onesTo_length_lt xs hlt HB.out)
        gi_wp2
        gi_region_with_o (first | (refine ⟨trivial, ?_⟩; gi_at_call 58; refine (callsIn_wide.2 (masks_calls _)).mono ?_; rintro e w1 ⟨rfl, hb1⟩; have hco2 := (hb1.cell (p := ⟨Bo, 0, none⟩) hlo).trans hco1; have hc2 := (hb1.cell (p := ⟨g, k / 8, none⟩) hlg).trans hc1; have hJ1 := hJ _ _ _ hJd (grown_of_below hb1 none); obtain ⟨fn, tmps, assign, body, hy, hR⟩ := hY _ (k : Int) w1 hJ1 HT.out; have HR2 := hR.mono (R' := fun e W' => ∃ b : Bool, e = .returned (.bool b) ∧ ((b = true ∧ J (onesTo xs k ++ [(k : Int)]) W' ∧ Keeps lo hi w1 W') ∨ (b = false ∧ Jx (onesTo xs k ++ [(k : Int)]) W'))) (fun e W' h => h.elim (fun h => ⟨true, h.1, .inl ⟨rfl, h.2⟩⟩) (fun h => ⟨false, h.1, .inr ⟨rfl, h.2⟩⟩))) | (refine HR2.mono ?_; rintro e W3 ⟨b, rfl, hd⟩))
        all_goals
          have hB1 : Keeps lo hi W w1 := hnx.trans ((Keeps.drew lo hi wr).trans (Keeps.of_below hb1 HS.out))
          rcases hd with ⟨rfl, hJ3, hk3⟩ | ⟨rfl, hJx3⟩
          · gi_wp2
            go_roundw
            case rel => exact ⟨k + 1, by omega, by go_num, by rw [onesTo_hit HB.out]; exact hJ3, hB1.trans hk3⟩
            case measure => simp [intOf]; omega
          · gi_wp2
            refine bodyPost_ret (results_none rfl _ _ _) rfl ?_
            exact ⟨⟨_, rfl⟩, .inr ⟨_, by rw [← onesTo_hit HB.out]; exact onesTo_prefix xs (by omega), hJx3⟩⟩
      | false =>
        rw [hb] at hand
        have HB := Lib.hid hb
        clear hb
        gi_wp2
        first | (gi_region_with_o (first | (refine ⟨trivial, ?_⟩; gi_at_call 58; refine (callsIn_wide.2 (masks_calls _)).mono ?_; rintro e w1 ⟨rfl, hb1⟩; have hco2 := (hb1.cell (p := ⟨Bo, 0, none⟩) hlo).trans hco1; have hc2 := (hb1.cell (p := ⟨g, k / 8, none⟩) hlg).trans hc1; have hJ1 := hJ _ _ _ hJd (grown_of_below hb1 none)) | (refine ⟨fun _ h => (by cases h), ?_⟩; gi_wp2))) | (fail "no")
        all_goals
          have hB1 : Keeps lo hi W w1 := hnx.trans ((Keeps.drew lo hi wr).trans (Keeps.of_below hb1 HS.out))
          gi_wp2
          go_roundw
          case rel => exact ⟨k + 1, by omega, by go_num, by rw [onesTo_miss HB.out]; exact hJ1, hB1⟩
          case measure => simp [intOf]; omega
    · obtain rfl : k = n := by omega
      gi_wp2
      go_end0
      exact ⟨⟨_, rfl⟩, .inl ⟨_, rfl, hJs⟩⟩
end Go.Proofs.Ytoohpdamndgdlaa.P

/- What Make answers, and one step of a loop that sets bits, in plain words. -/
set_option linter.unusedVariables false
set_option linter.unusedSimpArgs false
namespace Go.Proofs.Ytoohpdamndgdlaa.B
open Go.RowKit Go.Proofs.Ytoohpdamndgdlaa.P Go.Proofs.YtoohpdamndgdlaaW.PrintWords Go.Proofs.YtoohpdamndgdlaaW.PrintLast Go.Proofs.YtoohpdamndgdlaaW.PrintMore

theorem size_f (n : Nat) (h : n ≤ 65536) : bitset_size.f (n : Int) = some (((n + 7) / 8 : Nat) : Int) := by
  unfold bitset_size.f
  have e : wrap64 ((n : Int) + 7) = ((n + 7 : Nat) : Int) := by rw [w64 _ (by omega) (by omega)]; omega
  rw [e, quo8 _ (by omega)]
theorem make_ok (n : Nat) (h : n ≤ 65536) : bitset_Make.f (n : Int) = some (List.replicate ((n + 7) / 8) 0, 0) := by
  unfold bitset_Make.f
  rw [if_neg (by omega), if_neg (by omega), size_f n h]
  simp only [Option.bind_some]
  rw [if_pos (by omega), if_pos (by omega), Int.toNat_natCast]
theorem make_no (n : Int) (h : n < 0 ∨ 65536 < n) : bitset_Make.f n = some ([], 40) := by
  unfold bitset_Make.f
  by_cases h0 : n < 0
  · rw [if_pos h0]
  · rw [if_neg h0, if_pos (by omega)]
theorem isPacked_zero (n : Nat) : Packed (fun _ => false) n (List.replicate ((n + 7) / 8) 0) :=
  ⟨by simp, IsB.replicate _, fun i _ => by rw [gbit_replicate]; simp⟩
/-- The program's own spelling of 'the bit i set'. -/
theorem set_mask (xs : List Int) (i : Nat) (hi : i ≤ 65536) :
    xs.set (wrap64 (Int.tdiv (i : Int) 8)).toNat (Go.bits .or .u8 (rd xs (wrap64 (Int.tdiv (i : Int) 8))) (shr .u8 128 (Int.tmod (i : Int) 8))) = put1 xs i := by
  rw [quo8 i (by omega), rem8, shr_mask _ (Nat.mod_lt _ (by decide)), rd_nat, Int.toNat_natCast]
  rfl
theorem clear_mask (xs : List Int) (i : Nat) (hi : i ≤ 65536) :
    xs.set (wrap64 (Int.tdiv (i : Int) 8)).toNat (Go.bits .andNot .u8 (rd xs (wrap64 (Int.tdiv (i : Int) 8))) (shr .u8 128 (Int.tmod (i : Int) 8))) = put0 xs i := by
  rw [quo8 i (by omega), rem8, shr_mask _ (Nat.mod_lt _ (by decide)), rd_nat, Int.toNat_natCast]
  rfl
/-- The program's own spelling of 'is the bit i set?'. -/
theorem get_mask (xs : List Int) (hx : IsB xs) (i : Nat) (hi : i ≤ 65536) :
    (Go.bits .and .u8 (rd xs (wrap64 (Int.tdiv (i : Int) 8))) (shr .u8 128 (Int.tmod (i : Int) 8)) = 0) ↔ gbit xs i = false := by
  rw [quo8 i (by omega), rem8, shr_mask _ (Nat.mod_lt _ (by decide)), rd_nat]
  exact and_mask _ (hx.getD _) _ (Nat.mod_lt _ (by decide))
theorem tests_in (xs : List Int) (i : Nat) (hi : i ≤ 65536) (hl : i < 8 * xs.length) :
    0 ≤ wrap64 (Int.tdiv (i : Int) 8) ∧ wrap64 (Int.tdiv (i : Int) 8) < (xs.length : Int) ∧ 0 ≤ Int.tmod (i : Int) 8 := by
  rw [quo8 i (by omega), rem8]
  omega
end Go.Proofs.Ytoohpdamndgdlaa.B

/- What Check's 0 says of its arguments. -/
set_option linter.unusedVariables false
namespace Go.Proofs.Ytoohpdamndgdlaa.B
open Go.RowKit Go.Proofs.Ytoohpdamndgdlaa.P Go.Proofs.YtoohpdamndgdlaaW.PrintWords Go.Proofs.YtoohpdamndgdlaaW.PrintLast Go.Proofs.YtoohpdamndgdlaaW.PrintMore
theorem check_zero {k : Nat} {a : Int} {l : List Int} (h : bitset_Check.f k a l = some 0) : ∃ n : Nat, a = n ∧ n ≤ 65536 ∧ l.length = (n + 7) / 8 := by
  have h40 : ∀ (k : Nat), bitset_Check.j0 k a l true ≠ some 0 := fun k => by
    cases k with
    | zero => simp [bitset_Check.j0]
    | succ k =>
      simp only [bitset_Check.j0]
      rw [if_pos trivial]
      simp
  unfold bitset_Check.f at h
  by_cases h0 : a < 0
  · rw [if_pos h0] at h
    exact absurd h (h40 k)
  · rw [if_neg h0] at h
    by_cases h1 : a > 65536
    · rw [decide_eq_true h1] at h
      exact absurd h (h40 k)
    · rw [decide_eq_false h1] at h
      obtain ⟨n, rfl⟩ : ∃ n : Nat, a = n := ⟨a.toNat, by omega⟩
      refine ⟨n, rfl, by omega, ?_⟩
      cases k with
      | zero => simp [bitset_Check.j0] at h
      | succ k =>
        simp only [bitset_Check.j0] at h
        rw [if_neg (by decide), size_f n (by omega)] at h
        simp only [Option.bind_some] at h
        by_cases h2 : (l.length : Int) = (((n + 7) / 8 : Nat) : Int)
        · omega
        · rw [if_neg h2] at h
          simp at h
end Go.Proofs.Ytoohpdamndgdlaa.B

/- The call of bitset.Walk: what it hands back, where Check is content and where it is not. Condition: at most 8192 bytes. -/
set_option linter.unusedVariables false
namespace Go.Proofs.Ytoohpdamndgdlaa.P
open Go.RowKit Go.Proofs.YtoohpdamndgdlaaW.PrintWords Go.Proofs.YtoohpdamndgdlaaW.PrintLast Go.Proofs.YtoohpdamndgdlaaW.PrintMore Go.Proofs.Ytoohpdamndgdlaa.B

/-- What Walk hands back, where Check is content. -/
def WalkGives (n : Int) (l1 : List Int) (w : World) (e : Ending) (w' : World) : Prop :=
  ∃ Bn Bo v, e = .returned (.func (.func 62) #[] #[.pointer (some ⟨Bn, 0, none⟩), .pointer (some ⟨Bo, 0, none⟩)]) ∧ (w.heap.size ≤ Bn ∧ Bn < w'.heap.size) ∧ (w.heap.size ≤ Bo ∧ Bo < w'.heap.size) ∧ w'.cell? ⟨Bn, 0, none⟩ = some (.int .i64 n) ∧ w'.cell? ⟨Bo, 0, none⟩ = some v ∧ Kd.R (Kd.int .u8) 5 w' w.heap.size (fun _ => True) v l1 ∧ Below w.heap.size w w'

set_option maxRecDepth 100000 in
set_option maxHeartbeats 4000000 in
theorem walk_ok (k : Nat) (a0 : Int) (A1 : Option Addr) (c1 : Nat) (l1 : List Int) (w : World) (hr1 : Kd.C (Kd.int .u8) w A1 l1.length l1) (hc1 : l1.length ≤ c1) (h : bitset_Check.f k a0 l1 = some 0) (hl : l1.length ≤ 8192) :
    Calls Try.prog 25 #[.int .i64 a0, .slice A1 l1.length c1] w (WalkGives a0 l1 w) := by
  have HR1 := Aside0.mk hr1
  have HC1 := Aside0.mk hc1
  have HK := Aside0.mk h
  have HL := Aside0.mk hl
  clear hr1 hc1 h hl
  have HB := Aside0.mk ((Below.refl w.heap.size w).alloc (Nat.le_refl _) (.cells #[.int .i64 a0] 3))
  go_enter Try.func25, Try.ntmps25
  go_wp2_with (first | ((with_reducible refine gate_callee (f := 48) rfl ?_); refine goesL_ (some 8) rfl rfl Try.func48 (by kernel_rfl) rfl #[.int .i64 a0, .slice A1 l1.length c1] rfl (by (try simp only [List.map_toArray, List.map_cons, List.map_nil]); first | done | rfl) ?_; (with_reducible refine (bitset_Check.calls k a0 _ _ l1 0 _ ?side1 ?side2 HK.out).mono ?_); (case side1 => repeat (first | exact HR1.out | (with_reducible refine Kd.C_alloc ?_ _) | (with_reducible refine Kd.C_drewN ?_ _) | (with_reducible refine Kd.C_drew ?_))); (case side2 => exact HC1.out); rintro e w' ⟨rfl, ⟨nd, rfl⟩⟩; refine ⟨_, rfl, ?_⟩) | ((with_reducible refine gate_builtin (b := .append) (xs := #[.const (.slice none 0 0), .tmp 10]) rfl ?_); at_builtin; go_must (refine Kd.R_append_rows (Kd.int .u8) (w0 := w) w.heap.size rfl (.const (.slice none 0 0)) (.tmp 10) 22 5 (.int .u8 0) 1 rfl Try.underlying22 info5 rfl (by decide) (by omega) (.slice none 0 0) ([] : List Int) l1 _ _ _ (fun _ => True) (fun _ => False) rfl rfl ?aO ?aR (fun _ _ h => h) (fun _ h => h.elim) ?aF ?aB ?aS ?aL ?_; (case aR => exact (Kd.C_drewN (Kd.C_alloc HR1.out _) _)); (case aB => exact (by repeat (first | (with_reducible first | exact HB.out | apply below_alloc | apply pw_below_drewN | apply below_drew1) | exact HB.out))); (case aF => exact (fun _ _ => trivial)); (case aO => exact ((Kd.R_nil _ _ _ _ (fun _ => True)))); (case aS => exact (below_size (by repeat (first | (with_reducible first | exact HB.out | apply below_alloc | apply pw_below_drewN | apply below_drew1) | exact HB.out)))); (case aL => have := HL.out; show (0 + l1.length) * 1 ≤ _; omega); intro v1 w1 ho hb hg hat; obtain ⟨Av, cv, ev⟩ := Kd.R_slice ho; subst ev; have HO := Aside0.mk ho; have HB2 := Aside0.mk hb; have HG := Aside0.mk hg; clear HB; clear ho hb hg hat)))
  refine bodyPost_ret (v := .func (.func 62) #[] #[.pointer (some ⟨w.heap.size, 0, none⟩), .pointer (some ⟨w1.heap.size, 0, none⟩)]) (by simp [results, Try.results25, go_sem]) rfl ?_
  have hbs := HB2.out.size
  have hlt : w.heap.size < w1.heap.size := by
    have := HG.out.size
    simp at this
    omega
  have hb0 : Boxed ((w.alloc (.cells #[.int .i64 a0] 3)).drewN nd) w.heap.size 3 (.int .i64 a0) := Boxed.new w 3 (.int .i64 a0)
  have hbn : Boxed w1 w.heap.size 3 (.int .i64 a0) := hb0.kept HG.out (by simp [Value.ownBlock])
  refine ⟨_, _, _, rfl, ⟨Nat.le_refl _, by simp; omega⟩, ⟨hbs, by simp⟩, (hbn.alloc _).cell, (Boxed.new w1 22 _).cell, Kd.R_alloc HO.out _, HB2.out.alloc hbs _⟩

set_option maxRecDepth 100000 in
set_option maxHeartbeats 4000000 in
theorem walk_no (k : Nat) (a0 : Int) (A1 : Option Addr) (c1 : Nat) (l1 : List Int) (w : World) (r : Int) (hr1 : Kd.C (Kd.int .u8) w A1 l1.length l1) (hc1 : l1.length ≤ c1) (h : bitset_Check.f k a0 l1 = some r) (hr : (r == 0) = false) :
    Calls Try.prog 25 #[.int .i64 a0, .slice A1 l1.length c1] w fun e w' => e = .returned (.func (.func 61) #[] #[]) ∧ Below w.heap.size w w' := by
  have HR1 := Aside0.mk hr1
  have HC1 := Aside0.mk hc1
  have HK := Aside0.mk h
  have hr2 : (r != 0) = true := by simpa using hr
  clear hr1 hc1 h
  have HB := Aside0.mk ((Below.refl w.heap.size w).alloc (Nat.le_refl _) (.cells #[.int .i64 a0] 3))
  go_enter Try.func25, Try.ntmps25
  go_wp2_with ((with_reducible refine gate_callee (f := 48) rfl ?_); refine goesL_ (some 8) rfl rfl Try.func48 (by kernel_rfl) rfl #[.int .i64 a0, .slice A1 l1.length c1] rfl (by (try simp only [List.map_toArray, List.map_cons, List.map_nil]); first | done | rfl) ?_; (with_reducible refine (bitset_Check.calls k a0 _ _ l1 r _ ?side1 ?side2 HK.out).mono ?_); (case side1 => repeat (first | exact HR1.out | (with_reducible refine Kd.C_alloc ?_ _) | (with_reducible refine Kd.C_drewN ?_ _) | (with_reducible refine Kd.C_drew ?_))); (case side2 => exact HC1.out); rintro e w' ⟨rfl, ⟨nd, rfl⟩⟩; refine ⟨_, rfl, ?_⟩)
  go_ret
  exact ⟨rfl, pw_below_drewN HB.out _⟩

/-- Walk's function where there is nothing. -/
theorem walk1_in (m : Nat) (l : Nat) (W : World) : CallsIn Fence.wide m Try.prog 61 #[.func (.yield l) #[] #[]] W fun e W' => (∃ v, e = .returned v) ∧ W = W' := by
  refine callsIn_wide.2 ?_
  go_enter Try.func61, Try.ntmps61
  go_wp2
  go_end0
  exact ⟨⟨_, rfl⟩, rfl⟩

/-- What a loop over a walk asks. -/
def Seq (gf : Nat) (lb : Array Value) (lo hi : Nat) (L : List Int) (w : World) : Prop :=
  ∀ m, 1 ≤ m → SeqStopsK Fence.wide m Try.prog gf lb (fun x : Int => #[Value.int .i64 x]) (Keeps lo hi) (fun ys => ys = L) (fun pre => pre <+: L) L.length w
theorem seq_no (lo hi : Nat) (w : World) : Seq 61 #[] lo hi [] w := fun m _ l J Jx W _ _ _ _ h0 =>
  (walk1_in m l W).mono fun e W' h => ⟨h.1, .inl ⟨[], rfl, h.2 ▸ h0⟩⟩
theorem seq_ok {n : Nat} {l1 : List Int} {w w' : World} {Bn Bo : Nat} {v : Value} (hn : n ≤ 65536) (hlen : n ≤ 8 * l1.length) (h1 : w.heap.size ≤ Bn ∧ Bn < w'.heap.size) (h2 : w.heap.size ≤ Bo ∧ Bo < w'.heap.size) (h3 : w'.cell? ⟨Bn, 0, none⟩ = some (.int .i64 n)) (h4 : w'.cell? ⟨Bo, 0, none⟩ = some v) (hR : Kd.R (Kd.int .u8) 5 w' w.heap.size (fun _ => True) v l1) :
    Seq 62 #[.pointer (some ⟨Bn, 0, none⟩), .pointer (some ⟨Bo, 0, none⟩)] w.heap.size w'.heap.size (onesTo l1 n) w' := fun m hm l J Jx W hW hJ hJx hY h0 => by
  have cell : ∀ b o, b < w'.heap.size → W.cell? ⟨b, o, none⟩ = w'.cell? ⟨b, o, none⟩ := fun b o hb => hW.cell (p := ⟨b, o, none⟩) hb
  have hJ' : ∀ s A B, J s A → A.grownBy B none → J s B := fun s A B hs hg => hJ s A B none hs hg (fun r e => by cases e)
  rcases Nat.eq_zero_or_pos l1.length with hz | hz
  · exact walk2_in m hm l Bn Bo w.heap.size w'.heap.size 0 0 n l1 hn hlen J Jx hJ' hY W hW.size h2 (fun h => by omega) (by rw [cell _ _ h1.2]; exact h3) (fun h => by omega) (fun h => by omega) h0
  · obtain ⟨g, cap, rfl, hg1, hg2, _⟩ := Kd.R_form hR hz
    refine walk2_in m hm l Bn Bo w.heap.size w'.heap.size g cap n l1 hn hlen J Jx hJ' hY W hW.size h2 (fun _ => ⟨hg1, hg2⟩) (by rw [cell _ _ h1.2]; exact h3) (fun _ => by rw [cell _ _ h2.2]; exact h4) (fun _ j hj => ?_) h0
    have := (Kd.R_celln 0 hR (j : Int) (by omega) (by omega)).1
    rw [Int.toNat_natCast] at this
    rw [cell _ _ hg2, this]
    rfl

/-- The program's own spelling of a bit's test. -/
theorem hit_is (xs : List Int) (i : Nat) (hi : i ≤ 65536) : (Go.bits .and .u8 (rd xs (wrap64 (Int.tdiv (i : Int) 8))) (shr .u8 128 (Int.tmod (i : Int) 8)) = 0) ↔ hit xs i = false := by
  rw [quo8 i (by omega), rem8, shr_mask _ (Nat.mod_lt _ (by decide)), rd_nat]
  unfold hit
  rw [bne_eq_false_iff_eq]
/-- What Walk hands back, either way: a function that yields L. -/
def WalkSays (L : List Int) (w : World) (e : Ending) (w' : World) : Prop :=
  ∃ gf lb, e = .returned (.func (.func gf) #[] lb) ∧ (∀ args W, (callFunc gf args).run Try.prog W = .ok (.enter gf args) W) ∧ Below w.heap.size w w' ∧ Seq gf lb w.heap.size w'.heap.size L w'
/-- What comes of a walk: the places of the set bits, or nothing. -/
def walked (r : Int) (a0 : Int) (l1 : List Int) : List Int := if r = 0 then onesTo l1 a0.toNat else []
theorem walk_says (k : Nat) (a0 : Int) (A1 : Option Addr) (c1 : Nat) (l1 : List Int) (w : World) (r : Int) (hr1 : Kd.C (Kd.int .u8) w A1 l1.length l1) (hc1 : l1.length ≤ c1) (h : bitset_Check.f k a0 l1 = some r) :
    Calls Try.prog 25 #[.int .i64 a0, .slice A1 l1.length c1] w (WalkSays (walked r a0 l1) w) := by
  by_cases hr : r = 0
  · subst hr
    obtain ⟨n, rfl, hn, hl⟩ := check_zero h
    refine (walk_ok k n A1 c1 l1 w hr1 hc1 h (by omega)).mono ?_
    rintro e w' ⟨Bn, Bo, v, rfl, h1, h2, h3, h4, hR, hB⟩
    refine ⟨62, _, rfl, enters_of Try.func62 (by kernel_rfl) rfl, hB, ?_⟩
    unfold walked
    rw [if_pos rfl, Int.toNat_natCast]
    exact seq_ok hn (by omega) h1 h2 h3 h4 hR
  · refine (walk_no k a0 A1 c1 l1 w r hr1 hc1 h (beq_eq_false_iff_ne.mpr hr)).mono ?_
    rintro e w' ⟨rfl, hB⟩
    refine ⟨61, #[], rfl, enters_of Try.func61 (by kernel_rfl) rfl, hB, ?_⟩
    unfold walked
    rw [if_neg hr]
    exact seq_no _ _ _
end Go.Proofs.Ytoohpdamndgdlaa.P

/- bitset.Count, a loop over Walk: how many places the walk yields, and Check's answer. No condition. -/
set_option linter.unusedVariables false
namespace Go.Proofs.Ytoohpdamndgdlaa.P
open Go.RowKit Go.Proofs.YtoohpdamndgdlaaW.PrintWords Go.Proofs.YtoohpdamndgdlaaW.PrintLast Go.Proofs.YtoohpdamndgdlaaW.PrintMore Go.Proofs.Ytoohpdamndgdlaa.B
attribute [local go_sem] Oper.semAt_some
theorem world_grown_drew (W : World) : W.grownBy W.drew none := ⟨rfl, rfl, rfl, Nat.le_refl _, fun _ _ _ => rfl⟩

set_option maxRecDepth 100000 in
set_option maxHeartbeats 4000000 in
theorem count_in (k : Nat) (a0 : Int) (A1 : Option Addr) (c1 : Nat) (l1 : List Int) (w : World) (r : Int) (hr1 : Kd.C (Kd.int .u8) w A1 l1.length l1) (hc1 : l1.length ≤ c1) (h : bitset_Check.f k a0 l1 = some r) (hL : (walked r a0 l1).length ≤ 65536) :
    CallsIn Fence.wide 3 Try.prog 35 #[.int .i64 a0, .slice A1 l1.length c1] w fun e w' => e = .returned (.tuple #[.int .i64 ((walked r a0 l1).length : Int), .int .i64 r]) ∧ Below w.heap.size w w' := by
  have HR1 := Aside0.mk hr1
  have HC1 := Aside0.mk hc1
  have HK := Aside0.mk h
  have HL := Aside0.mk hL
  clear hr1 hc1 h hL
  refine callsIn_of_wp_marks Try.func35 rfl trivial ?_ rfl
  simp only [Try.ntmps35, List.size_toArray, List.length_cons, List.length_nil, Nat.reduceAdd, Nat.reduceSub, Array.replicate_succ, Array.replicate_zero, List.push_toArray, List.append_toArray, List.nil_append, List.cons_append]
  gi_wp2_with (refine ⟨trivial, ?_⟩; gi_at_call 25; refine (callsIn_wide.2 (walk_says k a0 A1 c1 l1 _ r (Kd.C_alloc HR1.out _) HC1.out HK.out)).mono ?_; rintro e w1 ⟨gf, lb, rfl, heg, hB1, hseq⟩; have HEG := Aside0.mk heg; have HB1 := Aside0.mk hB1; have HSQ := Aside0.mk hseq; clear heg hB1 hseq)
  have hlo : (w.alloc (.cells #[.int .i64 0] 3)).heap.size = w.heap.size + 1 := by simp
  rw [hlo] at HSQ
  have hB0 := below_step ((Below.refl w.heap.size w).alloc (Nat.le_refl _) _) HB1.out
  have hv0 : Boxed w1 w.heap.size 3 (.int .i64 0) := (HB1.out.block w.heap.size (by simp)).trans (Boxed.new w 3 _)
  have hlt1 : w.heap.size < w1.heap.size := hv0.lt
  refine wpIn_rangeFunc_ownG rfl (by decide) (gf := gf) (lb := lb) rfl trivial HEG.out (HSQ.out (3 - 1) (by decide)) (fun h k => h.trans k) (fun W l o o' hl _ _ _ => Keeps.putObj _ _ W l o' hl) (Below.refl _ _) (fun _ => rfl)
    (fun pre W => Boxed W w.heap.size 3 (.int .i64 (pre.length : Int)) ∧ Below w.heap.size w W)
    (fun _ _ _ => False)
    (OwnFrom.and (fun s A B row hs hg hr => hs.kept hg (fun e => by have := (hr _ e.symm).1; omega)) (ownFrom_below (Nat.le_refl _) (by omega)))
    (fun _ _ _ _ _ hs _ _ => hs)
    ⟨hv0, hB0⟩
    (fun x => { tmps := #[.int .i64 a0, .slice A1 l1.length c1, undef, undef, .int .i64 0, .int .i64 0, .pointer (some ⟨w.heap.size, 0, none⟩), .int .i64 a0, .slice A1 l1.length c1, .func (.func gf) #[] lb, .int .i64 x, undef, undef, undef, undef, undef, undef], defers := [] }) ?assign ?body ?done ?stop
  case assign =>
    intro l x W K hK
    gi_wp2
    first | exact hK | simpa using hK
  case body =>
    rintro l pre x W ⟨hv, hB⟩ hlt
    have hc := hv.cell
    have hf := hv.frozen
    have hp : pre.length < 65536 := by have := HL.out; omega
    gi_wp2
    have hset := hv.set (.int .i64 ((pre.length : Int) + 1))
    refine ⟨(KeepsOthers.setCell _ _ _).from _, fun b h1 h2 => Below.heap_setCell _ _ _ _ (by simp; omega), ?_, hB.setCell (Nat.le_refl _) _⟩
    rw [List.length_append]
    exact hset
  case done =>
    rintro D ys W hD rfl ⟨hv, hB⟩ hK
    have hc := hv.cell
    have hmo : Try.prog.follows .mixedOrders = true := by kernel_rfl
    have HBW := Aside0.mk hB
    have HKD := Aside0.mk hK
    clear hK hB
    gi_wp2
    first | (gi_region_with_o (refine ⟨trivial, ?_⟩; gi_at_call 48; refine (callsIn_wide.2 (bitset_Check.calls k a0 _ _ l1 r _ (Kd.C_drew (Kd.C_below HR1.out HBW.out)) HC1.out HK.out)).mono ?_; rintro e w2 ⟨rfl, ⟨nd, rfl⟩⟩)) | (fail "no")
    all_goals
      have hb9 : Below w.heap.size w (W.drewN (1 + nd)) := pw_below_drewN HBW.out _
      have hk9 : (W.drewN (1 + nd)).heap[D]? = some (.deferred (some [])) := HKD.out
      gi_wp2
      refine ⟨by simp, .inl ⟨_, _, rfl, run_takeDeferred hk9, ?_⟩⟩
      exact ⟨_, results_tmp2 (show Try.f35.results = #[.tmp 4, .tmp 5] from rfl) _ _ _, rfl, hb9.trans (belowK_b (w := w) (Nat.le_refl _) _ D _ _ (by omega) hk9 rfl rfl)⟩
  case stop =>
    rintro D c pre W _ _ h _
    exact h.elim
end Go.Proofs.Ytoohpdamndgdlaa.P

-- Made by a program of this session (the print of the kit over a neighbour), for this claim.
namespace Go.Proofs.Ytoohpdamndgdlaa.P
open Go.RowKit Go.Proofs.YtoohpdamndgdlaaW.PrintWords Go.Proofs.YtoohpdamndgdlaaW.PrintLast Go.Proofs.YtoohpdamndgdlaaW.PrintMore
attribute [local go_sem] max2_int min2_int max_two min_two max_three min_three max_four min_four   -- for this text's walks alone
set_option linter.unusedVariables false
set_option linter.unusedSimpArgs false

/-! ### bitset_Count: function 35 -/
def bitset_Count.l0 : Nat → Int → List Int → Int → Int → Option (Int × Int)
  | 0, _, _, _, _ => none
  | k + 1, x0, x1, x7, x8 => if x8 < x0 then (if 0 ≤ (wrap64 (Int.tdiv x8 8)) then (if (wrap64 (Int.tdiv x8 8)) < (x1.length : Int) then (if 0 ≤ (Int.tmod x8 8) then (if (Go.bits .and .u8 (rd x1 (wrap64 (Int.tdiv x8 8))) (shr .u8 128 (Int.tmod x8 8))) = 0 then (bitset_Count.l0 k x0 x1 x7 (wrap64 (x8 + 1))) else (bitset_Count.l0 k x0 x1 (wrap64 (x7 + 1)) (wrap64 (x8 + 1)))) else (none)) else (none)) else (none)) else (some (x7, 0))
def bitset_Count.f (k : Nat) (a0 : Int) (l1 : List Int) : Option (Int × Int) := (bitset_Check.f k a0 l1).bind fun t309 => (if t309 = 0 then (bitset_Count.l0 k a0 l1 0 0) else (some (0, t309)))
theorem bitset_Count.mono_l : ∀ k, (∀ y0 y1 y2 y3, LeO (bitset_Count.l0 k y0 y1 y2 y3) (bitset_Count.l0 (k + 1) y0 y1 y2 y3))
  | 0 => fun _ _ _ _ r h => by simp [bitset_Count.l0] at h
  | k + 1 => by
    have ih0 := bitset_Count.mono_l k
    · intro y0 y1 y2 y3
      unfold bitset_Count.l0
      repeat' first
      | (with_reducible exact ih0 _ _ _ _)
      | (with_reducible exact bitset_Check.mono _ _ _)
      | (with_reducible exact LeO.refl _)
      | (with_reducible exact LeO.none _)
      | (with_reducible refine LeO.ite ?_ ?_)
      | (with_reducible refine LeO.bind ?_ (fun _ => ?_))
      | exact ih0 _ _ _ _
      | exact bitset_Check.mono _ _ _
      | exact LeO.none _
      | refine LeO.ite ?_ ?_
      | refine LeO.bind ?_ (fun _ => ?_)
theorem bitset_Count.mono : ∀ a0 a1 k, LeO (bitset_Count.f k a0 a1) (bitset_Count.f (k + 1) a0 a1) := by
  intro a0 a1 k
  have ih0 := bitset_Count.mono_l k
  unfold bitset_Count.f
  repeat' first
      | (with_reducible exact ih0 _ _ _ _)
      | (with_reducible exact bitset_Check.mono _ _ _)
      | (with_reducible exact LeO.refl _)
      | (with_reducible exact LeO.none _)
      | (with_reducible refine LeO.ite ?_ ?_)
      | (with_reducible refine LeO.bind ?_ (fun _ => ?_))
      | exact ih0 _ _ _ _
      | exact bitset_Check.mono _ _ _
      | exact LeO.none _
      | refine LeO.ite ?_ ?_
      | refine LeO.bind ?_ (fun _ => ?_)
open Go.Proofs.Ytoohpdamndgdlaa.B in
theorem bitset_Count.told_l (n : Nat) (hn : n ≤ 65536) (l : List Int) (hl : n ≤ 8 * l.length) : ∀ (k i : Nat) (r1 r2 : Int), i ≤ n → bitset_Count.l0 k (n : Int) l ((onesTo l i).length : Int) (i : Int) = some (r1, r2) → r1 = ((onesTo l n).length : Int) ∧ r2 = 0
  | 0, _, _, _, _, h => by simp [bitset_Count.l0] at h
  | k + 1, i, r1, r2, hi, h => by
    simp only [bitset_Count.l0] at h
    by_cases hlt : i < n
    · obtain ⟨g1, g2, g3⟩ := tests_in l i (by omega) (by omega)
      have hin := onesTo_length l i
      rw [if_pos (by omega), if_pos g1, if_pos g2, if_pos g3, inc i (by omega)] at h
      cases hb : hit l i with
      | false =>
        rw [if_pos ((hit_is l i (by omega)).2 hb), ← onesTo_miss hb] at h
        exact bitset_Count.told_l n hn l hl k (i + 1) r1 r2 (by omega) h
      | true =>
        rw [if_neg (fun h0 => by rw [(hit_is l i (by omega)).1 h0] at hb; cases hb), inc _ (by omega)] at h
        have e : (onesTo l (i + 1)).length = (onesTo l i).length + 1 := by rw [onesTo_hit hb, List.length_append]; rfl
        rw [← e] at h
        exact bitset_Count.told_l n hn l hl k (i + 1) r1 r2 (by omega) h
    · obtain rfl : i = n := by omega
      rw [if_neg (by omega)] at h
      simp only [Option.some.injEq, Prod.mk.injEq] at h
      exact ⟨h.1.symm, h.2.symm⟩
open Go.Proofs.Ytoohpdamndgdlaa.B in
theorem bitset_Count.told {k : Nat} {a0 : Int} {l : List Int} {r1 r2 : Int} (h : bitset_Count.f k a0 l = some (r1, r2)) : bitset_Check.f k a0 l = some r2 ∧ r1 = ((walked r2 a0 l).length : Int) ∧ (walked r2 a0 l).length ≤ 65536 := by
  unfold bitset_Count.f at h
  obtain ⟨t, ht, h⟩ := Option.bind_eq_some_iff.mp h
  by_cases h0 : t = 0
  · subst h0
    rw [if_pos rfl] at h
    obtain ⟨n, rfl, hn, hl⟩ := check_zero ht
    obtain ⟨rfl, rfl⟩ := bitset_Count.told_l n hn l (by omega) k 0 r1 r2 (by omega) h
    refine ⟨ht, ?_, ?_⟩
    · unfold walked
      rw [if_pos rfl, Int.toNat_natCast]
    · unfold walked
      rw [if_pos rfl, Int.toNat_natCast]
      exact Nat.le_trans (onesTo_length l n) hn
  · rw [if_neg h0] at h
    simp only [Option.some.injEq, Prod.mk.injEq] at h
    obtain ⟨rfl, rfl⟩ := h
    refine ⟨ht, ?_, ?_⟩
    · unfold walked
      rw [if_neg h0]
      rfl
    · unfold walked
      rw [if_neg h0]
      simp
set_option maxHeartbeats 4000000 in
set_option maxRecDepth 100000 in
theorem bitset_Count.calls (k : Nat) (a0 : Int) (A1 : Option Addr) (c1 : Nat) (l1 : List Int) (r1 : Int) (r2 : Int) (w : World) (hr1 : Kd.C (Kd.int .u8) w A1 l1.length l1) (hc1 : l1.length ≤ c1) (h : bitset_Count.f k a0 l1 = some (r1, r2)) :
    Calls Try.prog 35 #[.int .i64 a0, .slice A1 l1.length c1] w fun e w' => e = .returned (.tuple #[.int .i64 r1, .int .i64 r2]) ∧ Below w.heap.size w w' := by
  obtain ⟨h1, rfl, h3⟩ := bitset_Count.told h
  exact callsIn_wide.1 (count_in k a0 A1 c1 l1 w r2 hr1 hc1 h1 h3)

end Go.Proofs.Ytoohpdamndgdlaa.P

-- Made by a program of this session (the print of the kit over a neighbour), for this claim.
namespace Go.Proofs.Ytoohpdamndgdlaa.P
open Go.RowKit Go.Proofs.YtoohpdamndgdlaaW.PrintWords Go.Proofs.YtoohpdamndgdlaaW.PrintLast Go.Proofs.YtoohpdamndgdlaaW.PrintMore
attribute [local go_sem] max2_int min2_int max_two min_two max_three min_three max_four min_four   -- for this text's walks alone
set_option linter.unusedVariables false
set_option linter.unusedSimpArgs false

/-! ### bitset_both: function 69 -/
def bitset_both.f (k : Nat) (a0 : Int) (l1 : List Int) (l2 : List Int) : Option (Int) := (bitset_Check.f k a0 l1).bind fun t338 => (if t338 = 0 then ((bitset_Check.f k a0 l2).bind fun t339 => (some t339)) else (some t338))
theorem bitset_both.mono : ∀ a0 a1 a2 k, LeO (bitset_both.f k a0 a1 a2) (bitset_both.f (k + 1) a0 a1 a2) := by
  intro a0 a1 a2 k
  unfold bitset_both.f
  repeat' first
      | (with_reducible exact bitset_Check.mono _ _ _)
      | (with_reducible exact LeO.refl _)
      | (with_reducible exact LeO.none _)
      | (with_reducible refine LeO.ite ?_ ?_)
      | (with_reducible refine LeO.bind ?_ (fun _ => ?_))
      | exact bitset_Check.mono _ _ _
      | exact LeO.none _
      | refine LeO.ite ?_ ?_
      | refine LeO.bind ?_ (fun _ => ?_)
set_option maxHeartbeats 8000000 in
set_option maxRecDepth 100000 in
theorem bitset_both.calls (k : Nat) (a0 : Int) (A1 : Option Addr) (c1 : Nat) (l1 : List Int) (A2 : Option Addr) (c2 : Nat) (l2 : List Int) (r : Int) (w : World) (hr1 : Kd.C (Kd.int .u8) w A1 l1.length l1) (hc1 : l1.length ≤ c1) (hr2 : Kd.C (Kd.int .u8) w A2 l2.length l2) (hc2 : l2.length ≤ c2) (h : bitset_both.f k a0 l1 l2 = some r) :
    Calls Try.prog 69 #[.int .i64 a0, .slice A1 l1.length c1, .slice A2 l2.length c2] w fun e w' => e = .returned (.int .i64 r) ∧ Drawn0 w w' := by
  have HR1 := Aside0.mk hr1
  have HC1 := Aside0.mk hc1
  clear hr1 hc1
  have HR2 := Aside0.mk hr2
  have HC2 := Aside0.mk hc2
  clear hr2 hc2
  have H : ((bitset_Check.f k a0 l1).bind fun t338 => (if t338 = 0 then ((bitset_Check.f k a0 l2).bind fun t339 => (some t339)) else (some t338))) = some r := h
  clear h
  replace H := Option.bind_eq_some_iff.mp H
  obtain ⟨t338, A40, H⟩ := H
  replace H : (if t338 = 0 then ((bitset_Check.f k a0 l2).bind fun t339 => (some t339)) else (some t338)) = some r := H
  have A4 := Aside0.mk A40
  clear A40
  by_cases c5 : t338 = 0
  · rw [if_pos c5] at H
    have c5b0 : (t338 == 0) = true := beq_iff_eq.mpr c5
    have c5b1 : (t338 != 0) = false := bne_eq_false_iff_eq.mpr c5
    clear c5
    replace H := Option.bind_eq_some_iff.mp H
    obtain ⟨t339, A60, H⟩ := H
    replace H : (some t339) = some r := H
    have A6 := Aside0.mk A60
    clear A60
    obtain rfl := Option.some.inj H
    go_enter Try.func69, Try.ntmps69
    go_wp2_with (first | ((with_reducible refine gate_callee (f := 48) rfl ?_); refine goesL_ (some 10) rfl rfl Try.func48 (by kernel_rfl) rfl #[.int .i64 a0, .slice A1 l1.length c1] rfl (by (try simp only [List.map_toArray, List.map_cons, List.map_nil]); first | done | rfl | (simp only [List.length_drop, List.length_take]; rfl)) ?_; (with_reducible refine (bitset_Check.calls k a0 _ _ l1 t338 _ ?side1 ?side2 A4.out).mono ?_); (case side1 => repeat (first | exact HR1.out | (with_reducible refine Kd.C_alloc ?_ _) | (with_reducible refine Kd.C_drewN ?_ _) | (with_reducible refine Kd.C_drew ?_))); (case side2 => exact HC1.out); rintro e w' ⟨rfl, ⟨nd, rfl⟩⟩; refine ⟨_, rfl, ?_⟩) | ((with_reducible refine gate_callee (f := 48) rfl ?_); refine goesL_ (some 16) rfl rfl Try.func48 (by kernel_rfl) rfl #[.int .i64 a0, .slice A2 l2.length c2] rfl (by (try simp only [List.map_toArray, List.map_cons, List.map_nil]); first | done | rfl | (simp only [List.length_drop, List.length_take]; rfl)) ?_; (with_reducible refine (bitset_Check.calls k a0 _ _ l2 t339 _ ?side1 ?side2 A6.out).mono ?_); (case side1 => repeat (first | exact HR2.out | (with_reducible refine Kd.C_alloc ?_ _) | (with_reducible refine Kd.C_drewN ?_ _) | (with_reducible refine Kd.C_drew ?_))); (case side2 => exact HC2.out); rintro e w' ⟨rfl, ⟨nd, rfl⟩⟩; refine ⟨_, rfl, ?_⟩))
    go_ret
    exact ⟨by first | rfl | (simp; done) | (simp [*]; done), by repeat (first | exact Drawn0.refl _ | apply Drawn0.step)⟩
  · rw [if_neg c5] at H
    have c5b0 : (t338 == 0) = false := beq_eq_false_iff_ne.mpr c5
    have c5b1 : (t338 != 0) = true := bne_iff_ne.mpr c5
    obtain rfl := Option.some.inj H
    go_enter Try.func69, Try.ntmps69
    go_wp2_with (first | ((with_reducible refine gate_callee (f := 48) rfl ?_); refine goesL_ (some 10) rfl rfl Try.func48 (by kernel_rfl) rfl #[.int .i64 a0, .slice A1 l1.length c1] rfl (by (try simp only [List.map_toArray, List.map_cons, List.map_nil]); first | done | rfl | (simp only [List.length_drop, List.length_take]; rfl)) ?_; (with_reducible refine (bitset_Check.calls k a0 _ _ l1 t338 _ ?side1 ?side2 A4.out).mono ?_); (case side1 => repeat (first | exact HR1.out | (with_reducible refine Kd.C_alloc ?_ _) | (with_reducible refine Kd.C_drewN ?_ _) | (with_reducible refine Kd.C_drew ?_))); (case side2 => exact HC1.out); rintro e w' ⟨rfl, ⟨nd, rfl⟩⟩; refine ⟨_, rfl, ?_⟩))
    go_ret
    exact ⟨by first | rfl | (simp; done) | (simp [*]; done), by repeat (first | exact Drawn0.refl _ | apply Drawn0.step)⟩

end Go.Proofs.Ytoohpdamndgdlaa.P

/- A call of a function value that is known, as one step of a region walked by hand; the three little functions of And, Or and Minus. No condition. -/
namespace Go.Proofs.Ytoohpdamndgdlaa.P
open Go.RowKit Go.Proofs.YtoohpdamndgdlaaW.PrintWords Go.Proofs.YtoohpdamndgdlaaW.PrintLast Go.Proofs.YtoohpdamndgdlaaW.PrintMore
section
variable {P : Program} {ops : Array Oper} {Q : Exit → Act → World → Prop}
theorem goes_val {oi : Oper} {N : Option Tmp} {a : Act} {w : World} {K : Act → World → Prop} {f : FuncId} {fn : Func} {x : Operand} {xs : Array Operand} {ts : Array TypeId} (hf : P.funcs[f]? = some fn) (hname : (fn.name == "runtime.NumGoroutine") = false) (hb : fn.body.isSome = true) (args : Array Value)
    (hw : Region.wanted oi (yielded ops a.tmps) = true) (hN : oi.dst = N) (hop : oi.op = .call { callee := .value x, args := xs, argTypes := ts }) (hx : a.eval x = .func (.func f) #[] #[]) (hargs : xs.map a.eval = args)
    (h : Calls P f args w fun e w' => ∃ v, e = .returned v ∧ K (a.put N v) w') : if Region.wanted oi (yielded ops a.tmps) = true then Oper.wp P oi a w K Q else K (a.put N undef) w := by
  refine call_ f args hw hN ?_ h
  have he := enters_ hf hname hb args w
  unfold execOp
  simp [hop, resolve, Deferred.ofValue, invoke, hx, hargs, he]
end
theorem and_calls (x y : Int) (w : World) : Calls Try.prog 65 #[.int .u8 x, .int .u8 y] w fun e w' => e = .returned (.int .u8 (Go.bits .and .u8 x y)) ∧ w = w' := by
  go_enter Try.func65, Try.ntmps65
  go_wp2
  go_ret
  exact ⟨rfl, rfl⟩
theorem or_calls (x y : Int) (w : World) : Calls Try.prog 67 #[.int .u8 x, .int .u8 y] w fun e w' => e = .returned (.int .u8 (Go.bits .or .u8 x y)) ∧ w = w' := by
  go_enter Try.func67, Try.ntmps67
  go_wp2
  go_ret
  exact ⟨rfl, rfl⟩
theorem minus_calls (x y : Int) (w : World) : Calls Try.prog 68 #[.int .u8 x, .int .u8 y] w fun e w' => e = .returned (.int .u8 (Go.bits .andNot .u8 x y)) ∧ w = w' := by
  go_enter Try.func68, Try.ntmps68
  go_wp2
  go_ret
  exact ⟨rfl, rfl⟩
end Go.Proofs.Ytoohpdamndgdlaa.P
